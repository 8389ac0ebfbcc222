/- Walk of package label: Read, one place missing. -/
import Derived.Test.YtldicibhfmnjnaaGreatDoorC8
import Derived.Test.YtldicibhfmnjnaaGreatDoorLoose
set_option linter.unusedVariables false
set_option linter.unusedSimpArgs false
namespace Go.Proofs.YtldicibhfmnjnaaGreatDoor
open Go.RowKit

set_option maxRecDepth 100000 in
set_option maxHeartbeats 16000000 in
theorem Read_one (s : List UInt8) (hall : s.all okC = true) (h3 : 3 ≤ s.length) (h36 : s.length ≤ 36) (i : Nat) (hM : miss 0 (vals s) = [i]) (w : World) : Calls Tryz.prog 18 #[.string (bs s)] w fun e w' => e = .returned (.tuple #[.string (bs (readP s)), .int .i64 (readE s)]) ∧ Below w.heap.size w w' := by
  have hfill : fillP (vals s) = some ((vals s).set i (mod37 (-(oneP (vals s))))) := by unfold fillP; rw [hM]
  have hN := read_fill (canR_of3 ⟨hall, h3, h36⟩) hfill
  have hFS := fill_spec (vals_low s) hfill
  have HFS := hide (⟨hFS.1, hFS.2.1⟩ : ((vals s).set i (mod37 (-(oneP (vals s))))).length = (vals s).length ∧ ∀ v ∈ ((vals s).set i (mod37 (-(oneP (vals s))))), 0 ≤ v ∧ v < 37)
  have hmi : ∀ m ∈ [i], m < (vals s).length := fun m hm => by
    rw [← hM] at hm
    obtain ⟨v, hv, _⟩ := (miss0 _ m).1 hm
    rcases Nat.lt_or_ge m (vals s).length with h | h
    · exact h
    · rw [List.getElem?_eq_none h] at hv; cases hv
  have hi := hmi i (by simp)
  clear hFS hfill hmi
  have CV := values_ok (s := s) (by omega) hall w
  have e1 : decide ((s.length : Int) < 3) = false := by simp; omega
  have e2 : decide ((36 : Int) < (s.length : Int)) = false := by simp; omega
  have hvl : (vals s).length = s.length := by simp [vals]
  have HR := hide (vals_low s)
  have HN := hide hN
  clear hN
  obtain ⟨i0, hi0, hz0, hz1, hz2⟩ := info_parts info_int
  have hszi : (Tryz.prog.info? 3).map (·.size) = some 1 := by kernel_rfl
  have hmk := fun w => run_make_any (P := Tryz.prog) Tryz.underlying46 info_int rfl (N := (s.length : Int)) (n := s.length) rfl (by omega) (by omega) w
  have HS := hide (⟨hall, h3, h36⟩ : s.all okC = true ∧ 3 ≤ s.length ∧ s.length ≤ 36)
  obtain ⟨L, hL⟩ : ∃ L, vals s = L := ⟨_, rfl⟩
  rw [hL] at CV hvl HR hM HFS HN hi
  have HM := hide hM
  clear hall h3 hL hM
  obtain ⟨n, hn⟩ : ∃ n, s.length = n := ⟨_, rfl⟩
  rw [hn] at CV e1 e2 hvl hmk h36
  have hsz : (bs s).size = n := by rw [bs_size]; exact hn
  have h3 : 3 ≤ n := by have := HS.out.2.1; omega
  clear hn
  go_enter Tryz.func18, Tryz.ntmps18
  go_wp2_with fail
  refine CV.mono ?_
  rintro e w1 ⟨v, rfl, ho, hb⟩
  have hI : IntsAt w1 v L := IntsAt.of_own (by omega) (by rw [hvl]; exact ho)
  obtain ⟨b, c, hv, hI2⟩ := hI
  have hI : IntsAt w1 v L := ⟨b, c, hv, hI2⟩
  rw [hvl] at hv
  rw [hv] at hI ⊢
  have HI := hide hI
  have HC := hide hI2.2.2
  have Hb := hide hI2.1
  have HB := hide hb
  clear CV ho hv hb hI2 hI
  go_wp2_with fail
  go_loopw [6, 7, 8, 31] (fun v _ _ i wr => MiI L w1 wr v i) (fun _ _ _ i _ => n - (intOf i).toNat)
  case atStart => exact ⟨0, by omega, rfl, World.ownsRow_nil _ _ _ _, Below.refl _ _⟩
  case round =>
    obtain ⟨k, hk, rfl, hO, hBr⟩ := hrel
    have HO := hide hO
    have HBr := hide hBr
    clear hO hBr
    rw [hvl] at hk
    by_cases hlt : k < n
    · obtain ⟨x, hx⟩ : ∃ x, L[k]? = some x := ⟨_, List.getElem?_eq_getElem (by omega)⟩
      have ck : wr.cell? ⟨b, k, none⟩ = some (.int .i64 x) := (HBr.out.cell (p := ⟨b, k, none⟩) Hb.out).trans (HC.out k x hx)
      have HT := hide (miss_take hx)
      have hml := miss_len (L.take k) 0
      have hmk2 : (miss 0 (L.take k)).length ≤ 36 := by rw [List.length_take] at hml; omega
      clear hx hml
      by_cases hneg : x < 0
      · have e3 : decide (x < 0) = true := by simpa using hneg
        rw [if_pos hneg] at HT
        clear hneg
        go_wp2_with (at_builtin; refine wpList_append_own _ rfl (.tmp 38) (.tmp 40) _ rfl w1.heap.size 3 i0 (.int .i64 0) 1 8 Tryz.underlying46 hi0 hz0 hz1 hz2 rfl (by omega) _ (miss 0 (L.take k)).length (intV (natsI (miss 0 (L.take k)))) rfl (HO.out.alloc _) ⟨_, 0, none⟩ 1 1 [.int .i64 (k : Int)] rfl rfl (one_new (by simp)) (by intro u hu; rw [List.mem_singleton.1 hu]; rfl) (by simp only [maxLen]; omega) (by omega) (by have := HBr.out.size; simp; omega) ?_; intro v' w6 hown6 hgr6 _)
        have HB6 := hide ((below_alloc HBr.out (Nat.le_refl _) (.cells #[.int .i64 (k : Int)] 3)).grown hgr6 (Nat.le_trans HBr.out.size (below_one wr _).size) (fun b hb => (own_block HO.out b hb).1))
        have HO6 : Hid (w6.ownsRow w1.heap.size 3 1 v' (miss 0 (L.take (k + 1))).length (intV (natsI (miss 0 (L.take (k + 1)))))) := by
          rw [HT.out, List.length_append]
          show World.ownsRow _ _ _ _ _ _ (List.map _ (List.map _ _))
          rw [List.map_append, List.map_append]
          exact hown6
        clear hown6 hgr6
        go_wp2_with fail
        go_roundw
        case rel => exact ⟨k + 1, by omega, by go_num, HO6.out, HB6.out⟩
        case measure => simp [intOf]; omega
      · have e3 : decide (x < 0) = false := by simpa using hneg
        rw [if_neg hneg, List.append_nil] at HT
        clear hneg
        go_wp2_with fail
        go_roundw
        case rel => exact ⟨k + 1, by omega, by go_num, by rw [HT.out]; exact HO.out, HBr.out⟩
        case measure => simp [intOf]; omega
    · obtain rfl : k = n := by omega
      rw [List.take_of_length_le (by omega), HM.out] at HO
      obtain ⟨b6, c6, h6, lt6, _, cell6⟩ := IntsAt.of_own (l := natsI [i]) (by simp [natsI]) HO.out
      have h6' : u6 = .slice (some ⟨b6, 0, none⟩) 1 c6 := h6
      rw [h6']
      clear h6 h6' HO
      have HL6 := hide lt6
      have c60 := cell6 0 _ rfl
      have HC6 : Hid (wr.cell? ⟨b6, 0, none⟩ = some (.int .i64 (i : Int))) := c60
      clear c60 cell6 lt6
      go_wp2_with fail
      refine (sums_any L _ _ (HI.out.to HBr.out) (by omega) HR.out).mono ?_
      rintro e w2 ⟨rfl, hb⟩
      have HB2 := hide (HB.out.trans ((HBr.out.trans (hb.mono HBr.out.size)).mono HB.out.size))
      have HI2 := hide ((HI.out.to HBr.out).to hb)
      have HL62 : Hid (b6 < w2.heap.size) := Nat.lt_of_lt_of_le HL6.out hb.size
      have HC62 : Hid (w2.cell? ⟨b6, 0, none⟩ = some (.int .i64 (i : Int))) := (hb.cell (p := ⟨b6, 0, none⟩) HL6.out).trans HC6.out
      have Hb2 : Hid (b < w2.heap.size) := Nat.lt_of_lt_of_le Hb.out (Nat.le_trans HBr.out.size hb.size)
      have HC2 : Hid (∀ (j : Nat) (x : Int), L[j]? = some x → (w2.alloc (.cells (madeCells #[.int .i64 0] k) 3)).cell? ⟨b, j, none⟩ = some (.int .i64 x)) := fun j x hx => (World.cell?_alloc_lt _ _ _ Hb2.out).trans ((hb.cell (p := ⟨b, j, none⟩) (Nat.lt_of_lt_of_le Hb.out HBr.out.size)).trans ((HBr.out.cell (p := ⟨b, j, none⟩) Hb.out).trans (HC.out j x hx)))
      clear hb HBr HI HB Hb HC HL6 HC6
      have hg0 : (w2.alloc (.cells (madeCells #[.int .i64 0] k) 3)).heap[w2.heap.size]? = some (.cells (madeCells #[.int .i64 0] k).toList.toArray 3 (0, 0)) := by rw [Array.toArray_toList]; exact Blk.new _ _ _
      have hln : (intV L).length = Nat.min k k := by rw [intV_len, hvl]; exact (Nat.min_self k).symm
      have hpos : 0 < (intV L).length → (some (⟨w2.heap.size, 0, none⟩ : Addr)) = some ⟨w2.heap.size, 0, none⟩ ∧ ∃ ad, (some (⟨b, 0, none⟩ : Addr)) = some ad ∧ ∀ j v, (intV L)[j]? = some v → (w2.alloc (.cells (madeCells #[.int .i64 0] k) 3)).cell? (ad.add j) = some v := fun _ => ⟨rfl, ⟨b, 0, none⟩, rfl, fun j v hv => by
        unfold intV at hv
        rw [List.getElem?_map] at hv
        cases hx : L[j]? with
        | none => rw [hx] at hv; cases hv
        | some x =>
          rw [hx] at hv
          cases hv
          have := HC2.out j x hx
          rw [show (⟨b, 0, none⟩ : Addr).add j = ⟨b, j, none⟩ by unfold Addr.add; split <;> simp_all]
          exact this⟩
      have hfit : 0 + (intV L).length ≤ (madeCells #[.int .i64 0] k).toList.length := by rw [made_len, intV_len]; omega
      have hone : ∀ v ∈ intV L, v.oneCell' = true := fun v hv => by
        unfold intV at hv
        obtain ⟨x, _, rfl⟩ := List.mem_map.1 hv
        rfl
      have hbel := below_one w2 (.cells (madeCells #[.int .i64 0] k) 3)
      have X := fun (ops : Array Oper) (rest : List Oper) (o : Oper) (a : Act) (Q : Exit → Act → World → Prop) hgd ho hd hs => @wpList_copy_splice Tryz.prog (w2.alloc (.cells (madeCells #[.int .i64 0] k) 3)) ops rest o a Q hgd (.tmp 51) (.tmp 52) 46 46 ho 3 Tryz.underlying46 hszi (some ⟨w2.heap.size, 0, none⟩) (some ⟨b, 0, none⟩) k k k c hd hs w2.heap.size 0 (madeCells #[.int .i64 0] k).toList 3 hg0 (intV L) hln hpos hfit hone w2.heap.size w2 hbel (Nat.le_refl _)
      clear hfit hpos hone hbel HC2
      go_wp2_with ((with_reducible show wpList _ _ _ (Oper.mk (some 53) _ _ _ _ _ :: _) _ _); refine X _ _ _ _ _ rfl rfl rfl rfl ?_; intro w3 hf hb3)
      rw [splice_full (by rw [made_len, intV_len]; omega)] at hf
      have HF : Hid (Blk w3 w2.heap.size 3 (intC L)) := hf.out
      have HB2' : Hid (w.heap.size ≤ w2.heap.size) := HB2.out.size
      have HB3 := hide (HB2.out.trans (hb3.mono HB2.out.size))
      have HC63 : Hid (w3.cell? ⟨b6, 0, none⟩ = some (.int .i64 (i : Int))) := (hb3.cell (p := ⟨b6, 0, none⟩) HL62.out).trans HC62.out
      obtain ⟨f, hf0⟩ : ∃ f, Hid (w2.heap.size = f) := ⟨_, rfl⟩
      clear X hg0 hln hf hb3 HB2 HI2 HC62 Hb2 hmk
      have HSW := hide HB2'.out
      rw [hf0.out] at HF HL62 HSW ⊢
      have hL36 : L.length ≤ 36 := by omega
      rw [hvl] at hi
      have r1 := mod37_range (s1 (L.map pos))
      have r1' : 0 ≤ oneP L ∧ oneP L < 37 := r1
      have hneg := w64 (x := -(oneP L)) (by omega) (by omega)
      have hneg2 : wrap64 (-(oneP L)) = -(oneP L) := by unfold wrap64; omega
      obtain ⟨V, hV⟩ : ∃ V, mod37 (-(oneP L)) = V := ⟨_, rfl⟩
      rw [hV] at HFS HN
      have CM := fun (b : Nat) (w : World) (h : Blk w b 3 #[.int .i64 (-(oneP L))]) => modulo1 (-(oneP L)) (by omega) b w h
      rw [hV] at CM
      clear hV
      obtain ⟨cs, hcs⟩ : ∃ cs : Nat → Array Value, cs = fun s => if s = 0 then intC L else intC (L.set i V) := ⟨_, rfl⟩
      have hget : ∀ s, s ≤ 1 → ∃ x, (cs s)[i]? = some x := fun s hs => by
        rw [hcs]
        show ∃ x, (if s = 0 then intC L else intC (L.set i V))[i]? = some x
        split
        · exact ⟨_, intC_at (List.getElem?_eq_getElem (by omega))⟩
        · exact ⟨_, intC_at (List.getElem?_set_self (by omega))⟩
      have hset : ∀ s, 0 ≤ s → s ≤ 1 → ∃ s', (cs s).setIfInBounds i (.int .i64 V) = cs s' ∧ 1 ≤ s' ∧ s' ≤ 1 := fun s _ hs => ⟨1, by
        rw [hcs]
        show (if s = 0 then intC L else intC (L.set i V)).setIfInBounds i _ = intC (L.set i V)
        split
        · exact intC_set L i V
        · rw [intC_set, List.set_set], Nat.le_refl _, Nat.le_refl _⟩
      have hc0 : cs 0 = intC L := by rw [hcs]; rfl
      have hc1 : cs 1 = intC (L.set i V) := by rw [hcs]; rfl
      rw [← hc0] at HF
      obtain ⟨U, hU, g, hgu, hi'⟩ := the_class (fun w' => OldI f 3 cs 1 w3 w') (⟨Below.refl _ _, 0, by omega, HF.out⟩ : OldI f 3 cs 1 w3 w3)
      have hlt : ∀ u, f < (g u).heap.size := fun u => by obtain ⟨s, _, h⟩ := (hgu u).st; exact h.lt
      have hst : ∀ u, ∃ s, s ≤ 1 ∧ Blk (g u) f 3 (cs s) := fun u => (hgu u).st
      have l60 : ∀ u, (g u).cell? ⟨b6, 0, none⟩ = some (.int .i64 (i : Int)) := fun u => ((hgu u).below.cell (p := ⟨b6, 0, none⟩) HL62.out).trans HC63.out
      have hstart : ∃ u, w3.drew = g u := hi' _ ⟨(Below.refl _ _).drew, 0, by omega, HF.out⟩
      have HGU0 := hide hgu
      have HHI := hide hi'
      have HST := hide hst
      clear hcs r1 hi' hst HC63 HL62
      go_wp2_with fail
      apply wp_region_looseG g (V := [some _, some _, some _, some _, some _, some _, none, some _, some _, none]) (Fs := [(6, RowOf f 3 66 1 #[.int .i64 (-(oneP L))]), (9, StF f 3 cs 1 1)]) (Rel := fun i w w' => if i = 9 then RelS f 3 cs 1 1 w w' else Below w.heap.size w w')
      case hm => kernel_rfl
      case hB => kernel_rfl
      case hCw => exact hstart
      case hC =>
        rintro i uq w' hr
        by_cases hi9 : i = 9
        · exact HHI.out _ ((HGU0.out uq).store (by simpa [hi9] using hr : RelS f 3 cs 1 1 _ _))
        exact HHI.out _ ((HGU0.out uq).step (by simpa [hi9] using hr))
      case hst =>
        refine keeps_cons (fun i a a' w w' hne hwt hs hr h => RowOf.keep (f := f) (T := 3) (cs := cs) (m := 1) h (hs 66 (by kernel_rfl)) (by by_cases e9 : i = 9; (left; exact ⟨_, (by simpa [e9] using hr)⟩); right; simpa [e9] using hr)) ?_
        refine keeps_cons (fun i a a' w w' hne hwt hs hr h => by by_cases e9 : i = 9; (subst e9; exact absurd rfl hne); exact h.step (by simpa [e9] using hr)) ?_
        exact keeps_nil
      case hop =>
        refine ⟨?_, ?_, ?_, ?_, ?_, ?_, ?_, ?_, ?_, ?_, trivial⟩
        · intro a uq K hS hd hK
          have s11 := hS.at 11 (by kernel_rfl) rfl
          rw [if_pos (want_free rfl)]
          go_simp
          exact hK _ _ (Below.refl _ _) (vok rfl) (facts_cons (fun h => absurd h (by decide)) (facts_cons (fun h => absurd h (by decide)) facts_nil))
        · intro a uq K hS hd hK
          have s6 := hS.at 6 (by kernel_rfl) rfl
          rw [if_pos (want_free rfl)]
          go_simp
          exact hK _ _ (Below.refl _ _) (vok rfl) (facts_cons (fun h => absurd h (by decide)) (facts_cons (fun h => absurd h (by decide)) facts_nil))
        · intro a uq K hS hd hK
          have s61 := (waits_on hd 1 (by kernel_rfl)).at (d := 61) rfl rfl rfl
          rw [if_pos (want_free rfl)]
          go_simp
          exact hK _ _ (Below.refl _ _) (vok rfl) (facts_cons (fun h => absurd h (by decide)) (facts_cons (fun h => absurd h (by decide)) facts_nil))
        · intro a uq K hS hd hK
          have s62 := (waits_on hd 2 (by kernel_rfl)).at (d := 62) rfl rfl rfl
          rw [if_pos (want_free rfl)]
          go_simp
          exact hK _ _ (Below.refl _ _) (vok rfl) (facts_cons (fun h => absurd h (by decide)) (facts_cons (fun h => absurd h (by decide)) facts_nil))
        · intro a uq K hS hd hK
          have s9 := hS.at 9 (by kernel_rfl) rfl
          rw [if_pos (want_free rfl)]
          go_simp
          exact hK _ _ (Below.refl _ _) (vok rfl) (facts_cons (fun h => absurd h (by decide)) (facts_cons (fun h => absurd h (by decide)) facts_nil))
        · intro a uq K hS hd hK
          have s64 := (waits_on hd 4 (by kernel_rfl)).at (d := 64) rfl rfl rfl
          rw [if_pos (want_free rfl)]
          go_simp
          exact hK _ _ (Below.refl _ _) (vok rfl) (facts_cons (fun h => absurd h (by decide)) (facts_cons (fun h => absurd h (by decide)) facts_nil))
        · intro a uq K hS hd hK
          have s65 := (waits_on hd 5 (by kernel_rfl)).at (d := 65) rfl rfl rfl
          rw [if_pos (want_free rfl)]
          go_simp
          exact hK _ _ (below_one _ _) (vfree rfl) (facts_cons (fun _ => ⟨_, hS.put_at (by kernel_rfl) _, Nat.ne_of_gt (hlt uq), Blk.new _ _ _⟩) (facts_cons (fun h => absurd h (by decide)) facts_nil))
        · intro a uq K hS hd hK
          obtain ⟨b66, s66, n66, r66⟩ := (waits_on hd 6 (by kernel_rfl)).2 _ (List.mem_cons_self ..) rfl
          rw [if_pos (want_free rfl)]
          go_simp
          with_reducible refine (CM _ _ r66).mono ?_
          rintro e w' ⟨rfl, hb⟩
          exact hK _ _ hb (vok rfl) (facts_cons (fun h => absurd h (by decide)) (facts_cons (fun h => absurd h (by decide)) facts_nil))
        · intro a uq K hS hd hK
          have s60 := (waits_on hd 0 (by kernel_rfl)).at (d := 60) rfl rfl rfl
          have s63 := (waits_on hd 3 (by kernel_rfl)).at (d := 63) rfl rfl rfl
          rw [if_pos (want_free rfl)]
          go_simp
          exact hK _ _ (Below.refl _ _) (vok rfl) (facts_cons (fun h => absurd h (by decide)) (facts_cons (fun h => absurd h (by decide)) facts_nil))
        · intro a uq K hS hd hK
          have s68 := (waits_on hd 8 (by kernel_rfl)).at (d := 68) rfl rfl rfl
          have s67 := (waits_on hd 7 (by kernel_rfl)).at (d := 67) rfl rfl rfl
          rw [if_pos (want_free rfl)]
          obtain ⟨sg, sm, sB⟩ := HST.out uq
          have sk := Nat.zero_le sg
          obtain ⟨sx, sx'⟩ := hget sg sm
          have c0 := (sB.cell (i)).trans sx'
          have f0 := sB.frozen (i)
          obtain ⟨sn, se, sk', sm'⟩ := hset sg sk sm
          go_simp
          exact hK undef _ (RelS.mk_ sB se sk' sm') (vfree rfl) (facts_cons (fun h => absurd h (by decide)) (facts_cons (fun _ => ⟨sn, sk', sm', by rw [← se]; exact sB.set_ _ _⟩) facts_nil))
      case hfin =>
        intro a uq hS hk
        have s60 := (hk 0 (by decide)).at (d := 60) rfl rfl rfl
        have s61 := (hk 1 (by decide)).at (d := 61) rfl rfl rfl
        have s62 := (hk 2 (by decide)).at (d := 62) rfl rfl rfl
        have s63 := (hk 3 (by decide)).at (d := 63) rfl rfl rfl
        have s64 := (hk 4 (by decide)).at (d := 64) rfl rfl rfl
        have s65 := (hk 5 (by decide)).at (d := 65) rfl rfl rfl
        obtain ⟨b66, s66, n66, r66⟩ := (hk 6 (by decide)).2 _ (List.mem_cons_self ..) rfl
        have s67 := (hk 7 (by decide)).at (d := 67) rfl rfl rfl
        have s68 := (hk 8 (by decide)).at (d := 68) rfl rfl rfl
        obtain ⟨sg, sk, sm, sB⟩ := (hk 9 (by decide)).2 _ (List.mem_cons_of_mem _ (List.mem_cons_self ..)) rfl
        have hlit := hS.lit _ (by kernel_rfl) (lits_cons s60 (lits_cons s61 (lits_cons s62 (lits_cons s63 (lits_cons s64 (lits_cons s65 (lits_cons s66 (lits_cons s67 (lits_cons s68 lits_nil)))))))))
        rw [hlit]
        clear hlit hk hS s60 s61 s62 s63 s64 s65 s66 s67 s68
        simp only [litT, List.setIfInBounds_toArray, List.set_cons_succ, List.set_cons_zero]
        obtain rfl : sg = 1 := by omega
        rw [hc1] at sB
        have HF5 := hide sB
        have HB5 := hide (HB3.out.trans ((HGU0.out uq).below.mono HSW.out))
        have HFL : Hid ((L.set i V).length = k ∧ ∀ v ∈ (L.set i V), 0 ≤ v ∧ v < 37) := ⟨by simpa using hvl, HFS.out.2⟩
        have HRF := HN
        clear HF HB3 HN HFS sB sk sm
        generalize g uq = w5 at *
        obtain ⟨U5, hU5, g5, u0, rfl, hgu5, hi5⟩ := cls w5
        have C1 := cls_call hgu5 hi5 (fun w hb => sums_any (L.set i V) (.slice (some ⟨f, 0, none⟩) k k) w (by
          have := ints_of_blk (n := k) (m := k) (c := k) (HF5.out.to hb) (by rw [HFL.out.1]; exact Nat.le_refl _) (Nat.le_refl _)
          rwa [List.take_of_length_le (by rw [HFL.out.1]; exact Nat.le_refl _)] at this) (by rw [HFL.out.1]; omega) (fun v hv => by have := HFL.out.2 v hv; omega))
        have HGU := hide hgu5
        by_cases hz : oneP (L.set i V) = 0 ∧ twoP (L.set i V) = 0
        · have HN := hide (HRF.out.1 hz)
          rw [hz.1, hz.2] at C1
          obtain ⟨m, hm⟩ : ∃ m, k = m + 2 := ⟨k - 2, by omega⟩
          subst hm
          have C2 := cls_call hgu5 hi5 (fun w hb => text_any ((L.set i V).take m) (.slice (some ⟨f, 0, none⟩) m (m + 2)) w (ints_of_blk (n := m) (HF5.out.to hb) (by rw [HFL.out.1]; omega) (by omega)) (by rw [List.length_take, HFL.out.1]; omega) (fun v hv => HFL.out.2 v (List.mem_of_mem_take hv)))
          have HM2 : Hid ((((L.set i V).take ((L.set i V).length - 2)).map symC) = ((L.set i V).take m).map symC) := by show _ = _; rw [HFL.out.1]; rfl
          obtain ⟨RR, hRR⟩ : ∃ RR, ((L.set i V).take m).map symC = RR := ⟨_, rfl⟩
          rw [hRR] at C2 HM2
          clear hRR
          clear hz HRF HF5 HFL hgu5 hi5
          go_wp2_with (first | ((with_reducible refine (C1 _).mono ?_); rintro e w' ⟨rfl, u, rfl⟩) | ((with_reducible refine (C2 _).mono ?_); rintro e w' ⟨rfl, u, rfl⟩))
          go_ret2
          exact ⟨by rw [HN.out.1, HN.out.2, HM2.out]; rfl, HB5.out.trans ((HGU.out _).mono HB5.out.size)⟩
        · have HN := hide (HRF.out.2 hz)
          clear HRF HF5 HFL hgu5 hi5
          by_cases h1 : oneP (L.set i V) = 0
          · have h2 : (twoP (L.set i V) == 0) = false := by simp; intro h; exact hz ⟨h1, h⟩
            rw [h1] at C1
            clear hz h1
            go_wp2_with ((with_reducible refine (C1 _).mono ?_); rintro e w' ⟨rfl, u, rfl⟩)
            go_ret2
            exact ⟨by rw [HN.out.1, HN.out.2]; rfl, HB5.out.trans ((HGU.out _).mono HB5.out.size)⟩
          · have h2 : (oneP (L.set i V) == 0) = false := by simpa using h1
            clear hz h1
            go_wp2_with ((with_reducible refine (C1 _).mono ?_); rintro e w' ⟨rfl, u, rfl⟩)
            go_ret2
            exact ⟨by rw [HN.out.1, HN.out.2]; rfl, HB5.out.trans ((HGU.out _).mono HB5.out.size)⟩
end Go.Proofs.YtldicibhfmnjnaaGreatDoor
