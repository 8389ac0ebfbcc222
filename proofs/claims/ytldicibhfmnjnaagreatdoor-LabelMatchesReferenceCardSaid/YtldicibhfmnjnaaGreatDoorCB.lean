/- Walk of package label: Read, two places missing. -/
import Derived.Test.YtldicibhfmnjnaaGreatDoorC8
import Derived.Test.YtldicibhfmnjnaaGreatDoorLoose
set_option linter.unusedVariables false
set_option linter.unusedSimpArgs false
namespace Go.Proofs.YtldicibhfmnjnaaGreatDoor
open Go.RowKit

set_option maxRecDepth 100000 in
set_option maxHeartbeats 16000000 in
theorem Read_two (s : List UInt8) (hall : s.all okC = true) (h3 : 3 ≤ s.length) (h36 : s.length ≤ 36) (i j : Nat) (hM : miss 0 (vals s) = [i, j]) (w : World) : Calls Tryz.prog 18 #[.string (bs s)] w fun e w' => e = .returned (.tuple #[.string (bs (readP s)), .int .i64 (readE s)]) ∧ Below w.heap.size w w' := by
  have hfill : fillP (vals s) = some (((vals s).set i (solA (oneP (vals s)) (twoP (vals s)) i j)).set j (solB (oneP (vals s)) (twoP (vals s)) i j)) := by unfold fillP; rw [hM]
  have hN := read_fill (canR_of3 ⟨hall, h3, h36⟩) hfill
  have hFS := fill_spec (vals_low s) hfill
  have HFS := hide (⟨hFS.1, hFS.2.1⟩ : (((vals s).set i (solA (oneP (vals s)) (twoP (vals s)) i j)).set j (solB (oneP (vals s)) (twoP (vals s)) i j)).length = (vals s).length ∧ ∀ v ∈ (((vals s).set i (solA (oneP (vals s)) (twoP (vals s)) i j)).set j (solB (oneP (vals s)) (twoP (vals s)) i j)), 0 ≤ v ∧ v < 37)
  have hmi : ∀ m ∈ [i, j], m < (vals s).length := fun m hm => by
    rw [← hM] at hm
    obtain ⟨v, hv, _⟩ := (miss0 _ m).1 hm
    rcases Nat.lt_or_ge m (vals s).length with h | h
    · exact h
    · rw [List.getElem?_eq_none h] at hv; cases hv
  have hi := hmi i (by simp)
  have hj := hmi j (by simp)
  have hij : i < j := by have := miss_sorted (vals s) 0; rw [hM] at this; simpa using this
  clear hFS hfill hmi
  have CV := values_ok (s := s) (by omega) hall w
  have e1 : decide ((s.length : Int) < 3) = false := by simp; omega
  have e2 : decide ((36 : Int) < (s.length : Int)) = false := by simp; omega
  have hvl : (vals s).length = s.length := by simp [vals]
  have HR := hide (vals_low s)
  have HN := hide hN
  clear hN
  obtain ⟨i0, hi0, hz0, hz1, hz2⟩ := info_parts info_int
  have hszi : (Tryz.prog.info? 3).map (·.size) = some 1 := by kernel_rfl
  have hmk := fun w => run_make_any (P := Tryz.prog) Tryz.underlying46 info_int rfl (N := (s.length : Int)) (n := s.length) rfl (by omega) (by omega) w
  have HS := hide (⟨hall, h3, h36⟩ : s.all okC = true ∧ 3 ≤ s.length ∧ s.length ≤ 36)
  obtain ⟨L, hL⟩ : ∃ L, vals s = L := ⟨_, rfl⟩
  rw [hL] at CV hvl HR hM HFS HN hi hj
  have HM := hide hM
  clear hall h3 hL hM
  obtain ⟨n, hn⟩ : ∃ n, s.length = n := ⟨_, rfl⟩
  rw [hn] at CV e1 e2 hvl hmk h36
  have hsz : (bs s).size = n := by rw [bs_size]; exact hn
  have h3 : 3 ≤ n := by have := HS.out.2.1; omega
  clear hn
  go_enter Tryz.func18, Tryz.ntmps18
  go_wp2_with fail
  refine CV.mono ?_
  rintro e w1 ⟨v, rfl, ho, hb⟩
  have hI : IntsAt w1 v L := IntsAt.of_own (by omega) (by rw [hvl]; exact ho)
  obtain ⟨b, c, hv, hI2⟩ := hI
  have hI : IntsAt w1 v L := ⟨b, c, hv, hI2⟩
  rw [hvl] at hv
  rw [hv] at hI ⊢
  have HI := hide hI
  have HC := hide hI2.2.2
  have Hb := hide hI2.1
  have HB := hide hb
  clear CV ho hv hb hI2 hI
  go_wp2_with fail
  go_loopw [6, 7, 8, 31] (fun v _ _ i wr => MiI L w1 wr v i) (fun _ _ _ i _ => n - (intOf i).toNat)
  case atStart => exact ⟨0, by omega, rfl, World.ownsRow_nil _ _ _ _, Below.refl _ _⟩
  case round =>
    obtain ⟨k, hk, rfl, hO, hBr⟩ := hrel
    have HO := hide hO
    have HBr := hide hBr
    clear hO hBr
    rw [hvl] at hk
    by_cases hlt : k < n
    · obtain ⟨x, hx⟩ : ∃ x, L[k]? = some x := ⟨_, List.getElem?_eq_getElem (by omega)⟩
      have ck : wr.cell? ⟨b, k, none⟩ = some (.int .i64 x) := (HBr.out.cell (p := ⟨b, k, none⟩) Hb.out).trans (HC.out k x hx)
      have HT := hide (miss_take hx)
      have hml := miss_len (L.take k) 0
      have hmk2 : (miss 0 (L.take k)).length ≤ 36 := by rw [List.length_take] at hml; omega
      clear hx hml
      by_cases hneg : x < 0
      · have e3 : decide (x < 0) = true := by simpa using hneg
        rw [if_pos hneg] at HT
        clear hneg
        go_wp2_with (at_builtin; refine wpList_append_own _ rfl (.tmp 38) (.tmp 40) _ rfl w1.heap.size 3 i0 (.int .i64 0) 1 8 Tryz.underlying46 hi0 hz0 hz1 hz2 rfl (by omega) _ (miss 0 (L.take k)).length (intV (natsI (miss 0 (L.take k)))) rfl (HO.out.alloc _) ⟨_, 0, none⟩ 1 1 [.int .i64 (k : Int)] rfl rfl (one_new (by simp)) (by intro u hu; rw [List.mem_singleton.1 hu]; rfl) (by simp only [maxLen]; omega) (by omega) (by have := HBr.out.size; simp; omega) ?_; intro v' w6 hown6 hgr6 _)
        have HB6 := hide ((below_alloc HBr.out (Nat.le_refl _) (.cells #[.int .i64 (k : Int)] 3)).grown hgr6 (Nat.le_trans HBr.out.size (below_one wr _).size) (fun b hb => (own_block HO.out b hb).1))
        have HO6 : Hid (w6.ownsRow w1.heap.size 3 1 v' (miss 0 (L.take (k + 1))).length (intV (natsI (miss 0 (L.take (k + 1)))))) := by
          rw [HT.out, List.length_append]
          show World.ownsRow _ _ _ _ _ _ (List.map _ (List.map _ _))
          rw [List.map_append, List.map_append]
          exact hown6
        clear hown6 hgr6
        go_wp2_with fail
        go_roundw
        case rel => exact ⟨k + 1, by omega, by go_num, HO6.out, HB6.out⟩
        case measure => simp [intOf]; omega
      · have e3 : decide (x < 0) = false := by simpa using hneg
        rw [if_neg hneg, List.append_nil] at HT
        clear hneg
        go_wp2_with fail
        go_roundw
        case rel => exact ⟨k + 1, by omega, by go_num, by rw [HT.out]; exact HO.out, HBr.out⟩
        case measure => simp [intOf]; omega
    · obtain rfl : k = n := by omega
      rw [List.take_of_length_le (by omega), HM.out] at HO
      obtain ⟨b6, c6, h6, lt6, _, cell6⟩ := IntsAt.of_own (l := natsI [i, j]) (by simp [natsI]) HO.out
      have h6' : u6 = .slice (some ⟨b6, 0, none⟩) 2 c6 := h6
      rw [h6']
      clear h6 h6' HO
      have HL6 := hide lt6
      have c60 := cell6 0 _ rfl
      have c61 := cell6 1 _ rfl
      have HC6 : Hid (wr.cell? ⟨b6, 0, none⟩ = some (.int .i64 (i : Int)) ∧ wr.cell? ⟨b6, 1, none⟩ = some (.int .i64 (j : Int))) := ⟨c60, c61⟩
      clear c60 c61 cell6 lt6
      go_wp2_with fail
      refine (sums_any L _ _ (HI.out.to HBr.out) (by omega) HR.out).mono ?_
      rintro e w2 ⟨rfl, hb⟩
      have HB2 := hide (HB.out.trans ((HBr.out.trans (hb.mono HBr.out.size)).mono HB.out.size))
      have HI2 := hide ((HI.out.to HBr.out).to hb)
      have HL62 : Hid (b6 < w2.heap.size) := Nat.lt_of_lt_of_le HL6.out hb.size
      have HC62 : Hid (w2.cell? ⟨b6, 0, none⟩ = some (.int .i64 (i : Int)) ∧ w2.cell? ⟨b6, 1, none⟩ = some (.int .i64 (j : Int))) := ⟨(hb.cell (p := ⟨b6, 0, none⟩) HL6.out).trans HC6.out.1, (hb.cell (p := ⟨b6, 1, none⟩) HL6.out).trans HC6.out.2⟩
      have Hb2 : Hid (b < w2.heap.size) := Nat.lt_of_lt_of_le Hb.out (Nat.le_trans HBr.out.size hb.size)
      have HC2 : Hid (∀ (j : Nat) (x : Int), L[j]? = some x → (w2.alloc (.cells (madeCells #[.int .i64 0] k) 3)).cell? ⟨b, j, none⟩ = some (.int .i64 x)) := fun j x hx => (World.cell?_alloc_lt _ _ _ Hb2.out).trans ((hb.cell (p := ⟨b, j, none⟩) (Nat.lt_of_lt_of_le Hb.out HBr.out.size)).trans ((HBr.out.cell (p := ⟨b, j, none⟩) Hb.out).trans (HC.out j x hx)))
      clear hb HBr HI HB Hb HC HL6 HC6
      have hg0 : (w2.alloc (.cells (madeCells #[.int .i64 0] k) 3)).heap[w2.heap.size]? = some (.cells (madeCells #[.int .i64 0] k).toList.toArray 3 (0, 0)) := by rw [Array.toArray_toList]; exact Blk.new _ _ _
      have hln : (intV L).length = Nat.min k k := by rw [intV_len, hvl]; exact (Nat.min_self k).symm
      have hpos : 0 < (intV L).length → (some (⟨w2.heap.size, 0, none⟩ : Addr)) = some ⟨w2.heap.size, 0, none⟩ ∧ ∃ ad, (some (⟨b, 0, none⟩ : Addr)) = some ad ∧ ∀ j v, (intV L)[j]? = some v → (w2.alloc (.cells (madeCells #[.int .i64 0] k) 3)).cell? (ad.add j) = some v := fun _ => ⟨rfl, ⟨b, 0, none⟩, rfl, fun j v hv => by
        unfold intV at hv
        rw [List.getElem?_map] at hv
        cases hx : L[j]? with
        | none => rw [hx] at hv; cases hv
        | some x =>
          rw [hx] at hv
          cases hv
          have := HC2.out j x hx
          rw [show (⟨b, 0, none⟩ : Addr).add j = ⟨b, j, none⟩ by unfold Addr.add; split <;> simp_all]
          exact this⟩
      have hfit : 0 + (intV L).length ≤ (madeCells #[.int .i64 0] k).toList.length := by rw [made_len, intV_len]; omega
      have hone : ∀ v ∈ intV L, v.oneCell' = true := fun v hv => by
        unfold intV at hv
        obtain ⟨x, _, rfl⟩ := List.mem_map.1 hv
        rfl
      have hbel := below_one w2 (.cells (madeCells #[.int .i64 0] k) 3)
      have X := fun (ops : Array Oper) (rest : List Oper) (o : Oper) (a : Act) (Q : Exit → Act → World → Prop) hgd ho hd hs => @wpList_copy_splice Tryz.prog (w2.alloc (.cells (madeCells #[.int .i64 0] k) 3)) ops rest o a Q hgd (.tmp 51) (.tmp 52) 46 46 ho 3 Tryz.underlying46 hszi (some ⟨w2.heap.size, 0, none⟩) (some ⟨b, 0, none⟩) k k k c hd hs w2.heap.size 0 (madeCells #[.int .i64 0] k).toList 3 hg0 (intV L) hln hpos hfit hone w2.heap.size w2 hbel (Nat.le_refl _)
      clear hfit hpos hone hbel HC2
      go_wp2_with ((with_reducible show wpList _ _ _ (Oper.mk (some 53) _ _ _ _ _ :: _) _ _); refine X _ _ _ _ _ rfl rfl rfl rfl ?_; intro w3 hf hb3)
      rw [splice_full (by rw [made_len, intV_len]; omega)] at hf
      have HF : Hid (Blk w3 w2.heap.size 3 (intC L)) := hf.out
      have HB2' : Hid (w.heap.size ≤ w2.heap.size) := HB2.out.size
      have HB3 := hide (HB2.out.trans (hb3.mono HB2.out.size))
      have HC63 : Hid (w3.cell? ⟨b6, 0, none⟩ = some (.int .i64 (i : Int)) ∧ w3.cell? ⟨b6, 1, none⟩ = some (.int .i64 (j : Int))) := ⟨(hb3.cell (p := ⟨b6, 0, none⟩) HL62.out).trans HC62.out.1, (hb3.cell (p := ⟨b6, 1, none⟩) HL62.out).trans HC62.out.2⟩
      obtain ⟨f, hf0⟩ : ∃ f, Hid (w2.heap.size = f) := ⟨_, rfl⟩
      clear X hg0 hln hf hb3 HB2 HI2 HC62 Hb2 hmk
      have HSW := hide HB2'.out
      rw [hf0.out] at HF HL62 HSW ⊢
      have hL36 : L.length ≤ 36 := by omega
      rw [hvl] at hi hj
      have r1 := mod37_range (s1 (L.map pos))
      have r1' : 0 ≤ oneP L ∧ oneP L < 37 := r1
      have r2 := mod37_range (s2 0 (L.map pos))
      have r2' : 0 ≤ twoP L ∧ twoP L < 37 := r2
      have CM := fun (w : World) => solve_any (oneP L) (twoP L) i j r1' r2' (by omega) (by omega) w
      obtain ⟨A, hA⟩ : ∃ A, solA (oneP L) (twoP L) i j = A := ⟨_, rfl⟩
      obtain ⟨B, hB⟩ : ∃ B, solB (oneP L) (twoP L) i j = B := ⟨_, rfl⟩
      rw [hA, hB] at HFS HN CM
      clear hA hB r2
      obtain ⟨cs, hcs⟩ : ∃ cs : Nat → Array Value, cs = fun s => if s = 0 then intC L else if s = 1 then intC (L.set i A) else intC ((L.set i A).set j B) := ⟨_, rfl⟩
      have hc0 : cs 0 = intC L := by rw [hcs]; rfl
      have hc1 : cs 1 = intC (L.set i A) := by rw [hcs]; rfl
      have hc2 : cs 2 = intC ((L.set i A).set j B) := by rw [hcs]; rfl
      have hgi : ∀ s, s ≤ 2 → ∃ x, (cs s)[i]? = some x := fun s hs => by
        rcases (by omega : s = 0 ∨ s = 1 ∨ s = 2) with rfl | rfl | rfl
        · rw [hc0]; exact ⟨_, intC_at (List.getElem?_eq_getElem (by omega))⟩
        · rw [hc1]; exact ⟨_, intC_at (List.getElem?_eq_getElem (by simp; omega))⟩
        · rw [hc2]; exact ⟨_, intC_at (List.getElem?_eq_getElem (by simp; omega))⟩
      have hgj : ∀ s, s ≤ 2 → ∃ x, (cs s)[j]? = some x := fun s hs => by
        rcases (by omega : s = 0 ∨ s = 1 ∨ s = 2) with rfl | rfl | rfl
        · rw [hc0]; exact ⟨_, intC_at (List.getElem?_eq_getElem (by omega))⟩
        · rw [hc1]; exact ⟨_, intC_at (List.getElem?_eq_getElem (by simp; omega))⟩
        · rw [hc2]; exact ⟨_, intC_at (List.getElem?_eq_getElem (by simp; omega))⟩
      have hseti : ∀ s, 0 ≤ s → s ≤ 2 → ∃ s', (cs s).setIfInBounds i (.int .i64 A) = cs s' ∧ 1 ≤ s' ∧ s' ≤ 2 := fun s _ hs => by
        rcases (by omega : s = 0 ∨ s = 1 ∨ s = 2) with rfl | rfl | rfl
        · exact ⟨1, by rw [hc0, hc1, intC_set], by omega, by omega⟩
        · exact ⟨1, by rw [hc1, intC_set, List.set_set], by omega, by omega⟩
        · exact ⟨2, by rw [hc2, intC_set, List.set_comm _ _ (by omega), List.set_set], by omega, by omega⟩
      have hsetj : ∀ s, 1 ≤ s → s ≤ 2 → ∃ s', (cs s).setIfInBounds j (.int .i64 B) = cs s' ∧ 2 ≤ s' ∧ s' ≤ 2 := fun s h1 hs => by
        rcases (by omega : s = 1 ∨ s = 2) with rfl | rfl
        · exact ⟨2, by rw [hc1, hc2, intC_set], by omega, by omega⟩
        · exact ⟨2, by rw [hc2, intC_set, List.set_set], by omega, by omega⟩
      rw [← hc0] at HF
      obtain ⟨U, hU, g, hgu, hi'⟩ := the_class (fun w' => OldI f 3 cs 2 w3 w') (⟨Below.refl _ _, 0, by omega, HF.out⟩ : OldI f 3 cs 2 w3 w3)
      have hlt : ∀ u, f < (g u).heap.size := fun u => by obtain ⟨s, _, h⟩ := (hgu u).st; exact h.lt
      have hst : ∀ u, ∃ s, s ≤ 2 ∧ Blk (g u) f 3 (cs s) := fun u => (hgu u).st
      have l60 : ∀ u, (g u).cell? ⟨b6, 0, none⟩ = some (.int .i64 (i : Int)) := fun u => ((hgu u).below.cell (p := ⟨b6, 0, none⟩) HL62.out).trans HC63.out.1
      have l61 : ∀ u, (g u).cell? ⟨b6, 1, none⟩ = some (.int .i64 (j : Int)) := fun u => ((hgu u).below.cell (p := ⟨b6, 1, none⟩) HL62.out).trans HC63.out.2
      have hstart : ∃ u, w3.drew = g u := hi' _ ⟨(Below.refl _ _).drew, 0, by omega, HF.out⟩
      have HGU0 := hide hgu
      have HHI := hide hi'
      have HST := hide hst
      clear hcs r1 hi' hst HC63 HL62
      go_wp2_with fail
      apply wp_region_looseG g (V := [some _, some _, some _, some _, some _, some _, some _, some _, some _, some _, some _, some _, some _, some _, some _, some _, some _, some _, some _, some _, some _, none, some _, none]) (Fs := [(21, StF f 3 cs 2 1), (23, StF f 3 cs 2 2)]) (Rel := fun i w w' => if i = 21 then RelS f 3 cs 2 1 w w' else if i = 23 then RelS f 3 cs 2 2 w w' else Below w.heap.size w w')
      case hm => kernel_rfl
      case hB => kernel_rfl
      case hCw => exact hstart
      case hC =>
        rintro i uq w' hr
        by_cases hi21 : i = 21
        · exact HHI.out _ ((HGU0.out uq).store (by simpa [hi21] using hr : RelS f 3 cs 2 1 _ _))
        by_cases hi23 : i = 23
        · exact HHI.out _ ((HGU0.out uq).store (by simpa [hi23] using hr : RelS f 3 cs 2 2 _ _))
        exact HHI.out _ ((HGU0.out uq).step (by simpa [hi21, hi23] using hr))
      case hst =>
        refine keeps_cons (fun i a a' w w' hne hwt hs hr h => by by_cases e21 : i = 21; (subst e21; exact absurd rfl hne); by_cases e23 : i = 23; (subst e23; exact StF.later (by simpa using hr) (by decide)); exact h.step (by simpa [e21, e23] using hr)) ?_
        refine keeps_cons (fun i a a' w w' hne hwt hs hr h => by by_cases e21 : i = 21; (subst e21; exact absurd (hwt.symm.trans (show Region.waitsFor .any _ 23 21 = true by kernel_rfl)) (by decide)); by_cases e23 : i = 23; (subst e23; exact absurd rfl hne); exact h.step (by simpa [e21, e23] using hr)) ?_
        exact keeps_nil
      case hop =>
        refine ⟨?_, ?_, ?_, ?_, ?_, ?_, ?_, ?_, ?_, ?_, ?_, ?_, ?_, ?_, ?_, ?_, ?_, ?_, ?_, ?_, ?_, ?_, ?_, ?_, trivial⟩
        · intro a uq K hS hd hK
          have s11 := hS.at 11 (by kernel_rfl) rfl
          rw [if_pos (want_free rfl)]
          go_simp
          exact hK _ _ (Below.refl _ _) (vok rfl) (facts_cons (fun h => absurd h (by decide)) (facts_cons (fun h => absurd h (by decide)) facts_nil))
        · intro a uq K hS hd hK
          have s6 := hS.at 6 (by kernel_rfl) rfl
          rw [if_pos (want_free rfl)]
          go_simp
          exact hK _ _ (Below.refl _ _) (vok rfl) (facts_cons (fun h => absurd h (by decide)) (facts_cons (fun h => absurd h (by decide)) facts_nil))
        · intro a uq K hS hd hK
          have s73 := (waits_on hd 1 (by kernel_rfl)).at (d := 73) rfl rfl rfl
          rw [if_pos (want_free rfl)]
          go_simp
          exact hK _ _ (Below.refl _ _) (vok rfl) (facts_cons (fun h => absurd h (by decide)) (facts_cons (fun h => absurd h (by decide)) facts_nil))
        · intro a uq K hS hd hK
          have s74 := (waits_on hd 2 (by kernel_rfl)).at (d := 74) rfl rfl rfl
          rw [if_pos (want_free rfl)]
          go_simp
          exact hK _ _ (Below.refl _ _) (vok rfl) (facts_cons (fun h => absurd h (by decide)) (facts_cons (fun h => absurd h (by decide)) facts_nil))
        · intro a uq K hS hd hK
          have s11 := hS.at 11 (by kernel_rfl) rfl
          rw [if_pos (want_free rfl)]
          go_simp
          exact hK _ _ (Below.refl _ _) (vok rfl) (facts_cons (fun h => absurd h (by decide)) (facts_cons (fun h => absurd h (by decide)) facts_nil))
        · intro a uq K hS hd hK
          have s6 := hS.at 6 (by kernel_rfl) rfl
          rw [if_pos (want_free rfl)]
          go_simp
          exact hK _ _ (Below.refl _ _) (vok rfl) (facts_cons (fun h => absurd h (by decide)) (facts_cons (fun h => absurd h (by decide)) facts_nil))
        · intro a uq K hS hd hK
          have s77 := (waits_on hd 5 (by kernel_rfl)).at (d := 77) rfl rfl rfl
          rw [if_pos (want_free rfl)]
          go_simp
          exact hK _ _ (Below.refl _ _) (vok rfl) (facts_cons (fun h => absurd h (by decide)) (facts_cons (fun h => absurd h (by decide)) facts_nil))
        · intro a uq K hS hd hK
          have s78 := (waits_on hd 6 (by kernel_rfl)).at (d := 78) rfl rfl rfl
          rw [if_pos (want_free rfl)]
          go_simp
          exact hK _ _ (Below.refl _ _) (vok rfl) (facts_cons (fun h => absurd h (by decide)) (facts_cons (fun h => absurd h (by decide)) facts_nil))
        · intro a uq K hS hd hK
          have s9 := hS.at 9 (by kernel_rfl) rfl
          rw [if_pos (want_free rfl)]
          go_simp
          exact hK _ _ (Below.refl _ _) (vok rfl) (facts_cons (fun h => absurd h (by decide)) (facts_cons (fun h => absurd h (by decide)) facts_nil))
        · intro a uq K hS hd hK
          have s10 := hS.at 10 (by kernel_rfl) rfl
          rw [if_pos (want_free rfl)]
          go_simp
          exact hK _ _ (Below.refl _ _) (vok rfl) (facts_cons (fun h => absurd h (by decide)) (facts_cons (fun h => absurd h (by decide)) facts_nil))
        · intro a uq K hS hd hK
          have s6 := hS.at 6 (by kernel_rfl) rfl
          rw [if_pos (want_free rfl)]
          go_simp
          exact hK _ _ (Below.refl _ _) (vok rfl) (facts_cons (fun h => absurd h (by decide)) (facts_cons (fun h => absurd h (by decide)) facts_nil))
        · intro a uq K hS hd hK
          have s82 := (waits_on hd 10 (by kernel_rfl)).at (d := 82) rfl rfl rfl
          rw [if_pos (want_free rfl)]
          go_simp
          exact hK _ _ (Below.refl _ _) (vok rfl) (facts_cons (fun h => absurd h (by decide)) (facts_cons (fun h => absurd h (by decide)) facts_nil))
        · intro a uq K hS hd hK
          have s83 := (waits_on hd 11 (by kernel_rfl)).at (d := 83) rfl rfl rfl
          rw [if_pos (want_free rfl)]
          go_simp
          exact hK _ _ (Below.refl _ _) (vok rfl) (facts_cons (fun h => absurd h (by decide)) (facts_cons (fun h => absurd h (by decide)) facts_nil))
        · intro a uq K hS hd hK
          have s6 := hS.at 6 (by kernel_rfl) rfl
          rw [if_pos (want_free rfl)]
          go_simp
          exact hK _ _ (Below.refl _ _) (vok rfl) (facts_cons (fun h => absurd h (by decide)) (facts_cons (fun h => absurd h (by decide)) facts_nil))
        · intro a uq K hS hd hK
          have s85 := (waits_on hd 13 (by kernel_rfl)).at (d := 85) rfl rfl rfl
          rw [if_pos (want_free rfl)]
          go_simp
          exact hK _ _ (Below.refl _ _) (vok rfl) (facts_cons (fun h => absurd h (by decide)) (facts_cons (fun h => absurd h (by decide)) facts_nil))
        · intro a uq K hS hd hK
          have s86 := (waits_on hd 14 (by kernel_rfl)).at (d := 86) rfl rfl rfl
          rw [if_pos (want_free rfl)]
          go_simp
          exact hK _ _ (Below.refl _ _) (vok rfl) (facts_cons (fun h => absurd h (by decide)) (facts_cons (fun h => absurd h (by decide)) facts_nil))
        · intro a uq K hS hd hK
          have s80 := (waits_on hd 8 (by kernel_rfl)).at (d := 80) rfl rfl rfl
          have s81 := (waits_on hd 9 (by kernel_rfl)).at (d := 81) rfl rfl rfl
          have s84 := (waits_on hd 12 (by kernel_rfl)).at (d := 84) rfl rfl rfl
          have s87 := (waits_on hd 15 (by kernel_rfl)).at (d := 87) rfl rfl rfl
          rw [if_pos (want_free rfl)]
          go_simp
          with_reducible refine (CM (g uq)).mono ?_
          rintro e w' ⟨rfl, hb⟩
          exact hK _ _ hb (vok rfl) (facts_cons (fun h => absurd h (by decide)) (facts_cons (fun h => absurd h (by decide)) facts_nil))
        · intro a uq K hS hd hK
          have s88 := (waits_on hd 16 (by kernel_rfl)).at (d := 88) rfl rfl rfl
          rw [if_pos (want_free rfl)]
          go_simp
          exact hK _ _ (Below.refl _ _) (vok rfl) (facts_cons (fun h => absurd h (by decide)) (facts_cons (fun h => absurd h (by decide)) facts_nil))
        · intro a uq K hS hd hK
          have s71 := (waits_on hd 17 (by kernel_rfl)).at (d := 71) rfl rfl rfl
          rw [if_pos (want_free rfl)]
          go_simp
          exact hK _ _ (Below.refl _ _) (vok rfl) (facts_cons (fun h => absurd h (by decide)) (facts_cons (fun h => absurd h (by decide)) facts_nil))
        · intro a uq K hS hd hK
          have s71 := (waits_on hd 17 (by kernel_rfl)).at (d := 71) rfl rfl rfl
          rw [if_pos (want_free rfl)]
          go_simp
          exact hK _ _ (Below.refl _ _) (vok rfl) (facts_cons (fun h => absurd h (by decide)) (facts_cons (fun h => absurd h (by decide)) facts_nil))
        · intro a uq K hS hd hK
          have s72 := (waits_on hd 0 (by kernel_rfl)).at (d := 72) rfl rfl rfl
          have s75 := (waits_on hd 3 (by kernel_rfl)).at (d := 75) rfl rfl rfl
          rw [if_pos (want_free rfl)]
          go_simp
          exact hK _ _ (Below.refl _ _) (vok rfl) (facts_cons (fun h => absurd h (by decide)) (facts_cons (fun h => absurd h (by decide)) facts_nil))
        · intro a uq K hS hd hK
          have s91 := (waits_on hd 20 (by kernel_rfl)).at (d := 91) rfl rfl rfl
          have s89 := (waits_on hd 18 (by kernel_rfl)).at (d := 89) rfl rfl rfl
          rw [if_pos (want_free rfl)]
          obtain ⟨sg, sm, sB⟩ := HST.out uq
          have sk := Nat.zero_le sg
          obtain ⟨sx, sx'⟩ := hgi sg sm
          have c0 := (sB.cell (i)).trans sx'
          have f0 := sB.frozen (i)
          obtain ⟨sn, se, sk', sm'⟩ := hseti sg sk sm
          go_simp
          exact hK undef _ (RelS.mk_ sB se sk' sm') (vfree rfl) (facts_cons (fun _ => ⟨sn, sk', sm', by rw [← se]; exact sB.set_ _ _⟩) (facts_cons (fun h => absurd h (by decide)) facts_nil))
        · intro a uq K hS hd hK
          have s76 := (waits_on hd 4 (by kernel_rfl)).at (d := 76) rfl rfl rfl
          have s79 := (waits_on hd 7 (by kernel_rfl)).at (d := 79) rfl rfl rfl
          rw [if_pos (want_free rfl)]
          go_simp
          exact hK _ _ (Below.refl _ _) (vok rfl) (facts_cons (fun h => absurd h (by decide)) (facts_cons (fun h => absurd h (by decide)) facts_nil))
        · intro a uq K hS hd hK
          have s92 := (waits_on hd 22 (by kernel_rfl)).at (d := 92) rfl rfl rfl
          have s90 := (waits_on hd 19 (by kernel_rfl)).at (d := 90) rfl rfl rfl
          rw [if_pos (want_free rfl)]
          obtain ⟨sg, sk, sm, sB⟩ := (waits_on hd 21 (by kernel_rfl)).2 _ (List.mem_cons_self ..) rfl
          obtain ⟨sx, sx'⟩ := hgj sg sm
          have c0 := (sB.cell (j)).trans sx'
          have f0 := sB.frozen (j)
          obtain ⟨sn, se, sk', sm'⟩ := hsetj sg sk sm
          go_simp
          exact hK undef _ (RelS.mk_ sB se sk' sm') (vfree rfl) (facts_cons (fun h => absurd h (by decide)) (facts_cons (fun _ => ⟨sn, sk', sm', by rw [← se]; exact sB.set_ _ _⟩) facts_nil))
      case hfin =>
        intro a uq hS hk
        have s72 := (hk 0 (by decide)).at (d := 72) rfl rfl rfl
        have s73 := (hk 1 (by decide)).at (d := 73) rfl rfl rfl
        have s74 := (hk 2 (by decide)).at (d := 74) rfl rfl rfl
        have s75 := (hk 3 (by decide)).at (d := 75) rfl rfl rfl
        have s76 := (hk 4 (by decide)).at (d := 76) rfl rfl rfl
        have s77 := (hk 5 (by decide)).at (d := 77) rfl rfl rfl
        have s78 := (hk 6 (by decide)).at (d := 78) rfl rfl rfl
        have s79 := (hk 7 (by decide)).at (d := 79) rfl rfl rfl
        have s80 := (hk 8 (by decide)).at (d := 80) rfl rfl rfl
        have s81 := (hk 9 (by decide)).at (d := 81) rfl rfl rfl
        have s82 := (hk 10 (by decide)).at (d := 82) rfl rfl rfl
        have s83 := (hk 11 (by decide)).at (d := 83) rfl rfl rfl
        have s84 := (hk 12 (by decide)).at (d := 84) rfl rfl rfl
        have s85 := (hk 13 (by decide)).at (d := 85) rfl rfl rfl
        have s86 := (hk 14 (by decide)).at (d := 86) rfl rfl rfl
        have s87 := (hk 15 (by decide)).at (d := 87) rfl rfl rfl
        have s88 := (hk 16 (by decide)).at (d := 88) rfl rfl rfl
        have s71 := (hk 17 (by decide)).at (d := 71) rfl rfl rfl
        have s89 := (hk 18 (by decide)).at (d := 89) rfl rfl rfl
        have s90 := (hk 19 (by decide)).at (d := 90) rfl rfl rfl
        have s91 := (hk 20 (by decide)).at (d := 91) rfl rfl rfl
        have s92 := (hk 22 (by decide)).at (d := 92) rfl rfl rfl
        obtain ⟨sg, sk, sm, sB⟩ := (hk 23 (by decide)).2 _ (List.mem_cons_of_mem _ (List.mem_cons_self ..)) rfl
        have hlit := hS.lit _ (by kernel_rfl) (lits_cons s72 (lits_cons s73 (lits_cons s74 (lits_cons s75 (lits_cons s76 (lits_cons s77 (lits_cons s78 (lits_cons s79 (lits_cons s80 (lits_cons s81 (lits_cons s82 (lits_cons s83 (lits_cons s84 (lits_cons s85 (lits_cons s86 (lits_cons s87 (lits_cons s88 (lits_cons s71 (lits_cons s89 (lits_cons s90 (lits_cons s91 (lits_cons s92 lits_nil))))))))))))))))))))))
        rw [hlit]
        clear hlit hk hS s72 s73 s74 s75 s76 s77 s78 s79 s80 s81 s82 s83 s84 s85 s86 s87 s88 s71 s89 s90 s91 s92
        simp only [litT, List.setIfInBounds_toArray, List.set_cons_succ, List.set_cons_zero]
        obtain rfl : sg = 2 := by omega
        rw [hc2] at sB
        have HF5 := hide sB
        have HB5 := hide (HB3.out.trans ((HGU0.out uq).below.mono HSW.out))
        have HFL : Hid (((L.set i A).set j B).length = k ∧ ∀ v ∈ ((L.set i A).set j B), 0 ≤ v ∧ v < 37) := ⟨by simpa using hvl, HFS.out.2⟩
        have HRF := HN
        clear HF HB3 HN HFS sB sk sm
        generalize g uq = w5 at *
        obtain ⟨U5, hU5, g5, u0, rfl, hgu5, hi5⟩ := cls w5
        have C1 := cls_call hgu5 hi5 (fun w hb => sums_any ((L.set i A).set j B) (.slice (some ⟨f, 0, none⟩) k k) w (by
          have := ints_of_blk (n := k) (m := k) (c := k) (HF5.out.to hb) (by rw [HFL.out.1]; exact Nat.le_refl _) (Nat.le_refl _)
          rwa [List.take_of_length_le (by rw [HFL.out.1]; exact Nat.le_refl _)] at this) (by rw [HFL.out.1]; omega) (fun v hv => by have := HFL.out.2 v hv; omega))
        have HGU := hide hgu5
        by_cases hz : oneP ((L.set i A).set j B) = 0 ∧ twoP ((L.set i A).set j B) = 0
        · have HN := hide (HRF.out.1 hz)
          rw [hz.1, hz.2] at C1
          obtain ⟨m, hm⟩ : ∃ m, k = m + 2 := ⟨k - 2, by omega⟩
          subst hm
          have C2 := cls_call hgu5 hi5 (fun w hb => text_any (((L.set i A).set j B).take m) (.slice (some ⟨f, 0, none⟩) m (m + 2)) w (ints_of_blk (n := m) (HF5.out.to hb) (by rw [HFL.out.1]; omega) (by omega)) (by rw [List.length_take, HFL.out.1]; omega) (fun v hv => HFL.out.2 v (List.mem_of_mem_take hv)))
          have HM2 : Hid (((((L.set i A).set j B).take (((L.set i A).set j B).length - 2)).map symC) = (((L.set i A).set j B).take m).map symC) := by show _ = _; rw [HFL.out.1]; rfl
          obtain ⟨RR, hRR⟩ : ∃ RR, (((L.set i A).set j B).take m).map symC = RR := ⟨_, rfl⟩
          rw [hRR] at C2 HM2
          clear hRR
          clear hz HRF HF5 HFL hgu5 hi5
          go_wp2_with (first | ((with_reducible refine (C1 _).mono ?_); rintro e w' ⟨rfl, u, rfl⟩) | ((with_reducible refine (C2 _).mono ?_); rintro e w' ⟨rfl, u, rfl⟩))
          go_ret2
          exact ⟨by rw [HN.out.1, HN.out.2, HM2.out]; rfl, HB5.out.trans ((HGU.out _).mono HB5.out.size)⟩
        · have HN := hide (HRF.out.2 hz)
          clear HRF HF5 HFL hgu5 hi5
          by_cases h1 : oneP ((L.set i A).set j B) = 0
          · have h2 : (twoP ((L.set i A).set j B) == 0) = false := by simp; intro h; exact hz ⟨h1, h⟩
            rw [h1] at C1
            clear hz h1
            go_wp2_with ((with_reducible refine (C1 _).mono ?_); rintro e w' ⟨rfl, u, rfl⟩)
            go_ret2
            exact ⟨by rw [HN.out.1, HN.out.2]; rfl, HB5.out.trans ((HGU.out _).mono HB5.out.size)⟩
          · have h2 : (oneP ((L.set i A).set j B) == 0) = false := by simpa using h1
            clear hz h1
            go_wp2_with ((with_reducible refine (C1 _).mono ?_); rintro e w' ⟨rfl, u, rfl⟩)
            go_ret2
            exact ⟨by rw [HN.out.1, HN.out.2]; rfl, HB5.out.trans ((HGU.out _).mono HB5.out.size)⟩
end Go.Proofs.YtldicibhfmnjnaaGreatDoor
