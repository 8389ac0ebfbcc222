/- Walk of package label: Read, nothing missing. -/
import Derived.Test.YtldicibhfmnjnaaGreatDoorC8
set_option linter.unusedVariables false
set_option linter.unusedSimpArgs false
namespace Go.Proofs.YtldicibhfmnjnaaGreatDoor
open Go.RowKit

set_option maxRecDepth 100000 in
set_option maxHeartbeats 16000000 in
theorem Read_none (s : List UInt8) (hall : s.all okC = true) (h3 : 3 ≤ s.length) (h36 : s.length ≤ 36) (hM : miss 0 (vals s) = []) (w : World) : Calls Tryz.prog 18 #[.string (bs s)] w fun e w' => e = .returned (.tuple #[.string (bs (readP s)), .int .i64 (readE s)]) ∧ Below w.heap.size w w' := by
  have hN := read_fill (canR_of3 ⟨hall, h3, h36⟩) (show fillP (vals s) = some (vals s) by unfold fillP; rw [hM])
  have hFS := fill_spec (vals_low s) (show fillP (vals s) = some (vals s) by unfold fillP; rw [hM])
  have HFS := hide hFS.2.1
  clear hFS
  have CV := values_ok (s := s) (by omega) hall w
  have e1 : decide ((s.length : Int) < 3) = false := by simp; omega
  have e2 : decide ((36 : Int) < (s.length : Int)) = false := by simp; omega
  have hvl : (vals s).length = s.length := by simp [vals]
  have HR := hide (vals_low s)
  have HN := hide hN
  clear hN
  obtain ⟨i0, hi0, hz0, hz1, hz2⟩ := info_parts info_int
  have hszi : (Tryz.prog.info? 3).map (·.size) = some 1 := by kernel_rfl
  have hmk := fun w => run_make_any (P := Tryz.prog) Tryz.underlying46 info_int rfl (N := (s.length : Int)) (n := s.length) rfl (by omega) (by omega) w
  have HS := hide (⟨hall, h3, h36⟩ : s.all okC = true ∧ 3 ≤ s.length ∧ s.length ≤ 36)
  obtain ⟨L, hL⟩ : ∃ L, vals s = L := ⟨_, rfl⟩
  rw [hL] at CV hvl HR hM HFS HN
  have HM := hide hM
  clear hall h3 hL hM
  obtain ⟨n, hn⟩ : ∃ n, s.length = n := ⟨_, rfl⟩
  rw [hn] at CV e1 e2 hvl hmk h36
  have hsz : (bs s).size = n := by rw [bs_size]; exact hn
  have h3 : 3 ≤ n := by have := HS.out.2.1; omega
  clear hn
  go_enter Tryz.func18, Tryz.ntmps18
  go_wp2_with fail
  refine CV.mono ?_
  rintro e w1 ⟨v, rfl, ho, hb⟩
  have hI : IntsAt w1 v L := IntsAt.of_own (by omega) (by rw [hvl]; exact ho)
  obtain ⟨b, c, hv, hI2⟩ := hI
  have hI : IntsAt w1 v L := ⟨b, c, hv, hI2⟩
  rw [hvl] at hv
  rw [hv] at hI ⊢
  have HI := hide hI
  have HC := hide hI2.2.2
  have Hb := hide hI2.1
  have HB := hide hb
  clear CV ho hv hb hI2 hI
  go_wp2_with fail
  go_loopw [6, 7, 8, 31] (fun v _ _ i wr => MiI L w1 wr v i) (fun _ _ _ i _ => n - (intOf i).toNat)
  case atStart => exact ⟨0, by omega, rfl, World.ownsRow_nil _ _ _ _, Below.refl _ _⟩
  case round =>
    obtain ⟨k, hk, rfl, hO, hBr⟩ := hrel
    have HO := hide hO
    have HBr := hide hBr
    clear hO hBr
    rw [hvl] at hk
    by_cases hlt : k < n
    · obtain ⟨x, hx⟩ : ∃ x, L[k]? = some x := ⟨_, List.getElem?_eq_getElem (by omega)⟩
      have ck : wr.cell? ⟨b, k, none⟩ = some (.int .i64 x) := (HBr.out.cell (p := ⟨b, k, none⟩) Hb.out).trans (HC.out k x hx)
      have HT := hide (miss_take hx)
      have hml := miss_len (L.take k) 0
      have hmk2 : (miss 0 (L.take k)).length ≤ 36 := by rw [List.length_take] at hml; omega
      clear hx hml
      by_cases hneg : x < 0
      · have e3 : decide (x < 0) = true := by simpa using hneg
        rw [if_pos hneg] at HT
        clear hneg
        go_wp2_with (at_builtin; refine wpList_append_own _ rfl (.tmp 38) (.tmp 40) _ rfl w1.heap.size 3 i0 (.int .i64 0) 1 8 Tryz.underlying46 hi0 hz0 hz1 hz2 rfl (by omega) _ (miss 0 (L.take k)).length (intV (natsI (miss 0 (L.take k)))) rfl (HO.out.alloc _) ⟨_, 0, none⟩ 1 1 [.int .i64 (k : Int)] rfl rfl (one_new (by simp)) (by intro u hu; rw [List.mem_singleton.1 hu]; rfl) (by simp only [maxLen]; omega) (by omega) (by have := HBr.out.size; simp; omega) ?_; intro v' w6 hown6 hgr6 _)
        have HB6 := hide ((below_alloc HBr.out (Nat.le_refl _) (.cells #[.int .i64 (k : Int)] 3)).grown hgr6 (Nat.le_trans HBr.out.size (below_one wr _).size) (fun b hb => (own_block HO.out b hb).1))
        have HO6 : Hid (w6.ownsRow w1.heap.size 3 1 v' (miss 0 (L.take (k + 1))).length (intV (natsI (miss 0 (L.take (k + 1)))))) := by
          rw [HT.out, List.length_append]
          show World.ownsRow _ _ _ _ _ _ (List.map _ (List.map _ _))
          rw [List.map_append, List.map_append]
          exact hown6
        clear hown6 hgr6
        go_wp2_with fail
        go_roundw
        case rel => exact ⟨k + 1, by omega, by go_num, HO6.out, HB6.out⟩
        case measure => simp [intOf]; omega
      · have e3 : decide (x < 0) = false := by simpa using hneg
        rw [if_neg hneg, List.append_nil] at HT
        clear hneg
        go_wp2_with fail
        go_roundw
        case rel => exact ⟨k + 1, by omega, by go_num, by rw [HT.out]; exact HO.out, HBr.out⟩
        case measure => simp [intOf]; omega
    · obtain rfl : k = n := by omega
      rw [List.take_of_length_le (by omega), HM.out] at HO
      obtain ⟨a6, c6, h6⟩ := own_shape HO.out
      rw [h6] at HO ⊢
      clear h6
      go_wp2_with fail
      refine (sums_any L _ _ (HI.out.to HBr.out) (by omega) HR.out).mono ?_
      rintro e w2 ⟨rfl, hb⟩
      have HB2 := hide (HB.out.trans ((HBr.out.trans (hb.mono HBr.out.size)).mono HB.out.size))
      have HI2 := hide ((HI.out.to HBr.out).to hb)
      have HO2 := hide (own_to HO.out hb)
      have Hb2 : Hid (b < w2.heap.size) := Nat.lt_of_lt_of_le Hb.out (Nat.le_trans HBr.out.size hb.size)
      have HC2 : Hid (∀ (j : Nat) (x : Int), L[j]? = some x → (w2.alloc (.cells (madeCells #[.int .i64 0] k) 3)).cell? ⟨b, j, none⟩ = some (.int .i64 x)) := fun j x hx => (World.cell?_alloc_lt _ _ _ Hb2.out).trans ((hb.cell (p := ⟨b, j, none⟩) (Nat.lt_of_lt_of_le Hb.out HBr.out.size)).trans ((HBr.out.cell (p := ⟨b, j, none⟩) Hb.out).trans (HC.out j x hx)))
      clear hb HBr HI HO HB Hb HC
      have hg0 : (w2.alloc (.cells (madeCells #[.int .i64 0] k) 3)).heap[w2.heap.size]? = some (.cells (madeCells #[.int .i64 0] k).toList.toArray 3 (0, 0)) := by rw [Array.toArray_toList]; exact Blk.new _ _ _
      have hln : (intV L).length = Nat.min k k := by rw [intV_len, hvl]; exact (Nat.min_self k).symm
      have hpos : 0 < (intV L).length → (some (⟨w2.heap.size, 0, none⟩ : Addr)) = some ⟨w2.heap.size, 0, none⟩ ∧ ∃ ad, (some (⟨b, 0, none⟩ : Addr)) = some ad ∧ ∀ j v, (intV L)[j]? = some v → (w2.alloc (.cells (madeCells #[.int .i64 0] k) 3)).cell? (ad.add j) = some v := fun _ => ⟨rfl, ⟨b, 0, none⟩, rfl, fun j v hv => by
        unfold intV at hv
        rw [List.getElem?_map] at hv
        cases hx : L[j]? with
        | none => rw [hx] at hv; cases hv
        | some x =>
          rw [hx] at hv
          cases hv
          have := HC2.out j x hx
          rw [show (⟨b, 0, none⟩ : Addr).add j = ⟨b, j, none⟩ by unfold Addr.add; split <;> simp_all]
          exact this⟩
      have hfit : 0 + (intV L).length ≤ (madeCells #[.int .i64 0] k).toList.length := by rw [made_len, intV_len]; omega
      have hone : ∀ v ∈ intV L, v.oneCell' = true := fun v hv => by
        unfold intV at hv
        obtain ⟨x, _, rfl⟩ := List.mem_map.1 hv
        rfl
      have hbel := below_one w2 (.cells (madeCells #[.int .i64 0] k) 3)
      have X := fun (ops : Array Oper) (rest : List Oper) (o : Oper) (a : Act) (Q : Exit → Act → World → Prop) hgd ho hd hs => @wpList_copy_splice Tryz.prog (w2.alloc (.cells (madeCells #[.int .i64 0] k) 3)) ops rest o a Q hgd (.tmp 51) (.tmp 52) 46 46 ho 3 Tryz.underlying46 hszi (some ⟨w2.heap.size, 0, none⟩) (some ⟨b, 0, none⟩) k k k c hd hs w2.heap.size 0 (madeCells #[.int .i64 0] k).toList 3 hg0 (intV L) hln hpos hfit hone w2.heap.size w2 hbel (Nat.le_refl _)
      clear hfit hpos hone hbel HC2
      go_wp2_with ((with_reducible show wpList _ _ _ (Oper.mk (some 53) _ _ _ _ _ :: _) _ _); refine X _ _ _ _ _ rfl rfl rfl rfl ?_; intro w3 hf hb3)
      rw [splice_full (by rw [made_len, intV_len]; omega)] at hf
      have HF : Hid (Blk w3 w2.heap.size 3 (intC L)) := hf.out
      have HB3 := hide (HB2.out.trans (hb3.mono HB2.out.size))
      have HO3 := hide (own_to HO2.out hb3)
      obtain ⟨f, hf0⟩ : ∃ f, Hid (w2.heap.size = f) := ⟨_, rfl⟩
      clear X hg0 hln hf hb3 HB2 HI2 HO2 Hb2 hmk
      rw [hf0.out] at HF ⊢
      have HF5 := HF
      have HB5 := HB3
      have HFL : Hid (L.length = k ∧ ∀ v ∈ L, 0 ≤ v ∧ v < 37) := ⟨hvl, HFS.out⟩
      have HRF := HN
      clear HF HB3 HN HO3 HFS
      obtain ⟨w5, hw5⟩ : ∃ w5, w3 = w5 := ⟨_, rfl⟩
      subst hw5
      obtain ⟨U, hU, g, u0, rfl, hgu, hi⟩ := cls w3
      have C1 := cls_call hgu hi (fun w hb => sums_any L (.slice (some ⟨f, 0, none⟩) k k) w (by
        have := ints_of_blk (n := k) (m := k) (c := k) (HF5.out.to hb) (by rw [HFL.out.1]; exact Nat.le_refl _) (Nat.le_refl _)
        rwa [List.take_of_length_le (by rw [HFL.out.1]; exact Nat.le_refl _)] at this) (by rw [HFL.out.1]; omega) (fun v hv => by have := HFL.out.2 v hv; omega))
      have HGU := hide hgu
      by_cases hz : oneP L = 0 ∧ twoP L = 0
      · have HN := hide (HRF.out.1 hz)
        rw [hz.1, hz.2] at C1
        obtain ⟨m, hm⟩ : ∃ m, k = m + 2 := ⟨k - 2, by omega⟩
        subst hm
        have C2 := cls_call hgu hi (fun w hb => text_any (L.take m) (.slice (some ⟨f, 0, none⟩) m (m + 2)) w (ints_of_blk (n := m) (HF5.out.to hb) (by rw [HFL.out.1]; omega) (by omega)) (by rw [List.length_take, HFL.out.1]; omega) (fun v hv => HFL.out.2 v (List.mem_of_mem_take hv)))
        have HM2 : Hid (((L.take (L.length - 2)).map symC) = (L.take m).map symC) := by show _ = _; rw [HFL.out.1]; rfl
        obtain ⟨RR, hRR⟩ : ∃ RR, (L.take m).map symC = RR := ⟨_, rfl⟩
        rw [hRR] at C2 HM2
        clear hRR
        clear hz HRF HF5 HFL hgu hi
        go_wp2_with (first | ((with_reducible refine (C1 _).mono ?_); rintro e w' ⟨rfl, u, rfl⟩) | ((with_reducible refine (C2 _).mono ?_); rintro e w' ⟨rfl, u, rfl⟩))
        go_ret2
        exact ⟨by rw [HN.out.1, HN.out.2, HM2.out]; rfl, HB5.out.trans ((HGU.out _).mono HB5.out.size)⟩
      · have HN := hide (HRF.out.2 hz)
        clear HRF HF5 HFL hgu hi
        by_cases h1 : oneP L = 0
        · have h2 : (twoP L == 0) = false := by simp; intro h; exact hz ⟨h1, h⟩
          rw [h1] at C1
          clear hz h1
          go_wp2_with ((with_reducible refine (C1 _).mono ?_); rintro e w' ⟨rfl, u, rfl⟩)
          go_ret2
          exact ⟨by rw [HN.out.1, HN.out.2]; rfl, HB5.out.trans ((HGU.out _).mono HB5.out.size)⟩
        · have h2 : (oneP L == 0) = false := by simpa using h1
          clear hz h1
          go_wp2_with ((with_reducible refine (C1 _).mono ?_); rintro e w' ⟨rfl, u, rfl⟩)
          go_ret2
          exact ⟨by rw [HN.out.1, HN.out.2]; rfl, HB5.out.trans ((HGU.out _).mono HB5.out.size)⟩
set_option maxRecDepth 100000 in
set_option maxHeartbeats 16000000 in
theorem Read_many (s : List UInt8) (hall : s.all okC = true) (h3 : 3 ≤ s.length) (h36 : s.length ≤ 36) (M : List Nat) (hM : miss 0 (vals s) = M) (hM3 : 3 ≤ M.length) (w : World) : Calls Tryz.prog 18 #[.string (bs s)] w fun e w' => e = .returned (.tuple #[.string (bs (readP s)), .int .i64 (readE s)]) ∧ Below w.heap.size w w' := by
  have hN := read_many (canR_of3 ⟨hall, h3, h36⟩) (by rw [hM]; exact hM3)
  obtain ⟨q, hq⟩ : ∃ q, M.length = q := ⟨_, rfl⟩
  have HQ := hide hq
  have hq36 : q ≤ 36 := by have := miss_len (vals s) 0; rw [hM, hq] at this; simp [vals] at this; omega
  rw [hq] at hM3
  have q0 : ((q : Int) == 0) = false := by simp; omega
  have q1 : ((q : Int) == 1) = false := by simp; omega
  have q2 : ((q : Int) == 2) = false := by simp; omega
  clear hq hM3
  have CV := values_ok (s := s) (by omega) hall w
  have e1 : decide ((s.length : Int) < 3) = false := by simp; omega
  have e2 : decide ((36 : Int) < (s.length : Int)) = false := by simp; omega
  have hvl : (vals s).length = s.length := by simp [vals]
  have HR := hide (vals_low s)
  have HN := hide hN
  obtain ⟨i0, hi0, hz0, hz1, hz2⟩ := info_parts info_int
  have hszi : (Tryz.prog.info? 3).map (·.size) = some 1 := by kernel_rfl
  have hmk := fun w => run_make_any (P := Tryz.prog) Tryz.underlying46 info_int rfl (N := (s.length : Int)) (n := s.length) rfl (by omega) (by omega) w
  have HS := hide (⟨hall, h3, h36⟩ : s.all okC = true ∧ 3 ≤ s.length ∧ s.length ≤ 36)
  obtain ⟨L, hL⟩ : ∃ L, vals s = L := ⟨_, rfl⟩
  rw [hL] at CV hvl HR hM
  have HM := hide hM
  clear hall h3 hN hL hM
  obtain ⟨n, hn⟩ : ∃ n, s.length = n := ⟨_, rfl⟩
  rw [hn] at CV e1 e2 hvl hmk h36
  have hsz : (bs s).size = n := by rw [bs_size]; exact hn
  have h3 : 3 ≤ n := by have := HS.out.2.1; omega
  clear hn
  go_enter Tryz.func18, Tryz.ntmps18
  go_wp2_with fail
  refine CV.mono ?_
  rintro e w1 ⟨v, rfl, ho, hb⟩
  have hI : IntsAt w1 v L := IntsAt.of_own (by omega) (by rw [hvl]; exact ho)
  obtain ⟨b, c, hv, hI2⟩ := hI
  have hI : IntsAt w1 v L := ⟨b, c, hv, hI2⟩
  rw [hvl] at hv
  rw [hv] at hI ⊢
  have HI := hide hI
  have HC := hide hI2.2.2
  have Hb := hide hI2.1
  have HB := hide hb
  clear CV ho hv hb hI2 hI
  go_wp2_with fail
  go_loopw [6, 7, 8, 31] (fun v _ _ i wr => MiI L w1 wr v i) (fun _ _ _ i _ => n - (intOf i).toNat)
  case atStart => exact ⟨0, by omega, rfl, World.ownsRow_nil _ _ _ _, Below.refl _ _⟩
  case round =>
    obtain ⟨k, hk, rfl, hO, hBr⟩ := hrel
    have HO := hide hO
    have HBr := hide hBr
    clear hO hBr
    rw [hvl] at hk
    by_cases hlt : k < n
    · obtain ⟨x, hx⟩ : ∃ x, L[k]? = some x := ⟨_, List.getElem?_eq_getElem (by omega)⟩
      have ck : wr.cell? ⟨b, k, none⟩ = some (.int .i64 x) := (HBr.out.cell (p := ⟨b, k, none⟩) Hb.out).trans (HC.out k x hx)
      have HT := hide (miss_take hx)
      have hml := miss_len (L.take k) 0
      have hmk2 : (miss 0 (L.take k)).length ≤ 36 := by rw [List.length_take] at hml; omega
      clear hx hml
      by_cases hneg : x < 0
      · have e3 : decide (x < 0) = true := by simpa using hneg
        rw [if_pos hneg] at HT
        clear hneg
        go_wp2_with (at_builtin; refine wpList_append_own _ rfl (.tmp 38) (.tmp 40) _ rfl w1.heap.size 3 i0 (.int .i64 0) 1 8 Tryz.underlying46 hi0 hz0 hz1 hz2 rfl (by omega) _ (miss 0 (L.take k)).length (intV (natsI (miss 0 (L.take k)))) rfl (HO.out.alloc _) ⟨_, 0, none⟩ 1 1 [.int .i64 (k : Int)] rfl rfl (one_new (by simp)) (by intro u hu; rw [List.mem_singleton.1 hu]; rfl) (by simp only [maxLen]; omega) (by omega) (by have := HBr.out.size; simp; omega) ?_; intro v' w6 hown6 hgr6 _)
        have HB6 := hide ((below_alloc HBr.out (Nat.le_refl _) (.cells #[.int .i64 (k : Int)] 3)).grown hgr6 (Nat.le_trans HBr.out.size (below_one wr _).size) (fun b hb => (own_block HO.out b hb).1))
        have HO6 : Hid (w6.ownsRow w1.heap.size 3 1 v' (miss 0 (L.take (k + 1))).length (intV (natsI (miss 0 (L.take (k + 1)))))) := by
          rw [HT.out, List.length_append]
          show World.ownsRow _ _ _ _ _ _ (List.map _ (List.map _ _))
          rw [List.map_append, List.map_append]
          exact hown6
        clear hown6 hgr6
        go_wp2_with fail
        go_roundw
        case rel => exact ⟨k + 1, by omega, by go_num, HO6.out, HB6.out⟩
        case measure => simp [intOf]; omega
      · have e3 : decide (x < 0) = false := by simpa using hneg
        rw [if_neg hneg, List.append_nil] at HT
        clear hneg
        go_wp2_with fail
        go_roundw
        case rel => exact ⟨k + 1, by omega, by go_num, by rw [HT.out]; exact HO.out, HBr.out⟩
        case measure => simp [intOf]; omega
    · obtain rfl : k = n := by omega
      rw [List.take_of_length_le (by omega), HM.out, HQ.out] at HO
      obtain ⟨a6, c6, h6⟩ := own_shape HO.out
      rw [h6] at HO ⊢
      clear h6
      go_wp2_with fail
      refine (sums_any L _ _ (HI.out.to HBr.out) (by omega) HR.out).mono ?_
      rintro e w2 ⟨rfl, hb⟩
      have HB2 := hide (HB.out.trans ((HBr.out.trans (hb.mono HBr.out.size)).mono HB.out.size))
      have HI2 := hide ((HI.out.to HBr.out).to hb)
      have HO2 := hide (own_to HO.out hb)
      have Hb2 : Hid (b < w2.heap.size) := Nat.lt_of_lt_of_le Hb.out (Nat.le_trans HBr.out.size hb.size)
      have HC2 : Hid (∀ (j : Nat) (x : Int), L[j]? = some x → (w2.alloc (.cells (madeCells #[.int .i64 0] k) 3)).cell? ⟨b, j, none⟩ = some (.int .i64 x)) := fun j x hx => (World.cell?_alloc_lt _ _ _ Hb2.out).trans ((hb.cell (p := ⟨b, j, none⟩) (Nat.lt_of_lt_of_le Hb.out HBr.out.size)).trans ((HBr.out.cell (p := ⟨b, j, none⟩) Hb.out).trans (HC.out j x hx)))
      clear hb HBr HI HO HB Hb HC
      have hg0 : (w2.alloc (.cells (madeCells #[.int .i64 0] k) 3)).heap[w2.heap.size]? = some (.cells (madeCells #[.int .i64 0] k).toList.toArray 3 (0, 0)) := by rw [Array.toArray_toList]; exact Blk.new _ _ _
      have hln : (intV L).length = Nat.min k k := by rw [intV_len, hvl]; exact (Nat.min_self k).symm
      have hpos : 0 < (intV L).length → (some (⟨w2.heap.size, 0, none⟩ : Addr)) = some ⟨w2.heap.size, 0, none⟩ ∧ ∃ ad, (some (⟨b, 0, none⟩ : Addr)) = some ad ∧ ∀ j v, (intV L)[j]? = some v → (w2.alloc (.cells (madeCells #[.int .i64 0] k) 3)).cell? (ad.add j) = some v := fun _ => ⟨rfl, ⟨b, 0, none⟩, rfl, fun j v hv => by
        unfold intV at hv
        rw [List.getElem?_map] at hv
        cases hx : L[j]? with
        | none => rw [hx] at hv; cases hv
        | some x =>
          rw [hx] at hv
          cases hv
          have := HC2.out j x hx
          rw [show (⟨b, 0, none⟩ : Addr).add j = ⟨b, j, none⟩ by unfold Addr.add; split <;> simp_all]
          exact this⟩
      have hfit : 0 + (intV L).length ≤ (madeCells #[.int .i64 0] k).toList.length := by rw [made_len, intV_len]; omega
      have hone : ∀ v ∈ intV L, v.oneCell' = true := fun v hv => by
        unfold intV at hv
        obtain ⟨x, _, rfl⟩ := List.mem_map.1 hv
        rfl
      have hbel := below_one w2 (.cells (madeCells #[.int .i64 0] k) 3)
      have X := fun (ops : Array Oper) (rest : List Oper) (o : Oper) (a : Act) (Q : Exit → Act → World → Prop) hgd ho hd hs => @wpList_copy_splice Tryz.prog (w2.alloc (.cells (madeCells #[.int .i64 0] k) 3)) ops rest o a Q hgd (.tmp 51) (.tmp 52) 46 46 ho 3 Tryz.underlying46 hszi (some ⟨w2.heap.size, 0, none⟩) (some ⟨b, 0, none⟩) k k k c hd hs w2.heap.size 0 (madeCells #[.int .i64 0] k).toList 3 hg0 (intV L) hln hpos hfit hone w2.heap.size w2 hbel (Nat.le_refl _)
      clear hfit hpos hone hbel HC2
      go_wp2_with ((with_reducible show wpList _ _ _ (Oper.mk (some 53) _ _ _ _ _ :: _) _ _); refine X _ _ _ _ _ rfl rfl rfl rfl ?_; intro w3 hf hb3)
      rw [splice_full (by rw [made_len, intV_len]; omega)] at hf
      have HF : Hid (Blk w3 w2.heap.size 3 (intC L)) := hf.out
      have HB3 := hide (HB2.out.trans (hb3.mono HB2.out.size))
      have HO3 := hide (own_to HO2.out hb3)
      obtain ⟨f, hf0⟩ : ∃ f, Hid (w2.heap.size = f) := ⟨_, rfl⟩
      clear X hg0 hln hf hb3 HB2 HI2 HO2 Hb2 hmk
      rw [hf0.out] at HF ⊢
      go_wp2_with fail
      go_ret2
      exact ⟨by rw [HN.out.1, HN.out.2]; rfl, HB3.out⟩
end Go.Proofs.YtldicibhfmnjnaaGreatDoor
