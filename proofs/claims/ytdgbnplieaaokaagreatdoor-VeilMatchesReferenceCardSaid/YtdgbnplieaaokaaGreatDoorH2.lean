/- Walks of the reference of layer 49: Is, moved (printed by genh2.py). -/
import Derived.Test.YtdgbnplieaaokaaGreatDoorH1
set_option linter.unusedVariables false
set_option linter.unusedSimpArgs false
namespace Go.Proofs.YtdgbnplieaaokaaGreatDoor
open Go.RowKit

theorem rows_newS (w : World) (t : TypeId) (ls : List (List UInt8)) (cs : Array Value) (hcs : cs.toList = (ls.map strV).flatten) (n : Nat) (hn : n = ls.length) : TextsAt (w.alloc (.cells cs t)) (.slice (some ⟨w.heap.size, 0, none⟩) n n) ls := by
  refine RowsAt.of_blk (Blk.new w t cs) (by rw [List.length_map]; exact hn) (Nat.le_refl _) (by simp [strV]) fun k x hx j u hu => ?_
  have := flat_at (size := 1) (ls.map strV) (by simp [strV]) k x j u hx hu
  rw [← hcs] at this
  simpa using this
set_option maxRecDepth 100000 in
set_option maxHeartbeats 1000000 in
theorem rVIs_any (t : List UInt8) (ht : t.length ≤ 140737488355328) (w : World) : Calls Tryz.prog 11 #[.string (bs t)] w fun e w' => e = .returned (.bool (isV t)) ∧ w' = w := by
  have hsz : (bs t).size = t.length := bs_size t
  by_cases h42 : t.length = 42
  · have HV : Hid (isV t = (isD (saltV t) && ((hidV t).all isDg && isD (markV t)))) := by show _ = _; unfold isV saltV markV hidV; rw [decide_eq_true h42, Bool.true_and]; cases isD (t.take 16) <;> cases isD (t.drop 26) <;> simp
    have e1 : (bs t).extract 0 16 = bs (saltV t) := by rw [bs_cut]; rfl
    have e2 : (bs t).extract 16 26 = bs (hidV t) := by rw [bs_cut]; rfl
    have e3 : (bs t).extract 26 42 = bs (markV t) := by rw [bs_cut, List.take_of_length_le (by simp; omega)]; rfl
    have C1 := fun w => rIs_any (saltV t) (by unfold saltV; rw [List.length_take]; omega) w
    have C2 := fun w => rDigits_any (hidV t) (by unfold hidV; rw [List.length_take]; omega) w
    have C3 := fun w => rIs_any (markV t) (by unfold markV; rw [List.length_drop]; omega) w
    rw [h42] at hsz
    clear h42 ht
    generalize isD (saltV t) = p at *
    generalize (hidV t).all isDg = q at *
    generalize isD (markV t) = r at *
    generalize saltV t = T1 at *
    generalize hidV t = T2 at *
    generalize markV t = T3 at *
    cases p with
    | false =>
      go_enter Tryz.func11, Tryz.ntmps11
      go_wp2_with ((with_reducible refine (C1 _).mono ?_); rintro e w' ⟨rfl, rfl⟩)
      go_ret
      exact ⟨ret_bool (by rw [HV.out]; rfl), rfl⟩
    | true =>
    cases q with
    | false =>
      go_enter Tryz.func11, Tryz.ntmps11
      go_wp2_with (first | ((with_reducible refine (C1 _).mono ?_); rintro e w' ⟨rfl, rfl⟩) | ((with_reducible refine (C2 _).mono ?_); rintro e w' ⟨rfl, rfl⟩))
      go_ret
      exact ⟨ret_bool (by rw [HV.out]; rfl), rfl⟩
    | true =>
      go_enter Tryz.func11, Tryz.ntmps11
      go_wp2_with (first | ((with_reducible refine (C1 _).mono ?_); rintro e w' ⟨rfl, rfl⟩) | ((with_reducible refine (C2 _).mono ?_); rintro e w' ⟨rfl, rfl⟩) | ((with_reducible refine (C3 _).mono ?_); rintro e w' ⟨rfl, rfl⟩))
      go_ret
      exact ⟨ret_bool (by rw [HV.out]; rfl), rfl⟩
  · have e0 : ((t.length : Int) == 42) = false := by rw [beq_eq_false_iff_ne]; omega
    have HV : Hid (isV t = false) := by show _ = _; unfold isV; rw [decide_eq_false h42]; rfl
    clear h42
    go_enter Tryz.func11, Tryz.ntmps11
    go_wp2_with fail
    go_ret
    exact ⟨ret_bool (by rw [HV.out]), rfl⟩
theorem digV_hexV {c : UInt8} (h : isHex c = true) : digV c = (hexV c : Int) := by
  unfold digV
  have := hexV_lt16 h
  unfold isHex at h
  unfold hexV
  simp only [Bool.or_eq_true, Bool.and_eq_true, decide_eq_true_eq] at h
  rcases h with h | h
  · first | (rw [if_pos h, if_pos h]; omega) | (split <;> split <;> omega)
  · first | (rw [if_neg (by omega), if_pos h, if_neg (by omega)]; omega) | (split <;> split <;> omega)
def MvF (M l : List UInt8) (w wr : World) (out i : Value) : Prop := ∃ (k : Nat) (S : List UInt8), k ≤ 10 ∧ out = .string (bs S) ∧ S.length ≤ 10 ∧ Hid (applyP (mulD 1) M (l.take k) = S) ∧ i = .int .i64 (k : Int) ∧ Aside (Below w.heap.size w wr)
set_option maxRecDepth 100000 in
set_option maxHeartbeats 1000000 in
theorem movedF_any (key salt l : List UInt8) (hk : key.length ≤ 1000000000) (hs : salt.length ≤ 1000000000) (hl : l.length = 10) (hd : dgs l) (w : World) : Calls Tryz.prog 21 #[.string (bs key), .string (bs salt), .string (bs l), .int .i64 1] w fun e w' => e = .returned (.string (bs (applyP fwdD (maskP key salt) l))) ∧ Below w.heap.size w w' := by
  have hsz : (bs l).size = l.length := bs_size l
  have HD := hide hd
  have hj := join_len [maskT, key, salt] (fun x hx => by
    simp only [List.mem_cons, List.not_mem_nil, or_false] at hx
    rcases hx with rfl | rfl | rfl
    · decide
    · omega
    · omega)
  have HJ : Hid ((joinD [maskT, key, salt]).length ≤ 140737488355328) := by
    show _ ≤ _
    refine Nat.le_trans hj ?_
    simp only [List.map_cons, List.map_nil, List.sum_cons, List.sum_nil, List.length_cons, List.length_nil]
    rw [show maskT.length = 4 from rfl]
    omega
  have HL : Hid (lenS [maskT, key, salt] ≤ 100000000000) := by
    show _ ≤ _
    first
    | (simp only [lenS, List.map_cons, List.map_nil, List.sum_cons, List.sum_nil]; rw [show maskT.length = 4 from rfl]; omega)
    | (unfold lenS; simp; rw [show maskT.length = 4 from rfl]; omega)
  have HB := hide (below_one w (.cells #[.string ⟨#[109, 97, 115, 107]⟩, .string (bs key), .string (bs salt)] 9))
  have HR := hide (rows_newS w 9 [maskT, key, salt] #[.string ⟨#[109, 97, 115, 107]⟩, .string (bs key), .string (bs salt)] rfl 3 rfl)
  have CL := fun w' => rList_any [maskT, key, salt] (by show 3 ≤ _; decide) HL.out HJ.out (.slice (some ⟨w.heap.size, 0, none⟩) 3 3) w'
  have HML := hide (maskP_len key salt)
  have HMX := hide (maskP_hex key salt)
  have HMV : Hid (listD [maskT, key, salt] = maskP key salt) := rfl
  rw [HMV.out] at CL
  generalize maskP key salt = M at *
  clear hd hj
  go_enter Tryz.func21, Tryz.ntmps21
  go_wp2_with fail
  refine (CL _ HR.out).mono ?_
  rintro e w1 ⟨rfl, hb⟩
  have HB1 := hide (below_to HB.out (Nat.le_refl _) hb)
  have hszM : (bs M).size = M.length := bs_size M
  clear hb CL HR HJ HL HB HMV
  go_wp2_with fail
  go_loopw [10, 11, 12] (fun out i _ wr => MvF M l w1 wr out i) (fun _ i _ _ => 10 - (intOf i).toNat)
  case atStart => exact ⟨0, [], by omega, rfl, by simp, by show _ = _; cases M <;> rfl, rfl, Below.refl _ _⟩
  case round =>
    obtain ⟨k, S, hk, rfl, hS, HS, rfl, hB⟩ := hrel
    have HBr : Hid (Below w1.heap.size w1 wr) := hB
    clear hB
    have hz : (bs S).size = S.length := bs_size S
    by_cases h1 : k < l.length
    · have e1 : decide ((k : Int) < (l.length : Int)) = true := decide_eq_true (by omega)
      obtain ⟨c, hc⟩ : ∃ c, l[k]? = some c := ⟨_, List.getElem?_eq_getElem h1⟩
      obtain ⟨m, hm⟩ : ∃ m, M[k]? = some m := ⟨_, List.getElem?_eq_getElem (by have := HML.out; omega)⟩
      have ci := index_bs l k c hc
      have mi := index_bs M k m hm
      have hc9 := (isDg_iff c).1 (HD.out c (List.mem_of_getElem? hc))
      have hx := HMX.out m (List.mem_of_getElem? hm)
      obtain ⟨U, hU, g, u0, rfl, hgu, hi⟩ := cls wr
      have CD := cls_call hgu hi (fun w _ => (rDigit_any m w).mono fun e w' h => ⟨h.1, by rw [h.2]; exact Below.refl _ _⟩)
      rw [digV_hexV hx] at CD
      have HGU := hide hgu
      have HHI := hide hi
      clear hgu hi
      have hh := hexV_lt16 hx
      have HN := hide (applyP_take (f := mulD 1) M l k m c hm hc)
      rw [HS.out] at HN
      obtain ⟨d, hdd⟩ : ∃ d, mulD 1 (c.toNat - 48) (hexV m) = d := ⟨_, rfl⟩
      have hd10 : d < 10 := by rw [← hdd]; exact mul_lt _ _ _
      rw [hdd] at HN
      unfold mulD at hdd
      have xx := decS_ext d hd10
      have hz1 : (bs [dgc d]).size = 1 := rfl
      generalize hexV m = h at *
      generalize c.toNat = n at *
      have t1 : ((n : Int) - 48 + 1 * (h : Int)).tmod 10 = (d : Int) := by rw [Int.tmod_eq_emod_of_nonneg (by omega)]; omega
      have t2 : ((n : Int) - 48 + (h : Int)).tmod 10 = (d : Int) := by rw [Int.tmod_eq_emod_of_nonneg (by omega)]; omega
      have hl2 : (S ++ [dgc d]).length ≤ 10 := by
        have := congrArg List.length HN.out
        rw [applyP_len _ _ _ (by have := HML.out; rw [List.length_take]; omega), List.length_take] at this
        have e : (S ++ [dgC d]).length = (S ++ [dgc d]).length := rfl
        omega
      clear hc hm hx hdd
      go_wp2_with fail
      refine wp_region_class g (by kernel_rfl) (by kernel_rfl) (HHI.out _ (HGU.out _).drew) ?_
      repeat (go_big_quiet_step (with_reducible exact CD _))
      refine wpQuiet_nil ?_
      intro w5 hw5
      obtain ⟨u, rfl⟩ := hw5
      go_wp2_with fail
      refine ⟨⟨k + 1, S ++ [dgc d], by omega, by rw [← bs_app], hl2, HN.out, by go_num, below_to HBr.out (Nat.le_refl _) (HGU.out _)⟩, ?_⟩
      simp [intOf]; omega
    · obtain rfl : k = 10 := by omega
      have e1 : decide ((10 : Int) < (l.length : Int)) = false := decide_eq_false (by omega)
      have HF : Hid (S = applyP fwdD M l) := by
        show _ = _
        rw [← HS.out, List.take_of_length_le (by omega)]
        exact applyP_same (fun d m h => mul_one_fwd d m) M l HMX.out
      go_wp2_with fail
      go_ret
      exact ⟨ret_str' (by rw [HF.out]), below_to HB1.out (Nat.le_refl _) HBr.out⟩
def MvB (M l : List UInt8) (w wr : World) (out i : Value) : Prop := ∃ (k : Nat) (S : List UInt8), k ≤ 10 ∧ out = .string (bs S) ∧ S.length ≤ 10 ∧ Hid (applyP (mulD 9) M (l.take k) = S) ∧ i = .int .i64 (k : Int) ∧ Aside (Below w.heap.size w wr)
set_option maxRecDepth 100000 in
set_option maxHeartbeats 1000000 in
theorem movedB_any (key salt l : List UInt8) (hk : key.length ≤ 1000000000) (hs : salt.length ≤ 1000000000) (hl : l.length = 10) (hd : dgs l) (w : World) : Calls Tryz.prog 21 #[.string (bs key), .string (bs salt), .string (bs l), .int .i64 9] w fun e w' => e = .returned (.string (bs (applyP bwdD (maskP key salt) l))) ∧ Below w.heap.size w w' := by
  have hsz : (bs l).size = l.length := bs_size l
  have HD := hide hd
  have hj := join_len [maskT, key, salt] (fun x hx => by
    simp only [List.mem_cons, List.not_mem_nil, or_false] at hx
    rcases hx with rfl | rfl | rfl
    · decide
    · omega
    · omega)
  have HJ : Hid ((joinD [maskT, key, salt]).length ≤ 140737488355328) := by
    show _ ≤ _
    refine Nat.le_trans hj ?_
    simp only [List.map_cons, List.map_nil, List.sum_cons, List.sum_nil, List.length_cons, List.length_nil]
    rw [show maskT.length = 4 from rfl]
    omega
  have HL : Hid (lenS [maskT, key, salt] ≤ 100000000000) := by
    show _ ≤ _
    first
    | (simp only [lenS, List.map_cons, List.map_nil, List.sum_cons, List.sum_nil]; rw [show maskT.length = 4 from rfl]; omega)
    | (unfold lenS; simp; rw [show maskT.length = 4 from rfl]; omega)
  have HB := hide (below_one w (.cells #[.string ⟨#[109, 97, 115, 107]⟩, .string (bs key), .string (bs salt)] 9))
  have HR := hide (rows_newS w 9 [maskT, key, salt] #[.string ⟨#[109, 97, 115, 107]⟩, .string (bs key), .string (bs salt)] rfl 3 rfl)
  have CL := fun w' => rList_any [maskT, key, salt] (by show 3 ≤ _; decide) HL.out HJ.out (.slice (some ⟨w.heap.size, 0, none⟩) 3 3) w'
  have HML := hide (maskP_len key salt)
  have HMX := hide (maskP_hex key salt)
  have HMV : Hid (listD [maskT, key, salt] = maskP key salt) := rfl
  rw [HMV.out] at CL
  generalize maskP key salt = M at *
  clear hd hj
  go_enter Tryz.func21, Tryz.ntmps21
  go_wp2_with fail
  refine (CL _ HR.out).mono ?_
  rintro e w1 ⟨rfl, hb⟩
  have HB1 := hide (below_to HB.out (Nat.le_refl _) hb)
  have hszM : (bs M).size = M.length := bs_size M
  clear hb CL HR HJ HL HB HMV
  go_wp2_with fail
  go_loopw [10, 11, 12] (fun out i _ wr => MvB M l w1 wr out i) (fun _ i _ _ => 10 - (intOf i).toNat)
  case atStart => exact ⟨0, [], by omega, rfl, by simp, by show _ = _; cases M <;> rfl, rfl, Below.refl _ _⟩
  case round =>
    obtain ⟨k, S, hk, rfl, hS, HS, rfl, hB⟩ := hrel
    have HBr : Hid (Below w1.heap.size w1 wr) := hB
    clear hB
    have hz : (bs S).size = S.length := bs_size S
    by_cases h1 : k < l.length
    · have e1 : decide ((k : Int) < (l.length : Int)) = true := decide_eq_true (by omega)
      obtain ⟨c, hc⟩ : ∃ c, l[k]? = some c := ⟨_, List.getElem?_eq_getElem h1⟩
      obtain ⟨m, hm⟩ : ∃ m, M[k]? = some m := ⟨_, List.getElem?_eq_getElem (by have := HML.out; omega)⟩
      have ci := index_bs l k c hc
      have mi := index_bs M k m hm
      have hc9 := (isDg_iff c).1 (HD.out c (List.mem_of_getElem? hc))
      have hx := HMX.out m (List.mem_of_getElem? hm)
      obtain ⟨U, hU, g, u0, rfl, hgu, hi⟩ := cls wr
      have CD := cls_call hgu hi (fun w _ => (rDigit_any m w).mono fun e w' h => ⟨h.1, by rw [h.2]; exact Below.refl _ _⟩)
      rw [digV_hexV hx] at CD
      have HGU := hide hgu
      have HHI := hide hi
      clear hgu hi
      have hh := hexV_lt16 hx
      have HN := hide (applyP_take (f := mulD 9) M l k m c hm hc)
      rw [HS.out] at HN
      obtain ⟨d, hdd⟩ : ∃ d, mulD 9 (c.toNat - 48) (hexV m) = d := ⟨_, rfl⟩
      have hd10 : d < 10 := by rw [← hdd]; exact mul_lt _ _ _
      rw [hdd] at HN
      unfold mulD at hdd
      have xx := decS_ext d hd10
      have hz1 : (bs [dgc d]).size = 1 := rfl
      generalize hexV m = h at *
      generalize c.toNat = n at *
      have t1 : ((n : Int) - 48 + 9 * (h : Int)).tmod 10 = (d : Int) := by rw [Int.tmod_eq_emod_of_nonneg (by omega)]; omega
      have hl2 : (S ++ [dgc d]).length ≤ 10 := by
        have := congrArg List.length HN.out
        rw [applyP_len _ _ _ (by have := HML.out; rw [List.length_take]; omega), List.length_take] at this
        have e : (S ++ [dgC d]).length = (S ++ [dgc d]).length := rfl
        omega
      clear hc hm hx hdd
      go_wp2_with fail
      refine wp_region_class g (by kernel_rfl) (by kernel_rfl) (HHI.out _ (HGU.out _).drew) ?_
      repeat (go_big_quiet_step (with_reducible exact CD _))
      refine wpQuiet_nil ?_
      intro w5 hw5
      obtain ⟨u, rfl⟩ := hw5
      go_wp2_with fail
      refine ⟨⟨k + 1, S ++ [dgc d], by omega, by rw [← bs_app], hl2, HN.out, by go_num, below_to HBr.out (Nat.le_refl _) (HGU.out _)⟩, ?_⟩
      simp [intOf]; omega
    · obtain rfl : k = 10 := by omega
      have e1 : decide ((10 : Int) < (l.length : Int)) = false := decide_eq_false (by omega)
      have HF : Hid (S = applyP bwdD M l) := by
        show _ = _
        rw [← HS.out, List.take_of_length_le (by omega)]
        exact applyP_same (fun d m h => mul_nine_bwd d m h) M l HMX.out
      go_wp2_with fail
      go_ret
      exact ⟨ret_str' (by rw [HF.out]), below_to HB1.out (Nat.le_refl _) HBr.out⟩
end Go.Proofs.YtdgbnplieaaokaaGreatDoor
