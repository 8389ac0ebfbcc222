/- Several texts as one, in build order. -/
import Derived.Test.YtfhanbiifjiklaaGreatDoorMD
import Derived.Test.YtfhanbiifjiklaaGreatDoorMC
/- Walks of the reference of layer 2: links. -/
set_option linter.unusedVariables false
set_option linter.unusedSimpArgs false
namespace Go.Proofs.YtfhanbiifjiklaaGreatDoor
open Go.RowKit

/-- a link's length -/
def lonF : Nat → Nat → Nat → Bool → Nat
  | 0, _, _, _ => 0
  | f + 1, n, m, wh => if m = n then (if wh then 0 else 1) else if m ≤ halfN n then lonF f (halfN n) m wh + 1 else lonF f (n - halfN n) (m - halfN n) false + 1
theorem lonF_eq (f n : Nat) (wh : Bool) : lonF (f + 1) n n wh = if wh then 0 else 1 := by unfold lonF; rw [if_pos rfl]
theorem lonF_le {f n m : Nat} {wh : Bool} (h : m ≠ n) (hm : m ≤ halfN n) : lonF (f + 1) n m wh = lonF f (halfN n) m wh + 1 := by
  show (if m = n then (if wh then 0 else 1) else if m ≤ halfN n then lonF f (halfN n) m wh + 1 else lonF f (n - halfN n) (m - halfN n) false + 1) = _
  rw [if_neg h, if_pos hm]
theorem lonF_gt {f n m : Nat} {wh : Bool} (h : m ≠ n) (hm : ¬ m ≤ halfN n) : lonF (f + 1) n m wh = lonF f (n - halfN n) (m - halfN n) false + 1 := by
  show (if m = n then (if wh then 0 else 1) else if m ≤ halfN n then lonF f (halfN n) m wh + 1 else lonF f (n - halfN n) (m - halfN n) false + 1) = _
  rw [if_neg h, if_neg hm]
theorem lonF_top : ∀ (f n m : Nat) (wh : Bool), lonF f n m wh ≤ f
  | 0, n, m, wh => Nat.le_refl _
  | f + 1, n, m, wh => by
    unfold lonF
    split
    · split <;> omega
    · split
      · have := lonF_top f (halfN n) m wh; omega
      · have := lonF_top f (n - halfN n) (m - halfN n) false; omega
theorem bothG_rest (old : List UInt8) : ∀ (f n m : Nat) (wh : Bool) (st : List (List UInt8)) (sh : Bool), 1 ≤ m → m ≤ n → n ≤ f → (∀ d ∈ st, d ≠ []) → (bothG old f n m wh st sh).2 = (st.drop (lonF f n m wh), sh || decide (st.length < lonF f n m wh)) := by
  intro f
  induction f with
  | zero => intro n m wh st sh h1 h2 h3; omega
  | succ f ih =>
    intro n m wh st sh h1 h2 h3 hd
    have tl : ∀ d ∈ st.tail, d ≠ [] := fun d h => hd d (List.mem_of_mem_tail h)
    have fin : ∀ L, (st.tail.drop L, nextS st sh || decide (st.tail.length < L)) = (st.drop (L + 1), sh || decide (st.length < L + 1)) := fun L => by
      match st, hd with
      | [], _ => simp [nextS]
      | x :: st, hd =>
        have hx : x ≠ [] := hd x (by simp)
        cases x with
        | nil => exact absurd rfl hx
        | cons y x =>
          refine Prod.ext rfl ?_
          show (sh || false || decide (st.length < L)) = (sh || decide (st.length + 1 < L + 1))
          rw [Bool.or_false]
          congr 1
          exact decide_eq_decide.2 (by omega)
    by_cases hn : m = n
    · subst hn
      rw [bothG_eq, lonF_eq]
      cases wh
      · have := fin 0
        simp only [List.drop_zero, Nat.not_lt_zero, decide_false, Bool.or_false, Nat.zero_add] at this
        exact this
      · simp
    · obtain ⟨a, b⟩ := half_lt (n := n) (by omega)
      by_cases hm : m ≤ halfN n
      · rw [bothG_le old hn hm, lonF_le hn hm]
        show (bothG old f (halfN n) m wh st.tail (nextS st sh)).2 = _
        rw [ih _ _ _ _ _ h1 hm (by omega) tl]
        exact fin _
      · rw [bothG_gt old hn hm, lonF_gt hn hm]
        show (bothG old f (n - halfN n) (m - halfN n) false st.tail (nextS st sh)).2 = _
        rw [ih _ _ _ _ _ (by omega) (by omega) (by omega) tl]
        exact fin _
theorem bothG_small {old : List UInt8} (ho : old.length ≤ 1000000) : ∀ (f n m : Nat) (wh : Bool) (st : List (List UInt8)) (sh : Bool), (∀ d ∈ st, d.length ≤ 1000000) → (bothG old f n m wh st sh).1.1.length ≤ 1000000 ∧ (bothG old f n m wh st sh).1.2.length ≤ 1000000
  | 0, n, m, wh, st, sh, hd => ⟨ho, ho⟩
  | f + 1, n, m, wh, st, sh, hd => by
    have ht : ∀ d ∈ st.tail, d.length ≤ 1000000 := fun d h => hd d (List.mem_of_mem_tail h)
    have hh : (st.headD []).length ≤ 1000000 := by cases st with
      | nil => simp
      | cons x l => exact hd x (by simp)
    by_cases hn : m = n
    · subst hn
      rw [bothG_eq]
      cases wh
      · exact ⟨hh, hh⟩
      · exact ⟨ho, ho⟩
    · by_cases hm : m ≤ halfN n
      · rw [bothG_le old hn hm]
        exact ⟨(bothG_small ho f _ _ _ _ _ ht).1, by show (nodeD _ _).length ≤ _; rw [nodeD_len]; decide⟩
      · rw [bothG_gt old hn hm]
        exact ⟨by show (nodeD _ _).length ≤ _; rw [nodeD_len]; decide, by show (nodeD _ _).length ≤ _; rw [nodeD_len]; decide⟩
def RLonOk (f : Nat) : Prop := ∀ (n m : Nat) (wh : Bool) (w : World), 1 ≤ m → m ≤ n → n ≤ f → f ≤ 1000000000 → Calls Tryz.prog 79 #[.int .i64 (n : Int), .int .i64 (m : Int), .bool wh] w fun e w' => e = .returned (.int .i64 ((lonF f n m wh : Nat) : Int)) ∧ w' = w
set_option maxRecDepth 100000 in
set_option maxHeartbeats 1000000 in
theorem rlon_step (f : Nat) (ih : RLonOk f) : RLonOk (f + 1) := by
  intro n m wh w h1 h2 h3 h4
  by_cases hn : m = n
  · subst hn
    rw [lonF_eq]
    have e0 : ((m : Int) == (m : Int)) = true := by simp
    clear ih
    cases wh
    all_goals
      go_enter Tryz.func79, Tryz.ntmps79
      go_wp2_with fail
      go_ret
      exact ⟨rfl, rfl⟩
  · obtain ⟨a, b⟩ := half_lt (n := n) (by omega)
    have CH := fun w => rHalf_any n (by omega) w
    have e0 : ((m : Int) == (n : Int)) = false := by rw [beq_eq_false_iff_ne]; omega
    have e0' : (m == n) = false := by rw [beq_eq_false_iff_ne]; exact hn
    by_cases hm : m ≤ halfN n
    · have HV := hide (lonF_le (f := f) (wh := wh) hn hm)
      have CR := ih (halfN n) m wh w h1 hm (by omega) (by omega)
      have hb := lonF_top f (halfN n) m wh
      generalize lonF f (halfN n) m wh = L at *
      generalize halfN n = k at *
      have e1 : decide ((m : Int) ≤ (k : Int)) = true := decide_eq_true (by omega)
      have e2 : decide (m ≤ k) = true := decide_eq_true (by omega)
      clear ih
      go_enter Tryz.func79, Tryz.ntmps79
      go_wp2_with (first | ((with_reducible refine (CH _).mono ?_); rintro e w' ⟨rfl, rfl⟩) | ((with_reducible refine CR.mono ?_); rintro e w' ⟨rfl, rfl⟩))
      go_ret
      exact ⟨by rw [HV.out]; simp [Int.add_comm], rfl⟩
    · have HV := hide (lonF_gt (f := f) (wh := wh) hn hm)
      have CR := ih (n - halfN n) (m - halfN n) false w (by omega) (by omega) (by omega) (by omega)
      have hb := lonF_top f (n - halfN n) (m - halfN n) false
      rw [show ((n - halfN n : Nat) : Int) = (n : Int) - (halfN n : Int) by omega, show ((m - halfN n : Nat) : Int) = (m : Int) - (halfN n : Int) by omega] at CR
      generalize lonF f (n - halfN n) (m - halfN n) false = L at *
      generalize halfN n = k at *
      have e1 : decide ((m : Int) ≤ (k : Int)) = false := decide_eq_false (by omega)
      have e2 : decide (m ≤ k) = false := decide_eq_false (by omega)
      clear ih
      go_enter Tryz.func79, Tryz.ntmps79
      go_wp2_with (first | ((with_reducible refine (CH _).mono ?_); rintro e w' ⟨rfl, rfl⟩) | ((with_reducible refine CR.mono ?_); rintro e w' ⟨rfl, rfl⟩))
      go_ret
      exact ⟨by rw [HV.out]; simp [Int.add_comm], rfl⟩
theorem rlon_any : ∀ f, RLonOk f
  | 0 => fun n m wh w h1 h2 h3 => by omega
  | f + 1 => rlon_step f (rlon_any f)
def RBoOk (f : Nat) : Prop := ∀ (n m : Nat) (wh : Bool) (d : List UInt8) (p : List (List UInt8)) (v : Value) (w : World), 1 ≤ m → m ≤ n → n ≤ f → f ≤ 1000000000 → p.length = lonF f n m wh → d.length ≤ 1000000 → (∀ x ∈ p, x.length ≤ 1000000) → TextsAt w v p →
  Calls Tryz.prog 80 #[.int .i64 (n : Int), .int .i64 (m : Int), .bool wh, .string (bs d), v] w fun e w' => e = .returned (.tuple #[.string (bs (bothG d f n m wh p.reverse false).1.1), .string (bs (bothG d f n m wh p.reverse false).1.2)]) ∧ Below w.heap.size w w'
set_option maxRecDepth 100000 in
set_option maxHeartbeats 2000000 in
theorem rbo_step (f : Nat) (ih : RBoOk f) : RBoOk (f + 1) := by
  intro n m wh d p v w h1 h2 h3 h4 hp hd hx hv
  by_cases hn : m = n
  · subst hn
    rw [lonF_eq] at hp
    have HV := hide (bothG_eq d f m wh p.reverse false)
    have e0 : ((m : Int) == (m : Int)) = true := by simp
    obtain ⟨A, c, rfl, hc⟩ := hv.slice
    cases wh with
    | true =>
      clear ih hv hx hp
      go_enter Tryz.func80, Tryz.ntmps80
      go_wp2_with fail
      go_ret2
      exact ⟨by rw [HV.out]; rfl, Below.refl _ _⟩
    | false =>
      obtain ⟨x, rfl⟩ : ∃ x, p = [x] := by
        match p, hp with
        | [x], _ => exact ⟨x, rfl⟩
      obtain ⟨ad, rfl, ha, c0⟩ := hv.at_ (k := 0) (x := x) rfl
      rw [show ad.add 0 = ad from rfl] at c0
      clear ih hv hx hp
      go_enter Tryz.func80, Tryz.ntmps80
      go_wp2_with fail
      go_quiet (fail)
      go_wp2_with fail
      go_ret2
      exact ⟨by rw [HV.out]; rfl, below_drewN (Below.refl _ _) _⟩
  · obtain ⟨a, b⟩ := half_lt (n := n) (by omega)
    have CH := fun w => rHalf_any n (by omega) w
    have e0 : ((m : Int) == (n : Int)) = false := by rw [beq_eq_false_iff_ne]; omega
    have e0' : (m == n) = false := by rw [beq_eq_false_iff_ne]; exact hn
    by_cases hm : m ≤ halfN n
    · rw [lonF_le hn hm] at hp
      obtain ⟨q, x, rfl, hq⟩ := last_of hp
      have hql : q.length ≤ f := by have := lonF_top f (halfN n) m wh; omega
      rw [List.reverse_append, List.reverse_singleton, List.singleton_append]
      have HV := hide (congrArg Prod.fst (bothG_le d (f := f) hn hm wh (x :: q.reverse) false))
      simp only [List.tail_cons, List.headD_cons] at HV
      rw [bothG_fst d f (halfN n) m wh q.reverse _ false] at HV
      obtain ⟨A, c, rfl, hc⟩ := hv.slice
      have HT : TextsAt w (.slice A q.length c) q := by have := hv.take (k := q.length) (by simp) c (by simp at hc; omega); rwa [List.take_left' rfl] at this
      obtain ⟨ad, rfl, ha, c0⟩ := hv.at_ (k := q.length) (x := x) (by simp)
      have CR := ih (halfN n) m wh d q _ w h1 hm (by omega) (by omega) (by omega) hd (fun y hy => hx y (by simp [hy])) HT
      have hub := bothG_small hd f (halfN n) m wh q.reverse false (fun y hy => hx y (by simp at hy; simp [hy]))
      have hxl := hx x (by simp)
      generalize (bothG d f (halfN n) m wh q.reverse false).1 = R at *
      have CN := fun w' => rnode_any R.2 x (by omega) (by omega) w'
      generalize halfN n = k at *
      have e1 : decide ((m : Int) ≤ (k : Int)) = true := decide_eq_true (by omega)
      have e2 : decide (m ≤ k) = true := decide_eq_true (by omega)
      have i0 : (0 : Int) ≤ (q.length : Int) := by omega
      have i1 : (q.length : Int) ≤ (c : Int) := by simp at hc; omega
      have hlen : (q ++ [x]).length = q.length + 1 := by simp
      rw [hlen] at *
      clear ih hv HT hx hp hq
      go_enter Tryz.func80, Tryz.ntmps80
      go_wp2_with (first | ((with_reducible refine (CH _).mono ?_); rintro e w' ⟨rfl, rfl⟩) | ((with_reducible refine CR.mono ?_); rintro e w2 ⟨rfl, hb2⟩; have HB2 := hide hb2; clear hb2) | ((with_reducible refine (CN _).mono ?_); rintro e w3 ⟨rfl, hb3⟩; have HB3 := hide (below_to HB2.out (Nat.le_refl _) hb3); clear hb3 HB2))
      go_ret2
      exact ⟨by rw [HV.out]; rfl, HB3.out⟩
    · rw [lonF_gt hn hm] at hp
      obtain ⟨q, x, rfl, hq⟩ := last_of hp
      have hql : q.length ≤ f := by have := lonF_top f (n - halfN n) (m - halfN n) false; omega
      rw [List.reverse_append, List.reverse_singleton, List.singleton_append]
      have HV := hide (congrArg Prod.fst (bothG_gt d (f := f) hn hm wh (x :: q.reverse) false))
      simp only [List.tail_cons, List.headD_cons] at HV
      rw [bothG_fst d f (n - halfN n) (m - halfN n) false q.reverse _ false] at HV
      obtain ⟨A, c, rfl, hc⟩ := hv.slice
      have HT : TextsAt w (.slice A q.length c) q := by have := hv.take (k := q.length) (by simp) c (by simp at hc; omega); rwa [List.take_left' rfl] at this
      obtain ⟨ad, rfl, ha, c0⟩ := hv.at_ (k := q.length) (x := x) (by simp)
      have CR := ih (n - halfN n) (m - halfN n) false d q _ w (by omega) (by omega) (by omega) (by omega) (by omega) hd (fun y hy => hx y (by simp [hy])) HT
      have hub := bothG_small hd f (n - halfN n) (m - halfN n) false q.reverse false (fun y hy => hx y (by simp at hy; simp [hy]))
      have hxl := hx x (by simp)
      rw [show ((n - halfN n : Nat) : Int) = (n : Int) - (halfN n : Int) by omega, show ((m - halfN n : Nat) : Int) = (m : Int) - (halfN n : Int) by omega] at CR
      generalize (bothG d f (n - halfN n) (m - halfN n) false q.reverse false).1 = R at *
      have CN := fun w' => rnode_any x R.1 (by omega) (by omega) w'
      have CM := fun w' => rnode_any x R.2 (by omega) (by omega) w'
      generalize halfN n = k at *
      have e1 : decide ((m : Int) ≤ (k : Int)) = false := decide_eq_false (by omega)
      have e2 : decide (m ≤ k) = false := decide_eq_false (by omega)
      have i0 : (0 : Int) ≤ (q.length : Int) := by omega
      have i1 : (q.length : Int) ≤ (c : Int) := by simp at hc; omega
      have hlen : (q ++ [x]).length = q.length + 1 := by simp
      rw [hlen] at *
      clear ih hv HT hx hp hq
      go_enter Tryz.func80, Tryz.ntmps80
      go_wp2_with (first | ((with_reducible refine (CH _).mono ?_); rintro e w' ⟨rfl, rfl⟩) | ((with_reducible refine CR.mono ?_); rintro e w2 ⟨rfl, hb2⟩; have HB2 := hide hb2; clear hb2) | ((with_reducible refine (CN _).mono ?_); rintro e w3 ⟨rfl, hb3⟩; have HB3 := hide (below_to HB2.out (Nat.le_refl _) hb3); clear hb3 HB2) | ((with_reducible refine (CM _).mono ?_); rintro e w4 ⟨rfl, hb4⟩; have HB4 := hide (below_to HB3.out (Nat.le_refl _) hb4); clear hb4))
      go_ret2
      exact ⟨by rw [HV.out]; rfl, HB4.out⟩
theorem rbo_any : ∀ f, RBoOk f
  | 0 => fun n m wh d p v w h1 h2 h3 => by omega
  | f + 1 => rbo_step f (rbo_any f)
theorem boV_ref {old root : List UInt8} {M N : Nat} {link : List (List UInt8)} (h1 : 1 ≤ M) (h2 : M ≤ N) (hp : properT link = true) : boV old M N root link = (decide (link.length = lonF N N M true) && (decide ((bothG old N N M true link.reverse false).1.1 = old) && decide ((bothG old N N M true link.reverse false).1.2 = root))) := by
  unfold boV
  have hr := bothG_rest old N N M true link.reverse false h1 h2 (Nat.le_refl _) (fun d hd => proper_ne hp d (by simpa using hd))
  rw [hr]
  simp only [Bool.false_or, List.length_reverse]
  have : (!decide (link.length < lonF N N M true) && (link.reverse.drop (lonF N N M true)).isEmpty) = decide (link.length = lonF N N M true) := by
    rw [Bool.eq_iff_iff]
    simp only [Bool.and_eq_true, Bool.not_eq_true', decide_eq_false_iff_not, List.isEmpty_iff, List.drop_eq_nil_iff, List.length_reverse, decide_eq_true_eq]
    omega
  rw [this]
  cases decide ((bothG old N N M true link.reverse false).1.1 = old) <;> cases decide ((bothG old N N M true link.reverse false).1.2 = root) <;> simp
set_option maxRecDepth 100000 in
set_option maxHeartbeats 4000000 in
theorem rExtends_any (old : List UInt8) (m : Int) (root : List UInt8) (n : Int) (link : List (List UInt8)) (ho : old.length ≤ 100000) (hr : root.length ≤ 100000) (hp : link.length ≤ 1000000000) (hx : ∀ x ∈ link, x.length ≤ 1000000) (v : Value) (w : World) (hv : TextsAt w v link) :
    Calls Tryz.prog 39 #[.string (bs old), .int .i64 m, .string (bs root), .int .i64 n, v] w fun e w' => e = .returned (.bool (extV old m root n link)) ∧ Below w.heap.size w w' := by
  obtain ⟨A, c, rfl, hc⟩ := hv.slice
  have RWB := below_one w (.cells #[.string (bs old), .string (bs root)] 9)
  by_cases hA : 0 ≤ m ∧ m ≤ n ∧ n ≤ 1000000
  · obtain ⟨N, rfl⟩ : ∃ N : Nat, n = N := ⟨n.toNat, by omega⟩
    obtain ⟨M, rfl⟩ : ∃ M : Nat, m = M := ⟨m.toNat, by omega⟩
    obtain ⟨a1, a2, a3⟩ := hA
    have CD := rdigests_any [old, root] (by simp) (fun x h => by simp only [List.mem_cons, List.not_mem_nil, or_false] at h; rcases h with rfl | rfl <;> omega) (.slice (some ⟨w.heap.size, 0, none⟩) 2 2) (w.alloc (.cells #[.string (bs old), .string (bs root)] 9)) (TextsAt.of_blk (ls := [old, root]) (Blk.new w 9 #[.string (bs old), .string (bs root)]) rfl)
    have CE := fun (w' : World) (hb : Below w.heap.size w w') => rdigests_any link (by omega) (fun x h => Nat.le_trans (hx x h) (by decide)) _ w' (hv.to hb)
    have CE := CE _ RWB
    have e1 : decide ((M : Int) < 0) = false := decide_eq_false (by omega)
    have e2 : decide ((N : Int) < (M : Int)) = false := decide_eq_false (by omega)
    have e2' : decide (N < M) = false := decide_eq_false (by omega)
    have e3 : decide ((1000000 : Int) < (N : Int)) = false := decide_eq_false (by omega)
    have e3' : decide (1000000 < N) = false := decide_eq_false (by omega)
    by_cases hd : properT [old, root] = true ∧ properT link = true
    · obtain ⟨d1, d2⟩ := hd
      rw [d1] at CD
      rw [d2] at CE
      have HC := hide (show 0 ≤ (M : Int) ∧ (M : Int) ≤ (N : Int) ∧ (N : Int) ≤ 1000000 ∧ properT link = true ∧ properT [old, root] = true from ⟨a1, a2, a3, d2, d1⟩)
      by_cases hm0 : M = 0
      · subst hm0
        have HV : Hid (extV old ((0 : Nat) : Int) root (N : Int) link = (decide (link.length = 0) && (decide (old = totalT []) && (decide (0 < (N : Int)) || decide (root = old))))) := by
          show _ = _
          unfold extV
          rw [if_pos HC.out, if_pos (show ((0 : Nat) : Int) = 0 from rfl)]
        have CT := fun w' : World => rEmpty_any w'
        have hE0 : totalT [] = listD [emptyT] := rfl
        rw [hE0] at HV
        have t1 : ((link.length : Int) == 0) = decide (link.length = 0) := by rw [Bool.eq_iff_iff]; simp
        have t1' : (link.length == 0) = decide (link.length = 0) := by rw [Bool.eq_iff_iff]; simp
        have t2 : ((bs old).toList == (bs (listD [emptyT])).toList) = decide (old = listD [emptyT]) := by rw [bs_toList, bs_toList, Bool.eq_iff_iff]; simp
        have t4 : ((bs root).toList == (bs old).toList) = decide (root = old) := by rw [bs_toList, bs_toList, Bool.eq_iff_iff]; simp
        have t3 : decide (0 < N) = decide (0 < (N : Int)) := decide_eq_decide.2 (by omega)
        have z0 : (((0 : Nat) : Int) == 0) = true := rfl
        clear hE0 HC hv hx d1 d2 a1 a2 a3
        generalize listD [emptyT] = E at *
        generalize decide (link.length = 0) = b1 at *
        generalize decide (old = E) = b2 at *
        generalize decide (0 < (N : Int)) = b3 at *
        generalize decide (root = old) = b4 at *
        cases b1
        rotate_left
        cases b2
        rotate_left
        cases b3
        cases b4
        rotate_left
        all_goals
          go_enter Tryz.func39, Tryz.ntmps39
          go_wp2_with (first | ((with_reducible refine CD.mono ?_); rintro e w3 ⟨rfl, e9⟩; subst e9) | ((with_reducible refine CE.mono ?_); rintro e w3 ⟨rfl, e9⟩; subst e9) | ((with_reducible refine (CT _).mono ?_); rintro e w4 ⟨rfl, hb4⟩))
          go_ret
          first
            | exact ⟨ret_bool (by rw [HV.out]; rfl), RWB⟩
            | exact ⟨ret_bool (by rw [HV.out]; rfl), below_to RWB (Nat.le_refl _) hb4⟩
      · have HV : Hid (extV old (M : Int) root (N : Int) link = boV old M N root link) := by
          show _ = _
          unfold extV
          rw [if_pos HC.out, if_neg (by omega), Int.toNat_natCast, Int.toNat_natCast]
        have HR := hide (boV_ref (old := old) (root := root) (M := M) (N := N) (by omega) (by omega) d2)
        have z0 : ((M : Int) == 0) = false := by rw [beq_eq_false_iff_ne]; omega
        have z1 : (M == 0) = false := by rw [beq_eq_false_iff_ne]; omega
        by_cases hmn : M = N
        · subst hmn
          have y0 : ((M : Int) == (M : Int)) = true := by simp
          have HR2 : Hid (boV old M M root link = (decide (link.length = 0) && decide (old = root))) := by
            show _ = _
            rw [HR.out]
            obtain ⟨f, rfl⟩ : ∃ f, M = f + 1 := ⟨M - 1, by omega⟩
            rw [lonF_eq, bothG_eq]
            simp
          have t1 : ((link.length : Int) == 0) = decide (link.length = 0) := by rw [Bool.eq_iff_iff]; simp
          have t1' : (link.length == 0) = decide (link.length = 0) := by rw [Bool.eq_iff_iff]; simp
          have t2 : ((bs old).toList == (bs root).toList) = decide (old = root) := by rw [bs_toList, bs_toList, Bool.eq_iff_iff]; simp
          clear HC hv hx d1 d2 a1 a2 a3 HR hm0
          generalize decide (link.length = 0) = b1 at *
          generalize decide (old = root) = b2 at *
          cases b1
          rotate_left
          cases b2
          rotate_left
          all_goals
            go_enter Tryz.func39, Tryz.ntmps39
            go_wp2_with (first | ((with_reducible refine CD.mono ?_); rintro e w3 ⟨rfl, e9⟩; subst e9) | ((with_reducible refine CE.mono ?_); rintro e w3 ⟨rfl, e9⟩; subst e9))
            go_ret
            exact ⟨ret_bool (by rw [HV.out, HR2.out]; rfl), RWB⟩
        · have y0 : ((M : Int) == (N : Int)) = false := by rw [beq_eq_false_iff_ne]; omega
          have y1 : (M == N) = false := by rw [beq_eq_false_iff_ne]; exact hmn
          have CL := fun w => rlon_any N N M true w (by omega) (by omega) (Nat.le_refl _) (by omega)
          have hll := lonF_top N N M true
          by_cases hlen : link.length = lonF N N M true
          · have CU := fun (w' : World) (hb : Below w.heap.size w w') => rbo_any N N M true old link _ w' (by omega) (by omega) (Nat.le_refl _) (by omega) hlen (by omega) hx (hv.to hb)
            have CU := CU _ RWB
            rw [decide_eq_true hlen, Bool.true_and] at HR
            have c4 : ((link.length : Int) != ((lonF N N M true : Nat) : Int)) = false := by rw [hlen]; simp
            have c4' : (link.length != lonF N N M true) = false := by rw [hlen]; simp
            generalize (bothG old N N M true link.reverse false).1 = r at *
            have er : ((bs r.1).toList == (bs old).toList) = decide (r.1 = old) := by rw [bs_toList, bs_toList, Bool.eq_iff_iff]; simp
            have er2 : ((bs r.2).toList == (bs root).toList) = decide (r.2 = root) := by rw [bs_toList, bs_toList, Bool.eq_iff_iff]; simp
            clear HC hv hx d1 d2 a1 a2 a3 hm0 hmn hlen
            generalize lonF N N M true = L at *
            generalize decide (r.1 = old) = b1 at *
            generalize decide (r.2 = root) = b2 at *
            cases b1
            rotate_left
            cases b2
            rotate_left
            all_goals
              go_enter Tryz.func39, Tryz.ntmps39
              go_wp2_with (first | ((with_reducible refine CD.mono ?_); rintro e w3 ⟨rfl, e9⟩; subst e9) | ((with_reducible refine CE.mono ?_); rintro e w3 ⟨rfl, e9⟩; subst e9) | ((with_reducible refine (CL _).mono ?_); rintro e w3 ⟨rfl, e9⟩; subst e9) | ((with_reducible refine CU.mono ?_); rintro e w4 ⟨rfl, hb4⟩))
              go_ret
              exact ⟨ret_bool (by rw [HV.out, HR.out]; rfl), below_to RWB (Nat.le_refl _) hb4⟩
          · rw [decide_eq_false hlen, Bool.false_and] at HR
            have c4 : ((link.length : Int) != ((lonF N N M true : Nat) : Int)) = true := by rw [bne_iff_ne]; omega
            have c4' : (link.length != lonF N N M true) = true := by rw [bne_iff_ne]; omega
            clear HC hv hx d1 d2 a1 a2 a3 hm0 hmn hlen
            generalize lonF N N M true = L at *
            go_enter Tryz.func39, Tryz.ntmps39
            go_wp2_with (first | ((with_reducible refine CD.mono ?_); rintro e w3 ⟨rfl, e9⟩; subst e9) | ((with_reducible refine CE.mono ?_); rintro e w3 ⟨rfl, e9⟩; subst e9) | ((with_reducible refine (CL _).mono ?_); rintro e w3 ⟨rfl, e9⟩; subst e9))
            go_ret
            exact ⟨ret_bool (by rw [HV.out, HR.out]), RWB⟩
    · have HV : Hid (extV old (M : Int) root (N : Int) link = false) := by
        show _ = _
        unfold extV
        rw [if_neg (fun h => hd ⟨h.2.2.2.2, h.2.2.2.1⟩)]
      have hh : (!properT [old, root] || !properT link) = true := by
        cases h1 : properT [old, root] <;> cases h2 : properT link <;> simp_all
      clear hd hv hx a1 a2 a3
      generalize properT [old, root] = b1 at *
      generalize properT link = b2 at *
      cases b1 <;> cases b2 <;> (try cases hh)
      all_goals
        go_enter Tryz.func39, Tryz.ntmps39
        go_wp2_with (first | ((with_reducible refine CD.mono ?_); rintro e w3 ⟨rfl, e9⟩; subst e9) | ((with_reducible refine CE.mono ?_); rintro e w3 ⟨rfl, e9⟩; subst e9))
        go_ret
        exact ⟨ret_bool (by rw [HV.out]), RWB⟩
  · have HV : Hid (extV old m root n link = false) := by
      show _ = _
      unfold extV
      rw [if_neg (fun h => hA ⟨h.1, h.2.1, h.2.2.1⟩)]
    have hh : (decide (m < 0) || (decide (n < m) || decide (1000000 < n))) = true := by simp only [Bool.or_eq_true, decide_eq_true_eq]; omega
    clear hA hv hx
    generalize c1 : decide (m < 0) = b1 at *
    generalize c2 : decide (n < m) = b2 at *
    generalize c3 : decide (1000000 < n) = b3 at *
    cases b1 <;> cases b2 <;> cases b3 <;> (try cases hh)
    all_goals
      go_enter Tryz.func39, Tryz.ntmps39
      go_wp2_with fail
      go_ret
      exact ⟨ret_bool (by rw [HV.out]), Below.refl _ _⟩
end Go.Proofs.YtfhanbiifjiklaaGreatDoor

/- Walks of package tree: Link; the plain law: Extends accepts it. -/
set_option linter.unusedVariables false
set_option linter.unusedSimpArgs false
namespace Go.Proofs.YtfhanbiifjiklaaGreatDoor
open Go.RowKit

/-- the digests beside the first m elements, the uppermost first -/
def linkF : Nat → List (List UInt8) → Nat → Bool → List (List UInt8)
  | 0, _, _, _ => []
  | f + 1, l, m, wh => if m = l.length then (if wh then [] else [totalT l]) else
    if m ≤ halfN l.length then totalT (l.drop (halfN l.length)) :: linkF f (l.take (halfN l.length)) m wh
    else totalT (l.take (halfN l.length)) :: linkF f (l.drop (halfN l.length)) (m - halfN l.length) false
theorem linkF_eq (f : Nat) (l : List (List UInt8)) (wh : Bool) : linkF (f + 1) l l.length wh = if wh then [] else [totalT l] := by unfold linkF; rw [if_pos rfl]
theorem linkF_le {f : Nat} {l : List (List UInt8)} {m : Nat} {wh : Bool} (h : m ≠ l.length) (hm : m ≤ halfN l.length) : linkF (f + 1) l m wh = totalT (l.drop (halfN l.length)) :: linkF f (l.take (halfN l.length)) m wh := by
  conv => lhs; unfold linkF
  rw [if_neg h, if_pos hm]
theorem linkF_gt {f : Nat} {l : List (List UInt8)} {m : Nat} {wh : Bool} (h : m ≠ l.length) (hm : ¬ m ≤ halfN l.length) : linkF (f + 1) l m wh = totalT (l.take (halfN l.length)) :: linkF f (l.drop (halfN l.length)) (m - halfN l.length) false := by
  conv => lhs; unfold linkF
  rw [if_neg h, if_neg hm]
def lkV (ls : List (List UInt8)) (m : Nat) : List (List UInt8) := if m = 0 then [] else (linkF ls.length ls m true).reverse
theorem Rev_any (acc : List (List UInt8)) (hal : acc.length ≤ 1000000000) (B : Nat) (v : Value) (W : World) (HO : OwnT W B v acc) : Calls Tryz.prog 85 #[v] W fun e w' => e = .returned (.tuple #[]) ∧ TextsAt w' v acc.reverse ∧ Below B W w' := by
  obtain ⟨A2, c2, rfl⟩ := own_sl4 HO
  cases hacc : acc with
  | nil =>
    rw [hacc] at HO
    have CR : Calls Tryz.prog 85 #[.slice A2 ([] : List (List UInt8)).length c2] W fun e w' => e = .returned (.tuple #[]) ∧ w' = W := Tryz.slices_Reverse_string_empty A2 c2 W
    refine CR.mono ?_
    rintro e w8 ⟨rfl, e9⟩
    subst e9
    exact ⟨rfl, TextsAt.of_own (B := B) HO, Below.refl _ _⟩
  | cons x r =>
    rw [← hacc]
    have hne : 0 < acc.length := by rw [hacc]; simp
    clear hacc
    obtain ⟨g, rfl, hgB, cur, hblk, hcap2, htake⟩ := own_blk4 HO hne
    have CR := Tryz.slices_Reverse_string_cells g 0 acc.length c2 (fun j => bs (acc.getD j [])) W (by omega) (fun j hj => by
      rw [Nat.zero_add]
      exact own_cell4 HO (by rw [List.getD_eq_getElem?_getD, List.getElem?_eq_getElem hj]; rfl)) (fun j hj => hblk.frozen _)
    refine CR.mono ?_
    rintro e w8 ⟨rfl, q, rfl⟩
    exact ⟨rfl, rev_texts HO q, below_setCells hgB _ _ _⟩
structure LkI (ls : List (List UInt8)) (m : Nat) (w : World) (t0 t6 : Value) (mk : Nat) (wh : Bool) (wr : World) (lk : List (List UInt8)) (f : Nat) (acc : List (List UInt8)) : Prop where
  at_ : TextsAt w t0 lk
  fit : ∀ x ∈ lk, x.length ≤ 100000000000
  path : acc ++ linkF f lk mk wh = linkF ls.length ls m true
  own : OwnT wr w.heap.size t6 acc
  below : Below w.heap.size w wr
def LinkR (ls : List (List UInt8)) (m : Nat) (w : World) (e : Ending) (w' : World) : Prop := ∃ v', e = .returned (.tuple #[v', .int .i64 0]) ∧ TextsAt w' v' (lkV ls m) ∧ Below w.heap.size w w'
set_option maxRecDepth 100000 in
set_option maxHeartbeats 2000000 in
theorem Link_any (ls : List (List UInt8)) (hl : ls.length ≤ 10000000) (hp : properT ls = true) (hx : ∀ x ∈ ls, x.length ≤ 100000000000) (m : Nat) (hm : m ≤ ls.length) (v : Value) (w : World) (hv : TextsAt w v ls) (hg : Glob w) :
    Calls Tryz.prog 41 #[v, .int .i64 (m : Int)] w (LinkR ls m w) := by
  have CP := tproper_any ls (by omega) hx v w hv
  rw [hp] at CP
  have HS0 := hide hv
  have HX0 := hide hx
  have HG := hide hg
  obtain ⟨A0, c0, rfl, _⟩ := hv.slice
  have q0 : decide ((m : Int) < 0) = false := decide_eq_false (by omega)
  have q1 : decide ((ls.length : Int) < (m : Int)) = false := decide_eq_false (by omega)
  have q2 : decide (ls.length < m) = false := decide_eq_false (by omega)
  clear hv hx hg hp
  by_cases hm0 : m = 0
  · subst hm0
    have z0 : (((0 : Nat) : Int) == 0) = true := rfl
    go_enter Tryz.func41, Tryz.ntmps41
    go_wp2_with ((with_reducible refine CP.mono ?_); rintro e w1 ⟨rfl, hb⟩)
    go_ret2
    exact ⟨_, rfl, TextsAt.nil _, by assumption⟩
  have HV : Hid (lkV ls m = (linkF ls.length ls m true).reverse) := by show _ = _; unfold lkV; rw [if_neg hm0]
  have z0 : ((m : Int) == 0) = false := by rw [beq_eq_false_iff_ne]; omega
  have z1 : (m == 0) = false := by rw [beq_eq_false_iff_ne]; exact hm0
  have hm1 : 1 ≤ m := by omega
  clear hm0
  go_enter Tryz.func41, Tryz.ntmps41
  go_wp2_with fail
  refine CP.mono ?_
  rintro e w1 ⟨rfl, hb⟩
  have HB1 := hide hb
  have HS1 := hide (HS0.out.to hb)
  clear hb CP HS0
  go_wp2_with fail
  go_loopw [0, 1, 6, 7] (fun t0 t1 t6 t7 wr => ∃ (lk : List (List UInt8)) (mk : Nat) (wh : Bool) (f : Nat) (acc : List (List UInt8)), t1 = .int .i64 (mk : Int) ∧ t7 = .bool wh ∧ (∃ A c, t0 = .slice A lk.length c) ∧ (1 ≤ mk ∧ mk ≤ lk.length ∧ lk.length ≤ ls.length ∧ lk.length ≤ f ∧ acc.length + lk.length ≤ ls.length) ∧ Aside (LkI ls m w1 t0 t6 mk wh wr lk f acc)) (fun t0 _ _ _ _ => lenOf t0)
  case atStart => exact ⟨ls, m, true, ls.length, [], rfl, rfl, ⟨_, _, rfl⟩, ⟨hm1, hm, Nat.le_refl _, Nat.le_refl _, by simp⟩, ⟨HS1.out, HX0.out, rfl, World.ownsRow_nil _ _ _ _, Below.refl _ _⟩⟩
  case round =>
    clear z0 z1 hm1 hm q0 q1 q2
    obtain ⟨lk, mk, wh, f, acc, rfl, rfl, ⟨A, c, rfl⟩, ⟨hm1, hmk, h2, h3, h4⟩, hI⟩ := hrel
    have HI : Hid (LkI ls m w1 (.slice A lk.length c) _ mk wh wr lk f acc) := hI
    clear hI
    by_cases hlt : mk < lk.length
    · have e1 : decide ((mk : Int) < (lk.length : Int)) = true := decide_eq_true (by omega)
      have e1' : decide (mk < lk.length) = true := decide_eq_true hlt
      obtain ⟨f', rfl⟩ : ∃ f', f = f' + 1 := ⟨f - 1, by omega⟩
      have hh := half_lt (n := lk.length) (by omega)
      have CH := fun w => half_any lk.length (by omega) w
      obtain ⟨x0, hx0⟩ : ∃ x, lk[0]? = some x := ⟨_, List.getElem?_eq_getElem (by omega)⟩
      obtain ⟨a, rfl, ha, _⟩ := HI.out.at_.at_ hx0
      have hcap := HI.out.at_.cap
      have HPL := fun h : mk ≤ halfN lk.length => linkF_le (f := f') (wh := wh) (by omega : mk ≠ lk.length) h
      have HPG := fun h : ¬ mk ≤ halfN lk.length => linkF_gt (f := f') (wh := wh) (by omega : mk ≠ lk.length) h
      clear hx0
      generalize hk : halfN lk.length = k at *
      clear hk
      have CT1 := total_any (lk.drop k) (by rw [List.length_drop]; omega) (fun x h => HI.out.fit x (List.mem_of_mem_drop h)) _ wr ((HI.out.at_.drop (k := k) (by omega) (c - k) (by omega)).to HI.out.below) (HG.out.to HB1.out |>.to HI.out.below)
      have CT2 := total_any (lk.take k) (by rw [List.length_take]; omega) (fun x h => HI.out.fit x (List.mem_of_mem_take h)) _ wr ((HI.out.at_.take (k := k) (by omega) c (by omega)).to HI.out.below) (HG.out.to HB1.out |>.to HI.out.below)
      have k1 : (k : Int) ≤ (c : Int) := by omega
      have k0 : (0 : Int) ≤ (k : Int) := by omega
      have k2 : (k : Int) ≤ (lk.length : Int) := by omega
      have k3 : ((k : Int) == (c : Int)) = false := by rw [beq_eq_false_iff_ne]; omega
      have k4 : k ≠ c := by omega
      have k5 : k ≤ lk.length := by omega
      have k6 : k ≤ c := by omega
      by_cases hik : mk ≤ k
      · have e2 : decide ((mk : Int) ≤ (k : Int)) = true := decide_eq_true (by omega)
        have e2' : decide (mk ≤ k) = true := decide_eq_true (by omega)
        have HP := hide (HPL hik)
        clear HPL HPG CT2
        generalize totalT (lk.drop k) = d at *
        go_wp2_with ((with_reducible refine (CH _).mono ?_); rintro e w' ⟨rfl, rfl⟩)
        refine CT1.mono ?_
        rintro e w4 ⟨rfl, hb4⟩
        have HB4 := hide (below_to HI.out.below (Nat.le_refl _) hb4)
        have HO4 := hide (own_to4 HI.out.own hb4)
        have HACC : acc.length ≤ 100000000 := by omega
        clear hb4 CT1
        go_wp2_with (at_builtin; refine wpList_append_texts rfl (.tmp 34) (.tmp 39) rfl w1.heap.size _ acc rfl (own_to4 HO4.out (below_one w4 (.cells #[.string (bs d)] 9))) (.slice (some ⟨w4.heap.size, 0, none⟩) 1 1) [d] rfl (TextsAt.of_blk (ls := [d]) (Blk.new w4 9 #[.string (bs d)]) rfl) (by simp; omega) (by have := HB4.out.size; simp; omega) ?_)
        intro v' w6 hown6 hgr6 _
        have HB6 := hide ((below_alloc HB4.out (Nat.le_refl _) (.cells #[.string (bs d)] 9)).trans (below_grown hgr6 (by have := HB4.out.size; simp; omega) (fun g e => (own_blk_lt HO4.out g e).1)))
        have HO6 : Hid (OwnT w6 w1.heap.size v' (acc ++ [d])) := hown6
        clear hown6 hgr6
        have HS6 : Hid (TextsAt w1 (.slice (some a) k c) (lk.take k)) := HI.out.at_.take k5 c k6
        go_wp2_with fail
        refine ⟨⟨lk.take k, mk, wh, f', acc ++ [d], rfl, rfl, ⟨_, _, by rw [List.length_take, Nat.min_eq_left k5]⟩, ⟨hm1, by rw [List.length_take]; omega, by rw [List.length_take]; omega, by rw [List.length_take]; omega, by rw [List.length_append, List.length_take, List.length_cons, List.length_nil]; omega⟩, ⟨HS6.out, fun x h => HI.out.fit x (List.mem_of_mem_take h), by rw [List.append_assoc, List.singleton_append, ← HP.out]; exact HI.out.path, HO6.out, HB6.out⟩⟩, ?_⟩
        show k < lk.length
        omega
      · have e2 : decide ((mk : Int) ≤ (k : Int)) = false := decide_eq_false (by omega)
        have e2' : decide (mk ≤ k) = false := decide_eq_false (by omega)
        have HP := hide (HPG hik)
        clear HPL HPG CT1
        generalize totalT (lk.take k) = d at *
        go_wp2_with ((with_reducible refine (CH _).mono ?_); rintro e w' ⟨rfl, rfl⟩)
        refine CT2.mono ?_
        rintro e w4 ⟨rfl, hb4⟩
        have HB4 := hide (below_to HI.out.below (Nat.le_refl _) hb4)
        have HO4 := hide (own_to4 HI.out.own hb4)
        have HACC : acc.length ≤ 100000000 := by omega
        clear hb4 CT2
        go_wp2_with (at_builtin; refine wpList_append_texts rfl (.tmp 44) (.tmp 49) rfl w1.heap.size _ acc rfl (own_to4 HO4.out (below_one w4 (.cells #[.string (bs d)] 9))) (.slice (some ⟨w4.heap.size, 0, none⟩) 1 1) [d] rfl (TextsAt.of_blk (ls := [d]) (Blk.new w4 9 #[.string (bs d)]) rfl) (by simp; omega) (by have := HB4.out.size; simp; omega) ?_)
        intro v' w6 hown6 hgr6 _
        have HB6 := hide ((below_alloc HB4.out (Nat.le_refl _) (.cells #[.string (bs d)] 9)).trans (below_grown hgr6 (by have := HB4.out.size; simp; omega) (fun g e => (own_blk_lt HO4.out g e).1)))
        have HO6 : Hid (OwnT w6 w1.heap.size v' (acc ++ [d])) := hown6
        clear hown6 hgr6
        have HS6 : Hid (TextsAt w1 (.slice (some (a.add k)) (lk.length - k) (c - k)) (lk.drop k)) := HI.out.at_.drop k5 (c - k) (by omega)
        go_wp2_with fail
        refine ⟨⟨lk.drop k, mk - k, false, f', acc ++ [d], by rw [show ((mk - k : Nat) : Int) = (mk : Int) - (k : Int) by omega], rfl, ⟨_, _, by rw [List.length_drop]⟩, ⟨by omega, by rw [List.length_drop]; omega, by rw [List.length_drop]; omega, by rw [List.length_drop]; omega, by rw [List.length_append, List.length_drop, List.length_cons, List.length_nil]; omega⟩, ⟨HS6.out, fun x h => HI.out.fit x (List.mem_of_mem_drop h), by rw [List.append_assoc, List.singleton_append, ← HP.out]; exact HI.out.path, HO6.out, HB6.out⟩⟩, ?_⟩
        show lk.length - k < lk.length
        omega
    · obtain rfl : mk = lk.length := by omega
      have e1 : decide ((lk.length : Int) < (lk.length : Int)) = false := by simp
      obtain ⟨f', rfl⟩ : ∃ f', f = f' + 1 := ⟨f - 1, by omega⟩
      have HPA : Hid (acc ++ (if wh then [] else [totalT lk]) = linkF ls.length ls m true) := by
        show _ = _
        rw [← linkF_eq f']
        exact HI.out.path
      have HACC : acc.length ≤ 100000000 := by omega
      cases wh with
      | true =>
        have CR := Rev_any acc (by omega) w1.heap.size _ wr HI.out.own
        have HPB : Hid (linkF ls.length ls m true = acc) := by
          show _ = _
          have h := HPA.out
          rw [if_pos rfl, List.append_nil] at h
          exact h.symm
        clear HPA
        go_wp2_with fail
        refine CR.mono ?_
        rintro e w8 ⟨rfl, ht, hb⟩
        have HT := hide ht
        have HB8 := hide (HI.out.below.trans hb)
        clear ht hb CR
        go_wp2_with fail
        go_ret2
        refine ⟨_, rfl, ?_, below_to HB1.out (Nat.le_refl _) HB8.out⟩
        rw [HV.out, HPB.out]
        exact HT.out
      | false =>
        have CT := total_any lk (by omega) HI.out.fit _ wr (HI.out.at_.to HI.out.below) (HG.out.to HB1.out |>.to HI.out.below)
        have HPB : Hid (linkF ls.length ls m true = acc ++ [totalT lk]) := HPA.out.symm
        clear HPA
        generalize totalT lk = d at *
        go_wp2_with fail
        refine CT.mono ?_
        rintro e w4 ⟨rfl, hb4⟩
        have HB4 := hide (below_to HI.out.below (Nat.le_refl _) hb4)
        have HO4 := hide (own_to4 HI.out.own hb4)
        clear hb4 CT
        go_wp2_with (at_builtin; refine wpList_append_texts rfl (.tmp 59) (.tmp 62) rfl w1.heap.size _ acc rfl (own_to4 HO4.out (below_one w4 (.cells #[.string (bs d)] 9))) (.slice (some ⟨w4.heap.size, 0, none⟩) 1 1) [d] rfl (TextsAt.of_blk (ls := [d]) (Blk.new w4 9 #[.string (bs d)]) rfl) (by simp; omega) (by have := HB4.out.size; simp; omega) ?_)
        intro v' w6 hown6 hgr6 _
        have HB6 := hide ((below_alloc HB4.out (Nat.le_refl _) (.cells #[.string (bs d)] 9)).trans (below_grown hgr6 (by have := HB4.out.size; simp; omega) (fun g e => (own_blk_lt HO4.out g e).1)))
        have HO6 : Hid (OwnT w6 w1.heap.size v' (acc ++ [d])) := hown6
        clear hown6 hgr6
        go_wp2_with fail
        have CR := Rev_any (acc ++ [d]) (by simp; omega) w1.heap.size _ w6 HO6.out
        refine CR.mono ?_
        rintro e w8 ⟨rfl, ht, hb⟩
        have HT := hide ht
        have HB8 := hide (HB6.out.trans hb)
        clear ht hb CR
        go_wp2_with fail
        go_ret2
        refine ⟨_, rfl, ?_, below_to HB1.out (Nat.le_refl _) HB8.out⟩
        rw [HV.out, HPB.out]
        exact HT.out
theorem nextS_ne {d : List UInt8} {st : List (List UInt8)} {sh : Bool} (h : isD d = true) : nextS (d :: st) sh = sh := by
  cases d with
  | nil => exact absurd h (by decide)
  | cons _ _ => simp [nextS]
theorem link_both (old : List UInt8) : ∀ (f : Nat) (l : List (List UInt8)) (m : Nat) (wh : Bool) (st : List (List UInt8)) (sh : Bool), properT l = true → 1 ≤ m → m ≤ l.length → l.length ≤ f → (wh = true → old = totalT (l.take m)) →
    bothG old f l.length m wh (linkF f l m wh ++ st) sh = ((totalT (l.take m), totalT l), st, sh) := by
  intro f
  induction f with
  | zero => intro l m wh st sh hp h1 h2 h3; omega
  | succ f ih =>
    intro l m wh st sh hp h1 h2 h3 ho
    have hpt : ∀ k, properT (l.take k) = true := fun k => by unfold properT at hp ⊢; exact List.all_eq_true.2 fun x hx => List.all_eq_true.1 hp x (List.mem_of_mem_take hx)
    have hpd : ∀ k, properT (l.drop k) = true := fun k => by unfold properT at hp ⊢; exact List.all_eq_true.2 fun x hx => List.all_eq_true.1 hp x (List.mem_of_mem_drop hx)
    by_cases hn : m = l.length
    · subst hn
      rw [bothG_eq, linkF_eq, List.take_length]
      cases wh with
      | true =>
        rw [List.take_length] at ho
        rw [if_pos rfl, if_pos rfl, List.nil_append, ho rfl]
      | false =>
        rw [if_neg (by simp), if_neg (by simp), List.singleton_append, List.headD_cons, List.tail_cons, nextS_ne (total_isD l hp)]
    · obtain ⟨a, b⟩ := half_lt (n := l.length) (by omega)
      have tt := total_two (l := l) (by omega)
      by_cases hm : m ≤ halfN l.length
      · rw [linkF_le hn hm, bothG_le old hn hm, List.cons_append, List.tail_cons, List.headD_cons, nextS_ne (total_isD _ (hpd _))]
        have e := ih (l.take (halfN l.length)) m wh st sh (hpt _) h1 (by rw [List.length_take]; omega) (by rw [List.length_take]; omega) (fun h => by rw [List.take_take, Nat.min_eq_left hm]; exact ho h)
        rw [List.length_take, Nat.min_eq_left (by omega)] at e
        rw [e, List.take_take, Nat.min_eq_left hm, tt]
      · rw [linkF_gt hn hm, bothG_gt old hn hm, List.cons_append, List.tail_cons, List.headD_cons, nextS_ne (total_isD _ (hpt _))]
        have e := ih (l.drop (halfN l.length)) (m - halfN l.length) false st sh (hpd _) (by omega) (by rw [List.length_drop]; omega) (by rw [List.length_drop]; omega) (fun h => by cases h)
        rw [List.length_drop] at e
        have hh := half_part (n := l.length) (m := m) (by omega) (by omega) h2
        have tm := total_two (l := l.take m) (by rw [List.length_take]; omega)
        rw [List.length_take, Nat.min_eq_left h2, hh] at tm
        rw [e, tt, tm, List.take_take, Nat.min_eq_left (by omega), List.drop_take]
theorem ext_link {ls : List (List UInt8)} (hp : properT ls = true) (hl : ls.length ≤ 1000000) {m : Nat} (hm : m ≤ ls.length) : extV (totalT (ls.take m)) m (totalT ls) ls.length (lkV ls m) = true := by
  have hpt : properT (ls.take m) = true := by unfold properT at hp ⊢; exact List.all_eq_true.2 fun x hx => List.all_eq_true.1 hp x (List.mem_of_mem_take hx)
  have h5 : properT [totalT (ls.take m), totalT ls] = true := by unfold properT; simp [total_isD _ hpt, total_isD _ hp]
  have h4 : properT (lkV ls m) = true := by
    unfold lkV
    split
    · rfl
    · unfold properT
      rw [List.all_reverse, List.all_eq_true]
      have key : ∀ (f : Nat) (l : List (List UInt8)) (m : Nat) (wh : Bool), properT l = true → ∀ d ∈ linkF f l m wh, isD d = true := by
        intro f
        induction f with
        | zero => intro l m wh _ d hd; cases hd
        | succ f ih =>
          intro l m wh hp d hd
          have q1 : ∀ k, properT (l.take k) = true := fun k => by unfold properT at hp ⊢; exact List.all_eq_true.2 fun x hx => List.all_eq_true.1 hp x (List.mem_of_mem_take hx)
          have q2 : ∀ k, properT (l.drop k) = true := fun k => by unfold properT at hp ⊢; exact List.all_eq_true.2 fun x hx => List.all_eq_true.1 hp x (List.mem_of_mem_drop hx)
          unfold linkF at hd
          split at hd
          · split at hd
            · cases hd
            · rw [List.mem_singleton.1 hd]; exact total_isD l hp
          · split at hd
            · rcases List.mem_cons.1 hd with rfl | hd
              · exact total_isD _ (q2 _)
              · exact ih _ _ _ (q1 _) d hd
            · rcases List.mem_cons.1 hd with rfl | hd
              · exact total_isD _ (q1 _)
              · exact ih _ _ _ (q2 _) d hd
      exact key _ _ _ _ hp
  unfold extV
  rw [if_pos ⟨by omega, by omega, by omega, h4, h5⟩]
  by_cases hm0 : m = 0
  · subst hm0
    rw [if_pos (show ((0 : Nat) : Int) = 0 from rfl)]
    have : lkV ls 0 = [] := by unfold lkV; rw [if_pos rfl]
    rw [this, List.take_zero]
    by_cases h0 : ls.length = 0
    · rw [List.eq_nil_of_length_eq_zero h0]; simp
    · have : decide (0 < (ls.length : Int)) = true := decide_eq_true (by omega)
      rw [this]; simp
  · rw [if_neg (by omega), Int.toNat_natCast, Int.toNat_natCast]
    have : lkV ls m = (linkF ls.length ls m true).reverse := by unfold lkV; rw [if_neg hm0]
    unfold boV
    have e := link_both (totalT (ls.take m)) ls.length ls m true [] false hp (by omega) hm (Nat.le_refl _) (fun _ => rfl)
    rw [List.append_nil] at e
    rw [this, List.reverse_reverse, e]
    simp
end Go.Proofs.YtfhanbiifjiklaaGreatDoor

/- The walk of PageTexts. -/
set_option linter.unusedVariables false
set_option linter.unusedSimpArgs false
namespace Go.Proofs.YtfhanbiifjiklaaGreatDoor
open Go.RowKit

/-- two pages that came in, in boxes of the call -/
structure TwoP (w : World) (p q : Pg) (vi vp ui up : Value) (W : World) : Prop where
  bel : Below w.heap.size w W
  bP : Blk W w.heap.size 25 (p.cs vi vp)
  bQ : Blk W (w.heap.size + 1) 25 (q.cs ui up)
  ti : TextsAt W vi p.items
  tp : PathsAt W vp p.paths
  ui : TextsAt W ui q.items
  up : PathsAt W up q.paths
theorem TwoP.to {w W W' : World} {p q : Pg} {vi vp ui up : Value} (h : TwoP w p q vi vp ui up W) (hb : Below W.heap.size W W') : TwoP w p q vi vp ui up W' :=
  ⟨below_to h.bel (Nat.le_refl _) hb, h.bP.to hb, h.bQ.to hb, h.ti.to hb, h.tp.to hb, h.ui.to hb, h.up.to hb⟩
theorem TwoP.start {w : World} {p q : Pg} {vi vp ui up : Value} (h1 : TextsAt w vi p.items) (h2 : PathsAt w vp p.paths) (h3 : TextsAt w ui q.items) (h4 : PathsAt w up q.paths) : TwoP w p q vi vp ui up ((w.alloc (.cells (p.cs vi vp) 25)).alloc (.cells (q.cs ui up) 25)) := by
  have b1 := below_one w (.cells (p.cs vi vp) 25)
  have b2 := below_one (w.alloc (.cells (p.cs vi vp) 25)) (.cells (q.cs ui up) 25)
  have x := Blk.new (w.alloc (.cells (p.cs vi vp) 25)) 25 (q.cs ui up)
  rw [World.size_alloc] at x
  exact ⟨below_to b1 (Nat.le_refl _) b2, (Blk.new w _ _).to b2, x, (h1.to b1).to b2, (h2.to b1).to b2, (h3.to b1).to b2, (h4.to b1).to b2⟩
set_option maxRecDepth 100000 in
set_option maxHeartbeats 4000000 in
theorem texts_law (p q : Pg) (hp : p.wide) (hq : q.wide) (hpf : -9223372036854775808 ≤ p.fr ∧ p.fr ≤ 9223372036854775807) (hps : -9223372036854775808 ≤ p.size ∧ p.size ≤ 9223372036854775807) (hqf : -9223372036854775808 ≤ q.fr ∧ q.fr ≤ 9223372036854775807) (hqs : -9223372036854775808 ≤ q.size ∧ q.size ≤ 9223372036854775807)
    (t : List UInt8) (ht : t.length ≤ 140737488355328) (vi vp ui up : Value) (w : World) (hvi : TextsAt w vi p.items) (hvp : PathsAt w vp p.paths) (hui : TextsAt w ui q.items) (huq : PathsAt w up q.paths) (hg : Glob w) :
    Calls Tryz.prog 7 #[.agg (p.cs vi vp), .agg (q.cs ui up), .string (bs t)] w fun e w' => e = .returned (.bool true) ∧ Below w.heap.size w w' := by
  have H2 := hide (TwoP.start hvi hvp hui huq)
  have HG := hide hg
  obtain ⟨Ai, ci, rfl, _⟩ := hvi.slice
  obtain ⟨Ap, cp, rfl, _⟩ := hvp.slice
  obtain ⟨Bi, di, rfl, _⟩ := hui.slice
  obtain ⟨Bp, dp, rfl, _⟩ := huq.slice
  clear hvi hvp hui huq hg
  have hsz : (bs t).size = t.length := bs_size t
  unfold Pg.cs at H2 ⊢
  go_enter Tryz.func7, Tryz.ntmps7
  go_wp2_with fail
  generalize (w.alloc (.cells #[.int .i64 p.fr, .int .i64 p.size, .string (bs p.root), .slice Ai p.items.length ci, .slice Ap p.paths.length cp] 25)).alloc (.cells #[.int .i64 q.fr, .int .i64 q.size, .string (bs q.root), .slice Bi q.items.length di, .slice Bp q.paths.length dp] 25) = w2 at *
  have C3 := head_any w2 (HG.out.to H2.out.bel)
  refine C3.mono ?_
  rintro e w3 ⟨rfl, hb⟩
  have H3 := hide (H2.out.to hb)
  clear hb C3 H2
  obtain ⟨p0, p1, p2, p3, p4⟩ := page_cells H3.out.bP; obtain ⟨q0, q1, q2, q3, q4⟩ := page_cells H3.out.bQ
  have CF : Calls Tryz.prog 13 #[.agg #[.int .i64 p.fr, .int .i64 p.size, .string (bs p.root), .slice Ai p.items.length ci, .slice Ap p.paths.length cp]] w3 fun e w' => e = .returned (.bool (fewP p)) ∧ Below w3.heap.size w3 w' := FewP_any p hp _ _ w3 H3.out.ti H3.out.tp
  have CG : ∀ w4 : World, Below w3.heap.size w3 w4 → Calls Tryz.prog 13 #[.agg #[.int .i64 q.fr, .int .i64 q.size, .string (bs q.root), .slice Bi q.items.length di, .slice Bp q.paths.length dp]] w4 fun e w' => e = .returned (.bool (fewP q)) ∧ Below w4.heap.size w4 w' := fun w4 hb => FewP_any q hq _ _ w4 (H3.out.ui.to hb) (H3.out.up.to hb)
  have FP := fun h => few_fit (p := p) h hpf hps
  have FQ := fun h => few_fit (p := q) h hqf hqs
  generalize fewP p = b1 at *
  generalize fewP q = b2 at *
  cases b1 with
  | false =>
    go_wp2_with ((with_reducible refine CF.mono ?_); rintro e w4 ⟨rfl, hb⟩; have H4 := hide (H3.out.to hb); clear hb CF p0 p1 p2 p3 p4 q0 q1 q2 q3 q4 H3; obtain ⟨p0, p1, p2, p3, p4⟩ := page_cells H4.out.bP; obtain ⟨q0, q1, q2, q3, q4⟩ := page_cells H4.out.bQ)
    go_ret
    exact ⟨rfl, H4.out.bel⟩
  | true =>
    cases b2 with
    | false =>
      go_wp2_with (first | ((with_reducible refine CF.mono ?_); rintro e w4 ⟨rfl, hb⟩; have CG := CG w4 hb; have H4 := hide (H3.out.to hb); clear hb CF p0 p1 p2 p3 p4 q0 q1 q2 q3 q4 H3; obtain ⟨p0, p1, p2, p3, p4⟩ := page_cells H4.out.bP; obtain ⟨q0, q1, q2, q3, q4⟩ := page_cells H4.out.bQ) | ((with_reducible refine CG.mono ?_); rintro e w5 ⟨rfl, hb⟩; have H5 := hide (H4.out.to hb); clear hb CG p0 p1 p2 p3 p4 q0 q1 q2 q3 q4 H4))
      go_ret
      exact ⟨rfl, H5.out.bel⟩
    | true =>
      have HFP := hide (FP rfl)
      have HFQ := hide (FQ rfl)
      clear FP FQ
      by_cases hlt : t.length ≤ 3000
      · have c0 : decide ((3000 : Int) < (t.length : Int)) = false := decide_eq_false (by omega)
        go_wp2_with (first | ((with_reducible refine CF.mono ?_); rintro e w4 ⟨rfl, hb⟩; have CG := CG w4 hb; have H4 := hide (H3.out.to hb); clear hb CF p0 p1 p2 p3 p4 q0 q1 q2 q3 q4 H3; obtain ⟨p0, p1, p2, p3, p4⟩ := page_cells H4.out.bP; obtain ⟨q0, q1, q2, q3, q4⟩ := page_cells H4.out.bQ) | ((with_reducible refine CG.mono ?_); rintro e w5 ⟨rfl, hb⟩; have H5 := hide (H4.out.to hb); clear hb CG p0 p1 p2 p3 p4 q0 q1 q2 q3 q4 H4; obtain ⟨p0, p1, p2, p3, p4⟩ := page_cells H5.out.bP; obtain ⟨q0, q1, q2, q3, q4⟩ := page_cells H5.out.bQ))
        have CT : Calls Tryz.prog 16 #[.agg #[.int .i64 p.fr, .int .i64 p.size, .string (bs p.root), .slice Ai p.items.length ci, .slice Ap p.paths.length cp]] w5 fun e w' => e = .returned (.tuple #[.string (bs (textV p)), .int .i64 (textE p)]) ∧ Below w5.heap.size w5 w' := Text_any p HFP.out.1 _ _ w5 (HG.out.to H5.out.bel) H5.out.ti H5.out.tp
        refine CT.mono ?_
        rintro e w6 ⟨rfl, hb⟩
        have H6 := hide (H5.out.to hb)
        clear hb CT p0 p1 p2 p3 p4 q0 q1 q2 q3 q4 H5
        obtain ⟨p0, p1, p2, p3, p4⟩ := page_cells H6.out.bP; obtain ⟨q0, q1, q2, q3, q4⟩ := page_cells H6.out.bQ
        go_wp2_with fail
        have CT : Calls Tryz.prog 16 #[.agg #[.int .i64 q.fr, .int .i64 q.size, .string (bs q.root), .slice Bi q.items.length di, .slice Bp q.paths.length dp]] w6 fun e w' => e = .returned (.tuple #[.string (bs (textV q)), .int .i64 (textE q)]) ∧ Below w6.heap.size w6 w' := Text_any q HFQ.out.1 _ _ w6 (HG.out.to H6.out.bel) H6.out.ui H6.out.up
        refine CT.mono ?_
        rintro e w7 ⟨rfl, hb⟩
        have H7 := hide (H6.out.to hb)
        clear hb CT p0 p1 p2 p3 p4 q0 q1 q2 q3 q4 H6
        obtain ⟨p0, p1, p2, p3, p4⟩ := page_cells H7.out.bP; obtain ⟨q0, q1, q2, q3, q4⟩ := page_cells H7.out.bQ
        cases hfp : formedB p with
        | false =>
          have E0 : textE p = 1 := by unfold textE; rw [hfp]; rfl
          rw [E0]
          clear hfp E0
          go_wp2_with fail
          have CP := Parse_any t (by omega) w7 (HG.out.to H7.out.bel)
          unfold ParseR at CP
          clear p0 p1 p2 p3 p4 q0 q1 q2 q3 q4
          cases hpt : parseP t with
          | none =>
            rw [show parseV t = noPg by unfold parseV; rw [hpt]; rfl, show parseE t = 5 by unfold parseE; rw [hpt]; rfl] at CP
            clear hpt
            refine CP.mono ?_
            rintro e w8 ⟨xi, xp, rfl, hxi, hxp, hb⟩
            obtain ⟨Xi, xci, rfl, _⟩ := hxi.slice
            obtain ⟨Xp, xcp, rfl, _⟩ := hxp.slice
            have H8 := hide (H7.out.to hb)
            clear hb CP H7
            rw [show noPg.cs (.slice Xi noPg.items.length xci) (.slice Xp noPg.paths.length xcp) = #[.int .i64 0, .int .i64 0, .string ⟨#[]⟩, .slice Xi 0 xci, .slice Xp 0 xcp] from rfl]
            have HB8 := below_one w8 (.cells #[.int .i64 0, .int .i64 0, .string ⟨#[]⟩, .slice Xi 0 xci, .slice Xp 0 xcp] 25)
            have CS : Calls Tryz.prog 20 #[.agg #[.int .i64 0, .int .i64 0, .string ⟨#[]⟩, .slice Xi 0 xci, .slice Xp 0 xcp], .agg #[.int .i64 0, .int .i64 0, .string ⟨#[]⟩, .slice none 0 0, .slice none 0 0]] (w8.alloc (.cells #[.int .i64 0, .int .i64 0, .string ⟨#[]⟩, .slice Xi 0 xci, .slice Xp 0 xcp] 25)) fun e w' => e = .returned (.bool true) ∧ Below (w8.alloc (.cells #[.int .i64 0, .int .i64 0, .string ⟨#[]⟩, .slice Xi 0 xci, .slice Xp 0 xcp] 25)).heap.size (w8.alloc (.cells #[.int .i64 0, .int .i64 0, .string ⟨#[]⟩, .slice Xi 0 xci, .slice Xp 0 xcp] 25)) w' := by
              have := PSame_any noPg noPg (fit_wide no_fit) (fit_wide no_fit) _ _ (.slice none 0 0) (.slice none 0 0) _ (hxi.to HB8) (hxp.to HB8) (TextsAt.nil _) (PathsAt.nil _)
              rw [same_refl] at this
              exact this
            have HBB := hide (below_to H8.out.bel (Nat.le_refl _) HB8)
            clear hxi hxp HB8 H8
            go_wp2_with fail
            refine CS.mono ?_
            rintro e w9 ⟨rfl, hb⟩
            have HBC := hide (below_to HBB.out (Nat.le_refl _) hb)
            clear hb CS HBB
            go_wp2_with fail
            go_ret
            exact ⟨rfl, HBC.out⟩
          | some y =>
            obtain ⟨hfy, hty⟩ := text_of_parse hpt
            rw [show parseV t = y by unfold parseV; rw [hpt]; rfl, show parseE t = 0 by unfold parseE; rw [hpt]; rfl] at CP
            refine CP.mono ?_
            rintro e w8 ⟨xi, xp, rfl, hxi, hxp, hb⟩
            have H8 := hide (H7.out.to hb)
            have CT := fun (w' : World) (hb' : Below w8.heap.size w8 w') => Text_any y (formed_fit hfy) xi xp w' (HG.out.to (below_to H8.out.bel (Nat.le_refl _) hb')) (hxi.to hb') (hxp.to hb')
            rw [show textV y = t by unfold textV; rw [hfy]; exact hty, show textE y = 0 by unfold textE; rw [hfy]; rfl] at CT
            obtain ⟨Xi, xci, rfl, _⟩ := hxi.slice
            obtain ⟨Xp, xcp, rfl, _⟩ := hxp.slice
            clear hb CP H7 hxi hxp hpt hfy hty
            unfold Pg.cs at CT ⊢
            have HB8 := below_one w8 (.cells #[.int .i64 y.fr, .int .i64 y.size, .string (bs y.root), .slice Xi y.items.length xci, .slice Xp y.paths.length xcp] 25)
            have CT := CT _ HB8
            have HBB := hide (below_to H8.out.bel (Nat.le_refl _) HB8)
            have q : ((bs t).toList == (bs t).toList) = true := by simp
            clear HB8 H8
            go_wp2_with fail
            refine CT.mono ?_
            rintro e w9 ⟨rfl, hb⟩
            have HBC := hide (below_to HBB.out (Nat.le_refl _) hb)
            clear hb CT HBB
            go_wp2_with fail
            go_ret
            exact ⟨rfl, HBC.out⟩
        | true =>
          have E0 : textE p = 0 := by unfold textE; rw [hfp]; rfl
          have V0 : textV p = textPg p := by unfold textV; rw [hfp]; rfl
          rw [E0, V0]
          have CP := fun (w' : World) (hg' : Glob w') => Parse_any (textPg p) (text_len hfp HFP.out.2.2) w' hg'
          unfold ParseR at CP
          rw [show parseV (textPg p) = p by unfold parseV; rw [parse_text hfp]; rfl, show parseE (textPg p) = 0 by unfold parseE; rw [parse_text hfp]; rfl] at CP
          go_wp2_with fail
          refine (CP w7 (HG.out.to H7.out.bel)).mono ?_
          rintro e w8 ⟨xi, xp, rfl, hxi, hxp, hb⟩
          have H8 := hide (H7.out.to hb)
          obtain ⟨Xi, xci, rfl, _⟩ := hxi.slice
          obtain ⟨Xp, xcp, rfl, _⟩ := hxp.slice
          unfold Pg.cs
          have HB8 := below_one w8 (.cells #[.int .i64 p.fr, .int .i64 p.size, .string (bs p.root), .slice Xi p.items.length xci, .slice Xp p.paths.length xcp] 25)
          have H9 := hide (H8.out.to HB8)
          have HXI := hide (hxi.to HB8)
          have HXP := hide (hxp.to HB8)
          have xb := Blk.new w8 25 (p.cs (.slice Xi p.items.length xci) (.slice Xp p.paths.length xcp))
          obtain ⟨x0, x1, x2, x3, x4⟩ := page_cells xb
          clear p0 p1 p2 p3 p4 q0 q1 q2 q3 q4
          obtain ⟨p0, p1, p2, p3, p4⟩ := page_cells H8.out.bP; obtain ⟨q0, q1, q2, q3, q4⟩ := page_cells H8.out.bQ
          have z1 : w.heap.size < w8.heap.size := H8.out.bP.lt
          have z2 : w.heap.size + 1 < w8.heap.size := H8.out.bQ.lt
          have z3 : w.heap.size ≠ w8.heap.size := by omega
          have z4 : w.heap.size + 1 ≠ w8.heap.size := by omega
          clear hb CP H7 H8 HB8 hxi hxp xb
          go_wp2_with fail
          clear p0 p1 p2 p3 p4 q0 q1 q2 q3 q4
          unfold Pg.cs at x0 x1 x2 x3 x4
          generalize w8.alloc (.cells #[.int .i64 p.fr, .int .i64 p.size, .string (bs p.root), .slice Xi p.items.length xci, .slice Xp p.paths.length xcp] 25) = w9 at *
          have CS : Calls Tryz.prog 20 #[.agg #[.int .i64 p.fr, .int .i64 p.size, .string (bs p.root), .slice Xi p.items.length xci, .slice Xp p.paths.length xcp], .agg #[.int .i64 p.fr, .int .i64 p.size, .string (bs p.root), .slice Ai p.items.length ci, .slice Ap p.paths.length cp]] w9 fun e w' => e = .returned (.bool true) ∧ Below w9.heap.size w9 w' := by
            have := PSame_any p p hp hp _ _ _ _ w9 HXI.out HXP.out H9.out.ti H9.out.tp
            rw [same_refl] at this
            exact this
          refine CS.mono ?_
          rintro e w10 ⟨rfl, hb⟩
          have H10 := hide (H9.out.to hb)
          clear hb CS z1 z2 z3 z4 x0 x1 x2 x3 x4 H9 HXI HXP
          obtain ⟨p0, p1, p2, p3, p4⟩ := page_cells H10.out.bP; obtain ⟨q0, q1, q2, q3, q4⟩ := page_cells H10.out.bQ
          cases hfq : formedB q with
          | false =>
            have E1 : textE q = 1 := by unfold textE; rw [hfq]; rfl
            rw [E1]
            clear hfq E1 V0 hfp
            go_wp2_with fail
            have CP := Parse_any t (by omega) w10 (HG.out.to H10.out.bel)
            unfold ParseR at CP
            clear p0 p1 p2 p3 p4 q0 q1 q2 q3 q4
            cases hpt : parseP t with
            | none =>
              rw [show parseV t = noPg by unfold parseV; rw [hpt]; rfl, show parseE t = 5 by unfold parseE; rw [hpt]; rfl] at CP
              clear hpt
              refine CP.mono ?_
              rintro e w11 ⟨xi, xp, rfl, hxi, hxp, hb⟩
              obtain ⟨Xi, xci, rfl, _⟩ := hxi.slice
              obtain ⟨Xp, xcp, rfl, _⟩ := hxp.slice
              have H11 := hide (H10.out.to hb)
              clear hb CP H10
              rw [show noPg.cs (.slice Xi noPg.items.length xci) (.slice Xp noPg.paths.length xcp) = #[.int .i64 0, .int .i64 0, .string ⟨#[]⟩, .slice Xi 0 xci, .slice Xp 0 xcp] from rfl]
              have HB11 := below_one w11 (.cells #[.int .i64 0, .int .i64 0, .string ⟨#[]⟩, .slice Xi 0 xci, .slice Xp 0 xcp] 25)
              have CS : Calls Tryz.prog 20 #[.agg #[.int .i64 0, .int .i64 0, .string ⟨#[]⟩, .slice Xi 0 xci, .slice Xp 0 xcp], .agg #[.int .i64 0, .int .i64 0, .string ⟨#[]⟩, .slice none 0 0, .slice none 0 0]] (w11.alloc (.cells #[.int .i64 0, .int .i64 0, .string ⟨#[]⟩, .slice Xi 0 xci, .slice Xp 0 xcp] 25)) fun e w' => e = .returned (.bool true) ∧ Below (w11.alloc (.cells #[.int .i64 0, .int .i64 0, .string ⟨#[]⟩, .slice Xi 0 xci, .slice Xp 0 xcp] 25)).heap.size (w11.alloc (.cells #[.int .i64 0, .int .i64 0, .string ⟨#[]⟩, .slice Xi 0 xci, .slice Xp 0 xcp] 25)) w' := by
                have := PSame_any noPg noPg (fit_wide no_fit) (fit_wide no_fit) _ _ (.slice none 0 0) (.slice none 0 0) _ (hxi.to HB11) (hxp.to HB11) (TextsAt.nil _) (PathsAt.nil _)
                rw [same_refl] at this
                exact this
              have HBB := hide (below_to H11.out.bel (Nat.le_refl _) HB11)
              clear hxi hxp HB11 H11
              go_wp2_with fail
              refine CS.mono ?_
              rintro e w12 ⟨rfl, hb⟩
              have HBC := hide (below_to HBB.out (Nat.le_refl _) hb)
              clear hb CS HBB
              go_wp2_with fail
              go_ret
              exact ⟨rfl, HBC.out⟩
            | some y =>
              obtain ⟨hfy, hty⟩ := text_of_parse hpt
              rw [show parseV t = y by unfold parseV; rw [hpt]; rfl, show parseE t = 0 by unfold parseE; rw [hpt]; rfl] at CP
              refine CP.mono ?_
              rintro e w11 ⟨xi, xp, rfl, hxi, hxp, hb⟩
              have H11 := hide (H10.out.to hb)
              have CT := fun (w' : World) (hb' : Below w11.heap.size w11 w') => Text_any y (formed_fit hfy) xi xp w' (HG.out.to (below_to H11.out.bel (Nat.le_refl _) hb')) (hxi.to hb') (hxp.to hb')
              rw [show textV y = t by unfold textV; rw [hfy]; exact hty, show textE y = 0 by unfold textE; rw [hfy]; rfl] at CT
              obtain ⟨Xi, xci, rfl, _⟩ := hxi.slice
              obtain ⟨Xp, xcp, rfl, _⟩ := hxp.slice
              clear hb CP H10 hxi hxp hpt hfy hty
              unfold Pg.cs at CT ⊢
              have HB11 := below_one w11 (.cells #[.int .i64 y.fr, .int .i64 y.size, .string (bs y.root), .slice Xi y.items.length xci, .slice Xp y.paths.length xcp] 25)
              have CT := CT _ HB11
              have HBB := hide (below_to H11.out.bel (Nat.le_refl _) HB11)
              have q : ((bs t).toList == (bs t).toList) = true := by simp
              clear HB11 H11
              go_wp2_with fail
              refine CT.mono ?_
              rintro e w12 ⟨rfl, hb⟩
              have HBC := hide (below_to HBB.out (Nat.le_refl _) hb)
              clear hb CT HBB
              go_wp2_with fail
              go_ret
              exact ⟨rfl, HBC.out⟩
          | true =>
            have E1 : textE q = 0 := by unfold textE; rw [hfq]; rfl
            have V1 : textV q = textPg q := by unfold textV; rw [hfq]; rfl
            rw [E1, V1]
            have QE : ((bs (textPg p)).toList == (bs (textPg q)).toList) = sameP p q := by
              rw [bs_toList, bs_toList, Bool.eq_iff_iff, beq_iff_eq, same_iff]
              exact ⟨fun h => text_inj hfp hfq h, fun h => by rw [h]⟩
            have CS : Calls Tryz.prog 20 #[.agg #[.int .i64 p.fr, .int .i64 p.size, .string (bs p.root), .slice Ai p.items.length ci, .slice Ap p.paths.length cp], .agg #[.int .i64 q.fr, .int .i64 q.size, .string (bs q.root), .slice Bi q.items.length di, .slice Bp q.paths.length dp]] w10 fun e w' => e = .returned (.bool (sameP p q)) ∧ Below w10.heap.size w10 w' := PSame_any p q hp hq _ _ _ _ w10 H10.out.ti H10.out.tp H10.out.ui H10.out.up
            clear hfq E1 V1 V0 hfp
            generalize sameP p q = B at *
            go_wp2_with fail
            refine CS.mono ?_
            rintro e w11 ⟨rfl, hb⟩
            have H11 := hide (H10.out.to hb)
            clear hb CS p0 p1 p2 p3 p4 q0 q1 q2 q3 q4 H10
            obtain ⟨p0, p1, p2, p3, p4⟩ := page_cells H11.out.bP; obtain ⟨q0, q1, q2, q3, q4⟩ := page_cells H11.out.bQ
            have hBB : (B != B) = false := by simp
            go_wp2_with fail
            have CP := Parse_any t (by omega) w11 (HG.out.to H11.out.bel)
            unfold ParseR at CP
            clear p0 p1 p2 p3 p4 q0 q1 q2 q3 q4
            cases hpt : parseP t with
            | none =>
              rw [show parseV t = noPg by unfold parseV; rw [hpt]; rfl, show parseE t = 5 by unfold parseE; rw [hpt]; rfl] at CP
              clear hpt
              refine CP.mono ?_
              rintro e w12 ⟨xi, xp, rfl, hxi, hxp, hb⟩
              obtain ⟨Xi, xci, rfl, _⟩ := hxi.slice
              obtain ⟨Xp, xcp, rfl, _⟩ := hxp.slice
              have H12 := hide (H11.out.to hb)
              clear hb CP H11
              rw [show noPg.cs (.slice Xi noPg.items.length xci) (.slice Xp noPg.paths.length xcp) = #[.int .i64 0, .int .i64 0, .string ⟨#[]⟩, .slice Xi 0 xci, .slice Xp 0 xcp] from rfl]
              have HB12 := below_one w12 (.cells #[.int .i64 0, .int .i64 0, .string ⟨#[]⟩, .slice Xi 0 xci, .slice Xp 0 xcp] 25)
              have CS : Calls Tryz.prog 20 #[.agg #[.int .i64 0, .int .i64 0, .string ⟨#[]⟩, .slice Xi 0 xci, .slice Xp 0 xcp], .agg #[.int .i64 0, .int .i64 0, .string ⟨#[]⟩, .slice none 0 0, .slice none 0 0]] (w12.alloc (.cells #[.int .i64 0, .int .i64 0, .string ⟨#[]⟩, .slice Xi 0 xci, .slice Xp 0 xcp] 25)) fun e w' => e = .returned (.bool true) ∧ Below (w12.alloc (.cells #[.int .i64 0, .int .i64 0, .string ⟨#[]⟩, .slice Xi 0 xci, .slice Xp 0 xcp] 25)).heap.size (w12.alloc (.cells #[.int .i64 0, .int .i64 0, .string ⟨#[]⟩, .slice Xi 0 xci, .slice Xp 0 xcp] 25)) w' := by
                have := PSame_any noPg noPg (fit_wide no_fit) (fit_wide no_fit) _ _ (.slice none 0 0) (.slice none 0 0) _ (hxi.to HB12) (hxp.to HB12) (TextsAt.nil _) (PathsAt.nil _)
                rw [same_refl] at this
                exact this
              have HBB := hide (below_to H12.out.bel (Nat.le_refl _) HB12)
              clear hxi hxp HB12 H12
              go_wp2_with fail
              refine CS.mono ?_
              rintro e w13 ⟨rfl, hb⟩
              have HBC := hide (below_to HBB.out (Nat.le_refl _) hb)
              clear hb CS HBB
              go_wp2_with fail
              go_ret
              exact ⟨rfl, HBC.out⟩
            | some y =>
              obtain ⟨hfy, hty⟩ := text_of_parse hpt
              rw [show parseV t = y by unfold parseV; rw [hpt]; rfl, show parseE t = 0 by unfold parseE; rw [hpt]; rfl] at CP
              refine CP.mono ?_
              rintro e w12 ⟨xi, xp, rfl, hxi, hxp, hb⟩
              have H12 := hide (H11.out.to hb)
              have CT := fun (w' : World) (hb' : Below w12.heap.size w12 w') => Text_any y (formed_fit hfy) xi xp w' (HG.out.to (below_to H12.out.bel (Nat.le_refl _) hb')) (hxi.to hb') (hxp.to hb')
              rw [show textV y = t by unfold textV; rw [hfy]; exact hty, show textE y = 0 by unfold textE; rw [hfy]; rfl] at CT
              obtain ⟨Xi, xci, rfl, _⟩ := hxi.slice
              obtain ⟨Xp, xcp, rfl, _⟩ := hxp.slice
              clear hb CP H11 hxi hxp hpt hfy hty
              unfold Pg.cs at CT ⊢
              have HB12 := below_one w12 (.cells #[.int .i64 y.fr, .int .i64 y.size, .string (bs y.root), .slice Xi y.items.length xci, .slice Xp y.paths.length xcp] 25)
              have CT := CT _ HB12
              have HBB := hide (below_to H12.out.bel (Nat.le_refl _) HB12)
              have q : ((bs t).toList == (bs t).toList) = true := by simp
              clear HB12 H12
              go_wp2_with fail
              refine CT.mono ?_
              rintro e w13 ⟨rfl, hb⟩
              have HBC := hide (below_to HBB.out (Nat.le_refl _) hb)
              clear hb CT HBB
              go_wp2_with fail
              go_ret
              exact ⟨rfl, HBC.out⟩
      · have c0 : decide ((3000 : Int) < (t.length : Int)) = true := decide_eq_true (by omega)
        go_wp2_with (first | ((with_reducible refine CF.mono ?_); rintro e w4 ⟨rfl, hb⟩; have CG := CG w4 hb; have H4 := hide (H3.out.to hb); clear hb CF p0 p1 p2 p3 p4 q0 q1 q2 q3 q4 H3; obtain ⟨p0, p1, p2, p3, p4⟩ := page_cells H4.out.bP; obtain ⟨q0, q1, q2, q3, q4⟩ := page_cells H4.out.bQ) | ((with_reducible refine CG.mono ?_); rintro e w5 ⟨rfl, hb⟩; have H5 := hide (H4.out.to hb); clear hb CG p0 p1 p2 p3 p4 q0 q1 q2 q3 q4 H4))
        go_ret
        exact ⟨rfl, H5.out.bel⟩
end Go.Proofs.YtfhanbiifjiklaaGreatDoor

/- The walk of PageComplete. -/
set_option linter.unusedVariables false
set_option linter.unusedSimpArgs false
namespace Go.Proofs.YtfhanbiifjiklaaGreatDoor
open Go.RowKit

theorem NewL {items : List (List UInt8)} (h : Lg items) (w : World) (hg : Glob w) : Calls Tryz.prog 21 #[.string (bs (rootL items)), .int .i64 (items.length : Int)] w fun e w' => ∃ b, e = .returned (.tuple #[cliP b, .int .i64 0]) ∧ w.heap.size ≤ b ∧ CliAt b (rootL items) items.length [] (.slice none 0 0) w' ∧ Below w.heap.size w w' := by
  have := New_any (rootL items) (by rw [isD_len (root_isD items)]; decide) items.length w hg
  unfold NewR at this
  simp only [new_yes h, if_true] at this
  refine this.mono ?_
  rintro e w' ⟨⟨b, h1, h2, h3⟩, h4⟩
  exact ⟨b, h1, h2, h3, h4⟩
theorem rootL_any {items : List (List UInt8)} (h : Lg items) (v : Value) (w : World) (hv : TextsAt w v items) (hg : Glob w) : Calls Tryz.prog 22 #[v] w fun e w' => e = .returned (.string (bs (rootL items))) ∧ Below w.heap.size w w' := root_any items h.big.1 h.big.2 v w hv hg
/-- what a client keeps between two pages -/
structure CoI (w : World) (b : Nat) (items : List (List UInt8)) (k : Nat) (v : Value) (W : World) : Prop where
  bel : Below w.heap.size w W
  cli : CliAt b (rootL items) items.length (items.take k) v W
  ord : w.heap.size ≤ b
  le : k ≤ items.length
theorem CoI.to {w W W' : World} {b k : Nat} {items : List (List UInt8)} {v : Value} (h : CoI w b items k v W) (hb : Below W.heap.size W W') : CoI w b items k v W' := ⟨below_to h.bel (Nat.le_refl _) hb, h.cli.to hb, h.ord, h.le⟩
theorem CoI.acc {w W W' : World} {b k k' : Nat} {items : List (List UInt8)} {v v' : Value} (h : CoI w b items k v W) (hT : Two b (rowOr v b) W W') (hc : CliAt b (rootL items) items.length (items.take k') v' W') (hk : k' ≤ items.length) : CoI w b items k' v' W' := by
  have hr : b ≤ rowOr v b := rowOr_le (fun g e => by have := (h.cli.lt g e).1; omega) (Nat.le_refl _)
  exact ⟨h.bel.trans (hT.below h.bel.size h.ord (Nat.le_trans h.ord hr)), hc, h.ord, hk⟩
theorem CoI.next {w W : World} {b k : Nat} {items : List (List UInt8)} {v : Value} (h : CoI w b items k v W) (hl : Lg items) : Calls Tryz.prog 23 #[.pointer (some ⟨b, 0, none⟩)] W fun e w' => e = .returned (.int .i64 (k : Int)) ∧ Below W.heap.size W w' := by
  have := Next_any b _ _ (items.take k) (by have := hl.big.1; rw [List.length_take]; omega) v W h.cli
  rw [List.length_take, Nat.min_eq_left h.le] at this
  exact this
theorem CoI.its {w W : World} {b k : Nat} {items : List (List UInt8)} {v : Value} (h : CoI w b items k v W) (hl : Lg items) : Calls Tryz.prog 26 #[.pointer (some ⟨b, 0, none⟩)] W (ItemsR (items.take k) W) :=
  Items_any b _ _ (items.take k) (by have := hl.big.1; rw [List.length_take]; omega) v W h.cli
/-- a page of the log, wherever its arrays lie behind the client -/
theorem CoI.accept {w W : World} {b k F M lo hi : Nat} {items : List (List UInt8)} {v vi vp : Value} (h : CoI w b items k v W) (hl : Lg items) (hF : F ≤ items.length) (h2 : M ≤ 50) (hg : Glob w) (hp : PgAt lo hi W vi vp (pageV items F M)) (hlo : b < lo) (hv : ∀ g, v.ownBlock = some g → g < lo) :
    Calls Tryz.prog 24 #[.pointer (some ⟨b, 0, none⟩), .agg ((pageV items F M).cs vi vp)] W fun e w' => ∃ v', e = .returned (.int .i64 (if k < F then 13 else 0)) ∧ CoI w b items (if k < F then k else max k (min (F + M) items.length)) v' w' ∧ Two b (rowOr v b) W w' := by
  have C := Accept_any b (rootL items) items.length (items.take k) (by have := hl.big.1; rw [List.length_take]; omega) v (pageV items F M) (page_fit hl hF h2) vi vp W (hg.to h.bel) h.cli hp.ti hp.tp (fun _ e => by have := hp.bi b e; omega) (fun g e _ e2 => by have := hp.bi g e2; have := hv g e; omega)
  rw [page_accE hl hF h2 h.le, page_accV hl hF h2 h.le] at C
  refine C.mono ?_
  rintro e w' ⟨v', h1, h2, h3, _⟩
  exact ⟨v', h1, h.acc h3 h2 (by have := h.le; split <;> omega), h3⟩
set_option maxRecDepth 100000 in
set_option maxHeartbeats 4000000 in
theorem complete_law (items : List (List UInt8)) (hn : items.length ≤ 8796093022208) (hx : ∀ x ∈ items, x.length ≤ 140737488355328) (zs : List Nat) (hz : zs.length ≤ 140737488355328) (hz2 : ∀ z ∈ zs, z ≤ 255) (v vz : Value) (w : World) (hv : TextsAt w v items) (hvz : U8sAt w vz zs) (hg : Glob w) :
    Calls Tryz.prog 4 #[v, vz] w fun e w' => e = .returned (.bool true) ∧ Below w.heap.size w w' := by
  have HS := hide hv
  have HZ := hide hvz
  have HG := hide hg
  have CF := fun (w' : World) (hb : Below w.heap.size w w') => few_any items hn hx v w' (hv.to hb)
  obtain ⟨A, c, rfl, _⟩ := hv.slice
  obtain ⟨Az, cz, rfl, _⟩ := hvz.slice
  have C1 := head_any w hg
  clear hv hvz hg
  go_enter Tryz.func4, Tryz.ntmps4
  go_wp2_with fail
  refine C1.mono ?_
  rintro e w1 ⟨rfl, hb⟩
  have HB1 := hide hb
  have CF := CF w1 hb
  clear hb C1
  go_wp2_with fail
  refine CF.mono ?_
  rintro e w2 ⟨rfl, rfl⟩
  clear CF
  cases hfew : fewI items with
  | false =>
    go_wp2_with fail
    go_ret
    exact ⟨rfl, HB1.out⟩
  | true =>
    have HL := hide (fewI_lg hfew)
    have hlen := HL.out.len
    clear hfew
    go_wp2_with fail
    have C3 := rootL_any HL.out _ w2 (HS.out.to HB1.out) (HG.out.to HB1.out)
    refine C3.mono ?_
    rintro e w3 ⟨rfl, hb⟩
    have HB3 := hide (below_to HB1.out (Nat.le_refl _) hb)
    clear hb C3 HB1
    go_wp2_with fail
    have C4 := NewL HL.out w3 (HG.out.to HB3.out)
    unfold cliP at C4
    refine C4.mono ?_
    rintro e w4 ⟨b, rfl, hbb, hcl, hb⟩
    have H4 : Hid (CoI w b items 0 (.slice none 0 0) w4) := ⟨below_to HB3.out (Nat.le_refl _) hb, hcl, by have := HB3.out.size; omega, by omega⟩
    clear hb C4 HB3 hcl hbb
    go_wp2_with fail
    go_loopw [8] (fun i wr => ∃ (m k : Nat) (v' : Value), i = .int .i64 (m : Int) ∧ m ≤ items.length ∧ m ≤ k ∧ Aside (CoI w b items k v' wr)) (fun i _ => items.length - (intOf i).toNat)
    case atStart => exact ⟨0, 0, _, rfl, by omega, by omega, H4.out⟩
    case round =>
      clear H4
      obtain ⟨m, k, v', rfl, hm, hmk, hI⟩ := hrel
      have hI : Hid (CoI w b items k v' wr) := hI
      have hkn := hI.out.le
      by_cases hlt : m < items.length
      · have e1 : decide ((m : Int) < (items.length : Int)) = true := decide_eq_true (by omega)
        by_cases hmz : m < zs.length
        · have e2 : decide ((m : Int) < (zs.length : Int)) = true := decide_eq_true (by omega)
          obtain ⟨z, hz1⟩ : ∃ z, zs[m]? = some z := ⟨_, List.getElem?_eq_getElem hmz⟩
          have hzb := hz2 z (List.mem_of_getElem? hz1)
          obtain ⟨a, rfl, ha, c0⟩ := (HZ.out.to hI.out.bel).at_ hz1
          clear hz1
          have i0 : (0 : Int) ≤ (m : Int) := by omega
          have i1 : (m : Int) < (zs.length : Int) := by omega
          have hm1 : 1 ≤ 1 + z % 50 := by omega
          have hm2 : 1 + z % 50 ≤ 50 := by omega
          go_wp2_with fail
          have C5 := hI.out.next HL.out
          refine C5.mono ?_
          rintro e w5 ⟨rfl, hb⟩
          have H5 := hide (hI.out.to hb)
          clear hb C5 hI
          go_wp2_with fail
          have C6 := Serve_yes items HL.out.big.1 HL.out.big.2 k (1 + z % 50) (serve_yes HL.out H5.out.le hm1 hm2) _ w5 (HG.out.to H5.out.bel) (HS.out.to H5.out.bel)
          rw [show ((1 + z % 50 : Nat) : Int) = 1 + (z : Int) % 50 by omega] at C6
          unfold ServeR at C6
          refine C6.mono ?_
          rintro e w6 ⟨vi, vp, rfl, hpg, hb⟩
          have HP6 := hide hpg
          have H6 := hide (H5.out.to hb)
          have hvl := fun g e => (H5.out.cli.lt g e).2
          have hbl : b < w5.heap.size := H5.out.cli.blk.lt
          obtain ⟨Ai, ci, rfl, _⟩ := hpg.ti.slice
          obtain ⟨Ap, cp, rfl, _⟩ := hpg.tp.slice
          clear hb hpg C6 H5
          have HP7 := hide (HP6.out.to (below_one w6 (.cells ((pageV items k (1 + z % 50)).cs (.slice Ai (pageV items k (1 + z % 50)).items.length ci) (.slice Ap (pageV items k (1 + z % 50)).paths.length cp)) 25)))
          have H7 := hide (H6.out.to (below_one w6 (.cells ((pageV items k (1 + z % 50)).cs (.slice Ai (pageV items k (1 + z % 50)).items.length ci) (.slice Ap (pageV items k (1 + z % 50)).paths.length cp)) 25)))
          have C7 := H7.out.accept HL.out H7.out.le hm2 HG.out HP7.out hbl hvl
          rw [if_neg (Nat.lt_irrefl k), if_neg (Nat.lt_irrefl k)] at C7
          clear HP6 H6 HP7 hvl hbl
          unfold Pg.cs at C7 H7 ⊢
          go_wp2_with fail
          refine C7.mono ?_
          rintro e w8 ⟨v8, rfl, hI8, _⟩
          have H8 := hide hI8
          clear hI8 C7 H7
          go_wp2_with fail
          refine ⟨⟨m + 1, max k (min (k + (1 + z % 50)) items.length), _, by go_num, by omega, by omega, H8.out⟩, ?_⟩
          simp [intOf]; omega
        · have e2 : decide ((m : Int) < (zs.length : Int)) = false := decide_eq_false (by omega)
          go_wp2_with fail
          have C5 := hI.out.next HL.out
          refine C5.mono ?_
          rintro e w5 ⟨rfl, hb⟩
          have H5 := hide (hI.out.to hb)
          clear hb C5 hI
          go_wp2_with fail
          have C6 := Serve_yes items HL.out.big.1 HL.out.big.2 k (1) (serve_yes HL.out H5.out.le (Nat.le_refl 1) (by decide : 1 ≤ 50)) _ w5 (HG.out.to H5.out.bel) (HS.out.to H5.out.bel)
          have C6 : Calls Tryz.prog 14 #[.slice A items.length c, .int .i64 (k : Int), .int .i64 1] w5 _ := C6
          unfold ServeR at C6
          refine C6.mono ?_
          rintro e w6 ⟨vi, vp, rfl, hpg, hb⟩
          have HP6 := hide hpg
          have H6 := hide (H5.out.to hb)
          have hvl := fun g e => (H5.out.cli.lt g e).2
          have hbl : b < w5.heap.size := H5.out.cli.blk.lt
          obtain ⟨Ai, ci, rfl, _⟩ := hpg.ti.slice
          obtain ⟨Ap, cp, rfl, _⟩ := hpg.tp.slice
          clear hb hpg C6 H5
          have HP7 := hide (HP6.out.to (below_one w6 (.cells ((pageV items k (1)).cs (.slice Ai (pageV items k (1)).items.length ci) (.slice Ap (pageV items k (1)).paths.length cp)) 25)))
          have H7 := hide (H6.out.to (below_one w6 (.cells ((pageV items k (1)).cs (.slice Ai (pageV items k (1)).items.length ci) (.slice Ap (pageV items k (1)).paths.length cp)) 25)))
          have C7 := H7.out.accept HL.out H7.out.le (by decide : 1 ≤ 50) HG.out HP7.out hbl hvl
          rw [if_neg (Nat.lt_irrefl k), if_neg (Nat.lt_irrefl k)] at C7
          clear HP6 H6 HP7 hvl hbl
          unfold Pg.cs at C7 H7 ⊢
          go_wp2_with fail
          refine C7.mono ?_
          rintro e w8 ⟨v8, rfl, hI8, _⟩
          have H8 := hide hI8
          clear hI8 C7 H7
          go_wp2_with fail
          refine ⟨⟨m + 1, max k (min (k + (1)) items.length), _, by go_num, by omega, by have := (Nat.le_refl 1); omega, H8.out⟩, ?_⟩
          simp [intOf]; omega
      · obtain rfl : m = items.length := by omega
        obtain rfl : k = items.length := by omega
        have e1 : decide ((items.length : Int) < (items.length : Int)) = false := by simp
        go_wp2_with fail
        have C5 := hI.out.its HL.out
        unfold ItemsR at C5
        rw [List.take_length] at C5
        refine C5.mono ?_
        rintro e w5 ⟨v5, rfl, ho, hb⟩
        have H5 := hide (hI.out.to hb)
        have HT := hide (TextsAt.of_own ho)
        obtain ⟨A5, c5, rfl⟩ := own_sl4 ho
        clear hb C5 hI ho
        go_wp2_with fail
        have C6 : Calls Tryz.prog 25 #[.slice A5 items.length c5, .slice A items.length c] w5 fun e w' => e = .returned (.bool true) ∧ Below w5.heap.size w5 w' := by
          have := Same_any items items hn hn _ _ w5 HT.out (HS.out.to H5.out.bel)
          rwa [decide_eq_true rfl] at this
        refine C6.mono ?_
        rintro e w6 ⟨rfl, hb⟩
        have H6 := hide (H5.out.to hb)
        clear hb C6 H5 HT
        go_wp2_with fail
        have C7 := H6.out.next HL.out
        refine C7.mono ?_
        rintro e w7 ⟨rfl, hb⟩
        have H7 := hide (H6.out.to hb)
        clear hb C7 H6
        have hq : ((items.length : Int) == (items.length : Int)) = true := by simp
        go_wp2_with fail
        go_ret
        exact ⟨ret_bool (by simp), H7.out.bel⟩
end Go.Proofs.YtfhanbiifjiklaaGreatDoor

/- The walk of PageGrows. -/
set_option linter.unusedVariables false
set_option linter.unusedSimpArgs false
namespace Go.Proofs.YtfhanbiifjiklaaGreatDoor
open Go.RowKit

theorem rootL_take (items : List (List UInt8)) (m : Nat) : rootL (items.take m) = totalT ((leavesV items).take m) := by unfold rootL leavesV; rw [List.map_take]
theorem grow_link {items : List (List UInt8)} (hl : Lg items) {m : Nat} (hm : m ≤ items.length) : growE (rootL (items.take m)) m (rootL items) items.length (lkV (leavesV items) m) = 0 := by
  have hn := hl.len
  have hx := ext_link (leaves_proper items) (by rw [leaves_len]; omega) (m := m) (by rw [leaves_len]; exact hm)
  rw [← rootL_take, leaves_len] at hx
  unfold growE growOk
  rw [root_isD, decide_eq_true (by omega : (m : Int) ≤ (items.length : Int)), decide_eq_true (by omega : (items.length : Int) ≤ 10000)]
  show (if extV (rootL (items.take m)) m (rootL items) items.length (lkV (leavesV items) m) = true then (0 : Int) else 17) = 0
  exact if_pos hx
theorem linkF_small : ∀ (f : Nat) (l : List (List UInt8)) (m : Nat) (wh : Bool), properT l = true → (linkF f l m wh).length ≤ f ∧ ∀ d ∈ linkF f l m wh, d.length ≤ 1000
  | 0, l, m, wh, hp => ⟨Nat.le_refl _, fun d hd => by cases hd⟩
  | f + 1, l, m, wh, hp => by
    have q1 : ∀ k, properT (l.take k) = true := fun k => by unfold properT at hp ⊢; exact List.all_eq_true.2 fun x hx => List.all_eq_true.1 hp x (List.mem_of_mem_take hx)
    have q2 : ∀ k, properT (l.drop k) = true := fun k => by unfold properT at hp ⊢; exact List.all_eq_true.2 fun x hx => List.all_eq_true.1 hp x (List.mem_of_mem_drop hx)
    unfold linkF
    split
    · split
      · exact ⟨by simp, fun d hd => by cases hd⟩
      · exact ⟨by simp, fun d hd => by rw [List.mem_singleton.1 hd, isD_len (total_isD l hp)]; decide⟩
    · split
      · obtain ⟨h1, h2⟩ := linkF_small f (l.take (halfN l.length)) m wh (q1 _)
        exact ⟨by rw [List.length_cons]; omega, fun d hd => (List.mem_cons.1 hd).elim (fun e => by rw [e, isD_len (total_isD _ (q2 _))]; decide) (h2 d)⟩
      · obtain ⟨h1, h2⟩ := linkF_small f (l.drop (halfN l.length)) (m - halfN l.length) false (q2 _)
        exact ⟨by rw [List.length_cons]; omega, fun d hd => (List.mem_cons.1 hd).elim (fun e => by rw [e, isD_len (total_isD _ (q1 _))]; decide) (h2 d)⟩
theorem lk_small {items : List (List UInt8)} (hl : Lg items) (m : Nat) : (lkV (leavesV items) m).length ≤ 12 ∧ ∀ d ∈ lkV (leavesV items) m, d.length ≤ 1000 := by
  unfold lkV
  split
  · exact ⟨by simp, fun d hd => by cases hd⟩
  · obtain ⟨h1, h2⟩ := linkF_small (leavesV items).length (leavesV items) m true (leaves_proper items)
    have := hl.len
    rw [leaves_len] at h1
    exact ⟨by rw [List.length_reverse, leaves_len]; omega, fun d hd => h2 d (by simpa using hd)⟩
set_option maxRecDepth 100000 in
set_option maxHeartbeats 1000000 in
theorem grows_law (items : List (List UInt8)) (hn : items.length ≤ 8796093022208) (hx : ∀ x ∈ items, x.length ≤ 140737488355328) (y z : Nat) (hy : y ≤ 255) (hz : z ≤ 255) (v : Value) (w : World) (hv : TextsAt w v items) (hg : Glob w) :
    Calls Tryz.prog 10 #[v, .int .u8 (y : Int), .int .u8 (z : Int)] w fun e w' => e = .returned (.bool true) ∧ Below w.heap.size w w' := by
  have HS := hide hv
  have HG := hide hg
  have CF := fun (w' : World) (hb : Below w.heap.size w w') => few_any items hn hx v w' (hv.to hb)
  obtain ⟨A, c, rfl, hc⟩ := hv.slice
  have C1 := head_any w hg
  clear hv hg
  cases hfew : fewI items with
  | false =>
    rw [hfew] at CF
    clear hfew
    go_enter Tryz.func10, Tryz.ntmps10
    go_wp2_with fail
    refine C1.mono ?_
    rintro e w1 ⟨rfl, hb⟩
    have HB1 := hide hb
    have CF := CF w1 hb
    clear hb C1
    go_wp2_with ((with_reducible refine CF.mono ?_); rintro e w3 ⟨rfl, e9⟩; have e9 := e9.symm; subst e9)
    go_ret
    exact ⟨rfl, HB1.out⟩
  | true =>
    have HL := hide (fewI_lg hfew)
    have hlen := HL.out.len
    rw [hfew] at CF
    obtain ⟨m, hm⟩ : ∃ m, y % (items.length + 1) = m := ⟨_, rfl⟩
    have hml : m ≤ items.length := by have := Nat.mod_lt y (show 0 < items.length + 1 by omega); omega
    have em : (y : Int) % ((items.length : Int) + 1) = (m : Int) := by rw [← hm]; push_cast; rfl
    obtain ⟨k, hk⟩ : ∃ k, z % (m + 1) = k := ⟨_, rfl⟩
    have hkm : k ≤ m := by have := Nat.mod_lt z (show 0 < m + 1 by omega); omega
    have ek : (z : Int) % ((m : Int) + 1) = (k : Int) := by rw [← hk]; push_cast; rfl
    have ne1 : ¬ ((items.length : Int) + 1 = 0) := by omega
    have ne2 : ¬ ((m : Int) + 1 = 0) := by omega
    have k0 : (0 : Int) ≤ (m : Int) := by omega
    have k1 : (m : Int) ≤ (c : Int) := by omega
    have HSM := hide (HS.out.take (k := m) hml c (by omega))
    clear hfew hm hk
    go_enter Tryz.func10, Tryz.ntmps10
    go_wp2_with fail
    refine C1.mono ?_
    rintro e w1 ⟨rfl, hb⟩
    have HB1 := hide hb
    have CF := CF w1 hb
    clear hb C1
    go_wp2_with ((with_reducible refine CF.mono ?_); rintro e w3 ⟨rfl, e9⟩; have e9 := e9.symm; subst e9)
    have C2 := rootL_any (HL.out.take m) (.slice A m c) w1 (HSM.out.to HB1.out) (HG.out.to HB1.out)
    refine C2.mono ?_
    rintro e w2 ⟨rfl, hb⟩
    have HB2 := hide (below_to HB1.out (Nat.le_refl _) hb)
    have hlm : (items.take m).length = m := by rw [List.length_take]; omega
    have C3 := NewL (HL.out.take m) w2 (HG.out.to HB2.out)
    unfold cliP at C3
    rw [hlm] at C3
    have C3 : Calls Tryz.prog 21 #[.string (bs (rootL (items.take m))), .int .i64 (m : Int)] w2 (fun e w' => ∃ b, e = .returned (.tuple #[.pointer (some ⟨b, 0, none⟩), .int .i64 0]) ∧ w2.heap.size ≤ b ∧ CliAt b (rootL (items.take m)) (m : Int) [] (.slice none 0 0) w' ∧ Below w2.heap.size w2 w') := C3
    clear hb C2 HB1
    go_wp2_with fail
    with_reducible refine C3.mono ?_
    rintro e w3 ⟨b, rfl, hbb, hcl, hb⟩
    have H3 : Hid (CoI w b (items.take m) 0 (.slice none 0 0) w3) := ⟨below_to HB2.out (Nat.le_refl _) hb, by rw [hlm]; exact hcl, by have := HB2.out.size; omega, by omega⟩
    clear hb C3 HB2 hcl hbb
    have z1 : ((k : Int) != (k : Int)) = false := by simp
    have z2 : ((k : Int) == (k : Int)) = true := by simp
    by_cases hk0 : 0 < k
    · have e3 : decide (0 < k) = true := decide_eq_true (by omega)
      have e3' : decide ((0 : Int) < (k : Int)) = true := decide_eq_true (by omega)
      have hlt0 := (HL.out.take m).big
      go_wp2_with fail
      have C3 : Calls Tryz.prog 14 #[.slice A m c, .int .i64 0, .int .i64 (k : Int)] w3 (ServeR (pageV (items.take m) (0) (k)) 0 w3) := Serve_yes (items.take m) hlt0.1 hlt0.2 0 k (serve_yes (HL.out.take m) (Nat.zero_le _) (by omega) (by omega)) _ w3 (HG.out.to H3.out.bel) (by have := HSM.out.to H3.out.bel; exact this)
      unfold ServeR at C3
      with_reducible refine C3.mono ?_
      rintro e w4 ⟨vi, vp, rfl, hpg, hb⟩
      have HP4 := hide hpg
      have H4 := hide (H3.out.to hb)
      have hvl := fun g e => (H3.out.cli.lt g e).2
      have hbl : b < w3.heap.size := H3.out.cli.blk.lt
      obtain ⟨Ai, ci, rfl, _⟩ := hpg.ti.slice
      obtain ⟨Ap, cp, rfl, _⟩ := hpg.tp.slice
      clear hb hpg C3 H3
      have HPb := hide (HP4.out.to (below_one w4 (.cells ((pageV (items.take m) (0) (k)).cs (.slice Ai (pageV (items.take m) (0) (k)).items.length ci) (.slice Ap (pageV (items.take m) (0) (k)).paths.length cp)) 25)))
      have Hb := hide (H4.out.to (below_one w4 (.cells ((pageV (items.take m) (0) (k)).cs (.slice Ai (pageV (items.take m) (0) (k)).items.length ci) (.slice Ap (pageV (items.take m) (0) (k)).paths.length cp)) 25)))
      have CA := Hb.out.accept (HL.out.take m) (Nat.zero_le _) (by omega : k ≤ 50) HG.out HPb.out hbl hvl
      rw [if_neg (Nat.lt_irrefl _), if_neg (Nat.lt_irrefl _)] at CA
      clear HP4 H4 HPb hvl hbl
      unfold Pg.cs at CA Hb ⊢
      go_wp2_with fail
      with_reducible refine CA.mono ?_
      rintro e w5 ⟨v5, rfl, hI, _⟩
      have H5 : Hid (CoI w b (items.take m) k v5 w5) := by
        have e : max 0 (min (0 + k) (items.take m).length) = k := by rw [hlm]; omega
        rw [e] at hI; exact hI
      clear hI CA Hb
      have C5 := H5.out.next (HL.out.take m)
      go_wp2_with fail
      refine C5.mono ?_
      rintro e w6 ⟨rfl, hb⟩
      have H6 := hide (H5.out.to hb)
      clear hb C5 H5
      go_wp2_with fail
      have C6 := leaves_any items (by omega) HL.out.big.2 (.slice A items.length c) w6 (HS.out.to H6.out.bel) (HG.out.to H6.out.bel)
      unfold LvR at C6
      go_wp2_with fail
      with_reducible refine C6.mono ?_
      rintro e w7 ⟨vl, rfl, ho, hb⟩
      have H7 := hide (H6.out.to hb)
      have HT7 := hide (TextsAt.of_own ho)
      clear hb C6 H6 ho
      go_wp2_with fail
      have C7 : Calls Tryz.prog 41 #[vl, .int .i64 (m : Int)] w7 (LinkR (leavesV items) m w7) :=
        Link_any (leavesV items) (by rw [leaves_len]; omega) (leaves_proper items) (fun x hx => by obtain ⟨y, _, rfl⟩ := List.mem_map.1 hx; rw [isD_len (leaf_isD y)]; decide) m (by rw [leaves_len]; exact hml) vl w7 HT7.out (HG.out.to H7.out.bel)
      unfold LinkR at C7
      with_reducible refine C7.mono ?_
      rintro e w8 ⟨vk, rfl, htk, hb⟩
      have H8 := hide (H7.out.to hb)
      have HT8 := hide htk
      clear hb C7 H7 HT7 htk
      go_wp2_with fail
      have C8 := rootL_any HL.out (.slice A items.length c) w8 (HS.out.to H8.out.bel) (HG.out.to H8.out.bel)
      with_reducible refine C8.mono ?_
      rintro e w9 ⟨rfl, hb⟩
      have H9 := hide (H8.out.to hb)
      have HT9 := hide (HT8.out.to hb)
      clear hb C8 H8 HT8
      have hls := lk_small HL.out m
      have C9 := Grow_any b (rootL (items.take m)) (items.take m).length ((items.take m).take k) v5 (rootL items) items.length (lkV (leavesV items) m) (by rw [isD_len (root_isD _)]; decide) (by rw [isD_len (root_isD _)]; decide) (by have := hls.1; omega) (fun x hx => by have := hls.2 x hx; omega) vk w9 (HG.out.to H9.out.bel) H9.out.cli HT9.out
      have hge := grow_link HL.out hml
      unfold GrowR cliP at C9
      rw [hlm, hge] at C9
      simp only [if_true] at C9
      go_wp2_with fail
      with_reducible refine C9.mono ?_
      rintro e w10 ⟨rfl, hcl, hT⟩
      rw [List.take_take, Nat.min_eq_left hkm] at hcl
      have H10 : Hid (CoI w b items k v5 w10) := ⟨H9.out.bel.trans (hT.below H9.out.bel.size H9.out.ord H9.out.ord), hcl, H9.out.ord, by omega⟩
      clear hcl hT C9 H9 HT9 hge hls
      go_wp2_with fail
      have C10 := H10.out.next HL.out
      with_reducible refine C10.mono ?_
      rintro e w11 ⟨rfl, hb⟩
      have H11 := hide (H10.out.to hb)
      clear hb C10 H10
      go_wp2_with fail
      have C11 : Calls Tryz.prog 14 #[.slice A items.length c, .int .i64 (k : Int), .int .i64 50] w11 (ServeR (pageV items (k) (50)) 0 w11) := Serve_yes items HL.out.big.1 HL.out.big.2 k 50 (serve_yes HL.out H11.out.le (by decide) (by decide)) _ w11 (HG.out.to H11.out.bel) (HS.out.to H11.out.bel)
      unfold ServeR at C11
      with_reducible refine C11.mono ?_
      rintro e w12 ⟨vi, vp, rfl, hpg, hb⟩
      have HP12 := hide hpg
      have H12 := hide (H11.out.to hb)
      have hvl := fun g e => (H11.out.cli.lt g e).2
      have hbl : b < w11.heap.size := H11.out.cli.blk.lt
      obtain ⟨Ai, ci, rfl, _⟩ := hpg.ti.slice
      obtain ⟨Ap, cp, rfl, _⟩ := hpg.tp.slice
      clear hb hpg C11 H11
      have HPb := hide (HP12.out.to (below_one w12 (.cells ((pageV items (k) (50)).cs (.slice Ai (pageV items (k) (50)).items.length ci) (.slice Ap (pageV items (k) (50)).paths.length cp)) 25)))
      have Hb := hide (H12.out.to (below_one w12 (.cells ((pageV items (k) (50)).cs (.slice Ai (pageV items (k) (50)).items.length ci) (.slice Ap (pageV items (k) (50)).paths.length cp)) 25)))
      have CA := Hb.out.accept HL.out Hb.out.le (by decide : 50 ≤ 50) HG.out HPb.out hbl hvl
      rw [if_neg (Nat.lt_irrefl _), if_neg (Nat.lt_irrefl _)] at CA
      clear HP12 H12 HPb hvl hbl
      unfold Pg.cs at CA Hb ⊢
      go_wp2_with fail
      with_reducible refine CA.mono ?_
      rintro e w13 ⟨v13, rfl, hI, _⟩
      have H13 : Hid (CoI w b items items.length v13 w13) := by
        have e : max k (min (k + 50) items.length) = items.length := by omega
        rw [← e]; exact hI
      clear hI CA Hb
      have CI := H13.out.its HL.out
      unfold ItemsR at CI
      rw [List.take_length] at CI
      go_wp2_with fail
      with_reducible refine CI.mono ?_
      rintro e w14 ⟨vt, rfl, ho, hb⟩
      have H14 := hide (H13.out.to hb)
      have CS : Calls Tryz.prog 25 #[vt, .slice A items.length c] w14 fun e w' => e = .returned (.bool true) ∧ Below w14.heap.size w14 w' := by
        have := Same_any items items hn hn _ _ w14 (TextsAt.of_own ho) (HS.out.to H14.out.bel)
        rwa [decide_eq_true rfl] at this
      clear hb CI H13 ho
      go_wp2_with fail
      with_reducible refine CS.mono ?_
      rintro e w15 ⟨rfl, hb⟩
      have HB9 := hide (below_to H14.out.bel (Nat.le_refl _) hb)
      clear hb CS H14
      go_wp2_with fail
      go_ret
      exact ⟨rfl, HB9.out⟩
    · have H3 : Hid (CoI w b (items.take m) k (.slice none 0 0) w3) := by
        have e : k = 0 := by omega
        rw [e]; exact H3
      have e3 : decide ((0 : Int) < (k : Int)) = false := decide_eq_false (by omega)
      have e3' : decide (0 < k) = false := decide_eq_false (by omega)
      go_wp2_with fail
      have C3 := leaves_any items (by omega) HL.out.big.2 (.slice A items.length c) w3 (HS.out.to H3.out.bel) (HG.out.to H3.out.bel)
      unfold LvR at C3
      go_wp2_with fail
      with_reducible refine C3.mono ?_
      rintro e w4 ⟨vl, rfl, ho, hb⟩
      have H4 := hide (H3.out.to hb)
      have HT4 := hide (TextsAt.of_own ho)
      clear hb C3 H3 ho
      go_wp2_with fail
      have C4 : Calls Tryz.prog 41 #[vl, .int .i64 (m : Int)] w4 (LinkR (leavesV items) m w4) :=
        Link_any (leavesV items) (by rw [leaves_len]; omega) (leaves_proper items) (fun x hx => by obtain ⟨y, _, rfl⟩ := List.mem_map.1 hx; rw [isD_len (leaf_isD y)]; decide) m (by rw [leaves_len]; exact hml) vl w4 HT4.out (HG.out.to H4.out.bel)
      unfold LinkR at C4
      with_reducible refine C4.mono ?_
      rintro e w5 ⟨vk, rfl, htk, hb⟩
      have H5 := hide (H4.out.to hb)
      have HT5 := hide htk
      clear hb C4 H4 HT4 htk
      go_wp2_with fail
      have C5 := rootL_any HL.out (.slice A items.length c) w5 (HS.out.to H5.out.bel) (HG.out.to H5.out.bel)
      with_reducible refine C5.mono ?_
      rintro e w6 ⟨rfl, hb⟩
      have H6 := hide (H5.out.to hb)
      have HT6 := hide (HT5.out.to hb)
      clear hb C5 H5 HT5
      have hls := lk_small HL.out m
      have C6 := Grow_any b (rootL (items.take m)) (items.take m).length ((items.take m).take k) (.slice none 0 0) (rootL items) items.length (lkV (leavesV items) m) (by rw [isD_len (root_isD _)]; decide) (by rw [isD_len (root_isD _)]; decide) (by have := hls.1; omega) (fun x hx => by have := hls.2 x hx; omega) vk w6 (HG.out.to H6.out.bel) H6.out.cli HT6.out
      have hge := grow_link HL.out hml
      unfold GrowR cliP at C6
      rw [hlm, hge] at C6
      simp only [if_true] at C6
      go_wp2_with fail
      with_reducible refine C6.mono ?_
      rintro e w7 ⟨rfl, hcl, hT⟩
      rw [List.take_take, Nat.min_eq_left hkm] at hcl
      have H7 : Hid (CoI w b items k (.slice none 0 0) w7) := ⟨H6.out.bel.trans (hT.below H6.out.bel.size H6.out.ord H6.out.ord), hcl, H6.out.ord, by omega⟩
      clear hcl hT C6 H6 HT6 hge hls
      go_wp2_with fail
      have C7 := H7.out.next HL.out
      with_reducible refine C7.mono ?_
      rintro e w8 ⟨rfl, hb⟩
      have H8 := hide (H7.out.to hb)
      clear hb C7 H7
      go_wp2_with fail
      have C8 : Calls Tryz.prog 14 #[.slice A items.length c, .int .i64 (k : Int), .int .i64 50] w8 (ServeR (pageV items (k) (50)) 0 w8) := Serve_yes items HL.out.big.1 HL.out.big.2 k 50 (serve_yes HL.out H8.out.le (by decide) (by decide)) _ w8 (HG.out.to H8.out.bel) (HS.out.to H8.out.bel)
      unfold ServeR at C8
      with_reducible refine C8.mono ?_
      rintro e w9 ⟨vi, vp, rfl, hpg, hb⟩
      have HP9 := hide hpg
      have H9 := hide (H8.out.to hb)
      have hvl := fun g e => (H8.out.cli.lt g e).2
      have hbl : b < w8.heap.size := H8.out.cli.blk.lt
      obtain ⟨Ai, ci, rfl, _⟩ := hpg.ti.slice
      obtain ⟨Ap, cp, rfl, _⟩ := hpg.tp.slice
      clear hb hpg C8 H8
      have HPb := hide (HP9.out.to (below_one w9 (.cells ((pageV items (k) (50)).cs (.slice Ai (pageV items (k) (50)).items.length ci) (.slice Ap (pageV items (k) (50)).paths.length cp)) 25)))
      have Hb := hide (H9.out.to (below_one w9 (.cells ((pageV items (k) (50)).cs (.slice Ai (pageV items (k) (50)).items.length ci) (.slice Ap (pageV items (k) (50)).paths.length cp)) 25)))
      have CA := Hb.out.accept HL.out Hb.out.le (by decide : 50 ≤ 50) HG.out HPb.out hbl hvl
      rw [if_neg (Nat.lt_irrefl _), if_neg (Nat.lt_irrefl _)] at CA
      clear HP9 H9 HPb hvl hbl
      unfold Pg.cs at CA Hb ⊢
      go_wp2_with fail
      with_reducible refine CA.mono ?_
      rintro e w10 ⟨v10, rfl, hI, _⟩
      have H10 : Hid (CoI w b items items.length v10 w10) := by
        have e : max k (min (k + 50) items.length) = items.length := by omega
        rw [← e]; exact hI
      clear hI CA Hb
      have CI := H10.out.its HL.out
      unfold ItemsR at CI
      rw [List.take_length] at CI
      go_wp2_with fail
      with_reducible refine CI.mono ?_
      rintro e w11 ⟨vt, rfl, ho, hb⟩
      have H11 := hide (H10.out.to hb)
      have CS : Calls Tryz.prog 25 #[vt, .slice A items.length c] w11 fun e w' => e = .returned (.bool true) ∧ Below w11.heap.size w11 w' := by
        have := Same_any items items hn hn _ _ w11 (TextsAt.of_own ho) (HS.out.to H11.out.bel)
        rwa [decide_eq_true rfl] at this
      clear hb CI H10 ho
      go_wp2_with fail
      with_reducible refine CS.mono ?_
      rintro e w12 ⟨rfl, hb⟩
      have HB9 := hide (below_to H11.out.bel (Nat.le_refl _) hb)
      clear hb CS H11
      go_wp2_with fail
      go_ret
      exact ⟨rfl, HB9.out⟩
end Go.Proofs.YtfhanbiifjiklaaGreatDoor
