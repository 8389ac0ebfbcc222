/- Several texts as one, in build order. -/
import Derived.Test.YtfhanbiifjiklaaGreatDoorMD
import Derived.BigQuiet
import Derived.Test.YtfhanbiifjiklaaGreatDoorMC
/- Walks of the reference of layer 2: links. -/
set_option linter.unusedVariables false
set_option linter.unusedSimpArgs false
namespace Go.Proofs.YtfhanbiifjiklaaGreatDoor
open Go.RowKit

/-- a link's length -/
def lonF : Nat → Nat → Nat → Bool → Nat
  | 0, _, _, _ => 0
  | f + 1, n, m, wh => if m = n then (if wh then 0 else 1) else if m ≤ halfN n then lonF f (halfN n) m wh + 1 else lonF f (n - halfN n) (m - halfN n) false + 1
theorem lonF_eq (f n : Nat) (wh : Bool) : lonF (f + 1) n n wh = if wh then 0 else 1 := by unfold lonF; rw [if_pos rfl]
theorem lonF_le {f n m : Nat} {wh : Bool} (h : m ≠ n) (hm : m ≤ halfN n) : lonF (f + 1) n m wh = lonF f (halfN n) m wh + 1 := by
  show (if m = n then (if wh then 0 else 1) else if m ≤ halfN n then lonF f (halfN n) m wh + 1 else lonF f (n - halfN n) (m - halfN n) false + 1) = _
  rw [if_neg h, if_pos hm]
theorem lonF_gt {f n m : Nat} {wh : Bool} (h : m ≠ n) (hm : ¬ m ≤ halfN n) : lonF (f + 1) n m wh = lonF f (n - halfN n) (m - halfN n) false + 1 := by
  show (if m = n then (if wh then 0 else 1) else if m ≤ halfN n then lonF f (halfN n) m wh + 1 else lonF f (n - halfN n) (m - halfN n) false + 1) = _
  rw [if_neg h, if_neg hm]
theorem lonF_top : ∀ (f n m : Nat) (wh : Bool), lonF f n m wh ≤ f
  | 0, n, m, wh => Nat.le_refl _
  | f + 1, n, m, wh => by
    unfold lonF
    split
    · split <;> omega
    · split
      · have := lonF_top f (halfN n) m wh; omega
      · have := lonF_top f (n - halfN n) (m - halfN n) false; omega
theorem bothG_rest (old : List UInt8) : ∀ (f n m : Nat) (wh : Bool) (st : List (List UInt8)) (sh : Bool), 1 ≤ m → m ≤ n → n ≤ f → (∀ d ∈ st, d ≠ []) → (bothG old f n m wh st sh).2 = (st.drop (lonF f n m wh), sh || decide (st.length < lonF f n m wh)) := by
  intro f
  induction f with
  | zero => intro n m wh st sh h1 h2 h3; omega
  | succ f ih =>
    intro n m wh st sh h1 h2 h3 hd
    have tl : ∀ d ∈ st.tail, d ≠ [] := fun d h => hd d (List.mem_of_mem_tail h)
    have fin : ∀ L, (st.tail.drop L, nextS st sh || decide (st.tail.length < L)) = (st.drop (L + 1), sh || decide (st.length < L + 1)) := fun L => by
      match st, hd with
      | [], _ => simp [nextS]
      | x :: st, hd =>
        have hx : x ≠ [] := hd x (by simp)
        cases x with
        | nil => exact absurd rfl hx
        | cons y x =>
          refine Prod.ext rfl ?_
          show (sh || false || decide (st.length < L)) = (sh || decide (st.length + 1 < L + 1))
          rw [Bool.or_false]
          congr 1
          exact decide_eq_decide.2 (by omega)
    by_cases hn : m = n
    · subst hn
      rw [bothG_eq, lonF_eq]
      cases wh
      · have := fin 0
        simp only [List.drop_zero, Nat.not_lt_zero, decide_false, Bool.or_false, Nat.zero_add] at this
        exact this
      · simp
    · obtain ⟨a, b⟩ := half_lt (n := n) (by omega)
      by_cases hm : m ≤ halfN n
      · rw [bothG_le old hn hm, lonF_le hn hm]
        show (bothG old f (halfN n) m wh st.tail (nextS st sh)).2 = _
        rw [ih _ _ _ _ _ h1 hm (by omega) tl]
        exact fin _
      · rw [bothG_gt old hn hm, lonF_gt hn hm]
        show (bothG old f (n - halfN n) (m - halfN n) false st.tail (nextS st sh)).2 = _
        rw [ih _ _ _ _ _ (by omega) (by omega) (by omega) tl]
        exact fin _
theorem bothG_small {old : List UInt8} (ho : old.length ≤ 1000000) : ∀ (f n m : Nat) (wh : Bool) (st : List (List UInt8)) (sh : Bool), (∀ d ∈ st, d.length ≤ 1000000) → (bothG old f n m wh st sh).1.1.length ≤ 1000000 ∧ (bothG old f n m wh st sh).1.2.length ≤ 1000000
  | 0, n, m, wh, st, sh, hd => ⟨ho, ho⟩
  | f + 1, n, m, wh, st, sh, hd => by
    have ht : ∀ d ∈ st.tail, d.length ≤ 1000000 := fun d h => hd d (List.mem_of_mem_tail h)
    have hh : (st.headD []).length ≤ 1000000 := by cases st with
      | nil => simp
      | cons x l => exact hd x (by simp)
    by_cases hn : m = n
    · subst hn
      rw [bothG_eq]
      cases wh
      · exact ⟨hh, hh⟩
      · exact ⟨ho, ho⟩
    · by_cases hm : m ≤ halfN n
      · rw [bothG_le old hn hm]
        exact ⟨(bothG_small ho f _ _ _ _ _ ht).1, by show (nodeD _ _).length ≤ _; rw [nodeD_len]; decide⟩
      · rw [bothG_gt old hn hm]
        exact ⟨by show (nodeD _ _).length ≤ _; rw [nodeD_len]; decide, by show (nodeD _ _).length ≤ _; rw [nodeD_len]; decide⟩
def RLonOk (f : Nat) : Prop := ∀ (n m : Nat) (wh : Bool) (w : World), 1 ≤ m → m ≤ n → n ≤ f → f ≤ 1000000000 → Calls Tryz.prog 79 #[.int .i64 (n : Int), .int .i64 (m : Int), .bool wh] w fun e w' => e = .returned (.int .i64 ((lonF f n m wh : Nat) : Int)) ∧ w' = w
set_option maxRecDepth 100000 in
set_option maxHeartbeats 1000000 in
theorem rlon_step (f : Nat) (ih : RLonOk f) : RLonOk (f + 1) := by
  intro n m wh w h1 h2 h3 h4
  by_cases hn : m = n
  · subst hn
    rw [lonF_eq]
    have e0 : ((m : Int) == (m : Int)) = true := by simp
    clear ih
    cases wh
    all_goals
      go_enter Tryz.func79, Tryz.ntmps79
      go_wp2_with fail
      go_ret
      exact ⟨rfl, rfl⟩
  · obtain ⟨a, b⟩ := half_lt (n := n) (by omega)
    have CH := fun w => rHalf_any n (by omega) w
    have e0 : ((m : Int) == (n : Int)) = false := by rw [beq_eq_false_iff_ne]; omega
    have e0' : (m == n) = false := by rw [beq_eq_false_iff_ne]; exact hn
    by_cases hm : m ≤ halfN n
    · have HV := hide (lonF_le (f := f) (wh := wh) hn hm)
      have CR := ih (halfN n) m wh w h1 hm (by omega) (by omega)
      have hb := lonF_top f (halfN n) m wh
      generalize lonF f (halfN n) m wh = L at *
      generalize halfN n = k at *
      have e1 : decide ((m : Int) ≤ (k : Int)) = true := decide_eq_true (by omega)
      have e2 : decide (m ≤ k) = true := decide_eq_true (by omega)
      clear ih
      go_enter Tryz.func79, Tryz.ntmps79
      go_wp2_with (first | ((with_reducible refine (CH _).mono ?_); rintro e w' ⟨rfl, rfl⟩) | ((with_reducible refine CR.mono ?_); rintro e w' ⟨rfl, rfl⟩))
      go_ret
      exact ⟨by rw [HV.out]; simp [Int.add_comm], rfl⟩
    · have HV := hide (lonF_gt (f := f) (wh := wh) hn hm)
      have CR := ih (n - halfN n) (m - halfN n) false w (by omega) (by omega) (by omega) (by omega)
      have hb := lonF_top f (n - halfN n) (m - halfN n) false
      rw [show ((n - halfN n : Nat) : Int) = (n : Int) - (halfN n : Int) by omega, show ((m - halfN n : Nat) : Int) = (m : Int) - (halfN n : Int) by omega] at CR
      generalize lonF f (n - halfN n) (m - halfN n) false = L at *
      generalize halfN n = k at *
      have e1 : decide ((m : Int) ≤ (k : Int)) = false := decide_eq_false (by omega)
      have e2 : decide (m ≤ k) = false := decide_eq_false (by omega)
      clear ih
      go_enter Tryz.func79, Tryz.ntmps79
      go_wp2_with (first | ((with_reducible refine (CH _).mono ?_); rintro e w' ⟨rfl, rfl⟩) | ((with_reducible refine CR.mono ?_); rintro e w' ⟨rfl, rfl⟩))
      go_ret
      exact ⟨by rw [HV.out]; simp [Int.add_comm], rfl⟩
theorem rlon_any : ∀ f, RLonOk f
  | 0 => fun n m wh w h1 h2 h3 => by omega
  | f + 1 => rlon_step f (rlon_any f)
def RBoOk (f : Nat) : Prop := ∀ (n m : Nat) (wh : Bool) (d : List UInt8) (p : List (List UInt8)) (v : Value) (w : World), 1 ≤ m → m ≤ n → n ≤ f → f ≤ 1000000000 → p.length = lonF f n m wh → d.length ≤ 1000000 → (∀ x ∈ p, x.length ≤ 1000000) → TextsAt w v p →
  Calls Tryz.prog 80 #[.int .i64 (n : Int), .int .i64 (m : Int), .bool wh, .string (bs d), v] w fun e w' => e = .returned (.tuple #[.string (bs (bothG d f n m wh p.reverse false).1.1), .string (bs (bothG d f n m wh p.reverse false).1.2)]) ∧ Below w.heap.size w w'
set_option maxRecDepth 100000 in
set_option maxHeartbeats 2000000 in
theorem rbo_step (f : Nat) (ih : RBoOk f) : RBoOk (f + 1) := by
  intro n m wh d p v w h1 h2 h3 h4 hp hd hx hv
  by_cases hn : m = n
  · subst hn
    rw [lonF_eq] at hp
    have HV := hide (bothG_eq d f m wh p.reverse false)
    have e0 : ((m : Int) == (m : Int)) = true := by simp
    obtain ⟨A, c, rfl, hc⟩ := hv.slice
    cases wh with
    | true =>
      clear ih hv hx hp
      go_enter Tryz.func80, Tryz.ntmps80
      go_wp2_with fail
      go_ret2
      exact ⟨by rw [HV.out]; rfl, Below.refl _ _⟩
    | false =>
      obtain ⟨x, rfl⟩ : ∃ x, p = [x] := by
        match p, hp with
        | [x], _ => exact ⟨x, rfl⟩
      obtain ⟨ad, rfl, ha, c0⟩ := hv.at_ (k := 0) (x := x) rfl
      rw [show ad.add 0 = ad from rfl] at c0
      clear ih hv hx hp
      go_enter Tryz.func80, Tryz.ntmps80
      go_wp2_with fail
      go_quiet (fail)
      go_wp2_with fail
      go_ret2
      exact ⟨by rw [HV.out]; rfl, below_drewN (Below.refl _ _) _⟩
  · obtain ⟨a, b⟩ := half_lt (n := n) (by omega)
    have CH := fun w => rHalf_any n (by omega) w
    have e0 : ((m : Int) == (n : Int)) = false := by rw [beq_eq_false_iff_ne]; omega
    have e0' : (m == n) = false := by rw [beq_eq_false_iff_ne]; exact hn
    by_cases hm : m ≤ halfN n
    · rw [lonF_le hn hm] at hp
      obtain ⟨q, x, rfl, hq⟩ := last_of hp
      have hql : q.length ≤ f := by have := lonF_top f (halfN n) m wh; omega
      rw [List.reverse_append, List.reverse_singleton, List.singleton_append]
      have HV := hide (congrArg Prod.fst (bothG_le d (f := f) hn hm wh (x :: q.reverse) false))
      simp only [List.tail_cons, List.headD_cons] at HV
      rw [bothG_fst d f (halfN n) m wh q.reverse _ false] at HV
      obtain ⟨A, c, rfl, hc⟩ := hv.slice
      have HT : TextsAt w (.slice A q.length c) q := by have := hv.take (k := q.length) (by simp) c (by simp at hc; omega); rwa [List.take_left' rfl] at this
      obtain ⟨ad, rfl, ha, c0⟩ := hv.at_ (k := q.length) (x := x) (by simp)
      have CR := ih (halfN n) m wh d q _ w h1 hm (by omega) (by omega) (by omega) hd (fun y hy => hx y (by simp [hy])) HT
      have hub := bothG_small hd f (halfN n) m wh q.reverse false (fun y hy => hx y (by simp at hy; simp [hy]))
      have hxl := hx x (by simp)
      generalize (bothG d f (halfN n) m wh q.reverse false).1 = R at *
      have CN := fun w' => rnode_any R.2 x (by omega) (by omega) w'
      generalize halfN n = k at *
      have e1 : decide ((m : Int) ≤ (k : Int)) = true := decide_eq_true (by omega)
      have e2 : decide (m ≤ k) = true := decide_eq_true (by omega)
      have i0 : (0 : Int) ≤ (q.length : Int) := by omega
      have i1 : (q.length : Int) ≤ (c : Int) := by simp at hc; omega
      have hlen : (q ++ [x]).length = q.length + 1 := by simp
      rw [hlen] at *
      clear ih hv HT hx hp hq
      go_enter Tryz.func80, Tryz.ntmps80
      go_wp2_with (first | ((with_reducible refine (CH _).mono ?_); rintro e w' ⟨rfl, rfl⟩) | ((with_reducible refine CR.mono ?_); rintro e w2 ⟨rfl, hb2⟩; have HB2 := hide hb2; clear hb2) | ((with_reducible refine (CN _).mono ?_); rintro e w3 ⟨rfl, hb3⟩; have HB3 := hide (below_to HB2.out (Nat.le_refl _) hb3); clear hb3 HB2))
      go_ret2
      exact ⟨by rw [HV.out]; rfl, HB3.out⟩
    · rw [lonF_gt hn hm] at hp
      obtain ⟨q, x, rfl, hq⟩ := last_of hp
      have hql : q.length ≤ f := by have := lonF_top f (n - halfN n) (m - halfN n) false; omega
      rw [List.reverse_append, List.reverse_singleton, List.singleton_append]
      have HV := hide (congrArg Prod.fst (bothG_gt d (f := f) hn hm wh (x :: q.reverse) false))
      simp only [List.tail_cons, List.headD_cons] at HV
      rw [bothG_fst d f (n - halfN n) (m - halfN n) false q.reverse _ false] at HV
      obtain ⟨A, c, rfl, hc⟩ := hv.slice
      have HT : TextsAt w (.slice A q.length c) q := by have := hv.take (k := q.length) (by simp) c (by simp at hc; omega); rwa [List.take_left' rfl] at this
      obtain ⟨ad, rfl, ha, c0⟩ := hv.at_ (k := q.length) (x := x) (by simp)
      have CR := ih (n - halfN n) (m - halfN n) false d q _ w (by omega) (by omega) (by omega) (by omega) (by omega) hd (fun y hy => hx y (by simp [hy])) HT
      have hub := bothG_small hd f (n - halfN n) (m - halfN n) false q.reverse false (fun y hy => hx y (by simp at hy; simp [hy]))
      have hxl := hx x (by simp)
      rw [show ((n - halfN n : Nat) : Int) = (n : Int) - (halfN n : Int) by omega, show ((m - halfN n : Nat) : Int) = (m : Int) - (halfN n : Int) by omega] at CR
      generalize (bothG d f (n - halfN n) (m - halfN n) false q.reverse false).1 = R at *
      have CN := fun w' => rnode_any x R.1 (by omega) (by omega) w'
      have CM := fun w' => rnode_any x R.2 (by omega) (by omega) w'
      generalize halfN n = k at *
      have e1 : decide ((m : Int) ≤ (k : Int)) = false := decide_eq_false (by omega)
      have e2 : decide (m ≤ k) = false := decide_eq_false (by omega)
      have i0 : (0 : Int) ≤ (q.length : Int) := by omega
      have i1 : (q.length : Int) ≤ (c : Int) := by simp at hc; omega
      have hlen : (q ++ [x]).length = q.length + 1 := by simp
      rw [hlen] at *
      clear ih hv HT hx hp hq
      go_enter Tryz.func80, Tryz.ntmps80
      go_wp2_with (first | ((with_reducible refine (CH _).mono ?_); rintro e w' ⟨rfl, rfl⟩) | ((with_reducible refine CR.mono ?_); rintro e w2 ⟨rfl, hb2⟩; have HB2 := hide hb2; clear hb2) | ((with_reducible refine (CN _).mono ?_); rintro e w3 ⟨rfl, hb3⟩; have HB3 := hide (below_to HB2.out (Nat.le_refl _) hb3); clear hb3 HB2) | ((with_reducible refine (CM _).mono ?_); rintro e w4 ⟨rfl, hb4⟩; have HB4 := hide (below_to HB3.out (Nat.le_refl _) hb4); clear hb4))
      go_ret2
      exact ⟨by rw [HV.out]; rfl, HB4.out⟩
theorem rbo_any : ∀ f, RBoOk f
  | 0 => fun n m wh d p v w h1 h2 h3 => by omega
  | f + 1 => rbo_step f (rbo_any f)
theorem boV_ref {old root : List UInt8} {M N : Nat} {link : List (List UInt8)} (h1 : 1 ≤ M) (h2 : M ≤ N) (hp : properT link = true) : boV old M N root link = (decide (link.length = lonF N N M true) && (decide ((bothG old N N M true link.reverse false).1.1 = old) && decide ((bothG old N N M true link.reverse false).1.2 = root))) := by
  unfold boV
  have hr := bothG_rest old N N M true link.reverse false h1 h2 (Nat.le_refl _) (fun d hd => proper_ne hp d (by simpa using hd))
  rw [hr]
  simp only [Bool.false_or, List.length_reverse]
  have : (!decide (link.length < lonF N N M true) && (link.reverse.drop (lonF N N M true)).isEmpty) = decide (link.length = lonF N N M true) := by
    rw [Bool.eq_iff_iff]
    simp only [Bool.and_eq_true, Bool.not_eq_true', decide_eq_false_iff_not, List.isEmpty_iff, List.drop_eq_nil_iff, List.length_reverse, decide_eq_true_eq]
    omega
  rw [this]
  cases decide ((bothG old N N M true link.reverse false).1.1 = old) <;> cases decide ((bothG old N N M true link.reverse false).1.2 = root) <;> simp
set_option maxRecDepth 100000 in
set_option maxHeartbeats 4000000 in
theorem rExtends_any (old : List UInt8) (m : Int) (root : List UInt8) (n : Int) (link : List (List UInt8)) (ho : old.length ≤ 100000) (hr : root.length ≤ 100000) (hp : link.length ≤ 1000000000) (hx : ∀ x ∈ link, x.length ≤ 1000000) (v : Value) (w : World) (hv : TextsAt w v link) :
    Calls Tryz.prog 39 #[.string (bs old), .int .i64 m, .string (bs root), .int .i64 n, v] w fun e w' => e = .returned (.bool (extV old m root n link)) ∧ Below w.heap.size w w' := by
  obtain ⟨A, c, rfl, hc⟩ := hv.slice
  have RWB := below_one w (.cells #[.string (bs old), .string (bs root)] 9)
  by_cases hA : 0 ≤ m ∧ m ≤ n ∧ n ≤ 1000000
  · obtain ⟨N, rfl⟩ : ∃ N : Nat, n = N := ⟨n.toNat, by omega⟩
    obtain ⟨M, rfl⟩ : ∃ M : Nat, m = M := ⟨m.toNat, by omega⟩
    obtain ⟨a1, a2, a3⟩ := hA
    have CD := rdigests_any [old, root] (by simp) (fun x h => by simp only [List.mem_cons, List.not_mem_nil, or_false] at h; rcases h with rfl | rfl <;> omega) (.slice (some ⟨w.heap.size, 0, none⟩) 2 2) (w.alloc (.cells #[.string (bs old), .string (bs root)] 9)) (TextsAt.of_blk (ls := [old, root]) (Blk.new w 9 #[.string (bs old), .string (bs root)]) rfl)
    have CE := fun (w' : World) (hb : Below w.heap.size w w') => rdigests_any link (by omega) (fun x h => Nat.le_trans (hx x h) (by decide)) _ w' (hv.to hb)
    have CE := CE _ RWB
    have e1 : decide ((M : Int) < 0) = false := decide_eq_false (by omega)
    have e2 : decide ((N : Int) < (M : Int)) = false := decide_eq_false (by omega)
    have e2' : decide (N < M) = false := decide_eq_false (by omega)
    have e3 : decide ((1000000 : Int) < (N : Int)) = false := decide_eq_false (by omega)
    have e3' : decide (1000000 < N) = false := decide_eq_false (by omega)
    by_cases hd : properT [old, root] = true ∧ properT link = true
    · obtain ⟨d1, d2⟩ := hd
      rw [d1] at CD
      rw [d2] at CE
      have HC := hide (show 0 ≤ (M : Int) ∧ (M : Int) ≤ (N : Int) ∧ (N : Int) ≤ 1000000 ∧ properT link = true ∧ properT [old, root] = true from ⟨a1, a2, a3, d2, d1⟩)
      by_cases hm0 : M = 0
      · subst hm0
        have HV : Hid (extV old ((0 : Nat) : Int) root (N : Int) link = (decide (link.length = 0) && (decide (old = totalT []) && (decide (0 < (N : Int)) || decide (root = old))))) := by
          show _ = _
          unfold extV
          rw [if_pos HC.out, if_pos (show ((0 : Nat) : Int) = 0 from rfl)]
        have CT := fun w' : World => rEmpty_any w'
        have hE0 : totalT [] = listD [emptyT] := rfl
        rw [hE0] at HV
        have t1 : ((link.length : Int) == 0) = decide (link.length = 0) := by rw [Bool.eq_iff_iff]; simp
        have t1' : (link.length == 0) = decide (link.length = 0) := by rw [Bool.eq_iff_iff]; simp
        have t2 : ((bs old).toList == (bs (listD [emptyT])).toList) = decide (old = listD [emptyT]) := by rw [bs_toList, bs_toList, Bool.eq_iff_iff]; simp
        have t4 : ((bs root).toList == (bs old).toList) = decide (root = old) := by rw [bs_toList, bs_toList, Bool.eq_iff_iff]; simp
        have t3 : decide (0 < N) = decide (0 < (N : Int)) := decide_eq_decide.2 (by omega)
        have z0 : (((0 : Nat) : Int) == 0) = true := rfl
        clear hE0 HC hv hx d1 d2 a1 a2 a3
        generalize listD [emptyT] = E at *
        generalize decide (link.length = 0) = b1 at *
        generalize decide (old = E) = b2 at *
        generalize decide (0 < (N : Int)) = b3 at *
        generalize decide (root = old) = b4 at *
        cases b1
        rotate_left
        cases b2
        rotate_left
        cases b3
        cases b4
        rotate_left
        all_goals
          go_enter Tryz.func39, Tryz.ntmps39
          go_wp2_with (first | ((with_reducible refine CD.mono ?_); rintro e w3 ⟨rfl, e9⟩; subst e9) | ((with_reducible refine CE.mono ?_); rintro e w3 ⟨rfl, e9⟩; subst e9) | ((with_reducible refine (CT _).mono ?_); rintro e w4 ⟨rfl, hb4⟩))
          go_ret
          first
            | exact ⟨ret_bool (by rw [HV.out]; rfl), RWB⟩
            | exact ⟨ret_bool (by rw [HV.out]; rfl), below_to RWB (Nat.le_refl _) hb4⟩
      · have HV : Hid (extV old (M : Int) root (N : Int) link = boV old M N root link) := by
          show _ = _
          unfold extV
          rw [if_pos HC.out, if_neg (by omega), Int.toNat_natCast, Int.toNat_natCast]
        have HR := hide (boV_ref (old := old) (root := root) (M := M) (N := N) (by omega) (by omega) d2)
        have z0 : ((M : Int) == 0) = false := by rw [beq_eq_false_iff_ne]; omega
        have z1 : (M == 0) = false := by rw [beq_eq_false_iff_ne]; omega
        by_cases hmn : M = N
        · subst hmn
          have y0 : ((M : Int) == (M : Int)) = true := by simp
          have HR2 : Hid (boV old M M root link = (decide (link.length = 0) && decide (old = root))) := by
            show _ = _
            rw [HR.out]
            obtain ⟨f, rfl⟩ : ∃ f, M = f + 1 := ⟨M - 1, by omega⟩
            rw [lonF_eq, bothG_eq]
            simp
          have t1 : ((link.length : Int) == 0) = decide (link.length = 0) := by rw [Bool.eq_iff_iff]; simp
          have t1' : (link.length == 0) = decide (link.length = 0) := by rw [Bool.eq_iff_iff]; simp
          have t2 : ((bs old).toList == (bs root).toList) = decide (old = root) := by rw [bs_toList, bs_toList, Bool.eq_iff_iff]; simp
          clear HC hv hx d1 d2 a1 a2 a3 HR hm0
          generalize decide (link.length = 0) = b1 at *
          generalize decide (old = root) = b2 at *
          cases b1
          rotate_left
          cases b2
          rotate_left
          all_goals
            go_enter Tryz.func39, Tryz.ntmps39
            go_wp2_with (first | ((with_reducible refine CD.mono ?_); rintro e w3 ⟨rfl, e9⟩; subst e9) | ((with_reducible refine CE.mono ?_); rintro e w3 ⟨rfl, e9⟩; subst e9))
            go_ret
            exact ⟨ret_bool (by rw [HV.out, HR2.out]; rfl), RWB⟩
        · have y0 : ((M : Int) == (N : Int)) = false := by rw [beq_eq_false_iff_ne]; omega
          have y1 : (M == N) = false := by rw [beq_eq_false_iff_ne]; exact hmn
          have CL := fun w => rlon_any N N M true w (by omega) (by omega) (Nat.le_refl _) (by omega)
          have hll := lonF_top N N M true
          by_cases hlen : link.length = lonF N N M true
          · have CU := fun (w' : World) (hb : Below w.heap.size w w') => rbo_any N N M true old link _ w' (by omega) (by omega) (Nat.le_refl _) (by omega) hlen (by omega) hx (hv.to hb)
            have CU := CU _ RWB
            rw [decide_eq_true hlen, Bool.true_and] at HR
            have c4 : ((link.length : Int) != ((lonF N N M true : Nat) : Int)) = false := by rw [hlen]; simp
            have c4' : (link.length != lonF N N M true) = false := by rw [hlen]; simp
            generalize (bothG old N N M true link.reverse false).1 = r at *
            have er : ((bs r.1).toList == (bs old).toList) = decide (r.1 = old) := by rw [bs_toList, bs_toList, Bool.eq_iff_iff]; simp
            have er2 : ((bs r.2).toList == (bs root).toList) = decide (r.2 = root) := by rw [bs_toList, bs_toList, Bool.eq_iff_iff]; simp
            clear HC hv hx d1 d2 a1 a2 a3 hm0 hmn hlen
            generalize lonF N N M true = L at *
            generalize decide (r.1 = old) = b1 at *
            generalize decide (r.2 = root) = b2 at *
            cases b1
            rotate_left
            cases b2
            rotate_left
            all_goals
              go_enter Tryz.func39, Tryz.ntmps39
              go_wp2_with (first | ((with_reducible refine CD.mono ?_); rintro e w3 ⟨rfl, e9⟩; subst e9) | ((with_reducible refine CE.mono ?_); rintro e w3 ⟨rfl, e9⟩; subst e9) | ((with_reducible refine (CL _).mono ?_); rintro e w3 ⟨rfl, e9⟩; subst e9) | ((with_reducible refine CU.mono ?_); rintro e w4 ⟨rfl, hb4⟩))
              go_ret
              exact ⟨ret_bool (by rw [HV.out, HR.out]; rfl), below_to RWB (Nat.le_refl _) hb4⟩
          · rw [decide_eq_false hlen, Bool.false_and] at HR
            have c4 : ((link.length : Int) != ((lonF N N M true : Nat) : Int)) = true := by rw [bne_iff_ne]; omega
            have c4' : (link.length != lonF N N M true) = true := by rw [bne_iff_ne]; omega
            clear HC hv hx d1 d2 a1 a2 a3 hm0 hmn hlen
            generalize lonF N N M true = L at *
            go_enter Tryz.func39, Tryz.ntmps39
            go_wp2_with (first | ((with_reducible refine CD.mono ?_); rintro e w3 ⟨rfl, e9⟩; subst e9) | ((with_reducible refine CE.mono ?_); rintro e w3 ⟨rfl, e9⟩; subst e9) | ((with_reducible refine (CL _).mono ?_); rintro e w3 ⟨rfl, e9⟩; subst e9))
            go_ret
            exact ⟨ret_bool (by rw [HV.out, HR.out]), RWB⟩
    · have HV : Hid (extV old (M : Int) root (N : Int) link = false) := by
        show _ = _
        unfold extV
        rw [if_neg (fun h => hd ⟨h.2.2.2.2, h.2.2.2.1⟩)]
      have hh : (!properT [old, root] || !properT link) = true := by
        cases h1 : properT [old, root] <;> cases h2 : properT link <;> simp_all
      clear hd hv hx a1 a2 a3
      generalize properT [old, root] = b1 at *
      generalize properT link = b2 at *
      cases b1 <;> cases b2 <;> (try cases hh)
      all_goals
        go_enter Tryz.func39, Tryz.ntmps39
        go_wp2_with (first | ((with_reducible refine CD.mono ?_); rintro e w3 ⟨rfl, e9⟩; subst e9) | ((with_reducible refine CE.mono ?_); rintro e w3 ⟨rfl, e9⟩; subst e9))
        go_ret
        exact ⟨ret_bool (by rw [HV.out]), RWB⟩
  · have HV : Hid (extV old m root n link = false) := by
      show _ = _
      unfold extV
      rw [if_neg (fun h => hA ⟨h.1, h.2.1, h.2.2.1⟩)]
    have hh : (decide (m < 0) || (decide (n < m) || decide (1000000 < n))) = true := by simp only [Bool.or_eq_true, decide_eq_true_eq]; omega
    clear hA hv hx
    generalize c1 : decide (m < 0) = b1 at *
    generalize c2 : decide (n < m) = b2 at *
    generalize c3 : decide (1000000 < n) = b3 at *
    cases b1 <;> cases b2 <;> cases b3 <;> (try cases hh)
    all_goals
      go_enter Tryz.func39, Tryz.ntmps39
      go_wp2_with fail
      go_ret
      exact ⟨ret_bool (by rw [HV.out]), Below.refl _ _⟩
end Go.Proofs.YtfhanbiifjiklaaGreatDoor

/- Walks of the reference of layer 2: the texts of a link. -/
set_option linter.unusedVariables false
set_option linter.unusedSimpArgs false
namespace Go.Proofs.YtfhanbiifjiklaaGreatDoor
open Go.RowKit

theorem ltx_eq (d : List UInt8) (f n : Nat) (wh : Bool) (st : List (List UInt8)) : ltxF d (f + 1) n n wh st = [] := by unfold ltxF; rw [if_pos rfl]
theorem ltx_le (d : List UInt8) {f n m : Nat} {wh : Bool} (h : m ≠ n) (hm : m ≤ halfN n) (st : List (List UInt8)) : ltxF d (f + 1) n m wh st = ltxF d f (halfN n) m wh st.tail ++ [joinD [nodeT, (bothG d f (halfN n) m wh st.tail false).1.2, st.headD []]] := by
  conv => lhs; unfold ltxF
  rw [if_neg h, if_pos hm]
theorem ltx_gt (d : List UInt8) {f n m : Nat} {wh : Bool} (h : m ≠ n) (hm : ¬ m ≤ halfN n) (st : List (List UInt8)) : ltxF d (f + 1) n m wh st = ltxF d f (n - halfN n) (m - halfN n) false st.tail ++ [joinD [nodeT, st.headD [], (bothG d f (n - halfN n) (m - halfN n) false st.tail false).1.1]] ++ [joinD [nodeT, st.headD [], (bothG d f (n - halfN n) (m - halfN n) false st.tail false).1.2]] := by
  conv => lhs; unfold ltxF
  rw [if_neg h, if_neg hm]
theorem ltx_len (d : List UInt8) : ∀ (f n m : Nat) (wh : Bool) (st : List (List UInt8)), (ltxF d f n m wh st).length ≤ 2 * f
  | 0, _, _, _, _ => Nat.le_refl _
  | f + 1, n, m, wh, st => by
    unfold ltxF
    split
    · simp
    · split
      · have := ltx_len d f (halfN n) m wh st.tail; simp; omega
      · have := ltx_len d f (n - halfN n) (m - halfN n) false st.tail; simp; omega
def RLtOk (f : Nat) : Prop := ∀ (n m : Nat) (wh : Bool) (d : List UInt8) (p : List (List UInt8)) (v : Value) (w : World), 1 ≤ m → m ≤ n → n ≤ f → f ≤ 100000000 → p.length = lonF f n m wh → d.length ≤ 1000000 → (∀ x ∈ p, x.length ≤ 1000000) → TextsAt w v p →
  Calls Tryz.prog 40 #[.int .i64 (n : Int), .int .i64 (m : Int), .bool wh, .string (bs d), v] w (LvR (ltxF d f n m wh p.reverse) w)
set_option maxRecDepth 100000 in
set_option maxHeartbeats 2000000 in
theorem rlt_step (f : Nat) (ih : RLtOk f) : RLtOk (f + 1) := by
  intro n m wh d p v w h1 h2 h3 h4 hp hd hx hv
  by_cases hn : m = n
  · subst hn
    rw [ltx_eq]
    have e0 : ((m : Int) == (m : Int)) = true := by simp
    clear ih hv hx hp
    go_enter Tryz.func40, Tryz.ntmps40
    go_wp2_with fail
    go_ret
    exact ⟨_, rfl, World.ownsRow_nil _ _ _ _, Below.refl _ _⟩
  · obtain ⟨a, b⟩ := half_lt (n := n) (by omega)
    have CH := fun w => rHalf_any n (by omega) w
    have e0 : ((m : Int) == (n : Int)) = false := by rw [beq_eq_false_iff_ne]; omega
    have e0' : (m == n) = false := by rw [beq_eq_false_iff_ne]; exact hn
    by_cases hm : m ≤ halfN n
    · rw [lonF_le hn hm] at hp
      obtain ⟨q, x, rfl, hq⟩ := last_of hp
      have hql : q.length ≤ f := by have := lonF_top f (halfN n) m wh; omega
      rw [List.reverse_append, List.reverse_singleton, List.singleton_append]
      have HV := hide (ltx_le d (f := f) (wh := wh) hn hm (x :: q.reverse))
      simp only [List.tail_cons, List.headD_cons] at HV
      obtain ⟨A, c, rfl, hc⟩ := hv.slice
      have HT : TextsAt w (.slice A q.length c) q := by have := hv.take (k := q.length) (by simp) c (by simp at hc; omega); rwa [List.take_left' rfl] at this
      obtain ⟨ad, rfl, ha, c0⟩ := hv.at_ (k := q.length) (x := x) (by simp)
      have CU := rbo_any f (halfN n) m wh d q _ w h1 hm (by omega) (by omega) (by omega) hd (fun y hy => hx y (by simp [hy])) HT
      have CR := fun (w' : World) (hb : Below w.heap.size w w') => ih (halfN n) m wh d q _ w' h1 hm (by omega) (by omega) (by omega) hd (fun y hy => hx y (by simp [hy])) (HT.to hb)
      unfold LvR at CR
      have hub := bothG_small hd f (halfN n) m wh q.reverse false (fun y hy => hx y (by simp at hy; simp [hy]))
      have hxl := hx x (by simp)
      have hll := ltx_len d f (halfN n) m wh q.reverse
      generalize (bothG d f (halfN n) m wh q.reverse false).1 = R at *
      generalize ltxF d f (halfN n) m wh q.reverse = L at *
      have CJ := fun (w' : World) (g : Nat) => join_nodeB (a := R.2) (b := x) (by omega) (by omega) w' g
      generalize joinD [nodeT, R.2, x] = J at *
      generalize halfN n = k at *
      have e1 : decide ((m : Int) ≤ (k : Int)) = true := decide_eq_true (by omega)
      have e2 : decide (m ≤ k) = true := decide_eq_true (by omega)
      have i0 : (0 : Int) ≤ (q.length : Int) := by omega
      have i1 : (q.length : Int) ≤ (c : Int) := by simp at hc; omega
      have hlen : (q ++ [x]).length = q.length + 1 := by simp
      rw [hlen] at *
      clear ih hv HT hx hp hq
      go_enter Tryz.func40, Tryz.ntmps40
      go_wp2_with (first | ((with_reducible refine (CH _).mono ?_); rintro e w' ⟨rfl, rfl⟩) | ((with_reducible refine CU.mono ?_); rintro e w2 ⟨rfl, hb2⟩; have CR := CR _ hb2; have HB2 := hide hb2; clear hb2) | ((with_reducible refine CR.mono ?_); rintro e w3 ⟨v3, rfl, ho3, hb3⟩; have HB3 := hide (below_to HB2.out (Nat.le_refl _) hb3); have HO3 := hide (own_less ho3 HB2.out.size); clear ho3 hb3 HB2 CR CU))
      have C1 := CJ (w3.alloc (.cells #[.string ⟨#[110, 111, 100, 101]⟩, .string (bs R.2), .string (bs x)] 9)) w3.heap.size (Blk.new _ _ _)
      refine C1.mono ?_
      rintro e wj1 ⟨rfl, hb⟩
      have hbj := below_to (below_one w3 (.cells #[.string ⟨#[110, 111, 100, 101]⟩, .string (bs R.2), .string (bs x)] 9)) (Nat.le_refl _) hb
      have HBj1 := hide (below_to HB3.out (Nat.le_refl _) hbj)
      have HOj1 := hide (own_to4 HO3.out hbj)
      clear hb hbj HB3 HO3 C1
      go_wp2_with (at_builtin; refine wpList_append_texts rfl (.tmp 52) (.tmp 57) rfl w'.heap.size v3 L rfl (own_to4 HOj1.out (below_one wj1 (.cells #[.string (bs J)] 9))) (.slice (some ⟨wj1.heap.size, 0, none⟩) 1 1) [J] rfl (TextsAt.of_blk (ls := [J]) (Blk.new wj1 9 #[.string (bs J)]) rfl) (by simp; omega) (by have := HBj1.out.size; simp; omega) ?_)
      intro v5 wa1 hoa hga _
      have HBa1 := hide ((below_alloc HBj1.out (Nat.le_refl _) (.cells #[.string (bs J)] 9)).trans (below_grown hga (by have := HBj1.out.size; simp; omega) (fun g e => (own_blk_lt HOj1.out g e).1)))
      have HOa1 := hide hoa
      clear hoa hga
      go_wp2_with fail
      go_ret
      exact ⟨v5, rfl, by rw [HV.out]; exact HOa1.out, HBa1.out⟩
    · rw [lonF_gt hn hm] at hp
      obtain ⟨q, x, rfl, hq⟩ := last_of hp
      have hql : q.length ≤ f := by have := lonF_top f (n - halfN n) (m - halfN n) false; omega
      rw [List.reverse_append, List.reverse_singleton, List.singleton_append]
      have HV := hide (ltx_gt d (f := f) (wh := wh) hn hm (x :: q.reverse))
      simp only [List.tail_cons, List.headD_cons] at HV
      obtain ⟨A, c, rfl, hc⟩ := hv.slice
      have HT : TextsAt w (.slice A q.length c) q := by have := hv.take (k := q.length) (by simp) c (by simp at hc; omega); rwa [List.take_left' rfl] at this
      obtain ⟨ad, rfl, ha, c0⟩ := hv.at_ (k := q.length) (x := x) (by simp)
      have CU := rbo_any f (n - halfN n) (m - halfN n) false d q _ w (by omega) (by omega) (by omega) (by omega) (by omega) hd (fun y hy => hx y (by simp [hy])) HT
      have CR := fun (w' : World) (hb : Below w.heap.size w w') => ih (n - halfN n) (m - halfN n) false d q _ w' (by omega) (by omega) (by omega) (by omega) (by omega) hd (fun y hy => hx y (by simp [hy])) (HT.to hb)
      unfold LvR at CR
      simp only [show ((n - halfN n : Nat) : Int) = (n : Int) - (halfN n : Int) by omega, show ((m - halfN n : Nat) : Int) = (m : Int) - (halfN n : Int) by omega] at CR CU
      have hub := bothG_small hd f (n - halfN n) (m - halfN n) false q.reverse false (fun y hy => hx y (by simp at hy; simp [hy]))
      have hxl := hx x (by simp)
      have hll := ltx_len d f (n - halfN n) (m - halfN n) false q.reverse
      generalize (bothG d f (n - halfN n) (m - halfN n) false q.reverse false).1 = R at *
      generalize ltxF d f (n - halfN n) (m - halfN n) false q.reverse = L at *
      have CJ := fun (w' : World) (g : Nat) => join_nodeB (a := x) (b := R.1) (by omega) (by omega) w' g
      have CK := fun (w' : World) (g : Nat) => join_nodeB (a := x) (b := R.2) (by omega) (by omega) w' g
      generalize joinD [nodeT, x, R.1] = J at *
      generalize joinD [nodeT, x, R.2] = K at *
      generalize halfN n = k at *
      have e1 : decide ((m : Int) ≤ (k : Int)) = false := decide_eq_false (by omega)
      have e2 : decide (m ≤ k) = false := decide_eq_false (by omega)
      have i0 : (0 : Int) ≤ (q.length : Int) := by omega
      have i1 : (q.length : Int) ≤ (c : Int) := by simp at hc; omega
      have hlen : (q ++ [x]).length = q.length + 1 := by simp
      rw [hlen] at *
      clear ih hv HT hx hp hq
      go_enter Tryz.func40, Tryz.ntmps40
      go_wp2_with (first | ((with_reducible refine (CH _).mono ?_); rintro e w' ⟨rfl, rfl⟩) | ((with_reducible refine CU.mono ?_); rintro e w2 ⟨rfl, hb2⟩; have CR := CR _ hb2; have HB2 := hide hb2; clear hb2) | ((with_reducible refine CR.mono ?_); rintro e w3 ⟨v3, rfl, ho3, hb3⟩; have HB3 := hide (below_to HB2.out (Nat.le_refl _) hb3); have HO3 := hide (own_less ho3 HB2.out.size); clear ho3 hb3 HB2 CR CU))
      have C1 := CJ (w3.alloc (.cells #[.string ⟨#[110, 111, 100, 101]⟩, .string (bs x), .string (bs R.1)] 9)) w3.heap.size (Blk.new _ _ _)
      refine C1.mono ?_
      rintro e wj1 ⟨rfl, hb⟩
      have hbj := below_to (below_one w3 (.cells #[.string ⟨#[110, 111, 100, 101]⟩, .string (bs x), .string (bs R.1)] 9)) (Nat.le_refl _) hb
      have HBj1 := hide (below_to HB3.out (Nat.le_refl _) hbj)
      have HOj1 := hide (own_to4 HO3.out hbj)
      clear hb hbj HB3 HO3 C1
      go_wp2_with (at_builtin; refine wpList_append_texts rfl (.tmp 79) (.tmp 84) rfl w'.heap.size v3 L rfl (own_to4 HOj1.out (below_one wj1 (.cells #[.string (bs J)] 9))) (.slice (some ⟨wj1.heap.size, 0, none⟩) 1 1) [J] rfl (TextsAt.of_blk (ls := [J]) (Blk.new wj1 9 #[.string (bs J)]) rfl) (by simp; omega) (by have := HBj1.out.size; simp; omega) ?_)
      intro v5 wa1 hoa hga _
      have HBa1 := hide ((below_alloc HBj1.out (Nat.le_refl _) (.cells #[.string (bs J)] 9)).trans (below_grown hga (by have := HBj1.out.size; simp; omega) (fun g e => (own_blk_lt HOj1.out g e).1)))
      have HOa1 := hide hoa
      clear hoa hga
      have hLJ : (L ++ [J]).length ≤ 2 * f + 1 := by simp; omega
      generalize hL2 : L ++ [J] = L2 at *
      go_wp2_with fail
      have C2 := CK (wa1.alloc (.cells #[.string ⟨#[110, 111, 100, 101]⟩, .string (bs x), .string (bs R.2)] 9)) wa1.heap.size (Blk.new _ _ _)
      refine C2.mono ?_
      rintro e wj2 ⟨rfl, hb⟩
      have hbj := below_to (below_one wa1 (.cells #[.string ⟨#[110, 111, 100, 101]⟩, .string (bs x), .string (bs R.2)] 9)) (Nat.le_refl _) hb
      have HBj2 := hide (below_to HBa1.out (Nat.le_refl _) hbj)
      have HOj2 := hide (own_to4 HOa1.out hbj)
      clear hb hbj HBa1 HOa1 C2
      go_wp2_with (at_builtin; refine wpList_append_texts rfl (.tmp 86) (.tmp 91) rfl w'.heap.size v5 L2 rfl (own_to4 HOj2.out (below_one wj2 (.cells #[.string (bs K)] 9))) (.slice (some ⟨wj2.heap.size, 0, none⟩) 1 1) [K] rfl (TextsAt.of_blk (ls := [K]) (Blk.new wj2 9 #[.string (bs K)]) rfl) (by simp; omega) (by have := HBj2.out.size; simp; omega) ?_)
      intro v6 wa2 hoa hga _
      have HBa2 := hide ((below_alloc HBj2.out (Nat.le_refl _) (.cells #[.string (bs K)] 9)).trans (below_grown hga (by have := HBj2.out.size; simp; omega) (fun g e => (own_blk_lt HOj2.out g e).1)))
      have HOa2 := hide hoa
      clear hoa hga
      go_wp2_with fail
      go_ret
      exact ⟨v6, rfl, by rw [HV.out]; exact HOa2.out, HBa2.out⟩
theorem rlt_any : ∀ f, RLtOk f
  | 0 => fun n m wh d p v w h1 h2 h3 => by omega
  | f + 1 => rlt_step f (rlt_any f)
end Go.Proofs.YtfhanbiifjiklaaGreatDoor

/- Walks of the reference: Formed; Shown. -/
set_option linter.unusedVariables false
set_option linter.unusedSimpArgs false
namespace Go.Proofs.YtfhanbiifjiklaaGreatDoor
open Go.RowKit

def okUp (p : Pg) (k : Nat) : Prop := ∀ (j : Nat) (h : j < p.items.length), j < k → okPart p.items[j] (p.paths.getD j []) = true
theorem okUp_step {p : Pg} {k : Nat} {x : List UInt8} {q : List (List UInt8)} (h : okUp p k) (hx : p.items[k]? = some x) (hq : p.paths[k]? = some q) (ho : okPart x q = true) : okUp p (k + 1) := fun j hj hk => by
  rcases Nat.lt_or_ge j k with h1 | h1
  · exact h j hj h1
  · obtain rfl : j = k := by omega
    rw [List.getElem?_eq_getElem hj] at hx
    rw [Option.some.inj hx, List.getD_eq_getElem?_getD, hq]; exact ho
theorem okUp_all {p : Pg} (h : headB p = true) (ho : okUp p p.items.length) : formedB p = true := by
  unfold formedB
  rw [h, Bool.true_and]
  exact List.all_eq_true.2 fun k _ => ho k k.2 k.2
theorem okUp_no {p : Pg} {k : Nat} {x : List UInt8} {q : List (List UInt8)} (hx : p.items[k]? = some x) (hq : p.paths[k]? = some q) (ho : okPart x q = false) : formedB p = false := by
  unfold formedB
  rw [Bool.and_eq_false_iff]
  right
  rw [List.all_eq_false]
  have hk := (List.getElem?_eq_some_iff.1 hx).1
  refine ⟨⟨k, hk⟩, List.mem_finRange _, ?_⟩
  unfold Pg.okAt
  rw [List.getElem?_eq_getElem hk] at hx
  show ¬ okPart p.items[k] _ = true
  rw [Option.some.inj hx, List.getD_eq_getElem?_getD, hq]
  show ¬ okPart x q = true
  rw [ho]; simp
theorem part_yes {x : List UInt8} {q : List (List UInt8)} (h1 : x.length ≤ 20000) (h2 : q.length ≤ 20) (h3 : q.all isD = true) : okPart x q = true := by
  unfold okPart pathB
  simp only [Bool.and_eq_true, Bool.not_eq_true', List.any_eq_false, decide_eq_true_eq]
  exact ⟨⟨fun y hy => by rw [List.all_eq_true.1 h3 y hy]; simp, h2⟩, h1⟩
theorem part_no {x : List UInt8} {q : List (List UInt8)} (h : 20000 < x.length ∨ 20 < q.length ∨ q.all isD = false) : okPart x q = false := by
  cases ho : okPart x q with
  | false => rfl
  | true =>
    obtain ⟨h1, h2, h3⟩ := okPart_spec ho
    rcases h with h | h | h
    · omega
    · omega
    · rw [List.all_eq_true.2 h1] at h; cases h
set_option maxRecDepth 100000 in
set_option maxHeartbeats 4000000 in
theorem rFormed_no (p : Pg) (hl : p.root.length ≤ 100000) (h : headB p = false) (vi vp : Value) (w : World) (hvi : TextsAt w vi p.items) (hvp : PathsAt w vp p.paths) :
    Calls Tryz.prog 58 #[.agg (p.cs vi vp)] w fun e w' => e = .returned (.bool false) ∧ Below w.heap.size w w' := by
  have CI := fun w' : World => rIs_any p.root (by omega) w'
  obtain ⟨Ai, ci, rfl, hci⟩ := hvi.slice
  obtain ⟨Ap, cp, rfl, hcp⟩ := hvp.slice
  rw [conds_of] at h
  unfold conds at h
  simp only [List.any_cons, List.any_nil, id, Bool.or_false, Bool.not_eq_false'] at h
  unfold Pg.cs
  clear hvi hvp
  generalize c1 : decide (p.fr < 0) = b1 at *
  generalize c2 : decide (10000 < p.fr) = b2 at *
  generalize c3 : decide (p.size < 0) = b3 at *
  generalize c4 : decide (10000 < p.size) = b4 at *
  obtain ⟨b5, c5⟩ : ∃ b, isD p.root = !b := ⟨!isD p.root, by simp⟩
  rw [c5] at CI h
  rw [Bool.not_not] at h
  generalize c6 : decide (50 < (p.items.length : Int)) = b6 at *
  obtain ⟨b7, c7⟩ : ∃ b, decide (p.paths.length = p.items.length) = !b := ⟨!decide (p.paths.length = p.items.length), by simp⟩
  rw [c7, Bool.not_not] at h
  have c8 : ((p.paths.length : Int) != (p.items.length : Int)) = b7 := by
    rw [show ((p.paths.length : Int) != (p.items.length : Int)) = !decide (p.paths.length = p.items.length) from congrArg not (decide_eq_decide.2 (by omega)), c7, Bool.not_not]
  cases b1
  cases b2
  cases b3
  cases b4
  cases b5
  cases b6
  cases b7
  · cases h
  all_goals (try simp only [Bool.not_false, Bool.not_true] at CI)
  all_goals (try simp only [Bool.not_false, Bool.not_true] at c7)
  all_goals
    go_enter Tryz.func58, Tryz.ntmps58
    go_wp2_with ((with_reducible refine (CI _).mono ?_); rintro e w2 ⟨rfl, rfl⟩)
    go_ret
    exact ⟨rfl, below_one _ _⟩
set_option maxRecDepth 100000 in
set_option maxHeartbeats 4000000 in
theorem rFormed_in (p : Pg) (hl : p.root.length ≤ 100000) (hi : ∀ x ∈ p.items, x.length ≤ 100000) (hq' : ∀ q ∈ p.paths, q.length ≤ 200000 ∧ ∀ x ∈ q, x.length ≤ 100000) (h : headB p = true) (vi vp : Value) (w : World) (hvi : TextsAt w vi p.items) (hvp : PathsAt w vp p.paths) :
    Calls Tryz.prog 58 #[.agg (p.cs vi vp)] w fun e w' => e = .returned (.bool (formedB p)) ∧ Below w.heap.size w w' := by
  have CI := fun w' : World => rIs_any p.root (by omega) w'
  have HYes := hide (okUp_all (p := p) h)
  have HI := hide hi
  have HQ := hide hq'
  have hh := h
  unfold headB at hh
  simp only [Bool.and_eq_true, decide_eq_true_eq] at hh
  obtain ⟨h1, h2, h3, h4, h5⟩ := hh
  rw [h3] at CI
  obtain ⟨Ai, ci, rfl, hci⟩ := hvi.slice
  obtain ⟨Ap, cp, rfl, hcp⟩ := hvp.slice
  have hb0 := below_one w (.cells #[.int .i64 p.fr, .int .i64 p.size, .string (bs p.root), .slice Ai p.items.length ci, .slice Ap p.paths.length cp] 25)
  have HVI := hide (hvi.to hb0)
  have HVP := hide (hvp.to hb0)
  have HB := hide hb0
  obtain ⟨x0, x1, x2, x3, x4⟩ := page_cells (Blk.new w 25 (p.cs (.slice Ai p.items.length ci) (.slice Ap p.paths.length cp)))
  unfold Pg.cs at x0 x1 x2 x3 x4 ⊢
  have c1 : decide (p.fr < 0) = false := decide_eq_false (by omega)
  have c2 : decide (10000 < p.fr) = false := decide_eq_false (by omega)
  have c3 : decide (p.size < 0) = false := decide_eq_false (by omega)
  have c4 : decide (10000 < p.size) = false := decide_eq_false (by omega)
  have c6 : decide (50 < (p.items.length : Int)) = false := decide_eq_false (by omega)
  have c6' : decide (50 < p.items.length) = false := decide_eq_false (by omega)
  have HPL : Hid (p.paths.length = p.items.length) := h5
  have c8 : ((p.paths.length : Int) != (p.items.length : Int)) = false := by rw [h5]; simp
  have c9 : (p.paths.length != p.items.length) = false := by rw [h5]; simp
  clear hvi hvp hi hq' h hb0 h1 h2 h3 h5
  go_enter Tryz.func58, Tryz.ntmps58
  go_wp2_with ((with_reducible refine (CI _).mono ?_); rintro e w2 ⟨rfl, e9⟩; subst e9)
  generalize w.alloc (.cells #[.int .i64 p.fr, .int .i64 p.size, .string (bs p.root), .slice Ai p.items.length ci, .slice Ap p.paths.length cp] 25) = w1 at *
  clear CI
  go_loopw [3] (fun i wr => ∃ k : Nat, i = .int .i64 (k : Int) ∧ k ≤ p.items.length ∧ wr = w1 ∧ Aside (okUp p k)) (fun i _ => p.items.length - (intOf i).toNat)
  case atStart => exact ⟨0, rfl, by omega, rfl, fun j _ h => absurd h (by omega)⟩
  case round =>
    obtain ⟨k, rfl, hk, rfl, hO⟩ := hrel
    have HO : Hid (okUp p k) := hO
    clear hO
    by_cases hlt : k < p.items.length
    · have e1 : decide ((k : Int) < (p.items.length : Int)) = true := decide_eq_true (by omega)
      obtain ⟨x, hx⟩ : ∃ x, p.items[k]? = some x := ⟨_, List.getElem?_eq_getElem hlt⟩
      obtain ⟨q, hq⟩ : ∃ q, p.paths[k]? = some q := ⟨_, List.getElem?_eq_getElem (by have := HPL.out; omega)⟩
      obtain ⟨a, rfl, ha, c0⟩ := HVI.out.at_ hx
      obtain ⟨b, vq, rfl, hb, d0, htq⟩ := HVP.out.at_ hq
      obtain ⟨Aq, cq, rfl, hcq⟩ := htq.slice
      have HTQ := hide htq
      have hxl := HI.out x (List.mem_of_getElem? hx)
      have hql := (HQ.out q (List.mem_of_getElem? hq)).1
      have HQX := hide (HQ.out q (List.mem_of_getElem? hq)).2
      have hsz : (bs x).size = x.length := bs_size x
      have i0 : (0 : Int) ≤ (k : Int) := by omega
      have i1 : (k : Int) < (p.items.length : Int) := by omega
      have i2 : (k : Int) < (p.paths.length : Int) := by have := HPL.out; omega
      have HST := hide (okUp_step HO.out hx hq)
      have HNO := hide (okUp_no hx hq)
      clear hx hq htq
      by_cases hx2 : x.length ≤ 20000
      · have f1 : decide ((20000 : Int) < (x.length : Int)) = false := decide_eq_false (by omega)
        have f1' : decide (20000 < x.length) = false := decide_eq_false (by omega)
        by_cases hq2 : q.length ≤ 20
        · have f2 : decide ((20 : Int) < (q.length : Int)) = false := decide_eq_false (by omega)
          have f2' : decide (20 < q.length) = false := decide_eq_false (by omega)
          go_wp2_with fail
          go_loopw [4] (fun i wq => ∃ j : Nat, i = .int .i64 (j : Int) ∧ j ≤ q.length ∧ wq = wr ∧ Aside ((q.take j).all isD = true)) (fun i _ => q.length - (intOf i).toNat)
          case atStart => exact ⟨0, rfl, by omega, rfl, rfl⟩
          case round =>
            rename_i wr0
            obtain ⟨j, rfl, hj, hww, hA⟩ := hrel
            subst hww
            have HA : Hid ((q.take j).all isD = true) := hA
            clear hA
            by_cases hjl : j < q.length
            · have g1 : decide ((j : Int) < (q.length : Int)) = true := decide_eq_true (by omega)
              obtain ⟨y, hy⟩ : ∃ y, q[j]? = some y := ⟨_, List.getElem?_eq_getElem hjl⟩
              obtain ⟨aq, rfl, haq, y0⟩ := HTQ.out.at_ hy
              have j0 : (0 : Int) ≤ (j : Int) := by omega
              have j1 : (j : Int) < (q.length : Int) := by omega
              have CY := fun w => rIs_any y (Nat.le_trans (HQX.out y (List.mem_of_getElem? hy)) (by decide)) w
              cases hd : isD y with
              | true =>
                have HN : Hid ((q.take (j + 1)).all isD = true) := by show _ = _; rw [all_step hy, HA.out, hd]; rfl
                rw [hd] at CY
                clear hy hd
                go_wp2_with ((with_reducible refine (CY _).mono ?_); rintro e w9 ⟨rfl, e9⟩; subst e9)
                refine ⟨⟨j + 1, by go_num, by omega, trivial, HN.out⟩, ?_⟩
                simp [intOf]; omega
              | false =>
                have HN : Hid (formedB p = false) := HNO.out (part_no (.inr (.inr (all_no hy hd))))
                rw [hd] at CY
                clear hy hd
                go_wp2_with ((with_reducible refine (CY _).mono ?_); rintro e w9 ⟨rfl, e9⟩; subst e9)
                go_ret
                exact ⟨ret_bool (by rw [HN.out]), HB.out⟩
            · obtain rfl : j = q.length := by omega
              have g1 : decide ((q.length : Int) < (q.length : Int)) = false := by simp
              have HN : Hid (okUp p (k + 1)) := HST.out (part_yes hx2 hq2 (by have := HA.out; rwa [List.take_length] at this))
              go_wp2_with fail
              refine ⟨⟨k + 1, by go_num, by omega, trivial, HN.out⟩, ?_⟩
              simp [intOf]; omega
        · have f2 : decide ((20 : Int) < (q.length : Int)) = true := decide_eq_true (by omega)
          have f2' : decide (20 < q.length) = true := decide_eq_true (by omega)
          have HN : Hid (formedB p = false) := HNO.out (part_no (.inr (.inl (by omega))))
          go_wp2_with fail
          go_ret
          exact ⟨ret_bool (by rw [HN.out]), HB.out⟩
      · have f1 : decide ((20000 : Int) < (x.length : Int)) = true := decide_eq_true (by omega)
        have f1' : decide (20000 < x.length) = true := decide_eq_true (by omega)
        have HN : Hid (formedB p = false) := HNO.out (part_no (.inl (by omega)))
        go_wp2_with fail
        go_ret
        exact ⟨ret_bool (by rw [HN.out]), HB.out⟩
    · obtain rfl : k = p.items.length := by omega
      have e1 : decide ((p.items.length : Int) < (p.items.length : Int)) = false := by simp
      have HN := hide (HYes.out HO.out)
      go_wp2_with fail
      go_ret
      exact ⟨ret_bool (by rw [HN.out]), HB.out⟩
theorem rFormed_any (p : Pg) (hp : p.fit) (vi vp : Value) (w : World) (hvi : TextsAt w vi p.items) (hvp : PathsAt w vp p.paths) :
    Calls Tryz.prog 58 #[.agg (p.cs vi vp)] w fun e w' => e = .returned (.bool (formedB p)) ∧ Below w.heap.size w w' := by
  cases h : headB p with
  | true => exact rFormed_in p hp.lr hp.li (fun q hq => ⟨hp.nq q hq, hp.lq q hq⟩) h vi vp w hvi hvp
  | false => rw [show formedB p = false by unfold formedB; rw [h]; rfl]; exact rFormed_no p hp.lr h vi vp w hvi hvp
end Go.Proofs.YtfhanbiifjiklaaGreatDoor

/- The walk of the reference's Shown at a list that shows it. -/
set_option linter.unusedVariables false
set_option linter.unusedSimpArgs false
namespace Go.Proofs.YtfhanbiifjiklaaGreatDoor
open Go.RowKit

/-- two different texts of the list have one digest -/
def CollIn (l : List (List UInt8)) : Prop := Coll l l
def hitAt (l : List (List UInt8)) (i k : Nat) : Prop := ∃ x y, l[i]? = some x ∧ l[k]? = some y ∧ sumD x = sumD y ∧ x ≠ y
theorem coll_hit {l : List (List UInt8)} (h : CollIn l) : ∃ i k, k < i ∧ i < l.length ∧ hitAt l i k := by
  obtain ⟨s, hs, t, ht, hne, hd⟩ := h
  obtain ⟨a, ha, rfl⟩ := List.getElem_of_mem hs
  obtain ⟨b, hb, rfl⟩ := List.getElem_of_mem ht
  rcases Nat.lt_trichotomy a b with h | h | h
  · exact ⟨b, a, h, hb, _, _, List.getElem?_eq_getElem hb, List.getElem?_eq_getElem ha, hd.symm, fun e => hne e.symm⟩
  · subst h; exact absurd rfl hne
  · exact ⟨a, b, h, ha, _, _, List.getElem?_eq_getElem ha, List.getElem?_eq_getElem hb, hd, hne⟩
def noHit (l : List (List UInt8)) (i : Nat) : Prop := ∀ i', i' < i → ∀ k, k < i' → ¬ hitAt l i' k
def noHit2 (l : List (List UInt8)) (i k : Nat) : Prop := ∀ k', k' < k → ¬ hitAt l i k'
set_option maxRecDepth 100000 in
set_option maxHeartbeats 4000000 in
theorem Shown_yes (l : List (List UInt8)) (hn : l.length ≤ 1000000) (hx : ∀ x ∈ l, x.length ≤ 1000000) (h : CollIn l) (v : Value) (w : World) (hv : TextsAt w v l) :
    Calls Tryz.prog 29 #[v] w fun e w' => e = .returned (.bool true) ∧ Below w.heap.size w w' := by
  have HH := hide (coll_hit h)
  obtain ⟨A, c, rfl, _⟩ := hv.slice
  have HS := hide hv
  have HX := hide hx
  obtain ⟨i0, hi0, hz0, hz1, hz2⟩ := info_parts info_str
  clear hv hx h
  go_enter Tryz.func29, Tryz.ntmps29
  go_wp2_with fail
  go_loopw [3, 4] (fun o i wr => ∃ k : Nat, i = .int .i64 (k : Int) ∧ k ≤ l.length ∧ Aside (OwnT wr w.heap.size o ((l.map sumD).take k)) ∧ Aside (Below w.heap.size w wr)) (fun _ i _ => l.length - (intOf i).toNat)
  case atStart => exact ⟨0, rfl, by omega, World.ownsRow_nil _ _ _ _, Below.refl _ _⟩
  case round =>
    obtain ⟨k, rfl, hk, hO, hB⟩ := hrel
    have HO : Hid (OwnT wr w.heap.size _ ((l.map sumD).take k)) := hO
    have HB : Hid (Below w.heap.size w wr) := hB
    have htl : ((l.map sumD).take k).length = k := by rw [List.length_take, List.length_map]; omega
    obtain ⟨Ao, co, rfl⟩ := own_sl4 hO
    clear hO hB
    rw [htl] at HO ⊢
    by_cases hlt : k < l.length
    · have e1 : decide ((k : Int) < (l.length : Int)) = true := decide_eq_true (by omega)
      obtain ⟨x, hx⟩ : ∃ x, l[k]? = some x := ⟨_, List.getElem?_eq_getElem hlt⟩
      obtain ⟨a, rfl, ha, c0⟩ := (HS.out.to HB.out).at_ hx
      have hxl := HX.out x (List.mem_of_getElem? hx)
      have CL := fun w => rSum_any x (by omega) w
      have HSN : Hid ((l.map sumD).take (k + 1) = (l.map sumD).take k ++ [sumD x]) := by show _ = _; rw [List.take_add_one, List.getElem?_map, hx]; rfl
      have HO1 : Hid (wr.ownsRow w.heap.size 9 1 (.slice Ao k co) k (flatS ((l.map sumD).take k))) := by
        have := HO.out
        unfold OwnT at this
        rw [htl] at this
        exact this
      have HSZ : Hid (w.heap.size ≤ wr.heap.size) := HB.out.size
      generalize sumD x = d at *
      generalize (l.map sumD).take k = L at *
      clear hx HO
      go_wp2_with (first | ((with_reducible refine (CL _).mono ?_); rintro e w4 ⟨rfl, e9⟩; subst e9) | (at_builtin; refine wpList_append_own _ rfl (.tmp 13) (.tmp 19) _ rfl w.heap.size 9 i0 (.string ⟨#[]⟩) 1 16 Tryz.underlying22 hi0 hz0 hz1 hz2 rfl (by omega) _ k (flatS L) rfl ?c0 ⟨_, 0, none⟩ 1 1 [.string (bs d)] rfl rfl ?c1 ?c2 ?c4 ?c5 ?c3 ?_))
      case c0 => exact own_to4 HO1.out (below_one _ _)
      case c1 => exact cells_new4 (xs := [.string (bs d)]) (by simp)
      case c2 => intro u hu; simp only [List.mem_cons, List.not_mem_nil, or_false] at hu; rcases hu with rfl; rfl
      case c4 => simp only [maxLen]; omega
      case c5 => omega
      case c3 => have := HSZ.out; simp; omega
      intro v' w6 hown6 hgr6 _
      have HB6 := hide ((below_alloc HB.out (Nat.le_refl _) _).grown hgr6 (by have := HSZ.out; simp; omega) (fun b hb => (HO1.out.lt b hb).1))
      have HO6 : Hid (OwnT w6 w.heap.size v' ((l.map sumD).take (k + 1))) := by
        rw [HSN.out]
        show World.ownsRow _ _ _ _ _ _ _
        rw [flatS_snoc, List.length_append, htl]
        exact hown6
      clear hown6 hgr6
      go_wp2_with fail
      refine ⟨⟨k + 1, by go_num, by omega, HO6.out, HB6.out⟩, ?_⟩
      simp [intOf]; omega
    · obtain rfl : k = l.length := by omega
      have e1 : decide ((l.length : Int) < (l.length : Int)) = false := by simp
      have HT : Hid (TextsAt wr (.slice Ao l.length co) (l.map sumD)) := by
        have := TextsAt.of_own HO.out
        rwa [List.take_of_length_le (by simp)] at this
      clear HO hlt hk htl
      go_wp2_with fail
      generalize wr = w1 at *
      go_loopw [5] (fun i wr => ∃ k : Nat, i = .int .i64 (k : Int) ∧ k ≤ l.length ∧ Aside (noHit l k) ∧ Aside (Below w1.heap.size w1 wr)) (fun i _ => l.length - (intOf i).toNat)
      case atStart => exact ⟨0, rfl, by omega, fun i' h => absurd h (by omega), Below.refl _ _⟩
      case round =>
        obtain ⟨i, rfl, hi, hN, hB⟩ := hrel
        have HN : Hid (noHit l i) := hN
        have HBi : Hid (Below w1.heap.size w1 wr) := hB
        clear hN hB
        by_cases hlt : i < l.length
        · have e2 : decide ((i : Int) < (l.length : Int)) = true := decide_eq_true (by omega)
          obtain ⟨x, hx⟩ : ∃ x, l[i]? = some x := ⟨_, List.getElem?_eq_getElem hlt⟩
          have hxs : (l.map sumD)[i]? = some (sumD x) := by rw [List.getElem?_map, hx]; rfl
          go_wp2_with fail
          generalize wr = w2 at *
          go_loopw [6] (fun k wr => ∃ m : Nat, k = .int .i64 (m : Int) ∧ m ≤ i ∧ Aside (noHit2 l i m) ∧ Aside (Below w2.heap.size w2 wr)) (fun k _ => i - (intOf k).toNat)
          case atStart => exact ⟨0, rfl, by omega, fun i' h => absurd h (by omega), Below.refl _ _⟩
          case round =>
            obtain ⟨m, rfl, hm, hN, hB⟩ := hrel
            have HN2 : Hid (noHit2 l i m) := hN
            have HBw : Hid (Below w2.heap.size w2 wr) := hB
            have HBm : Hid (Below w1.heap.size w1 wr) := below_to HBi.out (Nat.le_refl _) hB
            clear hN hB
            by_cases hmi : m < i
            · have e3 : decide ((m : Int) < (i : Int)) = true := decide_eq_true (by omega)
              have e3' : decide (m < i) = true := decide_eq_true hmi
              obtain ⟨y, hy⟩ : ∃ y, l[m]? = some y := ⟨_, List.getElem?_eq_getElem (by omega)⟩
              have hys : (l.map sumD)[m]? = some (sumD y) := by rw [List.getElem?_map, hy]; rfl
              obtain ⟨a1, e9, _, x0⟩ := (HS.out.to (below_to HB.out (Nat.le_refl _) HBm.out)).at_ hx
              obtain ⟨a2, e8, _, y0⟩ := (HS.out.to (below_to HB.out (Nat.le_refl _) HBm.out)).at_ hy
              obtain ⟨a3, e7, _, x1⟩ := (HT.out.to HBm.out).at_ hxs
              obtain ⟨a4, e6, _, y1⟩ := (HT.out.to HBm.out).at_ hys
              subst e9
              obtain rfl := Option.some.inj e8
              subst e7
              obtain rfl := Option.some.inj e6
              clear e8 e6
              have j0 : (0 : Int) ≤ (i : Int) := by omega
              have j1 : (i : Int) < (l.length : Int) := by omega
              have j2 : (0 : Int) ≤ (m : Int) := by omega
              have j3 : (m : Int) < (l.length : Int) := by omega
              by_cases hd : sumD x = sumD y
              · have q1 : ((bs (sumD x)).toList == (bs (sumD y)).toList) = true := by rw [bs_toList, bs_toList, hd]; simp
                by_cases hxy : x = y
                · have q2 : ((bs x).toList == (bs y).toList) = true := by rw [hxy]; simp
                  have HN3 : Hid (noHit2 l i (m + 1)) := fun k' hk' hh => by
                    rcases Nat.lt_or_ge k' m with h1 | h1
                    · exact HN2.out k' h1 hh
                    · obtain rfl : k' = m := by omega
                      obtain ⟨x', y', h2, h3, h4, h5⟩ := hh
                      rw [hx] at h2; rw [hy] at h3
                      exact h5 ((Option.some.inj h2).symm.trans (hxy.trans (Option.some.inj h3)))
                  clear hx hy hxs hys hd hxy
                  go_wp2_with fail
                  go_quiet (fail)
                  go_wp2_with fail
                  all_goals first
                    | exact ⟨⟨m + 1, by go_num, by omega, HN3.out, below_drewN HBw.out _⟩, by simp [intOf]; omega⟩
                    | trace_state
                · have q2 : ((bs x).toList == (bs y).toList) = false := by rw [beq_eq_false_iff_ne, bs_toList, bs_toList]; exact hxy
                  clear hx hy hxs hys hd hxy
                  go_wp2_with fail
                  go_quiet (fail)
                  go_wp2_with fail
                  go_ret
                  exact ⟨rfl, below_drewN (below_to HB.out (Nat.le_refl _) HBm.out) _⟩
              · have q1 : ((bs (sumD x)).toList == (bs (sumD y)).toList) = false := by rw [beq_eq_false_iff_ne, bs_toList, bs_toList]; exact hd
                have HN3 : Hid (noHit2 l i (m + 1)) := fun k' hk' hh => by
                  rcases Nat.lt_or_ge k' m with h1 | h1
                  · exact HN2.out k' h1 hh
                  · obtain rfl : k' = m := by omega
                    obtain ⟨x', y', h2, h3, h4, h5⟩ := hh
                    rw [hx] at h2; rw [hy] at h3
                    rw [← Option.some.inj h2, ← Option.some.inj h3] at h4
                    exact hd h4
                clear hx hy hxs hys hd
                go_wp2_with fail
                go_quiet (fail)
                go_wp2_with fail
                all_goals first
                  | exact ⟨⟨m + 1, by go_num, by omega, HN3.out, below_drewN HBw.out _⟩, by simp [intOf]; omega⟩
                  | trace_state
            · obtain rfl : m = i := by omega
              have e3 : decide ((m : Int) < (m : Int)) = false := by simp
              have HN4 : Hid (noHit l (m + 1)) := fun i' hi' k' hk' hh => by
                rcases Nat.lt_or_ge i' m with h1 | h1
                · exact HN.out i' h1 k' hk' hh
                · obtain rfl : i' = m := by omega
                  exact HN2.out k' hk' hh
              go_wp2_with fail
              refine ⟨⟨m + 1, by go_num, by omega, HN4.out, HBm.out⟩, ?_⟩
              simp [intOf]; omega
        · obtain rfl : i = l.length := by omega
          obtain ⟨i', k', h1, h2, h3⟩ := HH.out
          exact absurd h3 (HN.out i' h2 k' h1)
end Go.Proofs.YtfhanbiifjiklaaGreatDoor

/- Walks of the reference: Holds, Checked, at a page that holds. -/
set_option linter.unusedVariables false
set_option linter.unusedSimpArgs false
namespace Go.Proofs.YtfhanbiifjiklaaGreatDoor
open Go.RowKit

theorem held_at {p : Pg} (hh : heldB p p.root p.size = true) {k : Nat} {x : List UInt8} {q : List (List UInt8)} (hx : p.items[k]? = some x) (hq : p.paths[k]? = some q) : checkV p.root p.size (p.fr + (k : Int)) (leafD x) q = true := by
  unfold heldB at hh
  rw [Bool.and_eq_true] at hh
  have hk := (List.getElem?_eq_some_iff.1 hx).1
  have h := List.all_eq_true.1 hh.2 ⟨k, hk⟩ (List.mem_finRange _)
  unfold Pg.checkAt at h
  rw [List.getElem?_eq_getElem hk] at hx
  have e : p.items[(⟨k, hk⟩ : Fin p.items.length)] = x := Option.some.inj hx
  rw [e, List.getD_eq_getElem?_getD, hq] at h
  exact h
theorem held_same {p : Pg} (hh : heldB p p.root p.size = true) : p.fr ≤ p.size - p.items.length := by
  unfold heldB sameB at hh
  simp only [Bool.and_eq_true, decide_eq_true_eq] at hh
  exact hh.1.2.2
theorem held_len {p : Pg} {N I k : Nat} {x : List UInt8} {q : List (List UInt8)} (h : checkV p.root p.size (p.fr + (k : Int)) (leafD x) q = true) (hN : p.size = N) (hI : p.fr + (k : Int) = I) : I < N ∧ N ≤ 1000000 ∧ q.length = lenF N N I ∧ properT q = true := by
  rw [hN, hI] at h
  have hb : (N : Int) ≤ 1000000 ∧ (I : Int) < (N : Int) := by
    unfold checkV at h
    split at h
    · rename_i hc; exact ⟨hc.1, hc.2.2.1⟩
    · cases h
  rw [checkV_ref _ _ _ _ _ (by omega) (by omega)] at h
  simp only [Bool.and_eq_true, decide_eq_true_eq] at h
  exact ⟨by omega, by omega, h.1, h.2.1⟩
def itemJ (p : Pg) (j : Nat) : List (List UInt8) := leafJ (p.items.getD j []) :: ptxF (leafD (p.items.getD j [])) p.size.toNat p.size.toNat (p.fr.toNat + j) (p.paths.getD j []).reverse
/-- what is digested to check the first k items of a page -/
def chkUp (p : Pg) (k : Nat) : List (List UInt8) := (List.range k).flatMap (itemJ p)
def checkedV (p : Pg) : List (List UInt8) := chkUp p p.items.length
theorem chk_step (p : Pg) (k : Nat) : chkUp p (k + 1) = chkUp p k ++ itemJ p k := by unfold chkUp; rw [List.range_succ, List.flatMap_append, List.flatMap_singleton]
theorem chk_at {p : Pg} {k : Nat} {x : List UInt8} {q : List (List UInt8)} (hx : p.items[k]? = some x) (hq : p.paths[k]? = some q) : itemJ p k = leafJ x :: ptxF (leafD x) p.size.toNat p.size.toNat (p.fr.toNat + k) q.reverse := by
  unfold itemJ; rw [List.getD_eq_getElem?_getD, List.getD_eq_getElem?_getD, hx, hq]; rfl
theorem chk_len (p : Pg) : ∀ k, (chkUp p k).length ≤ k * (p.size.toNat + 1)
  | 0 => by simp [chkUp]
  | k + 1 => by
    have := chk_len p k
    rw [chk_step, List.length_append, Nat.add_mul]
    have h2 : (itemJ p k).length ≤ p.size.toNat + 1 := by unfold itemJ; rw [List.length_cons]; exact Nat.succ_le_succ (ptx_len _ _ _ _ _)
    omega
/-- texts that lie behind a row are not touched when it grows -/
theorem sep_texts {w5 : World} {v5 : Value} {PX L : List (List UInt8)} {B : Nat} (h5 : OwnT w5 B v5 L) : ∀ (x x' : World) (v : Value), World.grownBy x x' v5.ownBlock → TextsAt x v PX → (∀ g, v.ownBlock = some g → w5.heap.size ≤ g) → TextsAt x' v PX := fun x x' v hg ht hl => by
  cases e : v5.ownBlock with
  | none =>
    rw [e] at hg
    exact ht.to ⟨hg.os, hg.tape, hg.output, hg.size, fun k hk => hg.block k hk (by simp)⟩
  | some r =>
    have hr := (own_blk_lt h5 r e).2
    have hne : v.ownBlock ≠ some r := fun e0 => by have := hl r e0; omega
    rw [e] at hg
    exact ht.two (p := r) (q := r) ⟨hg.os, hg.tape, hg.output, hg.size, fun k hk h1 _ => hg.block k hk (fun e0 => h1 (Option.some.inj e0))⟩ hne hne
set_option maxRecDepth 100000 in
set_option maxHeartbeats 4000000 in
theorem Holds_yes (p : Pg) (hp : p.fit) (hf : formedB p = true) (hh : heldB p p.root p.size = true) (vi vp : Value) (w : World) (hvi : TextsAt w vi p.items) (hvp : PathsAt w vp p.paths) :
    Calls Tryz.prog 27 #[.agg (p.cs vi vp)] w fun e w' => e = .returned (.bool true) ∧ Below w.heap.size w w' := by
  have HH := hide hh
  have HI := hide hp.li
  have HQ := hide (formed_len hf).1
  have hfs := (formed_spec hf).1
  have HPL : Hid (p.paths.length = p.items.length) := hfs.2.2.2.2
  have hfr := hfs.1
  have hsz := hfs.2.1
  have hil := hfs.2.2.2.1
  have HSM := hide (held_same hh)
  obtain ⟨Ai, ci, rfl, hci⟩ := hvi.slice
  obtain ⟨Ap, cp, rfl, hcp⟩ := hvp.slice
  have hb0 := below_one w (.cells #[.int .i64 p.fr, .int .i64 p.size, .string (bs p.root), .slice Ai p.items.length ci, .slice Ap p.paths.length cp] 25)
  have CF : Calls Tryz.prog 58 #[.agg #[.int .i64 p.fr, .int .i64 p.size, .string (bs p.root), .slice Ai p.items.length ci, .slice Ap p.paths.length cp]] (w.alloc (.cells #[.int .i64 p.fr, .int .i64 p.size, .string (bs p.root), .slice Ai p.items.length ci, .slice Ap p.paths.length cp] 25)) fun e w' => e = .returned (.bool true) ∧ Below (w.alloc (.cells #[.int .i64 p.fr, .int .i64 p.size, .string (bs p.root), .slice Ai p.items.length ci, .slice Ap p.paths.length cp] 25)).heap.size (w.alloc (.cells #[.int .i64 p.fr, .int .i64 p.size, .string (bs p.root), .slice Ai p.items.length ci, .slice Ap p.paths.length cp] 25)) w' := by
    have := rFormed_any p hp _ _ _ (hvi.to hb0) (hvp.to hb0)
    rw [hf] at this
    exact this
  have HVI := hide (hvi.to hb0)
  have HVP := hide (hvp.to hb0)
  have HB := hide hb0
  have HX := hide (Blk.new w 25 (p.cs (.slice Ai p.items.length ci) (.slice Ap p.paths.length cp)))
  have hsm := HSM.out
  have c1 : decide (p.size < p.fr) = false := decide_eq_false (by omega)
  have c2 : decide (p.size < p.fr + (p.items.length : Int)) = false := decide_eq_false (by omega)
  clear hvi hvp hb0 hf hh hfs
  unfold Pg.cs at HX ⊢
  go_enter Tryz.func27, Tryz.ntmps27
  go_wp2_with fail
  generalize w.alloc (.cells #[.int .i64 p.fr, .int .i64 p.size, .string (bs p.root), .slice Ai p.items.length ci, .slice Ap p.paths.length cp] 25) = w1 at *
  refine CF.mono ?_
  rintro e w2 ⟨rfl, hb⟩
  obtain ⟨x0, x1, x2, x3, x4⟩ := page_cells (HX.out.to hb)
  have HB2 := hide hb
  clear hb CF
  go_wp2_with fail
  clear x0 x1 x2 x3 x4
  go_loopw [3] (fun i wr => ∃ k : Nat, i = .int .i64 (k : Int) ∧ k ≤ p.items.length ∧ Aside (Below w1.heap.size w1 wr)) (fun i _ => p.items.length - (intOf i).toNat)
  case atStart => exact ⟨0, rfl, by omega, HB2.out⟩
  case round =>
    clear HB2
    obtain ⟨k, rfl, hk, hB⟩ := hrel
    have HBr : Hid (Below w1.heap.size w1 wr) := hB
    clear hB
    by_cases hlt : k < p.items.length
    · have e1 : decide ((k : Int) < (p.items.length : Int)) = true := decide_eq_true (by omega)
      obtain ⟨x, hx⟩ : ∃ x, p.items[k]? = some x := ⟨_, List.getElem?_eq_getElem hlt⟩
      obtain ⟨q, hq⟩ : ∃ q, p.paths[k]? = some q := ⟨_, List.getElem?_eq_getElem (by have := HPL.out; omega)⟩
      have hxl := HI.out x (List.mem_of_getElem? hx)
      have hql := HQ.out q (List.mem_of_getElem? hq)
      have HCK := hide (held_at HH.out hx hq)
      have i0 : (0 : Int) ≤ (k : Int) := by omega
      have i1 : (k : Int) < (p.items.length : Int) := by omega
      have i2 : (k : Int) < (p.paths.length : Int) := by have := HPL.out; omega
      have hwr : IntKind.i64.wrap (p.fr + (k : Int)) = p.fr + (k : Int) := IntWalk.i64_in _ (by omega)
      obtain ⟨a, e9, ha, c0⟩ := (HVI.out.to HBr.out).at_ hx
      obtain ⟨b, vq, e8, hb, d0, htq⟩ := (HVP.out.to HBr.out).at_ hq
      subst e9 e8
      obtain ⟨U, hU, g, u0, e7, hgu, hi⟩ := cls wr
      subst e7
      have CL := cls_call hgu hi (fun w hb => rLeaf_any x (by omega) w)
      have CC := cls_call hgu hi (fun w hb => rCheck_any p.root p.size (p.fr + (k : Int)) (leafD x) q (by rw [isD_len (leaf_isD x)]; decide) (by omega) (fun y hy => by rw [hql.2 y hy]; decide) vq w (htq.to hb))
      rw [HCK.out] at CC
      have X0 := blk_all hgu (HX.out.to HBr.out) 0 rfl
      have X1 := blk_all hgu (HX.out.to HBr.out) 1 rfl
      have X2 := blk_all hgu (HX.out.to HBr.out) 2 rfl
      have X3 := blk_all hgu (HX.out.to HBr.out) 3 rfl
      have X4 := blk_all hgu (HX.out.to HBr.out) 4 rfl
      have Y0 : ∀ u, (g u).cell? (a.add k) = some (.string (bs x)) := fun u => ((hgu u).cell (p := a.add k) (by rw [block_of_add]; exact ha)).trans c0
      have Y1 : ∀ u, (g u).cell? (b.add k) = some vq := fun u => ((hgu u).cell (p := b.add k) (by rw [block_of_add]; exact hb)).trans d0
      have HGU := hide hgu
      have HHI := hide hi
      clear hx hq hgu hi c0 d0 htq
      generalize leafD x = lx at *
      go_wp2_with fail
      refine wp_region_class g (by kernel_rfl) (by kernel_rfl) (HHI.out _ (HGU.out _).drew) ?_
      repeat (go_big_quiet_step (first | with_reducible exact CL _ | with_reducible exact CC _))
      refine wpQuiet_nil ?_
      intro w5 hw5
      obtain ⟨u, rfl⟩ := hw5
      go_wp2_with fail
      refine ⟨⟨k + 1, by go_num, by omega, below_to HBr.out (Nat.le_refl _) (HGU.out u)⟩, ?_⟩
      simp [intOf]; omega
    · obtain rfl : k = p.items.length := by omega
      have e1 : decide ((p.items.length : Int) < (p.items.length : Int)) = false := by simp
      obtain ⟨x0, x1, x2, x3, x4⟩ := page_cells (HX.out.to HBr.out)
      go_wp2_with fail
      go_ret
      exact ⟨rfl, below_to HB.out (Nat.le_refl _) HBr.out⟩
set_option maxRecDepth 100000 in
set_option maxHeartbeats 2000000 in
theorem Checked_any (p : Pg) (hp : p.fit) (hf : formedB p = true) (hh : heldB p p.root p.size = true) (vi vp : Value) (w : World) (hvi : TextsAt w vi p.items) (hvp : PathsAt w vp p.paths) :
    Calls Tryz.prog 31 #[.agg (p.cs vi vp)] w (LvR (checkedV p) w) := by
  have HH := hide hh
  have HI := hide hp.li
  have HQ := hide (formed_len hf).1
  have hfs := (formed_spec hf).1
  have HPL : Hid (p.paths.length = p.items.length) := hfs.2.2.2.2
  have hfr := hfs.1
  have hsz := hfs.2.1
  have hil := hfs.2.2.2.1
  have HSM := hide (held_same hh)
  obtain ⟨Ai, ci, rfl, hci⟩ := hvi.slice
  obtain ⟨Ap, cp, rfl, hcp⟩ := hvp.slice
  have hb0 := below_one w (.cells #[.int .i64 p.fr, .int .i64 p.size, .string (bs p.root), .slice Ai p.items.length ci, .slice Ap p.paths.length cp] 25)
  have HVI := hide (hvi.to hb0)
  have HVP := hide (hvp.to hb0)
  have HB := hide hb0
  have HX := hide (Blk.new w 25 (p.cs (.slice Ai p.items.length ci) (.slice Ap p.paths.length cp)))
  have hsm := HSM.out
  have HCL := hide (chk_len p)
  obtain ⟨N, hN⟩ : ∃ N : Nat, p.size = N := ⟨p.size.toNat, by omega⟩
  obtain ⟨F, hF⟩ : ∃ F : Nat, p.fr = F := ⟨p.fr.toNat, by omega⟩
  have hN1 : p.size.toNat = N := by omega
  have hF1 : p.fr.toNat = F := by omega
  have HN := hide hN
  have HF := hide hF
  have HN1 := hide hN1
  have HF1 := hide hF1
  have hNb : N ≤ 10000 := by omega
  clear hvi hvp hb0 hf hh hfs hN hF hN1 hF1
  unfold Pg.cs at HX ⊢
  go_enter Tryz.func31, Tryz.ntmps31
  go_wp2_with fail
  generalize w.alloc (.cells #[.int .i64 p.fr, .int .i64 p.size, .string (bs p.root), .slice Ai p.items.length ci, .slice Ap p.paths.length cp] 25) = w1 at *
  go_loopw [3, 4] (fun o i wr => ∃ k : Nat, i = .int .i64 (k : Int) ∧ k ≤ p.items.length ∧ Aside (OwnT wr w1.heap.size o (chkUp p k)) ∧ Aside (Below w1.heap.size w1 wr)) (fun _ i _ => p.items.length - (intOf i).toNat)
  case atStart => exact ⟨0, rfl, by omega, World.ownsRow_nil _ _ _ _, Below.refl _ _⟩
  case round =>
    obtain ⟨k, rfl, hk, hO, hB⟩ := hrel
    have HBr : Hid (Below w1.heap.size w1 wr) := hB
    have HO : Hid (OwnT wr w1.heap.size _ (chkUp p k)) := hO
    have hcl := HCL.out k
    rw [HN1.out] at hcl
    have hcl2 : (chkUp p k).length ≤ 50 * 10001 := Nat.le_trans hcl (Nat.mul_le_mul (by omega) (by omega))
    obtain ⟨Ao, co, rfl⟩ := own_sl4 hO
    clear hB hO hcl
    obtain ⟨x0, x1, x2, x3, x4⟩ := page_cells (HX.out.to HBr.out)
    by_cases hlt : k < p.items.length
    · have e1 : decide ((k : Int) < (p.items.length : Int)) = true := decide_eq_true (by omega)
      obtain ⟨x, hx⟩ : ∃ x, p.items[k]? = some x := ⟨_, List.getElem?_eq_getElem hlt⟩
      obtain ⟨q, hq⟩ : ∃ q, p.paths[k]? = some q := ⟨_, List.getElem?_eq_getElem (by have := HPL.out; omega)⟩
      have hxl := HI.out x (List.mem_of_getElem? hx)
      have hql := HQ.out q (List.mem_of_getElem? hq)
      have HCK := hide (held_at HH.out hx hq)
      have i0 : (0 : Int) ≤ (k : Int) := by omega
      have i1 : (k : Int) < (p.items.length : Int) := by omega
      have i2 : (k : Int) < (p.paths.length : Int) := by have := HPL.out; omega
      have hwr : IntKind.i64.wrap (p.fr + (k : Int)) = p.fr + (k : Int) := IntWalk.i64_in _ (by omega)
      have HCS := hide (chk_step p k)
      rw [chk_at hx hq, HN1.out, HF1.out] at HCS
      obtain ⟨hI1, hI2, hI3, hI4⟩ := held_len (I := F + k) HCK.out HN.out (by have := HF.out; omega)
      have hqx : ∀ y ∈ q, y.length ≤ 1000000 := fun y hy => by rw [hql.2 y hy]; decide
      have hlx : (leafD x).length ≤ 1000000 := by rw [isD_len (leaf_isD x)]; decide
      obtain ⟨a, e9, ha1, c01⟩ := HVI.out.at_ hx
      obtain ⟨b, vq, e8, hb1, d01, htq⟩ := HVP.out.at_ hq
      subst e9 e8
      have HC1 := hide (fun (W : World) (h : Below w1.heap.size w1 W) => (h.cell (p := a.add k) (by rw [block_of_add]; exact ha1)).trans c01)
      have HD1 := hide (fun (W : World) (h : Below w1.heap.size w1 W) => (h.cell (p := b.add k) (by rw [block_of_add]; exact hb1)).trans d01)
      have c0 := HC1.out wr HBr.out
      have d0 := HD1.out wr HBr.out
      have ha := Nat.lt_of_lt_of_le ha1 HBr.out.size
      have hb := Nat.lt_of_lt_of_le hb1 HBr.out.size
      have HTQ := hide htq
      have CJ := fun (w' : World) (g : Nat) => join_leafB (x := x) hxl w' g
      have CJ := CJ (wr.alloc (.cells #[.string ⟨#[108, 101, 97, 102]⟩, .string (bs x)] 9)) wr.heap.size (Blk.new _ _ _)
      have hpx := ptx_len (leafD x) N N (F + k) q.reverse
      have HP : Hid (∀ w', TextsAt w' vq q → Calls Tryz.prog 74 #[.int .i64 p.size, .int .i64 (p.fr + (k : Int)), .string (bs (leafD x)), vq] w' (LvR (ptxF (leafD x) N N (F + k) q.reverse) w')) := fun w' ht => by
        have := rpt_any N N (F + k) (leafD x) q vq w' (by omega) (Nat.le_refl _) hI1 (by omega) hI3 hlx hqx ht
        rwa [show ((N : Nat) : Int) = p.size by have := HN.out; omega, show ((F + k : Nat) : Int) = p.fr + (k : Int) by have := HF.out; omega] at this
      have HLf := hide (fun w : World => rLeaf_any x (by omega) w)
      clear hx hq htq hI3 hI4 hqx hlx c01 d01 ha1 hb1
      generalize leafJ x = J at *
      generalize leafD x = lx at *
      generalize ptxF lx N N (F + k) q.reverse = PX at *
      generalize chkUp p k = L at *
      go_wp2_with fail
      refine CJ.mono ?_
      rintro e w4 ⟨rfl, hb4⟩
      have hb4' := below_to (below_one wr (.cells #[.string ⟨#[108, 101, 97, 102]⟩, .string (bs x)] 9)) (Nat.le_refl _) hb4
      have HO4 := hide (own_to4 HO.out hb4')
      have HB4 := hide (below_to HBr.out (Nat.le_refl _) hb4')
      have y0 := (hb4'.cell (p := a.add k) (by rw [block_of_add]; exact ha)).trans c0
      have y1 := (hb4'.cell (p := b.add k) (by rw [block_of_add]; exact hb)).trans d0
      have ha4 := Nat.lt_of_lt_of_le ha hb4'.size
      have hbb4 := Nat.lt_of_lt_of_le hb hb4'.size
      clear hb4 hb4' CJ HO c0 d0 ha hb x0 x1 x2 x3 x4
      go_wp2_with (at_builtin; refine wpList_append_texts rfl (.tmp 12) (.tmp 20) rfl w1.heap.size _ L rfl (own_to4 HO4.out (below_one w4 (.cells #[.string (bs J)] 9))) (.slice (some ⟨w4.heap.size, 0, none⟩) 1 1) [J] rfl (TextsAt.of_blk (ls := [J]) (Blk.new w4 9 #[.string (bs J)]) rfl) (by simp; omega) (by have := HB4.out.size; simp; omega) ?_)
      intro v5 w5 ho5 hg5 _
      obtain ⟨A5, c5, rfl⟩ := own_sl4 ho5
      have HB5 := hide ((below_alloc HB4.out (Nat.le_refl _) (.cells #[.string (bs J)] 9)).trans (below_grown hg5 (by have := HB4.out.size; simp; omega) (fun g e => (own_blk_lt HO4.out g e).1)))
      have HO5 := hide ho5
      have hl5 : (L ++ [J]).length ≤ 50 * 10001 + 1 := by simp; omega
      generalize hL5 : L ++ [J] = L5 at *
      clear ho5 hg5 HO4 HB4 y0 y1 ha4 hbb4
      have HSEP := hide (sep_texts (w5 := w5) (v5 := .slice A5 L5.length c5) (PX := PX) (B := w1.heap.size) HO5.out)
      go_wp2_with fail
      apply wp_region_lo3 (C := fun W => Below w1.heap.size w1 W) (V := [some _, some _, some _, some _, some _, some _, some _, some _, some _, some _, some _, some _, some _, some _, some _, some _, some _, some _, none, none, none]) (Fs := [(18, fun a W => ∃ v, a.tmps[40]? = some v ∧ TextsAt W v PX ∧ ∀ g, v.ownBlock = some g → w5.heap.size ≤ g), (19, fun a W => ∃ v, a.tmps[41]? = some v ∧ OwnT W w1.heap.size v (L5 ++ PX)), (20, fun a W => ∃ v, a.tmps[41]? = some v ∧ a.tmps[3]? = some v ∧ OwnT W w1.heap.size v (L5 ++ PX))]) (Ns := [(0, fun a (_ : World) => a.tmps[3]? = some (.slice A5 L5.length c5)), (18, fun (_ : Act) W => w5.heap.size ≤ W.heap.size), (19, fun (_ : Act) W => OwnT W w1.heap.size (.slice A5 L5.length c5) L5)]) (Rel := fun i b b' x x' => if i = 19 then (fun _ _ x x' => World.grownBy x x' (Value.ownBlock (.slice A5 L5.length c5))) b b' x x' else if i = 20 then (fun _ _ x x' => Below x.heap.size x x') b b' x x' else Below x.heap.size x x')
      case hm => kernel_rfl
      case hB => kernel_rfl
      case hCw => exact HB5.out.drew
      case hC =>
        intro i a a' w_ w' hw hr
        by_cases e19 : i = 19
        · subst e19
          have hr' : (fun _ _ x x' => World.grownBy x x' (Value.ownBlock (.slice A5 L5.length c5))) a a' w_ w' := hr
          exact hw.trans (below_grown hr' hw.size (fun g e => (own_blk_lt HO5.out g e).1))
        by_cases e20 : i = 20
        · subst e20
          have hr' : (fun _ _ x x' => Below x.heap.size x x') a a' w_ w' := hr
          exact below_to hw (Nat.le_refl _) hr'
        have hr' : Below w_.heap.size w_ w' := by simpa [e19, e20] using hr
        exact below_to hw (Nat.le_refl _) hr'
      case hst =>
        refine keeps3_cons (fun i a a' w_ w' hne hwt hs hput hr h => by
          by_cases e19 : i = 19
          · subst e19
            have hr' : (fun _ _ x x' => World.grownBy x x' (Value.ownBlock (.slice A5 L5.length c5))) a a' w_ w' := hr
            obtain ⟨v, h1, h2, h3⟩ := h
            exact ⟨v, (hs 40 (by kernel_rfl)).trans h1, HSEP.out _ _ v hr' h2 h3, h3⟩
          by_cases e20 : i = 20
          · subst e20
            have hr' : (fun _ _ x x' => Below x.heap.size x x') a a' w_ w' := hr
            obtain ⟨v, h1, h2, h3⟩ := h
            exact ⟨v, (hs 40 (by kernel_rfl)).trans h1, h2.to hr', h3⟩
          have hr' : Below w_.heap.size w_ w' := by simpa [e19, e20] using hr
          obtain ⟨v, h1, h2, h3⟩ := h
          exact ⟨v, (hs 40 (by kernel_rfl)).trans h1, h2.to hr', h3⟩) ?_
        refine keeps3_cons (fun i a a' w_ w' hne hwt hs hput hr h => by
          by_cases e19 : i = 19
          · exact absurd e19 hne
          by_cases e20 : i = 20
          · subst e20
            have hr' : (fun _ _ x x' => Below x.heap.size x x') a a' w_ w' := hr
            obtain ⟨v, h1, h2⟩ := h
            exact ⟨v, (hs 41 (by kernel_rfl)).trans h1, own_to4 h2 hr'⟩
          have hr' : Below w_.heap.size w_ w' := by simpa [e19, e20] using hr
          obtain ⟨v, h1, h2⟩ := h
          exact ⟨v, (hs 41 (by kernel_rfl)).trans h1, own_to4 h2 hr'⟩) ?_
        refine keeps3_cons (fun i a a' w_ w' hne hwt hs hput hr h => by
          by_cases e19 : i = 19
          · subst e19
            exact absurd (hwt.symm.trans (show Region.waitsFor .any _ 20 19 = true by kernel_rfl)) (by decide)
          by_cases e20 : i = 20
          · exact absurd e20 hne
          have hr' : Below w_.heap.size w_ w' := by simpa [e19, e20] using hr
          obtain ⟨v, h1, h3, h2⟩ := h
          exact ⟨v, (hs 41 (by kernel_rfl)).trans h1, (hs 3 (by kernel_rfl)).trans h3, own_to4 h2 hr'⟩) ?_
        exact keeps3_nil
      case hN0 => exact pre0_cons (rfl) (pre0_cons (Nat.le_refl _) (pre0_cons (HO5.out) (pre0_nil)))
      case hNst =>
        refine prek_cons3 (fun i a a' w_ w' hne hwt hr h hput => by
          by_cases e19 : i = 19
          · subst e19
            have hr' : (fun _ _ x x' => World.grownBy x x' (Value.ownBlock (.slice A5 L5.length c5))) a a' w_ w' := hr
            exact (other_slot (d := 3) (k := 20) (by kernel_rfl) hput (by decide)).trans h
          by_cases e20 : i = 20
          · subst e20
            exact absurd (hwt.symm.trans (show waitsT .any _ _ 20 0 = true by kernel_rfl)) (by decide)
          have hr' : Below w_.heap.size w_ w' := by simpa [e19, e20] using hr
          exact (other_slot (d := 3) (k := 20) (by kernel_rfl) hput e20).trans h) ?_
        refine prek_cons3 (fun i a a' w_ w' hne hwt hr h hput => by
          by_cases e19 : i = 19
          · subst e19
            have hr' : (fun _ _ x x' => World.grownBy x x' (Value.ownBlock (.slice A5 L5.length c5))) a a' w_ w' := hr
            exact Nat.le_trans h hr'.size
          by_cases e20 : i = 20
          · subst e20
            have hr' : (fun _ _ x x' => Below x.heap.size x x') a a' w_ w' := hr
            exact Nat.le_trans h hr'.size
          have hr' : Below w_.heap.size w_ w' := by simpa [e19, e20] using hr
          exact Nat.le_trans h hr'.size) ?_
        refine prek_cons3 (fun i a a' w_ w' hne hwt hr h hput => by
          by_cases e19 : i = 19
          · exact absurd e19 hne
          by_cases e20 : i = 20
          · subst e20
            exact absurd (hwt.symm.trans (show waitsT .any _ _ 20 19 = true by kernel_rfl)) (by decide)
          have hr' : Below w_.heap.size w_ w' := by simpa [e19, e20] using hr
          exact own_to4 h hr') ?_
        exact prek_nil3
      case hop =>
        refine ⟨?_, ?_, ?_, ?_, ?_, ?_, ?_, ?_, ?_, ?_, ?_, ?_, ?_, ?_, ?_, ?_, ?_, ?_, ?_, ?_, ?_, trivial⟩
        · intro a w_ K hw hS hd hN hK
          have s3 := hN _ (List.mem_cons_self ..) rfl
          rw [if_pos (want_free rfl)]
          have s3 : a.tmps[3]? = some (.slice A5 L5.length c5) := s3
          go_simp
          exact hK _ _ (Below.refl _ _) (vok rfl) (facts_cons (fun h => absurd h (by decide)) (facts_cons (fun h => absurd h (by decide)) (facts_cons (fun h => absurd h (by decide)) facts_nil)))
        · intro a w_ K hw hS hd hN hK
          have s1 := hS.at 1 (by kernel_rfl) rfl
          rw [if_pos (want_free rfl)]
          go_simp
          exact hK _ _ (Below.refl _ _) (vok rfl) (facts_cons (fun h => absurd h (by decide)) (facts_cons (fun h => absurd h (by decide)) (facts_cons (fun h => absurd h (by decide)) facts_nil)))
        · intro a w_ K hw hS hd hN hK
          have s23 := (waits_on hd 1 (by kernel_rfl)).at (d := 23) rfl rfl rfl
          rw [if_pos (want_free rfl)]
          obtain ⟨x0, x1, x2, x3, x4⟩ := page_cells (HX.out.to hw)
          go_simp
          exact hK _ _ (Below.refl _ _) (vok rfl) (facts_cons (fun h => absurd h (by decide)) (facts_cons (fun h => absurd h (by decide)) (facts_cons (fun h => absurd h (by decide)) facts_nil)))
        · intro a w_ K hw hS hd hN hK
          have s1 := hS.at 1 (by kernel_rfl) rfl
          rw [if_pos (want_free rfl)]
          go_simp
          exact hK _ _ (Below.refl _ _) (vok rfl) (facts_cons (fun h => absurd h (by decide)) (facts_cons (fun h => absurd h (by decide)) (facts_cons (fun h => absurd h (by decide)) facts_nil)))
        · intro a w_ K hw hS hd hN hK
          have s25 := (waits_on hd 3 (by kernel_rfl)).at (d := 25) rfl rfl rfl
          rw [if_pos (want_free rfl)]
          obtain ⟨x0, x1, x2, x3, x4⟩ := page_cells (HX.out.to hw)
          go_simp
          exact hK _ _ (Below.refl _ _) (vok rfl) (facts_cons (fun h => absurd h (by decide)) (facts_cons (fun h => absurd h (by decide)) (facts_cons (fun h => absurd h (by decide)) facts_nil)))
        · intro a w_ K hw hS hd hN hK
          have s4 := hS.at 4 (by kernel_rfl) rfl
          rw [if_pos (want_free rfl)]
          go_simp
          exact hK _ _ (Below.refl _ _) (vok rfl) (facts_cons (fun h => absurd h (by decide)) (facts_cons (fun h => absurd h (by decide)) (facts_cons (fun h => absurd h (by decide)) facts_nil)))
        · intro a w_ K hw hS hd hN hK
          have s26 := (waits_on hd 4 (by kernel_rfl)).at (d := 26) rfl rfl rfl
          have s27 := (waits_on hd 5 (by kernel_rfl)).at (d := 27) rfl rfl rfl
          rw [if_pos (want_free rfl)]
          go_simp
          exact hK _ _ (Below.refl _ _) (vok rfl) (facts_cons (fun h => absurd h (by decide)) (facts_cons (fun h => absurd h (by decide)) (facts_cons (fun h => absurd h (by decide)) facts_nil)))
        · intro a w_ K hw hS hd hN hK
          have s1 := hS.at 1 (by kernel_rfl) rfl
          rw [if_pos (want_free rfl)]
          go_simp
          exact hK _ _ (Below.refl _ _) (vok rfl) (facts_cons (fun h => absurd h (by decide)) (facts_cons (fun h => absurd h (by decide)) (facts_cons (fun h => absurd h (by decide)) facts_nil)))
        · intro a w_ K hw hS hd hN hK
          have s29 := (waits_on hd 7 (by kernel_rfl)).at (d := 29) rfl rfl rfl
          rw [if_pos (want_free rfl)]
          obtain ⟨x0, x1, x2, x3, x4⟩ := page_cells (HX.out.to hw)
          go_simp
          exact hK _ _ (Below.refl _ _) (vok rfl) (facts_cons (fun h => absurd h (by decide)) (facts_cons (fun h => absurd h (by decide)) (facts_cons (fun h => absurd h (by decide)) facts_nil)))
        · intro a w_ K hw hS hd hN hK
          have s4 := hS.at 4 (by kernel_rfl) rfl
          rw [if_pos (want_free rfl)]
          go_simp
          exact hK _ _ (Below.refl _ _) (vok rfl) (facts_cons (fun h => absurd h (by decide)) (facts_cons (fun h => absurd h (by decide)) (facts_cons (fun h => absurd h (by decide)) facts_nil)))
        · intro a w_ K hw hS hd hN hK
          have s30 := (waits_on hd 8 (by kernel_rfl)).at (d := 30) rfl rfl rfl
          have s31 := (waits_on hd 9 (by kernel_rfl)).at (d := 31) rfl rfl rfl
          rw [if_pos (want_free rfl)]
          go_simp
          exact hK _ _ (Below.refl _ _) (vok rfl) (facts_cons (fun h => absurd h (by decide)) (facts_cons (fun h => absurd h (by decide)) (facts_cons (fun h => absurd h (by decide)) facts_nil)))
        · intro a w_ K hw hS hd hN hK
          have s32 := (waits_on hd 10 (by kernel_rfl)).at (d := 32) rfl rfl rfl
          rw [if_pos (want_free rfl)]
          have c0 := HC1.out w_ hw
          go_simp
          exact hK _ _ (Below.refl _ _) (vok rfl) (facts_cons (fun h => absurd h (by decide)) (facts_cons (fun h => absurd h (by decide)) (facts_cons (fun h => absurd h (by decide)) facts_nil)))
        · intro a w_ K hw hS hd hN hK
          have s33 := (waits_on hd 11 (by kernel_rfl)).at (d := 33) rfl rfl rfl
          rw [if_pos (want_free rfl)]
          go_simp
          with_reducible refine (HLf.out w_).mono ?_
          rintro e w' ⟨rfl, hb⟩
          exact hK _ _ hb (vok rfl) (facts_cons (fun h => absurd h (by decide)) (facts_cons (fun h => absurd h (by decide)) (facts_cons (fun h => absurd h (by decide)) facts_nil)))
        · intro a w_ K hw hS hd hN hK
          have s1 := hS.at 1 (by kernel_rfl) rfl
          rw [if_pos (want_free rfl)]
          go_simp
          exact hK _ _ (Below.refl _ _) (vok rfl) (facts_cons (fun h => absurd h (by decide)) (facts_cons (fun h => absurd h (by decide)) (facts_cons (fun h => absurd h (by decide)) facts_nil)))
        · intro a w_ K hw hS hd hN hK
          have s35 := (waits_on hd 13 (by kernel_rfl)).at (d := 35) rfl rfl rfl
          rw [if_pos (want_free rfl)]
          obtain ⟨x0, x1, x2, x3, x4⟩ := page_cells (HX.out.to hw)
          go_simp
          exact hK _ _ (Below.refl _ _) (vok rfl) (facts_cons (fun h => absurd h (by decide)) (facts_cons (fun h => absurd h (by decide)) (facts_cons (fun h => absurd h (by decide)) facts_nil)))
        · intro a w_ K hw hS hd hN hK
          have s4 := hS.at 4 (by kernel_rfl) rfl
          rw [if_pos (want_free rfl)]
          go_simp
          exact hK _ _ (Below.refl _ _) (vok rfl) (facts_cons (fun h => absurd h (by decide)) (facts_cons (fun h => absurd h (by decide)) (facts_cons (fun h => absurd h (by decide)) facts_nil)))
        · intro a w_ K hw hS hd hN hK
          have s36 := (waits_on hd 14 (by kernel_rfl)).at (d := 36) rfl rfl rfl
          have s37 := (waits_on hd 15 (by kernel_rfl)).at (d := 37) rfl rfl rfl
          rw [if_pos (want_free rfl)]
          go_simp
          exact hK _ _ (Below.refl _ _) (vok rfl) (facts_cons (fun h => absurd h (by decide)) (facts_cons (fun h => absurd h (by decide)) (facts_cons (fun h => absurd h (by decide)) facts_nil)))
        · intro a w_ K hw hS hd hN hK
          have s38 := (waits_on hd 16 (by kernel_rfl)).at (d := 38) rfl rfl rfl
          rw [if_pos (want_free rfl)]
          have d0 := HD1.out w_ hw
          go_simp
          exact hK _ _ (Below.refl _ _) (vok rfl) (facts_cons (fun h => absurd h (by decide)) (facts_cons (fun h => absurd h (by decide)) (facts_cons (fun h => absurd h (by decide)) facts_nil)))
        · intro a w_ K hw hS hd hN hK
          have s24 := (waits_on hd 2 (by kernel_rfl)).at (d := 24) rfl rfl rfl
          have s28 := (waits_on hd 6 (by kernel_rfl)).at (d := 28) rfl rfl rfl
          have s34 := (waits_on hd 12 (by kernel_rfl)).at (d := 34) rfl rfl rfl
          have s39 := (waits_on hd 17 (by kernel_rfl)).at (d := 39) rfl rfl rfl
          have hw5 := hN _ (List.mem_cons_of_mem _ (List.mem_cons_self ..)) rfl
          rw [if_pos (want_free rfl)]
          go_simp
          with_reducible refine (HP.out w_ (HTQ.out.to hw)).mono ?_
          rintro e w' ⟨v7, rfl, ho7, hb7⟩
          exact hK _ _ hb7 (vfree rfl) (facts_cons (fun _ => ⟨v7, hS.put_at (by kernel_rfl) _, TextsAt.of_own ho7, fun g e => Nat.le_trans hw5 (own_blk_lt ho7 g e).1⟩) (facts_cons (fun h => absurd h (by decide)) (facts_cons (fun h => absurd h (by decide)) facts_nil)))
        · intro a w_ K hw hS hd hN hK
          have s22 := (waits_on hd 0 (by kernel_rfl)).at (d := 22) rfl rfl rfl
          obtain ⟨v40, s40, t40, l40⟩ := (waits_on hd 18 (by kernel_rfl)).2 _ (List.mem_cons_self ..) rfl
          have hOwn := hN _ (List.mem_cons_of_mem _ (List.mem_cons_of_mem _ (List.mem_cons_self ..))) rfl
          rw [if_pos (want_free rfl)]
          refine wp_append_texts (.tmp 22) (.tmp 40) rfl w1.heap.size (.slice A5 L5.length c5) L5 (eval_at s22) hOwn v40 PX (eval_at s40) t40 (by omega) hw.size ?_
          intro v8 w' ho hg hne
          exact hK v8 w' hg (vfree rfl) (facts_cons (fun h => absurd h (by decide)) (facts_cons (fun _ => ⟨v8, hS.put_at (by kernel_rfl) _, ho⟩) (facts_cons (fun h => absurd h (by decide)) facts_nil)))
        · intro a w_ K hw hS hd hN hK
          obtain ⟨v41, s41, o41⟩ := (waits_on hd 19 (by kernel_rfl)).2 _ (List.mem_cons_of_mem _ (List.mem_cons_self ..)) rfl
          rw [if_pos (want_free rfl)]
          go_simp
          exact hK _ _ (Below.refl _ _) (vfree rfl) (facts_cons (fun h => absurd h (by decide)) (facts_cons (fun h => absurd h (by decide)) (facts_cons (fun _ => ⟨v41, (put_far (by decide)).trans s41, hS.put_at (by kernel_rfl) _, o41⟩) facts_nil)))
      case hfin =>
        intro a w8 hw hS hk
        have s22 := (hk 0 (by decide)).at (d := 22) rfl rfl rfl
        have s23 := (hk 1 (by decide)).at (d := 23) rfl rfl rfl
        have s24 := (hk 2 (by decide)).at (d := 24) rfl rfl rfl
        have s25 := (hk 3 (by decide)).at (d := 25) rfl rfl rfl
        have s26 := (hk 4 (by decide)).at (d := 26) rfl rfl rfl
        have s27 := (hk 5 (by decide)).at (d := 27) rfl rfl rfl
        have s28 := (hk 6 (by decide)).at (d := 28) rfl rfl rfl
        have s29 := (hk 7 (by decide)).at (d := 29) rfl rfl rfl
        have s30 := (hk 8 (by decide)).at (d := 30) rfl rfl rfl
        have s31 := (hk 9 (by decide)).at (d := 31) rfl rfl rfl
        have s32 := (hk 10 (by decide)).at (d := 32) rfl rfl rfl
        have s33 := (hk 11 (by decide)).at (d := 33) rfl rfl rfl
        have s34 := (hk 12 (by decide)).at (d := 34) rfl rfl rfl
        have s35 := (hk 13 (by decide)).at (d := 35) rfl rfl rfl
        have s36 := (hk 14 (by decide)).at (d := 36) rfl rfl rfl
        have s37 := (hk 15 (by decide)).at (d := 37) rfl rfl rfl
        have s38 := (hk 16 (by decide)).at (d := 38) rfl rfl rfl
        have s39 := (hk 17 (by decide)).at (d := 39) rfl rfl rfl
        obtain ⟨v40, s40, t40, l40⟩ := (hk 18 (by decide)).2 _ (List.mem_cons_self ..) rfl
        obtain ⟨v41, s41, o41⟩ := (hk 19 (by decide)).2 _ (List.mem_cons_of_mem _ (List.mem_cons_self ..)) rfl
        obtain ⟨v3, s41', s3, o3⟩ := (hk 20 (by decide)).2 _ (List.mem_cons_of_mem _ (List.mem_cons_of_mem _ (List.mem_cons_self ..))) rfl
        have hlit := hS.lit _ (by kernel_rfl) (lits_cons s22 (lits_cons s23 (lits_cons s24 (lits_cons s25 (lits_cons s26 (lits_cons s27 (lits_cons s28 (lits_cons s29 (lits_cons s30 (lits_cons s31 (lits_cons s32 (lits_cons s33 (lits_cons s34 (lits_cons s35 (lits_cons s36 (lits_cons s37 (lits_cons s38 (lits_cons s39 (lits_cons s40 (lits_cons s41 (lits_cons s3 lits_nil)))))))))))))))))))))
        rw [hlit]
        clear hlit hk hS t40 l40 o41 s41'
        have HB8 := hide hw
        have HO8 : Hid (OwnT w8 w1.heap.size v3 (chkUp p (k + 1))) := by
          rw [HCS.out]
          have := o3
          rw [← hL5, List.append_assoc, List.singleton_append] at this
          exact this
        clear o3 hw
        simp only [litT, List.setIfInBounds_toArray, List.set_cons_succ, List.set_cons_zero]
        go_wp2_with fail
        refine ⟨⟨k + 1, by go_num, by omega, HO8.out, HB8.out⟩, ?_⟩
        simp [intOf]; omega
    · obtain rfl : k = p.items.length := by omega
      have e1 : decide ((p.items.length : Int) < (p.items.length : Int)) = false := by simp
      go_wp2_with fail
      go_ret
      exact ⟨_, rfl, own_less HO.out HB.out.size, below_to HB.out (Nat.le_refl _) HBr.out⟩
end Go.Proofs.YtfhanbiifjiklaaGreatDoor

/- The plain laws of pages that are accepted: their items are those of the log, or two texts have one digest. -/
set_option linter.unusedVariables false
set_option linter.unusedSimpArgs false
namespace Go.Proofs.YtfhanbiifjiklaaGreatDoor
open Go.RowKit

theorem join3_len {a b c : List UInt8} (ha : a.length ≤ 1000) (hb : b.length ≤ 1000) (hc : c.length ≤ 1000) : (joinD [a, b, c]).length ≤ 4000 := by
  have := join_len [a, b, c] (by intro l hl; simp only [List.mem_cons, List.not_mem_nil, or_false] at hl; rcases hl with rfl | rfl | rfl <;> omega)
  simp at this; omega
theorem join2_len {a b : List UInt8} (ha : a.length ≤ 1000) (hb : b.length ≤ 1000) : (joinD [a, b]).length ≤ 4000 := by
  have := join_len [a, b] (by intro l hl; simp only [List.mem_cons, List.not_mem_nil, or_false] at hl; rcases hl with rfl | rfl <;> omega)
  simp at this; omega
theorem total_1000 {l : List (List UInt8)} (h : ∀ x ∈ l, x.length ≤ 1000) : (totalT l).length ≤ 1000 := by
  match l, h with
  | [], _ => exact Nat.le_of_lt (Nat.lt_of_le_of_lt (Nat.le_of_eq (isD_len (listD_isD _))) (by decide))
  | [x], h => rw [total_one]; exact h x (by simp)
  | x :: y :: l, _ => rw [total_two (by simp), nodeD_len]; decide
theorem texts_small : ∀ (f : Nat) (l : List (List UInt8)), (∀ x ∈ l, x.length ≤ 1000) → ∀ s ∈ textsF f l, s.length ≤ 4000
  | 0, l, h, s, hs => by cases hs
  | f + 1, l, h, s, hs => by
    unfold textsF at hs
    split at hs
    · rw [List.mem_singleton.1 hs]; decide +kernel
    · split at hs
      · cases hs
      · simp only [List.mem_append, List.mem_singleton] at hs
        rcases hs with (hs | hs) | hs
        · exact texts_small f _ (fun x hx => h x (List.mem_of_mem_take hx)) s hs
        · exact texts_small f _ (fun x hx => h x (List.mem_of_mem_drop hx)) s hs
        · rw [hs]; exact join3_len (by decide) (total_1000 fun x hx => h x (List.mem_of_mem_take hx)) (total_1000 fun x hx => h x (List.mem_of_mem_drop hx))
theorem up_1000 {leaf : List UInt8} (hl : leaf.length ≤ 1000) : ∀ (f n i : Nat) (st : List (List UInt8)) (sh : Bool), (upG leaf f n i st sh).1.length ≤ 1000
  | 0, n, i, st, sh => hl
  | f + 1, n, i, st, sh => by
    unfold upG
    split
    · exact hl
    · split <;> exact Nat.le_trans (Nat.le_of_eq (nodeD_len _ _)) (by decide)
theorem head_1000 {st : List (List UInt8)} (h : ∀ x ∈ st, x.length ≤ 1000) : (st.headD []).length ≤ 1000 := by
  cases st with
  | nil => simp
  | cons x l => exact h x (by simp)
theorem ptx_small {leaf : List UInt8} (hl : leaf.length ≤ 1000) : ∀ (f n i : Nat) (st : List (List UInt8)), (∀ x ∈ st, x.length ≤ 1000) → ∀ s ∈ ptxF leaf f n i st, s.length ≤ 4000
  | 0, n, i, st, h, s, hs => by cases hs
  | f + 1, n, i, st, h, s, hs => by
    unfold ptxF at hs
    have ht : ∀ x ∈ st.tail, x.length ≤ 1000 := fun x hx => h x (List.mem_of_mem_tail hx)
    split at hs
    · cases hs
    · split at hs
      · rcases List.mem_append.1 hs with hs | hs
        · exact ptx_small hl f _ _ _ ht s hs
        · rw [List.mem_singleton.1 hs]; exact join3_len (by decide) (up_1000 hl _ _ _ _ _) (head_1000 h)
      · rcases List.mem_append.1 hs with hs | hs
        · exact ptx_small hl f _ _ _ ht s hs
        · rw [List.mem_singleton.1 hs]; exact join3_len (by decide) (head_1000 h) (up_1000 hl _ _ _ _ _)
theorem dig_small {items : List (List UInt8)} (h : ∀ x ∈ items, x.length ≤ 1000) : ∀ s ∈ digestedV items, s.length ≤ 1000000 := fun s hs => by
  unfold digestedV at hs
  rcases List.mem_append.1 hs with hs | hs
  · have := texts_small _ _ (fun x hx => by obtain ⟨y, _, rfl⟩ := List.mem_map.1 hx; rw [isD_len (leaf_isD y)]; decide) s hs
    omega
  · obtain ⟨y, hy, rfl⟩ := List.mem_map.1 hs
    have : (leafJ y).length ≤ 4000 := join2_len (by decide) (h y hy)
    omega
theorem dig_len (items : List (List UInt8)) : (digestedV items).length ≤ 2 * items.length + 1 := by
  unfold digestedV
  have := texts_le (leavesV items)
  rw [leaves_len] at this
  rw [List.length_append, List.length_map]; omega
theorem chk_small {p : Pg} (hi : ∀ x ∈ p.items, x.length ≤ 1000) (hq : ∀ q ∈ p.paths, ∀ x ∈ q, x.length ≤ 1000) : ∀ s ∈ checkedV p, s.length ≤ 1000000 := fun s hs => by
  unfold checkedV chkUp at hs
  obtain ⟨j, hj, hs⟩ := List.mem_flatMap.1 hs
  unfold itemJ at hs
  have hx : (p.items.getD j []).length ≤ 1000 := by
    rw [List.getD_eq_getElem?_getD]
    cases e : p.items[j]? with
    | none => simp
    | some x => exact hi x (List.mem_of_getElem? e)
  rcases List.mem_cons.1 hs with rfl | hs
  · have : (leafJ (p.items.getD j [])).length ≤ 4000 := join2_len (by decide) hx
    omega
  · have := ptx_small (by rw [isD_len (leaf_isD _)]; decide) _ _ _ _ (fun x hx => by
      rw [List.mem_reverse, List.getD_eq_getElem?_getD] at hx
      cases e : p.paths[j]? with
      | none => rw [e] at hx; cases hx
      | some q => rw [e] at hx; exact hq q (List.mem_of_getElem? e) x hx) s hs
    omega
theorem item_mem {p : Pg} {k : Nat} {y : List UInt8} {q : List (List UInt8)} (hy : p.items[k]? = some y) (hq : p.paths[k]? = some q) : ∀ s ∈ leafJ y :: ptxF (leafD y) p.size.toNat p.size.toNat (p.fr.toNat + k) q.reverse, s ∈ checkedV p := fun s hs => by
  rw [← chk_at hy hq] at hs
  unfold checkedV chkUp
  exact List.mem_flatMap.2 ⟨k, List.mem_range.2 (List.getElem?_eq_some_iff.1 hy).1, hs⟩
/-- an item that is not the log's -/
theorem held_sound {items : List (List UInt8)} {p : Pg} (hf : formedB p = true) (hh : heldB p p.root p.size = true) (hr : p.root = rootL items) (hs : p.size = (items.length : Int)) {k : Nat} {x y : List UInt8} (hy : p.items[k]? = some y) (hx : items[p.fr.toNat + k]? = some x) (hne : x ≠ y) : Coll (digestedV items) (checkedV p) := by
  have hfs := (formed_spec hf).1
  obtain ⟨q, hq⟩ : ∃ q, p.paths[k]? = some q := ⟨_, List.getElem?_eq_getElem (by have := (List.getElem?_eq_some_iff.1 hy).1; omega)⟩
  have hc := held_at hh hy hq
  have hI : p.fr + (k : Int) = ((p.fr.toNat + k : Nat) : Int) := by omega
  obtain ⟨h1, h2, h3, h4⟩ := held_len hc hs hI
  rw [hs, hI, checkV_ref _ _ _ _ _ (by omega) (by omega)] at hc
  simp only [Bool.and_eq_true, decide_eq_true_eq] at hc
  have hu := hc.2.2.2
  have hN : p.size.toNat = items.length := by omega
  have hm := item_mem hy hq
  rw [hN] at hm
  have hxl : (leavesV items)[p.fr.toNat + k]? = some (leafD x) := by unfold leavesV; rw [List.getElem?_map, hx]; rfl
  rw [hr] at hu
  rcases up_sound (leafD y) items.length items.length (p.fr.toNat + k) q.reverse false (leavesV items) (leaves_len items) (Nat.le_refl _) h1 hu with h | h
  · rw [hxl] at h
    rcases leafD_sound (Option.some.inj h) with e | e
    · exact absurd e hne
    · refine e.mono (fun s hs => ?_) (fun s hs => ?_)
      · rw [List.mem_singleton.1 hs]
        unfold digestedV
        exact List.mem_append.2 (.inr (List.mem_map.2 ⟨x, List.mem_of_getElem? hx, rfl⟩))
      · rw [List.mem_singleton.1 hs]; exact hm _ (List.mem_cons_self ..)
  · exact h.mono (fun s hs => by unfold digestedV; exact List.mem_append.2 (.inl hs)) (fun s hs => hm s (List.mem_cons_of_mem _ hs))
theorem coll_in {a b : List (List UInt8)} (h : Coll a b) : CollIn (a ++ b) := h.mono (fun s hs => List.mem_append.2 (.inl hs)) (fun s hs => List.mem_append.2 (.inr hs))
theorem begins_no {l p : List (List UInt8)} (hl : p.length ≤ l.length) (h : beginsV l p = false) : ∃ (k : Nat) (x y : List UInt8), l[k]? = some x ∧ p[k]? = some y ∧ x ≠ y := by
  unfold beginsV at h
  rw [decide_eq_true hl, Bool.true_and, decide_eq_false_iff_not] at h
  apply Classical.byContradiction
  intro hn
  apply h
  refine List.ext_getElem? fun k => ?_
  rcases Nat.lt_or_ge k p.length with hk | hk
  · rw [List.getElem?_take_of_lt hk, List.getElem?_eq_getElem hk, List.getElem?_eq_getElem (by omega : k < l.length)]
    congr 1
    apply Classical.byContradiction
    intro hne
    exact hn ⟨k, _, _, List.getElem?_eq_getElem (by omega), List.getElem?_eq_getElem hk, hne⟩
  · rw [List.getElem?_eq_none hk, List.getElem?_eq_none (by rw [List.length_take]; omega)]
theorem begins_take (l : List (List UInt8)) (k : Nat) : beginsV l (l.take k) = true := by
  unfold beginsV
  rw [List.length_take, decide_eq_true (by omega), Bool.true_and, decide_eq_true_eq]
  rcases Nat.le_total k l.length with h | h
  · rw [Nat.min_eq_left h]
  · rw [Nat.min_eq_right h, List.take_length, List.take_of_length_le h]
/-- what an accepted page says of itself -/
theorem acc_facts {p : Pg} {items its : List (List UInt8)} (h : accE p (rootL items) items.length its = 0) : formedB p = true ∧ heldB p p.root p.size = true ∧ p.root = rootL items ∧ p.size = (items.length : Int) ∧ p.fr ≤ (its.length : Int) := by
  unfold accE at h
  split at h
  · rename_i hf
    split at h
    · rename_i hh
      split at h
      · cases h
      · rename_i hl
        have hh' := hh
        unfold heldB sameB at hh'
        simp only [Bool.and_eq_true, decide_eq_true_eq] at hh'
        obtain ⟨⟨h1, h2, h3⟩, h4⟩ := hh'
        exact ⟨hf, by rw [h1, h2]; exact hh, h1, h2, by omega⟩
    · cases h
  · cases h
end Go.Proofs.YtfhanbiifjiklaaGreatDoor

/- The walk of PageTexts. -/
set_option linter.unusedVariables false
set_option linter.unusedSimpArgs false
namespace Go.Proofs.YtfhanbiifjiklaaGreatDoor
open Go.RowKit

/-- two pages that came in, in boxes of the call -/
structure TwoP (w : World) (p q : Pg) (vi vp ui up : Value) (W : World) : Prop where
  bel : Below w.heap.size w W
  bP : Blk W w.heap.size 25 (p.cs vi vp)
  bQ : Blk W (w.heap.size + 1) 25 (q.cs ui up)
  ti : TextsAt W vi p.items
  tp : PathsAt W vp p.paths
  ui : TextsAt W ui q.items
  up : PathsAt W up q.paths
theorem TwoP.to {w W W' : World} {p q : Pg} {vi vp ui up : Value} (h : TwoP w p q vi vp ui up W) (hb : Below W.heap.size W W') : TwoP w p q vi vp ui up W' :=
  ⟨below_to h.bel (Nat.le_refl _) hb, h.bP.to hb, h.bQ.to hb, h.ti.to hb, h.tp.to hb, h.ui.to hb, h.up.to hb⟩
theorem TwoP.start {w : World} {p q : Pg} {vi vp ui up : Value} (h1 : TextsAt w vi p.items) (h2 : PathsAt w vp p.paths) (h3 : TextsAt w ui q.items) (h4 : PathsAt w up q.paths) : TwoP w p q vi vp ui up ((w.alloc (.cells (p.cs vi vp) 25)).alloc (.cells (q.cs ui up) 25)) := by
  have b1 := below_one w (.cells (p.cs vi vp) 25)
  have b2 := below_one (w.alloc (.cells (p.cs vi vp) 25)) (.cells (q.cs ui up) 25)
  have x := Blk.new (w.alloc (.cells (p.cs vi vp) 25)) 25 (q.cs ui up)
  rw [World.size_alloc] at x
  exact ⟨below_to b1 (Nat.le_refl _) b2, (Blk.new w _ _).to b2, x, (h1.to b1).to b2, (h2.to b1).to b2, (h3.to b1).to b2, (h4.to b1).to b2⟩
set_option maxRecDepth 100000 in
set_option maxHeartbeats 4000000 in
theorem texts_law (p q : Pg) (hp : p.wide) (hq : q.wide) (hpf : -9223372036854775808 ≤ p.fr ∧ p.fr ≤ 9223372036854775807) (hps : -9223372036854775808 ≤ p.size ∧ p.size ≤ 9223372036854775807) (hqf : -9223372036854775808 ≤ q.fr ∧ q.fr ≤ 9223372036854775807) (hqs : -9223372036854775808 ≤ q.size ∧ q.size ≤ 9223372036854775807)
    (t : List UInt8) (ht : t.length ≤ 140737488355328) (vi vp ui up : Value) (w : World) (hvi : TextsAt w vi p.items) (hvp : PathsAt w vp p.paths) (hui : TextsAt w ui q.items) (huq : PathsAt w up q.paths) (hg : Glob w) :
    Calls Tryz.prog 7 #[.agg (p.cs vi vp), .agg (q.cs ui up), .string (bs t)] w fun e w' => e = .returned (.bool true) ∧ Below w.heap.size w w' := by
  have H2 := hide (TwoP.start hvi hvp hui huq)
  have HG := hide hg
  obtain ⟨Ai, ci, rfl, _⟩ := hvi.slice
  obtain ⟨Ap, cp, rfl, _⟩ := hvp.slice
  obtain ⟨Bi, di, rfl, _⟩ := hui.slice
  obtain ⟨Bp, dp, rfl, _⟩ := huq.slice
  clear hvi hvp hui huq hg
  have hsz : (bs t).size = t.length := bs_size t
  unfold Pg.cs at H2 ⊢
  go_enter Tryz.func7, Tryz.ntmps7
  go_wp2_with fail
  generalize (w.alloc (.cells #[.int .i64 p.fr, .int .i64 p.size, .string (bs p.root), .slice Ai p.items.length ci, .slice Ap p.paths.length cp] 25)).alloc (.cells #[.int .i64 q.fr, .int .i64 q.size, .string (bs q.root), .slice Bi q.items.length di, .slice Bp q.paths.length dp] 25) = w2 at *
  have C3 := head_any w2 (HG.out.to H2.out.bel)
  refine C3.mono ?_
  rintro e w3 ⟨rfl, hb⟩
  have H3 := hide (H2.out.to hb)
  clear hb C3 H2
  obtain ⟨p0, p1, p2, p3, p4⟩ := page_cells H3.out.bP; obtain ⟨q0, q1, q2, q3, q4⟩ := page_cells H3.out.bQ
  have CF : Calls Tryz.prog 13 #[.agg #[.int .i64 p.fr, .int .i64 p.size, .string (bs p.root), .slice Ai p.items.length ci, .slice Ap p.paths.length cp]] w3 fun e w' => e = .returned (.bool (fewP p)) ∧ Below w3.heap.size w3 w' := FewP_any p hp _ _ w3 H3.out.ti H3.out.tp
  have CG : ∀ w4 : World, Below w3.heap.size w3 w4 → Calls Tryz.prog 13 #[.agg #[.int .i64 q.fr, .int .i64 q.size, .string (bs q.root), .slice Bi q.items.length di, .slice Bp q.paths.length dp]] w4 fun e w' => e = .returned (.bool (fewP q)) ∧ Below w4.heap.size w4 w' := fun w4 hb => FewP_any q hq _ _ w4 (H3.out.ui.to hb) (H3.out.up.to hb)
  have FP := fun h => few_fit (p := p) h hpf hps
  have FQ := fun h => few_fit (p := q) h hqf hqs
  generalize fewP p = b1 at *
  generalize fewP q = b2 at *
  cases b1 with
  | false =>
    go_wp2_with ((with_reducible refine CF.mono ?_); rintro e w4 ⟨rfl, hb⟩; have H4 := hide (H3.out.to hb); clear hb CF p0 p1 p2 p3 p4 q0 q1 q2 q3 q4 H3; obtain ⟨p0, p1, p2, p3, p4⟩ := page_cells H4.out.bP; obtain ⟨q0, q1, q2, q3, q4⟩ := page_cells H4.out.bQ)
    go_ret
    exact ⟨rfl, H4.out.bel⟩
  | true =>
    cases b2 with
    | false =>
      go_wp2_with (first | ((with_reducible refine CF.mono ?_); rintro e w4 ⟨rfl, hb⟩; have CG := CG w4 hb; have H4 := hide (H3.out.to hb); clear hb CF p0 p1 p2 p3 p4 q0 q1 q2 q3 q4 H3; obtain ⟨p0, p1, p2, p3, p4⟩ := page_cells H4.out.bP; obtain ⟨q0, q1, q2, q3, q4⟩ := page_cells H4.out.bQ) | ((with_reducible refine CG.mono ?_); rintro e w5 ⟨rfl, hb⟩; have H5 := hide (H4.out.to hb); clear hb CG p0 p1 p2 p3 p4 q0 q1 q2 q3 q4 H4))
      go_ret
      exact ⟨rfl, H5.out.bel⟩
    | true =>
      have HFP := hide (FP rfl)
      have HFQ := hide (FQ rfl)
      clear FP FQ
      by_cases hlt : t.length ≤ 3000
      · have c0 : decide ((3000 : Int) < (t.length : Int)) = false := decide_eq_false (by omega)
        go_wp2_with (first | ((with_reducible refine CF.mono ?_); rintro e w4 ⟨rfl, hb⟩; have CG := CG w4 hb; have H4 := hide (H3.out.to hb); clear hb CF p0 p1 p2 p3 p4 q0 q1 q2 q3 q4 H3; obtain ⟨p0, p1, p2, p3, p4⟩ := page_cells H4.out.bP; obtain ⟨q0, q1, q2, q3, q4⟩ := page_cells H4.out.bQ) | ((with_reducible refine CG.mono ?_); rintro e w5 ⟨rfl, hb⟩; have H5 := hide (H4.out.to hb); clear hb CG p0 p1 p2 p3 p4 q0 q1 q2 q3 q4 H4; obtain ⟨p0, p1, p2, p3, p4⟩ := page_cells H5.out.bP; obtain ⟨q0, q1, q2, q3, q4⟩ := page_cells H5.out.bQ))
        have CT : Calls Tryz.prog 16 #[.agg #[.int .i64 p.fr, .int .i64 p.size, .string (bs p.root), .slice Ai p.items.length ci, .slice Ap p.paths.length cp]] w5 fun e w' => e = .returned (.tuple #[.string (bs (textV p)), .int .i64 (textE p)]) ∧ Below w5.heap.size w5 w' := Text_any p HFP.out.1 _ _ w5 (HG.out.to H5.out.bel) H5.out.ti H5.out.tp
        refine CT.mono ?_
        rintro e w6 ⟨rfl, hb⟩
        have H6 := hide (H5.out.to hb)
        clear hb CT p0 p1 p2 p3 p4 q0 q1 q2 q3 q4 H5
        obtain ⟨p0, p1, p2, p3, p4⟩ := page_cells H6.out.bP; obtain ⟨q0, q1, q2, q3, q4⟩ := page_cells H6.out.bQ
        go_wp2_with fail
        have CT : Calls Tryz.prog 16 #[.agg #[.int .i64 q.fr, .int .i64 q.size, .string (bs q.root), .slice Bi q.items.length di, .slice Bp q.paths.length dp]] w6 fun e w' => e = .returned (.tuple #[.string (bs (textV q)), .int .i64 (textE q)]) ∧ Below w6.heap.size w6 w' := Text_any q HFQ.out.1 _ _ w6 (HG.out.to H6.out.bel) H6.out.ui H6.out.up
        refine CT.mono ?_
        rintro e w7 ⟨rfl, hb⟩
        have H7 := hide (H6.out.to hb)
        clear hb CT p0 p1 p2 p3 p4 q0 q1 q2 q3 q4 H6
        obtain ⟨p0, p1, p2, p3, p4⟩ := page_cells H7.out.bP; obtain ⟨q0, q1, q2, q3, q4⟩ := page_cells H7.out.bQ
        cases hfp : formedB p with
        | false =>
          have E0 : textE p = 1 := by unfold textE; rw [hfp]; rfl
          rw [E0]
          clear hfp E0
          go_wp2_with fail
          have CP := Parse_any t (by omega) w7 (HG.out.to H7.out.bel)
          unfold ParseR at CP
          clear p0 p1 p2 p3 p4 q0 q1 q2 q3 q4
          cases hpt : parseP t with
          | none =>
            rw [show parseV t = noPg by unfold parseV; rw [hpt]; rfl, show parseE t = 5 by unfold parseE; rw [hpt]; rfl] at CP
            clear hpt
            refine CP.mono ?_
            rintro e w8 ⟨xi, xp, rfl, hxi, hxp, hb⟩
            obtain ⟨Xi, xci, rfl, _⟩ := hxi.slice
            obtain ⟨Xp, xcp, rfl, _⟩ := hxp.slice
            have H8 := hide (H7.out.to hb)
            clear hb CP H7
            rw [show noPg.cs (.slice Xi noPg.items.length xci) (.slice Xp noPg.paths.length xcp) = #[.int .i64 0, .int .i64 0, .string ⟨#[]⟩, .slice Xi 0 xci, .slice Xp 0 xcp] from rfl]
            have HB8 := below_one w8 (.cells #[.int .i64 0, .int .i64 0, .string ⟨#[]⟩, .slice Xi 0 xci, .slice Xp 0 xcp] 25)
            have CS : Calls Tryz.prog 20 #[.agg #[.int .i64 0, .int .i64 0, .string ⟨#[]⟩, .slice Xi 0 xci, .slice Xp 0 xcp], .agg #[.int .i64 0, .int .i64 0, .string ⟨#[]⟩, .slice none 0 0, .slice none 0 0]] (w8.alloc (.cells #[.int .i64 0, .int .i64 0, .string ⟨#[]⟩, .slice Xi 0 xci, .slice Xp 0 xcp] 25)) fun e w' => e = .returned (.bool true) ∧ Below (w8.alloc (.cells #[.int .i64 0, .int .i64 0, .string ⟨#[]⟩, .slice Xi 0 xci, .slice Xp 0 xcp] 25)).heap.size (w8.alloc (.cells #[.int .i64 0, .int .i64 0, .string ⟨#[]⟩, .slice Xi 0 xci, .slice Xp 0 xcp] 25)) w' := by
              have := PSame_any noPg noPg (fit_wide no_fit) (fit_wide no_fit) _ _ (.slice none 0 0) (.slice none 0 0) _ (hxi.to HB8) (hxp.to HB8) (TextsAt.nil _) (PathsAt.nil _)
              rw [same_refl] at this
              exact this
            have HBB := hide (below_to H8.out.bel (Nat.le_refl _) HB8)
            clear hxi hxp HB8 H8
            go_wp2_with fail
            refine CS.mono ?_
            rintro e w9 ⟨rfl, hb⟩
            have HBC := hide (below_to HBB.out (Nat.le_refl _) hb)
            clear hb CS HBB
            go_wp2_with fail
            go_ret
            exact ⟨rfl, HBC.out⟩
          | some y =>
            obtain ⟨hfy, hty⟩ := text_of_parse hpt
            rw [show parseV t = y by unfold parseV; rw [hpt]; rfl, show parseE t = 0 by unfold parseE; rw [hpt]; rfl] at CP
            refine CP.mono ?_
            rintro e w8 ⟨xi, xp, rfl, hxi, hxp, hb⟩
            have H8 := hide (H7.out.to hb)
            have CT := fun (w' : World) (hb' : Below w8.heap.size w8 w') => Text_any y (formed_fit hfy) xi xp w' (HG.out.to (below_to H8.out.bel (Nat.le_refl _) hb')) (hxi.to hb') (hxp.to hb')
            rw [show textV y = t by unfold textV; rw [hfy]; exact hty, show textE y = 0 by unfold textE; rw [hfy]; rfl] at CT
            obtain ⟨Xi, xci, rfl, _⟩ := hxi.slice
            obtain ⟨Xp, xcp, rfl, _⟩ := hxp.slice
            clear hb CP H7 hxi hxp hpt hfy hty
            unfold Pg.cs at CT ⊢
            have HB8 := below_one w8 (.cells #[.int .i64 y.fr, .int .i64 y.size, .string (bs y.root), .slice Xi y.items.length xci, .slice Xp y.paths.length xcp] 25)
            have CT := CT _ HB8
            have HBB := hide (below_to H8.out.bel (Nat.le_refl _) HB8)
            have q : ((bs t).toList == (bs t).toList) = true := by simp
            clear HB8 H8
            go_wp2_with fail
            refine CT.mono ?_
            rintro e w9 ⟨rfl, hb⟩
            have HBC := hide (below_to HBB.out (Nat.le_refl _) hb)
            clear hb CT HBB
            go_wp2_with fail
            go_ret
            exact ⟨rfl, HBC.out⟩
        | true =>
          have E0 : textE p = 0 := by unfold textE; rw [hfp]; rfl
          have V0 : textV p = textPg p := by unfold textV; rw [hfp]; rfl
          rw [E0, V0]
          have CP := fun (w' : World) (hg' : Glob w') => Parse_any (textPg p) (text_len hfp HFP.out.2.2) w' hg'
          unfold ParseR at CP
          rw [show parseV (textPg p) = p by unfold parseV; rw [parse_text hfp]; rfl, show parseE (textPg p) = 0 by unfold parseE; rw [parse_text hfp]; rfl] at CP
          go_wp2_with fail
          refine (CP w7 (HG.out.to H7.out.bel)).mono ?_
          rintro e w8 ⟨xi, xp, rfl, hxi, hxp, hb⟩
          have H8 := hide (H7.out.to hb)
          obtain ⟨Xi, xci, rfl, _⟩ := hxi.slice
          obtain ⟨Xp, xcp, rfl, _⟩ := hxp.slice
          unfold Pg.cs
          have HB8 := below_one w8 (.cells #[.int .i64 p.fr, .int .i64 p.size, .string (bs p.root), .slice Xi p.items.length xci, .slice Xp p.paths.length xcp] 25)
          have H9 := hide (H8.out.to HB8)
          have HXI := hide (hxi.to HB8)
          have HXP := hide (hxp.to HB8)
          have xb := Blk.new w8 25 (p.cs (.slice Xi p.items.length xci) (.slice Xp p.paths.length xcp))
          obtain ⟨x0, x1, x2, x3, x4⟩ := page_cells xb
          clear p0 p1 p2 p3 p4 q0 q1 q2 q3 q4
          obtain ⟨p0, p1, p2, p3, p4⟩ := page_cells H8.out.bP; obtain ⟨q0, q1, q2, q3, q4⟩ := page_cells H8.out.bQ
          have z1 : w.heap.size < w8.heap.size := H8.out.bP.lt
          have z2 : w.heap.size + 1 < w8.heap.size := H8.out.bQ.lt
          have z3 : w.heap.size ≠ w8.heap.size := by omega
          have z4 : w.heap.size + 1 ≠ w8.heap.size := by omega
          clear hb CP H7 H8 HB8 hxi hxp xb
          go_wp2_with fail
          clear p0 p1 p2 p3 p4 q0 q1 q2 q3 q4
          unfold Pg.cs at x0 x1 x2 x3 x4
          generalize w8.alloc (.cells #[.int .i64 p.fr, .int .i64 p.size, .string (bs p.root), .slice Xi p.items.length xci, .slice Xp p.paths.length xcp] 25) = w9 at *
          have CS : Calls Tryz.prog 20 #[.agg #[.int .i64 p.fr, .int .i64 p.size, .string (bs p.root), .slice Xi p.items.length xci, .slice Xp p.paths.length xcp], .agg #[.int .i64 p.fr, .int .i64 p.size, .string (bs p.root), .slice Ai p.items.length ci, .slice Ap p.paths.length cp]] w9 fun e w' => e = .returned (.bool true) ∧ Below w9.heap.size w9 w' := by
            have := PSame_any p p hp hp _ _ _ _ w9 HXI.out HXP.out H9.out.ti H9.out.tp
            rw [same_refl] at this
            exact this
          refine CS.mono ?_
          rintro e w10 ⟨rfl, hb⟩
          have H10 := hide (H9.out.to hb)
          clear hb CS z1 z2 z3 z4 x0 x1 x2 x3 x4 H9 HXI HXP
          obtain ⟨p0, p1, p2, p3, p4⟩ := page_cells H10.out.bP; obtain ⟨q0, q1, q2, q3, q4⟩ := page_cells H10.out.bQ
          cases hfq : formedB q with
          | false =>
            have E1 : textE q = 1 := by unfold textE; rw [hfq]; rfl
            rw [E1]
            clear hfq E1 V0 hfp
            go_wp2_with fail
            have CP := Parse_any t (by omega) w10 (HG.out.to H10.out.bel)
            unfold ParseR at CP
            clear p0 p1 p2 p3 p4 q0 q1 q2 q3 q4
            cases hpt : parseP t with
            | none =>
              rw [show parseV t = noPg by unfold parseV; rw [hpt]; rfl, show parseE t = 5 by unfold parseE; rw [hpt]; rfl] at CP
              clear hpt
              refine CP.mono ?_
              rintro e w11 ⟨xi, xp, rfl, hxi, hxp, hb⟩
              obtain ⟨Xi, xci, rfl, _⟩ := hxi.slice
              obtain ⟨Xp, xcp, rfl, _⟩ := hxp.slice
              have H11 := hide (H10.out.to hb)
              clear hb CP H10
              rw [show noPg.cs (.slice Xi noPg.items.length xci) (.slice Xp noPg.paths.length xcp) = #[.int .i64 0, .int .i64 0, .string ⟨#[]⟩, .slice Xi 0 xci, .slice Xp 0 xcp] from rfl]
              have HB11 := below_one w11 (.cells #[.int .i64 0, .int .i64 0, .string ⟨#[]⟩, .slice Xi 0 xci, .slice Xp 0 xcp] 25)
              have CS : Calls Tryz.prog 20 #[.agg #[.int .i64 0, .int .i64 0, .string ⟨#[]⟩, .slice Xi 0 xci, .slice Xp 0 xcp], .agg #[.int .i64 0, .int .i64 0, .string ⟨#[]⟩, .slice none 0 0, .slice none 0 0]] (w11.alloc (.cells #[.int .i64 0, .int .i64 0, .string ⟨#[]⟩, .slice Xi 0 xci, .slice Xp 0 xcp] 25)) fun e w' => e = .returned (.bool true) ∧ Below (w11.alloc (.cells #[.int .i64 0, .int .i64 0, .string ⟨#[]⟩, .slice Xi 0 xci, .slice Xp 0 xcp] 25)).heap.size (w11.alloc (.cells #[.int .i64 0, .int .i64 0, .string ⟨#[]⟩, .slice Xi 0 xci, .slice Xp 0 xcp] 25)) w' := by
                have := PSame_any noPg noPg (fit_wide no_fit) (fit_wide no_fit) _ _ (.slice none 0 0) (.slice none 0 0) _ (hxi.to HB11) (hxp.to HB11) (TextsAt.nil _) (PathsAt.nil _)
                rw [same_refl] at this
                exact this
              have HBB := hide (below_to H11.out.bel (Nat.le_refl _) HB11)
              clear hxi hxp HB11 H11
              go_wp2_with fail
              refine CS.mono ?_
              rintro e w12 ⟨rfl, hb⟩
              have HBC := hide (below_to HBB.out (Nat.le_refl _) hb)
              clear hb CS HBB
              go_wp2_with fail
              go_ret
              exact ⟨rfl, HBC.out⟩
            | some y =>
              obtain ⟨hfy, hty⟩ := text_of_parse hpt
              rw [show parseV t = y by unfold parseV; rw [hpt]; rfl, show parseE t = 0 by unfold parseE; rw [hpt]; rfl] at CP
              refine CP.mono ?_
              rintro e w11 ⟨xi, xp, rfl, hxi, hxp, hb⟩
              have H11 := hide (H10.out.to hb)
              have CT := fun (w' : World) (hb' : Below w11.heap.size w11 w') => Text_any y (formed_fit hfy) xi xp w' (HG.out.to (below_to H11.out.bel (Nat.le_refl _) hb')) (hxi.to hb') (hxp.to hb')
              rw [show textV y = t by unfold textV; rw [hfy]; exact hty, show textE y = 0 by unfold textE; rw [hfy]; rfl] at CT
              obtain ⟨Xi, xci, rfl, _⟩ := hxi.slice
              obtain ⟨Xp, xcp, rfl, _⟩ := hxp.slice
              clear hb CP H10 hxi hxp hpt hfy hty
              unfold Pg.cs at CT ⊢
              have HB11 := below_one w11 (.cells #[.int .i64 y.fr, .int .i64 y.size, .string (bs y.root), .slice Xi y.items.length xci, .slice Xp y.paths.length xcp] 25)
              have CT := CT _ HB11
              have HBB := hide (below_to H11.out.bel (Nat.le_refl _) HB11)
              have q : ((bs t).toList == (bs t).toList) = true := by simp
              clear HB11 H11
              go_wp2_with fail
              refine CT.mono ?_
              rintro e w12 ⟨rfl, hb⟩
              have HBC := hide (below_to HBB.out (Nat.le_refl _) hb)
              clear hb CT HBB
              go_wp2_with fail
              go_ret
              exact ⟨rfl, HBC.out⟩
          | true =>
            have E1 : textE q = 0 := by unfold textE; rw [hfq]; rfl
            have V1 : textV q = textPg q := by unfold textV; rw [hfq]; rfl
            rw [E1, V1]
            have QE : ((bs (textPg p)).toList == (bs (textPg q)).toList) = sameP p q := by
              rw [bs_toList, bs_toList, Bool.eq_iff_iff, beq_iff_eq, same_iff]
              exact ⟨fun h => text_inj hfp hfq h, fun h => by rw [h]⟩
            have CS : Calls Tryz.prog 20 #[.agg #[.int .i64 p.fr, .int .i64 p.size, .string (bs p.root), .slice Ai p.items.length ci, .slice Ap p.paths.length cp], .agg #[.int .i64 q.fr, .int .i64 q.size, .string (bs q.root), .slice Bi q.items.length di, .slice Bp q.paths.length dp]] w10 fun e w' => e = .returned (.bool (sameP p q)) ∧ Below w10.heap.size w10 w' := PSame_any p q hp hq _ _ _ _ w10 H10.out.ti H10.out.tp H10.out.ui H10.out.up
            clear hfq E1 V1 V0 hfp
            generalize sameP p q = B at *
            go_wp2_with fail
            refine CS.mono ?_
            rintro e w11 ⟨rfl, hb⟩
            have H11 := hide (H10.out.to hb)
            clear hb CS p0 p1 p2 p3 p4 q0 q1 q2 q3 q4 H10
            obtain ⟨p0, p1, p2, p3, p4⟩ := page_cells H11.out.bP; obtain ⟨q0, q1, q2, q3, q4⟩ := page_cells H11.out.bQ
            have hBB : (B != B) = false := by simp
            go_wp2_with fail
            have CP := Parse_any t (by omega) w11 (HG.out.to H11.out.bel)
            unfold ParseR at CP
            clear p0 p1 p2 p3 p4 q0 q1 q2 q3 q4
            cases hpt : parseP t with
            | none =>
              rw [show parseV t = noPg by unfold parseV; rw [hpt]; rfl, show parseE t = 5 by unfold parseE; rw [hpt]; rfl] at CP
              clear hpt
              refine CP.mono ?_
              rintro e w12 ⟨xi, xp, rfl, hxi, hxp, hb⟩
              obtain ⟨Xi, xci, rfl, _⟩ := hxi.slice
              obtain ⟨Xp, xcp, rfl, _⟩ := hxp.slice
              have H12 := hide (H11.out.to hb)
              clear hb CP H11
              rw [show noPg.cs (.slice Xi noPg.items.length xci) (.slice Xp noPg.paths.length xcp) = #[.int .i64 0, .int .i64 0, .string ⟨#[]⟩, .slice Xi 0 xci, .slice Xp 0 xcp] from rfl]
              have HB12 := below_one w12 (.cells #[.int .i64 0, .int .i64 0, .string ⟨#[]⟩, .slice Xi 0 xci, .slice Xp 0 xcp] 25)
              have CS : Calls Tryz.prog 20 #[.agg #[.int .i64 0, .int .i64 0, .string ⟨#[]⟩, .slice Xi 0 xci, .slice Xp 0 xcp], .agg #[.int .i64 0, .int .i64 0, .string ⟨#[]⟩, .slice none 0 0, .slice none 0 0]] (w12.alloc (.cells #[.int .i64 0, .int .i64 0, .string ⟨#[]⟩, .slice Xi 0 xci, .slice Xp 0 xcp] 25)) fun e w' => e = .returned (.bool true) ∧ Below (w12.alloc (.cells #[.int .i64 0, .int .i64 0, .string ⟨#[]⟩, .slice Xi 0 xci, .slice Xp 0 xcp] 25)).heap.size (w12.alloc (.cells #[.int .i64 0, .int .i64 0, .string ⟨#[]⟩, .slice Xi 0 xci, .slice Xp 0 xcp] 25)) w' := by
                have := PSame_any noPg noPg (fit_wide no_fit) (fit_wide no_fit) _ _ (.slice none 0 0) (.slice none 0 0) _ (hxi.to HB12) (hxp.to HB12) (TextsAt.nil _) (PathsAt.nil _)
                rw [same_refl] at this
                exact this
              have HBB := hide (below_to H12.out.bel (Nat.le_refl _) HB12)
              clear hxi hxp HB12 H12
              go_wp2_with fail
              refine CS.mono ?_
              rintro e w13 ⟨rfl, hb⟩
              have HBC := hide (below_to HBB.out (Nat.le_refl _) hb)
              clear hb CS HBB
              go_wp2_with fail
              go_ret
              exact ⟨rfl, HBC.out⟩
            | some y =>
              obtain ⟨hfy, hty⟩ := text_of_parse hpt
              rw [show parseV t = y by unfold parseV; rw [hpt]; rfl, show parseE t = 0 by unfold parseE; rw [hpt]; rfl] at CP
              refine CP.mono ?_
              rintro e w12 ⟨xi, xp, rfl, hxi, hxp, hb⟩
              have H12 := hide (H11.out.to hb)
              have CT := fun (w' : World) (hb' : Below w12.heap.size w12 w') => Text_any y (formed_fit hfy) xi xp w' (HG.out.to (below_to H12.out.bel (Nat.le_refl _) hb')) (hxi.to hb') (hxp.to hb')
              rw [show textV y = t by unfold textV; rw [hfy]; exact hty, show textE y = 0 by unfold textE; rw [hfy]; rfl] at CT
              obtain ⟨Xi, xci, rfl, _⟩ := hxi.slice
              obtain ⟨Xp, xcp, rfl, _⟩ := hxp.slice
              clear hb CP H11 hxi hxp hpt hfy hty
              unfold Pg.cs at CT ⊢
              have HB12 := below_one w12 (.cells #[.int .i64 y.fr, .int .i64 y.size, .string (bs y.root), .slice Xi y.items.length xci, .slice Xp y.paths.length xcp] 25)
              have CT := CT _ HB12
              have HBB := hide (below_to H12.out.bel (Nat.le_refl _) HB12)
              have q : ((bs t).toList == (bs t).toList) = true := by simp
              clear HB12 H12
              go_wp2_with fail
              refine CT.mono ?_
              rintro e w13 ⟨rfl, hb⟩
              have HBC := hide (below_to HBB.out (Nat.le_refl _) hb)
              clear hb CT HBB
              go_wp2_with fail
              go_ret
              exact ⟨rfl, HBC.out⟩
      · have c0 : decide ((3000 : Int) < (t.length : Int)) = true := decide_eq_true (by omega)
        go_wp2_with (first | ((with_reducible refine CF.mono ?_); rintro e w4 ⟨rfl, hb⟩; have CG := CG w4 hb; have H4 := hide (H3.out.to hb); clear hb CF p0 p1 p2 p3 p4 q0 q1 q2 q3 q4 H3; obtain ⟨p0, p1, p2, p3, p4⟩ := page_cells H4.out.bP; obtain ⟨q0, q1, q2, q3, q4⟩ := page_cells H4.out.bQ) | ((with_reducible refine CG.mono ?_); rintro e w5 ⟨rfl, hb⟩; have H5 := hide (H4.out.to hb); clear hb CG p0 p1 p2 p3 p4 q0 q1 q2 q3 q4 H4))
        go_ret
        exact ⟨rfl, H5.out.bel⟩
end Go.Proofs.YtfhanbiifjiklaaGreatDoor

/- The walk of PageComplete. -/
set_option linter.unusedVariables false
set_option linter.unusedSimpArgs false
namespace Go.Proofs.YtfhanbiifjiklaaGreatDoor
open Go.RowKit

theorem NewL {items : List (List UInt8)} (h : Lg items) (w : World) (hg : Glob w) : Calls Tryz.prog 21 #[.string (bs (rootL items)), .int .i64 (items.length : Int)] w fun e w' => ∃ b, e = .returned (.tuple #[cliP b, .int .i64 0]) ∧ w.heap.size ≤ b ∧ CliAt b (rootL items) items.length [] (.slice none 0 0) w' ∧ Below w.heap.size w w' := by
  have := New_any (rootL items) (by rw [isD_len (root_isD items)]; decide) items.length w hg
  unfold NewR at this
  simp only [new_yes h, if_true] at this
  refine this.mono ?_
  rintro e w' ⟨⟨b, h1, h2, h3⟩, h4⟩
  exact ⟨b, h1, h2, h3, h4⟩
theorem rootL_any {items : List (List UInt8)} (h : Lg items) (v : Value) (w : World) (hv : TextsAt w v items) (hg : Glob w) : Calls Tryz.prog 22 #[v] w fun e w' => e = .returned (.string (bs (rootL items))) ∧ Below w.heap.size w w' := root_any items h.big.1 h.big.2 v w hv hg
/-- what a client keeps between two pages -/
structure CoI (w : World) (b : Nat) (items : List (List UInt8)) (k : Nat) (v : Value) (W : World) : Prop where
  bel : Below w.heap.size w W
  cli : CliAt b (rootL items) items.length (items.take k) v W
  ord : w.heap.size ≤ b
  le : k ≤ items.length
theorem CoI.to {w W W' : World} {b k : Nat} {items : List (List UInt8)} {v : Value} (h : CoI w b items k v W) (hb : Below W.heap.size W W') : CoI w b items k v W' := ⟨below_to h.bel (Nat.le_refl _) hb, h.cli.to hb, h.ord, h.le⟩
theorem CoI.acc {w W W' : World} {b k k' : Nat} {items : List (List UInt8)} {v v' : Value} (h : CoI w b items k v W) (hT : Two b (rowOr v b) W W') (hc : CliAt b (rootL items) items.length (items.take k') v' W') (hk : k' ≤ items.length) : CoI w b items k' v' W' := by
  have hr : b ≤ rowOr v b := rowOr_le (fun g e => by have := (h.cli.lt g e).1; omega) (Nat.le_refl _)
  exact ⟨h.bel.trans (hT.below h.bel.size h.ord (Nat.le_trans h.ord hr)), hc, h.ord, hk⟩
theorem CoI.next {w W : World} {b k : Nat} {items : List (List UInt8)} {v : Value} (h : CoI w b items k v W) (hl : Lg items) : Calls Tryz.prog 23 #[.pointer (some ⟨b, 0, none⟩)] W fun e w' => e = .returned (.int .i64 (k : Int)) ∧ Below W.heap.size W w' := by
  have := Next_any b _ _ (items.take k) (by have := hl.big.1; rw [List.length_take]; omega) v W h.cli
  rw [List.length_take, Nat.min_eq_left h.le] at this
  exact this
theorem CoI.its {w W : World} {b k : Nat} {items : List (List UInt8)} {v : Value} (h : CoI w b items k v W) (hl : Lg items) : Calls Tryz.prog 26 #[.pointer (some ⟨b, 0, none⟩)] W (ItemsR (items.take k) W) :=
  Items_any b _ _ (items.take k) (by have := hl.big.1; rw [List.length_take]; omega) v W h.cli
/-- a page of the log, wherever its arrays lie behind the client -/
theorem CoI.accept {w W : World} {b k F M lo hi : Nat} {items : List (List UInt8)} {v vi vp : Value} (h : CoI w b items k v W) (hl : Lg items) (hF : F ≤ items.length) (h2 : M ≤ 50) (hg : Glob w) (hp : PgAt lo hi W vi vp (pageV items F M)) (hlo : b < lo) (hv : ∀ g, v.ownBlock = some g → g < lo) :
    Calls Tryz.prog 24 #[.pointer (some ⟨b, 0, none⟩), .agg ((pageV items F M).cs vi vp)] W fun e w' => ∃ v', e = .returned (.int .i64 (if k < F then 13 else 0)) ∧ CoI w b items (if k < F then k else max k (min (F + M) items.length)) v' w' ∧ Two b (rowOr v b) W w' := by
  have C := Accept_any b (rootL items) items.length (items.take k) (by have := hl.big.1; rw [List.length_take]; omega) v (pageV items F M) (page_fit hl hF h2) vi vp W (hg.to h.bel) h.cli hp.ti hp.tp (fun _ e => by have := hp.bi b e; omega) (fun g e _ e2 => by have := hp.bi g e2; have := hv g e; omega)
  rw [page_accE hl hF h2 h.le, page_accV hl hF h2 h.le] at C
  refine C.mono ?_
  rintro e w' ⟨v', h1, h2, h3, _⟩
  exact ⟨v', h1, h.acc h3 h2 (by have := h.le; split <;> omega), h3⟩
set_option maxRecDepth 100000 in
set_option maxHeartbeats 4000000 in
theorem complete_law (items : List (List UInt8)) (hn : items.length ≤ 8796093022208) (hx : ∀ x ∈ items, x.length ≤ 140737488355328) (zs : List Nat) (hz : zs.length ≤ 140737488355328) (hz2 : ∀ z ∈ zs, z ≤ 255) (v vz : Value) (w : World) (hv : TextsAt w v items) (hvz : U8sAt w vz zs) (hg : Glob w) :
    Calls Tryz.prog 4 #[v, vz] w fun e w' => e = .returned (.bool true) ∧ Below w.heap.size w w' := by
  have HS := hide hv
  have HZ := hide hvz
  have HG := hide hg
  have CF := fun (w' : World) (hb : Below w.heap.size w w') => few_any items hn hx v w' (hv.to hb)
  obtain ⟨A, c, rfl, _⟩ := hv.slice
  obtain ⟨Az, cz, rfl, _⟩ := hvz.slice
  have C1 := head_any w hg
  clear hv hvz hg
  go_enter Tryz.func4, Tryz.ntmps4
  go_wp2_with fail
  refine C1.mono ?_
  rintro e w1 ⟨rfl, hb⟩
  have HB1 := hide hb
  have CF := CF w1 hb
  clear hb C1
  go_wp2_with fail
  refine CF.mono ?_
  rintro e w2 ⟨rfl, rfl⟩
  clear CF
  cases hfew : fewI items with
  | false =>
    go_wp2_with fail
    go_ret
    exact ⟨rfl, HB1.out⟩
  | true =>
    have HL := hide (fewI_lg hfew)
    have hlen := HL.out.len
    clear hfew
    go_wp2_with fail
    have C3 := rootL_any HL.out _ w2 (HS.out.to HB1.out) (HG.out.to HB1.out)
    refine C3.mono ?_
    rintro e w3 ⟨rfl, hb⟩
    have HB3 := hide (below_to HB1.out (Nat.le_refl _) hb)
    clear hb C3 HB1
    go_wp2_with fail
    have C4 := NewL HL.out w3 (HG.out.to HB3.out)
    unfold cliP at C4
    refine C4.mono ?_
    rintro e w4 ⟨b, rfl, hbb, hcl, hb⟩
    have H4 : Hid (CoI w b items 0 (.slice none 0 0) w4) := ⟨below_to HB3.out (Nat.le_refl _) hb, hcl, by have := HB3.out.size; omega, by omega⟩
    clear hb C4 HB3 hcl hbb
    go_wp2_with fail
    go_loopw [8] (fun i wr => ∃ (m k : Nat) (v' : Value), i = .int .i64 (m : Int) ∧ m ≤ items.length ∧ m ≤ k ∧ Aside (CoI w b items k v' wr)) (fun i _ => items.length - (intOf i).toNat)
    case atStart => exact ⟨0, 0, _, rfl, by omega, by omega, H4.out⟩
    case round =>
      clear H4
      obtain ⟨m, k, v', rfl, hm, hmk, hI⟩ := hrel
      have hI : Hid (CoI w b items k v' wr) := hI
      have hkn := hI.out.le
      by_cases hlt : m < items.length
      · have e1 : decide ((m : Int) < (items.length : Int)) = true := decide_eq_true (by omega)
        by_cases hmz : m < zs.length
        · have e2 : decide ((m : Int) < (zs.length : Int)) = true := decide_eq_true (by omega)
          obtain ⟨z, hz1⟩ : ∃ z, zs[m]? = some z := ⟨_, List.getElem?_eq_getElem hmz⟩
          have hzb := hz2 z (List.mem_of_getElem? hz1)
          obtain ⟨a, rfl, ha, c0⟩ := (HZ.out.to hI.out.bel).at_ hz1
          clear hz1
          have i0 : (0 : Int) ≤ (m : Int) := by omega
          have i1 : (m : Int) < (zs.length : Int) := by omega
          have hm1 : 1 ≤ 1 + z % 50 := by omega
          have hm2 : 1 + z % 50 ≤ 50 := by omega
          go_wp2_with fail
          have C5 := hI.out.next HL.out
          refine C5.mono ?_
          rintro e w5 ⟨rfl, hb⟩
          have H5 := hide (hI.out.to hb)
          clear hb C5 hI
          go_wp2_with fail
          have C6 := Serve_yes items HL.out.big.1 HL.out.big.2 k (1 + z % 50) (serve_yes HL.out H5.out.le hm1 hm2) _ w5 (HG.out.to H5.out.bel) (HS.out.to H5.out.bel)
          rw [show ((1 + z % 50 : Nat) : Int) = 1 + (z : Int) % 50 by omega] at C6
          unfold ServeR at C6
          refine C6.mono ?_
          rintro e w6 ⟨vi, vp, rfl, hpg, hb⟩
          have HP6 := hide hpg
          have H6 := hide (H5.out.to hb)
          have hvl := fun g e => (H5.out.cli.lt g e).2
          have hbl : b < w5.heap.size := H5.out.cli.blk.lt
          obtain ⟨Ai, ci, rfl, _⟩ := hpg.ti.slice
          obtain ⟨Ap, cp, rfl, _⟩ := hpg.tp.slice
          clear hb hpg C6 H5
          have HP7 := hide (HP6.out.to (below_one w6 (.cells ((pageV items k (1 + z % 50)).cs (.slice Ai (pageV items k (1 + z % 50)).items.length ci) (.slice Ap (pageV items k (1 + z % 50)).paths.length cp)) 25)))
          have H7 := hide (H6.out.to (below_one w6 (.cells ((pageV items k (1 + z % 50)).cs (.slice Ai (pageV items k (1 + z % 50)).items.length ci) (.slice Ap (pageV items k (1 + z % 50)).paths.length cp)) 25)))
          have C7 := H7.out.accept HL.out H7.out.le hm2 HG.out HP7.out hbl hvl
          rw [if_neg (Nat.lt_irrefl k), if_neg (Nat.lt_irrefl k)] at C7
          clear HP6 H6 HP7 hvl hbl
          unfold Pg.cs at C7 H7 ⊢
          go_wp2_with fail
          refine C7.mono ?_
          rintro e w8 ⟨v8, rfl, hI8, _⟩
          have H8 := hide hI8
          clear hI8 C7 H7
          go_wp2_with fail
          refine ⟨⟨m + 1, max k (min (k + (1 + z % 50)) items.length), _, by go_num, by omega, by omega, H8.out⟩, ?_⟩
          simp [intOf]; omega
        · have e2 : decide ((m : Int) < (zs.length : Int)) = false := decide_eq_false (by omega)
          go_wp2_with fail
          have C5 := hI.out.next HL.out
          refine C5.mono ?_
          rintro e w5 ⟨rfl, hb⟩
          have H5 := hide (hI.out.to hb)
          clear hb C5 hI
          go_wp2_with fail
          have C6 := Serve_yes items HL.out.big.1 HL.out.big.2 k (1) (serve_yes HL.out H5.out.le (Nat.le_refl 1) (by decide : 1 ≤ 50)) _ w5 (HG.out.to H5.out.bel) (HS.out.to H5.out.bel)
          have C6 : Calls Tryz.prog 14 #[.slice A items.length c, .int .i64 (k : Int), .int .i64 1] w5 _ := C6
          unfold ServeR at C6
          refine C6.mono ?_
          rintro e w6 ⟨vi, vp, rfl, hpg, hb⟩
          have HP6 := hide hpg
          have H6 := hide (H5.out.to hb)
          have hvl := fun g e => (H5.out.cli.lt g e).2
          have hbl : b < w5.heap.size := H5.out.cli.blk.lt
          obtain ⟨Ai, ci, rfl, _⟩ := hpg.ti.slice
          obtain ⟨Ap, cp, rfl, _⟩ := hpg.tp.slice
          clear hb hpg C6 H5
          have HP7 := hide (HP6.out.to (below_one w6 (.cells ((pageV items k (1)).cs (.slice Ai (pageV items k (1)).items.length ci) (.slice Ap (pageV items k (1)).paths.length cp)) 25)))
          have H7 := hide (H6.out.to (below_one w6 (.cells ((pageV items k (1)).cs (.slice Ai (pageV items k (1)).items.length ci) (.slice Ap (pageV items k (1)).paths.length cp)) 25)))
          have C7 := H7.out.accept HL.out H7.out.le (by decide : 1 ≤ 50) HG.out HP7.out hbl hvl
          rw [if_neg (Nat.lt_irrefl k), if_neg (Nat.lt_irrefl k)] at C7
          clear HP6 H6 HP7 hvl hbl
          unfold Pg.cs at C7 H7 ⊢
          go_wp2_with fail
          refine C7.mono ?_
          rintro e w8 ⟨v8, rfl, hI8, _⟩
          have H8 := hide hI8
          clear hI8 C7 H7
          go_wp2_with fail
          refine ⟨⟨m + 1, max k (min (k + (1)) items.length), _, by go_num, by omega, by have := (Nat.le_refl 1); omega, H8.out⟩, ?_⟩
          simp [intOf]; omega
      · obtain rfl : m = items.length := by omega
        obtain rfl : k = items.length := by omega
        have e1 : decide ((items.length : Int) < (items.length : Int)) = false := by simp
        go_wp2_with fail
        have C5 := hI.out.its HL.out
        unfold ItemsR at C5
        rw [List.take_length] at C5
        refine C5.mono ?_
        rintro e w5 ⟨v5, rfl, ho, hb⟩
        have H5 := hide (hI.out.to hb)
        have HT := hide (TextsAt.of_own ho)
        obtain ⟨A5, c5, rfl⟩ := own_sl4 ho
        clear hb C5 hI ho
        go_wp2_with fail
        have C6 : Calls Tryz.prog 25 #[.slice A5 items.length c5, .slice A items.length c] w5 fun e w' => e = .returned (.bool true) ∧ Below w5.heap.size w5 w' := by
          have := Same_any items items hn hn _ _ w5 HT.out (HS.out.to H5.out.bel)
          rwa [decide_eq_true rfl] at this
        refine C6.mono ?_
        rintro e w6 ⟨rfl, hb⟩
        have H6 := hide (H5.out.to hb)
        clear hb C6 H5 HT
        go_wp2_with fail
        have C7 := H6.out.next HL.out
        refine C7.mono ?_
        rintro e w7 ⟨rfl, hb⟩
        have H7 := hide (H6.out.to hb)
        clear hb C7 H6
        have hq : ((items.length : Int) == (items.length : Int)) = true := by simp
        go_wp2_with fail
        go_ret
        exact ⟨ret_bool (by simp), H7.out.bel⟩
end Go.Proofs.YtfhanbiifjiklaaGreatDoor

/- The walk of PageForgery. -/
set_option linter.unusedVariables false
set_option linter.unusedSimpArgs false
namespace Go.Proofs.YtfhanbiifjiklaaGreatDoor
open Go.RowKit Go.Shelf
attribute [local go_sem] Oper.semAt_some

/-- a page that came in, in a box of the call -/
structure FgI (w : World) (p : Pg) (vi vp : Value) (W : World) : Prop where
  bel : Below w.heap.size w W
  box : Blk W w.heap.size 25 (p.cs vi vp)
theorem FgI.to {w W W' : World} {p : Pg} {vi vp : Value} (h : FgI w p vi vp W) (hb : Below W.heap.size W W') : FgI w p vi vp W' := ⟨below_to h.bel (Nat.le_refl _) hb, h.box.to hb⟩
theorem FgI.two {w W W' : World} {p : Pg} {vi vp : Value} {b r : Nat} (h : FgI w p vi vp W) (hT : Two b r W W') (hb : w.heap.size < b) (hr : b ≤ r) : FgI w p vi vp W' := ⟨h.bel.trans (hT.below h.bel.size (by omega) (by omega)), hT.blk h.box (by omega) (by omega)⟩
theorem texts_far {w : World} {vi : Value} {ls : List (List UInt8)} (h : TextsAt w vi ls) {b : Nat} (hb : w.heap.size ≤ b) : ls ≠ [] → vi.ownBlock ≠ some b := fun hne e => by
  obtain ⟨x, hx⟩ : ∃ x, ls[0]? = some x := ⟨_, List.getElem?_eq_getElem (List.length_pos_iff.2 hne)⟩
  obtain ⟨A, c, rfl, _⟩ := h.slice
  obtain ⟨a, rfl, hl, _⟩ := h.at_ hx
  have : a.block = b := Option.some.inj e
  omega
theorem shown_app {D K : List (List UInt8)} (hc : CollIn (D ++ K)) (hn : D.length + K.length ≤ 1000000) (hD : ∀ s ∈ D, s.length ≤ 1000000) (hK : ∀ s ∈ K, s.length ≤ 1000000) (w : World) (v : Value) (hv : TextsAt w v (D ++ K)) : Calls Tryz.prog 29 #[v] w fun e w' => e = .returned (.bool true) ∧ Below w.heap.size w w' :=
  Shown_yes (D ++ K) (by rw [List.length_append]; exact hn) (fun x hx => (List.mem_append.1 hx).elim (hD x) (hK x)) hc v w hv
set_option maxRecDepth 100000 in
set_option maxHeartbeats 4000000 in
theorem forgery_law (items : List (List UInt8)) (hn : items.length ≤ 8796093022208) (hx : ∀ x ∈ items, x.length ≤ 140737488355328) (p : Pg) (hp : p.wide) (hpf : -9223372036854775808 ≤ p.fr ∧ p.fr ≤ 9223372036854775807) (hps : -9223372036854775808 ≤ p.size ∧ p.size ≤ 9223372036854775807) (v vi vp : Value) (w : World) (hv : TextsAt w v items) (hvi : TextsAt w vi p.items) (hvp : PathsAt w vp p.paths) (hg : Glob w) :
    Calls Tryz.prog 5 #[v, .agg (p.cs vi vp)] w fun e w' => e = .returned (.bool true) ∧ Below w.heap.size w w' := by
  have HS := hide hv
  have HG := hide hg
  have HVI := hide hvi
  have HVP := hide hvp
  have CF := fun (w' : World) (hb : Below w.heap.size w w') => few_any items hn hx v w' (hv.to hb)
  have CP := fun (w' : World) (hb : Below w.heap.size w w') => FewP_any p hp vi vp w' (hvi.to hb) (hvp.to hb)
  have H1 : Hid (FgI w p vi vp (w.alloc (.cells (p.cs vi vp) 25))) := ⟨below_one _ _, Blk.new _ _ _⟩
  obtain ⟨A, c, rfl, _⟩ := hv.slice
  obtain ⟨Ai, ci, rfl, _⟩ := hvi.slice
  obtain ⟨Ap, cp, rfl, _⟩ := hvp.slice
  clear hv hg hvi hvp
  unfold Pg.cs at CP H1 ⊢
  go_enter Tryz.func5, Tryz.ntmps5
  go_wp2_with fail
  generalize w.alloc (.cells #[.int .i64 p.fr, .int .i64 p.size, .string (bs p.root), .slice Ai p.items.length ci, .slice Ap p.paths.length cp] 25) = w1 at *
  have C1 := head_any w1 (HG.out.to H1.out.bel)
  refine C1.mono ?_
  rintro e w2 ⟨rfl, hb⟩
  have H2 := hide (H1.out.to hb)
  have CF := CF w2 H2.out.bel
  have CP := CP w2 H2.out.bel
  obtain ⟨x0, x1, x2, x3, x4⟩ := page_cells H2.out.box
  clear hb C1 H1
  have FIT := fun h => few_fit (p := p) h hpf hps
  cases hfew : fewI items with
  | false =>
    rw [hfew] at CF
    clear hfew
    go_wp2_with ((with_reducible refine CF.mono ?_); rintro e w3 ⟨rfl, e9⟩; subst e9)
    go_ret
    exact ⟨rfl, H2.out.bel⟩
  | true =>
    have HL := hide (fewI_lg hfew)
    rw [hfew] at CF
    clear hfew
    cases hfp : fewP p with
    | false =>
      rw [hfp] at CP
      clear hfp
      go_wp2_with (first | ((with_reducible refine CF.mono ?_); rintro e w3 ⟨rfl, e9⟩; subst e9) | ((with_reducible refine CP.mono ?_); rintro e w3 ⟨rfl, hb⟩; have H3 := hide (H2.out.to hb); clear hb))
      go_ret
      exact ⟨rfl, H3.out.bel⟩
    | true =>
      have HFT := hide (FIT hfp).1
      have HP6 := hide (FIT hfp).2.2
      rw [hfp] at CP
      clear hfp FIT
      go_wp2_with (first | ((with_reducible refine CF.mono ?_); rintro e w3 ⟨rfl, e9⟩; subst e9) | ((with_reducible refine CP.mono ?_); rintro e w3 ⟨rfl, hb⟩; have H3 := hide (H2.out.to hb); clear hb))
      clear CF CP x0 x1 x2 x3 x4
      have C3 := rootL_any HL.out _ w3 (HS.out.to H3.out.bel) (HG.out.to H3.out.bel)
      refine C3.mono ?_
      rintro e w4 ⟨rfl, hb⟩
      have H4 := hide (H3.out.to hb)
      have hlen := HL.out.len
      clear hb C3 H3 H2
      go_wp2_with fail
      have C4 := NewL HL.out w4 (HG.out.to H4.out.bel)
      unfold cliP at C4
      refine C4.mono ?_
      rintro e w5 ⟨b, rfl, hbb, hcl, hb⟩
      have H5 := hide (H4.out.to hb)
      have HC5 := hide hcl
      have hwb : w.heap.size < b := by have := H4.out.box.lt; omega
      clear hb C4 H4 hcl hbb
      obtain ⟨x0, x1, x2, x3, x4⟩ := page_cells H5.out.box
      go_wp2_with fail
      have C6 := Accept_any b (rootL items) items.length [] (by decide) (.slice none 0 0) p HFT.out (.slice Ai p.items.length ci) (.slice Ap p.paths.length cp) w5 (HG.out.to H5.out.bel) HC5.out (HVI.out.to H5.out.bel) (HVP.out.to H5.out.bel) (texts_far HVI.out (by omega)) (fun g e => by cases e)
      unfold AcceptR cliP Pg.cs at C6
      refine C6.mono ?_
      rintro e w6 ⟨v6, rfl, hcl, hT, _⟩
      have HF6 : Hid (FgI w p (.slice Ai p.items.length ci) (.slice Ap p.paths.length cp) w6) := H5.out.two hT hwb (Nat.le_refl _)
      have HC6 := hide hcl
      clear C6 hcl hT H5 HC5 x0 x1 x2 x3 x4
      by_cases hacc : accE p (rootL items) items.length [] = 0
      · obtain ⟨hfo, hho, hro, hso, hfz⟩ := acc_facts hacc
        have hfs := (formed_spec hfo).1
        have hfr0 : p.fr.toNat = 0 := by simp at hfz; omega
        have hfr1 : p.fr = 0 := by simp at hfz; omega
        have hav : accV p (rootL items) items.length [] = p.items := by unfold accV; rw [if_pos hacc]; simp
        rw [hav] at HC6
        rw [hacc]
        have hil := hfs.2.2.2.1
        have hlen2 : p.items.length ≤ items.length := by have := held_same hho; omega
        obtain ⟨x0, x1, x2, x3, x4⟩ := page_cells HF6.out.box
        have C7 : Calls Tryz.prog 27 #[.agg #[.int .i64 p.fr, .int .i64 p.size, .string (bs p.root), .slice Ai p.items.length ci, .slice Ap p.paths.length cp]] w6 fun e w' => e = .returned (.bool true) ∧ Below w6.heap.size w6 w' := Holds_yes p HFT.out hfo hho _ _ w6 (HVI.out.to HF6.out.bel) (HVP.out.to HF6.out.bel)
        have y1 : (p.size != (items.length : Int)) = false := by rw [hso]; simp
        have y2 : (p.fr != 0) = false := by rw [hfr1]; rfl
        have HFO := hide hfo
        have HHO := hide hho
        have HRO := hide hro
        have HSO := hide hso
        have HFR := hide hfr0
        have HLN := hide hlen2
        have HIL := hide hil
        clear hfo hho hro hso hfr0 hfr1 hlen2 hil hav hacc hfs hfz
        go_wp2_with fail
        refine C7.mono ?_
        rintro e w7 ⟨rfl, hb⟩
        have HFI := hide (HF6.out.to hb)
        have HC7 := hide (HC6.out.to hb)
        clear hb C7 HF6 HC6 x0 x1 x2 x3 x4
        obtain ⟨x0, x1, x2, x3, x4⟩ := page_cells HFI.out.box
        go_wp2_with fail
        clear x0 x1 x2 x3 x4
        have HBG : Hid (∀ W, Below w7.heap.size w7 W → Calls Tryz.prog 28 #[.slice A items.length c, .slice Ai p.items.length ci] W fun e w' => e = .returned (.bool (beginsV items p.items)) ∧ Below W.heap.size W w') := fun W h => Begins_any items p.items (by omega) (by have := HIL.out; omega) _ _ W ((HS.out.to HFI.out.bel).to h) ((HVI.out.to HFI.out.bel).to h)
        have HIT : Hid (∀ W, Below w7.heap.size w7 W → Calls Tryz.prog 26 #[.pointer (some ⟨b, 0, none⟩)] W (ItemsR p.items W)) := fun W h => Items_any b _ _ p.items (by have := HIL.out; omega) v6 W (HC7.out.to h)
        have HSS : Hid (∀ W, Below w7.heap.size w7 W → ∀ u, TextsAt W u p.items → Calls Tryz.prog 25 #[u, .slice Ai p.items.length ci] W fun e w' => e = .returned (.bool true) ∧ Below W.heap.size W w') := fun W h u hu => by
          have := Same_any p.items p.items (by have := HIL.out; omega) (by have := HIL.out; omega) u _ W hu ((HVI.out.to HFI.out.bel).to h)
          rwa [decide_eq_true rfl] at this
        clear HC7 y1 y2
        cases hB : beginsV items p.items with
        | true =>
          rw [hB] at HBG
          clear hB
          apply wp_region_lo3 (C := fun W => Below w7.heap.size w7 W) (V := [some _, some _, some _, some _, some _, some _, none, some _, some _, some _, some _]) (Fs := [(6, fun a W => ∃ v, a.tmps[59]? = some v ∧ TextsAt W v p.items)]) (Ns := []) (Rel := fun i b b' x x' => Below x.heap.size x x')
          case hm => kernel_rfl
          case hB => kernel_rfl
          case hCw => exact (Below.refl _ w7).drew
          case hC =>
            intro i a a' w_ w' hw hr
            have hr' : Below w_.heap.size w_ w' := hr
            exact below_to hw (Nat.le_refl _) hr'
          case hst =>
            refine keeps3_cons (fun i a a' w_ w' hne hwt hs hput hr h => by
              have hr' : Below w_.heap.size w_ w' := hr
              obtain ⟨v, h1, h2⟩ := h
              exact ⟨v, (hs 59 (by kernel_rfl)).trans h1, h2.to hr'⟩) ?_
            exact keeps3_nil
          case hN0 => exact pre0_nil
          case hNst =>
            exact prek_nil3
          case hop =>
            refine ⟨?_, ?_, ?_, ?_, ?_, ?_, ?_, ?_, ?_, ?_, ?_, trivial⟩
            · intro a w_ K hw hS hd hN hK
              have s0 := hS.at 0 (by kernel_rfl) rfl
              rw [if_pos (want_free rfl)]
              go_simp
              exact hK _ _ (Below.refl _ _) (vok rfl) (facts_cons (fun h => absurd h (by decide)) facts_nil)
            · intro a w_ K hw hS hd hN hK
              have s3 := hS.at 3 (by kernel_rfl) rfl
              rw [if_pos (want_free rfl)]
              go_simp
              exact hK _ _ (Below.refl _ _) (vok rfl) (facts_cons (fun h => absurd h (by decide)) facts_nil)
            · intro a w_ K hw hS hd hN hK
              have s54 := (waits_on hd 1 (by kernel_rfl)).at (d := 54) rfl rfl rfl
              rw [if_pos (want_free rfl)]
              obtain ⟨x0, x1, x2, x3, x4⟩ := page_cells (HFI.out.to hw).box
              go_simp
              exact hK _ _ (Below.refl _ _) (vok rfl) (facts_cons (fun h => absurd h (by decide)) facts_nil)
            · intro a w_ K hw hS hd hN hK
              have s53 := (waits_on hd 0 (by kernel_rfl)).at (d := 53) rfl rfl rfl
              have s55 := (waits_on hd 2 (by kernel_rfl)).at (d := 55) rfl rfl rfl
              rw [if_pos (want_free rfl)]
              go_simp
              with_reducible refine (HBG.out w_ hw).mono ?_
              rintro e w' ⟨rfl, hb⟩
              exact hK _ _ hb (vok rfl) (facts_cons (fun h => absurd h (by decide)) facts_nil)
            · intro a w_ K hw hS hd hN hK
              have s56 := (waits_on hd 3 (by kernel_rfl)).at (d := 56) rfl rfl rfl
              rw [if_pos (want_free rfl)]
              go_simp
              exact hK _ _ (Below.refl _ _) (vok rfl) (facts_cons (fun h => absurd h (by decide)) facts_nil)
            · intro a w_ K hw hS hd hN hK
              have s57 := (waits_on hd 4 (by kernel_rfl)).at (d := 57) rfl rfl rfl
              have s6 := hS.at 6 (by kernel_rfl) rfl
              rw [if_pos (want_yes rfl rfl rfl s57)]
              go_simp
              exact hK _ _ (Below.refl _ _) (vok rfl) (facts_cons (fun h => absurd h (by decide)) facts_nil)
            · intro a w_ K hw hS hd hN hK
              have s57 := (waits_on hd 4 (by kernel_rfl)).at (d := 57) rfl rfl rfl
              have s58 := (waits_on hd 5 (by kernel_rfl)).at (d := 58) rfl rfl rfl
              rw [if_pos (want_yes rfl rfl rfl s57)]
              go_simp
              refine (HIT.out w_ hw).mono ?_
              rintro e w' ⟨v7, rfl, ho7, hb7⟩
              exact hK _ _ hb7 (vfree rfl) (facts_cons (fun _ => ⟨v7, hS.put_at (by kernel_rfl) _, TextsAt.of_own ho7⟩) facts_nil)
            · intro a w_ K hw hS hd hN hK
              have s57 := (waits_on hd 4 (by kernel_rfl)).at (d := 57) rfl rfl rfl
              have s3 := hS.at 3 (by kernel_rfl) rfl
              rw [if_pos (want_yes rfl rfl rfl s57)]
              go_simp
              exact hK _ _ (Below.refl _ _) (vok rfl) (facts_cons (fun h => absurd h (by decide)) facts_nil)
            · intro a w_ K hw hS hd hN hK
              have s57 := (waits_on hd 4 (by kernel_rfl)).at (d := 57) rfl rfl rfl
              have s60 := (waits_on hd 7 (by kernel_rfl)).at (d := 60) rfl rfl rfl
              rw [if_pos (want_yes rfl rfl rfl s57)]
              obtain ⟨x0, x1, x2, x3, x4⟩ := page_cells (HFI.out.to hw).box
              go_simp
              exact hK _ _ (Below.refl _ _) (vok rfl) (facts_cons (fun h => absurd h (by decide)) facts_nil)
            · intro a w_ K hw hS hd hN hK
              have s57 := (waits_on hd 4 (by kernel_rfl)).at (d := 57) rfl rfl rfl
              obtain ⟨v59, s59, t59⟩ := (waits_on hd 6 (by kernel_rfl)).2 _ (List.mem_cons_self ..) rfl
              have s61 := (waits_on hd 8 (by kernel_rfl)).at (d := 61) rfl rfl rfl
              rw [if_pos (want_yes rfl rfl rfl s57)]
              go_simp
              with_reducible refine (HSS.out w_ hw v59 t59).mono ?_
              rintro e w' ⟨rfl, hb⟩
              exact hK _ _ hb (vok rfl) (facts_cons (fun h => absurd h (by decide)) facts_nil)
            · intro a w_ K hw hS hd hN hK
              have s57 := (waits_on hd 4 (by kernel_rfl)).at (d := 57) rfl rfl rfl
              have s62 := (waits_on hd 9 (by kernel_rfl)).at (d := 62) rfl rfl rfl
              rw [if_pos (want_free rfl)]
              go_simp
              exact hK _ _ (Below.refl _ _) (vok rfl) (facts_cons (fun h => absurd h (by decide)) facts_nil)
          case hfin =>
            intro a w8 hw hS hk
            have s53 := (hk 0 (by decide)).at (d := 53) rfl rfl rfl
            have s54 := (hk 1 (by decide)).at (d := 54) rfl rfl rfl
            have s55 := (hk 2 (by decide)).at (d := 55) rfl rfl rfl
            have s56 := (hk 3 (by decide)).at (d := 56) rfl rfl rfl
            have s57 := (hk 4 (by decide)).at (d := 57) rfl rfl rfl
            have s58 := (hk 5 (by decide)).at (d := 58) rfl rfl rfl
            obtain ⟨v59, s59, t59⟩ := (hk 6 (by decide)).2 _ (List.mem_cons_self ..) rfl
            have s60 := (hk 7 (by decide)).at (d := 60) rfl rfl rfl
            have s61 := (hk 8 (by decide)).at (d := 61) rfl rfl rfl
            have s62 := (hk 9 (by decide)).at (d := 62) rfl rfl rfl
            have s63 := (hk 10 (by decide)).at (d := 63) rfl rfl rfl
            have hlit := hS.lit _ (by kernel_rfl) (lits_cons s53 (lits_cons s54 (lits_cons s55 (lits_cons s56 (lits_cons s57 (lits_cons s58 (lits_cons s59 (lits_cons s60 (lits_cons s61 (lits_cons s62 (lits_cons s63 lits_nil)))))))))))
            rw [hlit]
            have HF8 := hide (HFI.out.to hw)
            clear hlit hk hS t59 hw
            simp only [litT, List.setIfInBounds_toArray, List.set_cons_succ, List.set_cons_zero]
            go_wp2_with fail
            go_ret
            exact ⟨rfl, HF8.out.bel⟩
        | false =>
          rw [hB] at HBG
          have HBB := hide hB
          clear hB HSS HIT
          apply wp_region_lo3 (C := fun W => Below w7.heap.size w7 W) (V := [some _, some _, some _, some _, some _, some _, some _, some _, some _, some _, some _]) (Fs := []) (Ns := []) (Rel := fun i b b' x x' => Below x.heap.size x x')
          case hm => kernel_rfl
          case hB => kernel_rfl
          case hCw => exact (Below.refl _ w7).drew
          case hC =>
            intro i a a' w_ w' hw hr
            have hr' : Below w_.heap.size w_ w' := hr
            exact below_to hw (Nat.le_refl _) hr'
          case hst =>
            exact keeps3_nil
          case hN0 => exact pre0_nil
          case hNst =>
            exact prek_nil3
          case hop =>
            refine ⟨?_, ?_, ?_, ?_, ?_, ?_, ?_, ?_, ?_, ?_, ?_, trivial⟩
            · intro a w_ K hw hS hd hN hK
              have s0 := hS.at 0 (by kernel_rfl) rfl
              rw [if_pos (want_free rfl)]
              go_simp
              exact hK _ _ (Below.refl _ _) (vok rfl) facts_nil
            · intro a w_ K hw hS hd hN hK
              have s3 := hS.at 3 (by kernel_rfl) rfl
              rw [if_pos (want_free rfl)]
              go_simp
              exact hK _ _ (Below.refl _ _) (vok rfl) facts_nil
            · intro a w_ K hw hS hd hN hK
              have s54 := (waits_on hd 1 (by kernel_rfl)).at (d := 54) rfl rfl rfl
              rw [if_pos (want_free rfl)]
              obtain ⟨x0, x1, x2, x3, x4⟩ := page_cells (HFI.out.to hw).box
              go_simp
              exact hK _ _ (Below.refl _ _) (vok rfl) facts_nil
            · intro a w_ K hw hS hd hN hK
              have s53 := (waits_on hd 0 (by kernel_rfl)).at (d := 53) rfl rfl rfl
              have s55 := (waits_on hd 2 (by kernel_rfl)).at (d := 55) rfl rfl rfl
              rw [if_pos (want_free rfl)]
              go_simp
              with_reducible refine (HBG.out w_ hw).mono ?_
              rintro e w' ⟨rfl, hb⟩
              exact hK _ _ hb (vok rfl) facts_nil
            · intro a w_ K hw hS hd hN hK
              have s56 := (waits_on hd 3 (by kernel_rfl)).at (d := 56) rfl rfl rfl
              rw [if_pos (want_free rfl)]
              go_simp
              exact hK _ _ (Below.refl _ _) (vok rfl) facts_nil
            · intro a w_ K hw hS hd hN hK
              have s57 := (waits_on hd 4 (by kernel_rfl)).at (d := 57) rfl rfl rfl
              rw [if_neg (want_no rfl rfl rfl s57 rfl)]
              exact hK _ _ (Below.refl _ _) (vok rfl) facts_nil
            · intro a w_ K hw hS hd hN hK
              have s57 := (waits_on hd 4 (by kernel_rfl)).at (d := 57) rfl rfl rfl
              rw [if_neg (want_no rfl rfl rfl s57 rfl)]
              exact hK _ _ (Below.refl _ _) (vok rfl) facts_nil
            · intro a w_ K hw hS hd hN hK
              have s57 := (waits_on hd 4 (by kernel_rfl)).at (d := 57) rfl rfl rfl
              rw [if_neg (want_no rfl rfl rfl s57 rfl)]
              exact hK _ _ (Below.refl _ _) (vok rfl) facts_nil
            · intro a w_ K hw hS hd hN hK
              have s57 := (waits_on hd 4 (by kernel_rfl)).at (d := 57) rfl rfl rfl
              rw [if_neg (want_no rfl rfl rfl s57 rfl)]
              exact hK _ _ (Below.refl _ _) (vok rfl) facts_nil
            · intro a w_ K hw hS hd hN hK
              have s57 := (waits_on hd 4 (by kernel_rfl)).at (d := 57) rfl rfl rfl
              rw [if_neg (want_no rfl rfl rfl s57 rfl)]
              exact hK _ _ (Below.refl _ _) (vok rfl) facts_nil
            · intro a w_ K hw hS hd hN hK
              have s57 := (waits_on hd 4 (by kernel_rfl)).at (d := 57) rfl rfl rfl
              have s62 := (waits_on hd 9 (by kernel_rfl)).at (d := 62) rfl rfl rfl
              rw [if_pos (want_free rfl)]
              go_simp
              exact hK _ _ (Below.refl _ _) (vok rfl) facts_nil
          case hfin =>
            intro a w8 hw hS hk
            have s53 := (hk 0 (by decide)).at (d := 53) rfl rfl rfl
            have s54 := (hk 1 (by decide)).at (d := 54) rfl rfl rfl
            have s55 := (hk 2 (by decide)).at (d := 55) rfl rfl rfl
            have s56 := (hk 3 (by decide)).at (d := 56) rfl rfl rfl
            have s57 := (hk 4 (by decide)).at (d := 57) rfl rfl rfl
            have s58 := (hk 5 (by decide)).at (d := 58) rfl rfl rfl
            have s59 := (hk 6 (by decide)).at (d := 59) rfl rfl rfl
            have s60 := (hk 7 (by decide)).at (d := 60) rfl rfl rfl
            have s61 := (hk 8 (by decide)).at (d := 61) rfl rfl rfl
            have s62 := (hk 9 (by decide)).at (d := 62) rfl rfl rfl
            have s63 := (hk 10 (by decide)).at (d := 63) rfl rfl rfl
            have hlit := hS.lit _ (by kernel_rfl) (lits_cons s53 (lits_cons s54 (lits_cons s55 (lits_cons s56 (lits_cons s57 (lits_cons s58 (lits_cons s59 (lits_cons s60 (lits_cons s61 (lits_cons s62 (lits_cons s63 lits_nil)))))))))))
            rw [hlit]
            have HF8 := hide (HFI.out.to hw)
            clear hlit hk hS hw
            simp only [litT, List.setIfInBounds_toArray, List.set_cons_succ, List.set_cons_zero]
            go_wp2_with fail
            have hfo := HFO.out
            have hho := HHO.out
            have hro := HRO.out
            have hso := HSO.out
            have hfr0 := HFR.out
            have hlen2 := HLN.out
            have hil := HIL.out
            have hB := HBB.out
            have HDG := hide (fun (W : World) (h : Below w8.heap.size w8 W) => Digested_any items HL.out.big.1 HL.out.big.2 (.slice A items.length c) W ((HS.out.to HF8.out.bel).to h))
            have HCK : Hid (∀ W : World, Below w8.heap.size w8 W → Calls Tryz.prog 31 #[.agg #[.int .i64 p.fr, .int .i64 p.size, .string (bs p.root), .slice Ai p.items.length ci, .slice Ap p.paths.length cp]] W (LvR (checkedV p) W)) := fun W h => Checked_any p HFT.out hfo hho _ _ W ((HVI.out.to HF8.out.bel).to h) ((HVP.out.to HF8.out.bel).to h)
            have hdl := dig_len items
            have hcl := chk_len p p.items.length
            have hcl2 : (checkedV p).length ≤ 50 * 10001 := Nat.le_trans hcl (Nat.mul_le_mul hil (by omega))
            have HSH := hide (shown_app (D := digestedV items) (K := checkedV p) (coll_in (by
              obtain ⟨k, x, y, h1, h2, h3⟩ := begins_no hlen2 hB
              exact held_sound hfo hho hro hso (k := k) h2 (by rw [hfr0]; simpa using h1) h3)) (by omega) (dig_small (fun x hx => by have := HL.out.lx x hx; omega)) (chk_small (fun x hx => by have := HP6.out x hx; omega) (fun q hq x hx => by have := (formed_len hfo).1 q hq; rw [this.2 x hx]; decide)))
            clear hcl hB
            clear hfo hho hro hso hfr0 hlen2 hil HFO HHO HRO HSO HFR HLN HIL HBB
            apply wp_region_lo3 (C := fun W => Below w8.heap.size w8 W) (V := [some _, some _, some _, none, some _, none, none, some _, some _, some _]) (Fs := [(3, fun a W => ∃ v, a.tmps[68]? = some v ∧ (a.tmps[71]? = some undef → OwnT W w8.heap.size v (digestedV items))), (5, fun a W => ∃ v, a.tmps[70]? = some v ∧ (a.tmps[71]? = some undef → TextsAt W v (checkedV p))), (6, fun a W => ∃ v, a.tmps[71]? = some v ∧ TextsAt W v (digestedV items ++ checkedV p))]) (Ns := [(6, fun a (_ : World) => a.tmps[71]? = some undef)]) (Rel := fun i b b' x x' => if i = 6 then (fun b b' x x' => ¬ b'.tmps[71]? = some undef ∧ ∃ r, World.grownBy x x' r ∧ ∀ g, r = some g → w8.heap.size ≤ g) b b' x x' else Below x.heap.size x x')
            case hm => kernel_rfl
            case hB => kernel_rfl
            case hCw => exact (Below.refl _ w8).drew
            case hC =>
              intro i a a' w_ w' hw hr
              by_cases e6 : i = 6
              · subst e6
                have hr' : (fun b b' x x' => ¬ b'.tmps[71]? = some undef ∧ ∃ r, World.grownBy x x' r ∧ ∀ g, r = some g → w8.heap.size ≤ g) a a' w_ w' := hr
                obtain ⟨_, r, hg, hv⟩ := hr'
                exact hw.trans (below_grown hg hw.size hv)
              have hr' : Below w_.heap.size w_ w' := by simpa [e6] using hr
              exact below_to hw (Nat.le_refl _) hr'
            case hst =>
              refine keeps3_cons (fun i a a' w_ w' hne hwt hs hput hr h => by
                by_cases e6 : i = 6
                · subst e6
                  have hr' : (fun b b' x x' => ¬ b'.tmps[71]? = some undef ∧ ∃ r, World.grownBy x x' r ∧ ∀ g, r = some g → w8.heap.size ≤ g) a a' w_ w' := hr
                  obtain ⟨v, h1, _⟩ := h
                  exact ⟨v, (hs 68 (by kernel_rfl)).trans h1, fun e => absurd e hr'.1⟩
                have hr' : Below w_.heap.size w_ w' := by simpa [e6] using hr
                obtain ⟨v, h1, h2⟩ := h
                exact ⟨v, (hs 68 (by kernel_rfl)).trans h1, fun e => own_to4 (h2 ((other_slot (d := 71) (k := 6) (by kernel_rfl) hput e6).symm.trans e)) hr'⟩) ?_
              refine keeps3_cons (fun i a a' w_ w' hne hwt hs hput hr h => by
                by_cases e6 : i = 6
                · subst e6
                  have hr' : (fun b b' x x' => ¬ b'.tmps[71]? = some undef ∧ ∃ r, World.grownBy x x' r ∧ ∀ g, r = some g → w8.heap.size ≤ g) a a' w_ w' := hr
                  obtain ⟨v, h1, _⟩ := h
                  exact ⟨v, (hs 70 (by kernel_rfl)).trans h1, fun e => absurd e hr'.1⟩
                have hr' : Below w_.heap.size w_ w' := by simpa [e6] using hr
                obtain ⟨v, h1, h2⟩ := h
                exact ⟨v, (hs 70 (by kernel_rfl)).trans h1, fun e => (h2 ((other_slot (d := 71) (k := 6) (by kernel_rfl) hput e6).symm.trans e)).to hr'⟩) ?_
              refine keeps3_cons (fun i a a' w_ w' hne hwt hs hput hr h => by
                by_cases e6 : i = 6
                · exact absurd e6 hne
                have hr' : Below w_.heap.size w_ w' := by simpa [e6] using hr
                obtain ⟨v, h1, h2⟩ := h
                exact ⟨v, (hs 71 (by kernel_rfl)).trans h1, h2.to hr'⟩) ?_
              exact keeps3_nil
            case hN0 => exact pre0_cons (rfl) (pre0_nil)
            case hNst =>
              refine prek_cons3 (fun i a a' w_ w' hne hwt hr h hput => by
                by_cases e6 : i = 6
                · exact absurd e6 hne
                have hr' : Below w_.heap.size w_ w' := by simpa [e6] using hr
                exact (other_slot (d := 71) (k := 6) (by kernel_rfl) hput e6).trans h) ?_
              exact prek_nil3
            case hop =>
              refine ⟨?_, ?_, ?_, ?_, ?_, ?_, ?_, ?_, ?_, ?_, trivial⟩
              · intro a w_ K hw hS hd hN hK
                have s5 := hS.at 5 (by kernel_rfl) rfl
                rw [if_pos (want_free rfl)]
                go_simp
                exact hK _ _ (Below.refl _ _) (vok rfl) (facts_cons (fun h => absurd h (by decide)) (facts_cons (fun h => absurd h (by decide)) (facts_cons (fun h => absurd h (by decide)) facts_nil)))
              · intro a w_ K hw hS hd hN hK
                have s65 := (waits_on hd 0 (by kernel_rfl)).at (d := 65) rfl rfl rfl
                rw [if_pos (want_free rfl)]
                go_simp
                exact hK _ _ (Below.refl _ _) (vok rfl) (facts_cons (fun h => absurd h (by decide)) (facts_cons (fun h => absurd h (by decide)) (facts_cons (fun h => absurd h (by decide)) facts_nil)))
              · intro a w_ K hw hS hd hN hK
                have s66 := (waits_on hd 1 (by kernel_rfl)).at (d := 66) rfl rfl rfl
                have s0 := hS.at 0 (by kernel_rfl) rfl
                rw [if_pos (want_yes rfl rfl rfl s66)]
                go_simp
                exact hK _ _ (Below.refl _ _) (vok rfl) (facts_cons (fun h => absurd h (by decide)) (facts_cons (fun h => absurd h (by decide)) (facts_cons (fun h => absurd h (by decide)) facts_nil)))
              · intro a w_ K hw hS hd hN hK
                have s66 := (waits_on hd 1 (by kernel_rfl)).at (d := 66) rfl rfl rfl
                have s67 := (waits_on hd 2 (by kernel_rfl)).at (d := 67) rfl rfl rfl
                rw [if_pos (want_yes rfl rfl rfl s66)]
                go_simp
                refine (HDG.out w_ hw).mono ?_
                rintro e w' ⟨v7, rfl, ho7, hb7⟩
                exact hK _ _ hb7 (vfree rfl) (facts_cons (fun _ => ⟨v7, hS.put_at (by kernel_rfl) _, fun _ => own_less ho7 hw.size⟩) (facts_cons (fun h => absurd h (by decide)) (facts_cons (fun h => absurd h (by decide)) facts_nil)))
              · intro a w_ K hw hS hd hN hK
                have s66 := (waits_on hd 1 (by kernel_rfl)).at (d := 66) rfl rfl rfl
                have s3 := hS.at 3 (by kernel_rfl) rfl
                rw [if_pos (want_yes rfl rfl rfl s66)]
                obtain ⟨x0, x1, x2, x3, x4⟩ := page_cells (HF8.out.to hw).box
                go_simp
                exact hK _ _ (Below.refl _ _) (vok rfl) (facts_cons (fun h => absurd h (by decide)) (facts_cons (fun h => absurd h (by decide)) (facts_cons (fun h => absurd h (by decide)) facts_nil)))
              · intro a w_ K hw hS hd hN hK
                have s66 := (waits_on hd 1 (by kernel_rfl)).at (d := 66) rfl rfl rfl
                have s69 := (waits_on hd 4 (by kernel_rfl)).at (d := 69) rfl rfl rfl
                rw [if_pos (want_yes rfl rfl rfl s66)]
                go_simp
                refine (HCK.out w_ hw).mono ?_
                rintro e w' ⟨v7, rfl, ho7, hb7⟩
                exact hK _ _ hb7 (vfree rfl) (facts_cons (fun h => absurd h (by decide)) (facts_cons (fun _ => ⟨v7, hS.put_at (by kernel_rfl) _, fun _ => TextsAt.of_own ho7⟩) (facts_cons (fun h => absurd h (by decide)) facts_nil)))
              · intro a w_ K hw hS hd hN hK
                have s66 := (waits_on hd 1 (by kernel_rfl)).at (d := 66) rfl rfl rfl
                obtain ⟨v68, s68, f68⟩ := (waits_on hd 3 (by kernel_rfl)).2 _ (List.mem_cons_self ..) rfl
                obtain ⟨v70, s70, f70⟩ := (waits_on hd 5 (by kernel_rfl)).2 _ (List.mem_cons_of_mem _ (List.mem_cons_self ..)) rfl
                have hu71 := hN _ (List.mem_cons_self ..) rfl
                rw [if_pos (want_yes rfl rfl rfl s66)]
                refine wp_append_texts (.tmp 68) (.tmp 70) rfl w8.heap.size v68 (digestedV items) (eval_at s68) (f68 hu71) v70 (checkedV p) (eval_at s70) (f70 hu71) (by omega) hw.size ?_
                intro v8 w' ho hg hne
                have hp71 := hS.put_at (s := 71) (by kernel_rfl) v8
                exact hK v8 w' ⟨fun e => hne (Option.some.inj (hp71.symm.trans e)), _, hg, fun g e => (own_blk_lt (f68 hu71) g e).1⟩ (vfree rfl) (facts_cons (fun h => absurd h (by decide)) (facts_cons (fun h => absurd h (by decide)) (facts_cons (fun _ => ⟨v8, hp71, TextsAt.of_own ho⟩) facts_nil)))
              · intro a w_ K hw hS hd hN hK
                have s66 := (waits_on hd 1 (by kernel_rfl)).at (d := 66) rfl rfl rfl
                obtain ⟨v71, s71, t71⟩ := (waits_on hd 6 (by kernel_rfl)).2 _ (List.mem_cons_of_mem _ (List.mem_cons_of_mem _ (List.mem_cons_self ..))) rfl
                rw [if_pos (want_yes rfl rfl rfl s66)]
                go_simp
                with_reducible refine (HSH.out w_ v71 t71).mono ?_
                rintro e w' ⟨rfl, hb⟩
                exact hK _ _ hb (vok rfl) (facts_cons (fun h => absurd h (by decide)) (facts_cons (fun h => absurd h (by decide)) (facts_cons (fun h => absurd h (by decide)) facts_nil)))
              · intro a w_ K hw hS hd hN hK
                have s66 := (waits_on hd 1 (by kernel_rfl)).at (d := 66) rfl rfl rfl
                have s72 := (waits_on hd 7 (by kernel_rfl)).at (d := 72) rfl rfl rfl
                rw [if_pos (want_free rfl)]
                go_simp
                exact hK _ _ (Below.refl _ _) (vok rfl) (facts_cons (fun h => absurd h (by decide)) (facts_cons (fun h => absurd h (by decide)) (facts_cons (fun h => absurd h (by decide)) facts_nil)))
              · intro a w_ K hw hS hd hN hK
                have s73 := (waits_on hd 8 (by kernel_rfl)).at (d := 73) rfl rfl rfl
                rw [if_pos (want_free rfl)]
                go_simp
                exact hK _ _ (Below.refl _ _) (vok rfl) (facts_cons (fun h => absurd h (by decide)) (facts_cons (fun h => absurd h (by decide)) (facts_cons (fun h => absurd h (by decide)) facts_nil)))
            case hfin =>
              intro a w9 hw hS hk
              have s65 := (hk 0 (by decide)).at (d := 65) rfl rfl rfl
              have s66 := (hk 1 (by decide)).at (d := 66) rfl rfl rfl
              have s67 := (hk 2 (by decide)).at (d := 67) rfl rfl rfl
              obtain ⟨v68, s68, f68⟩ := (hk 3 (by decide)).2 _ (List.mem_cons_self ..) rfl
              have s69 := (hk 4 (by decide)).at (d := 69) rfl rfl rfl
              obtain ⟨v70, s70, f70⟩ := (hk 5 (by decide)).2 _ (List.mem_cons_of_mem _ (List.mem_cons_self ..)) rfl
              obtain ⟨v71, s71, t71⟩ := (hk 6 (by decide)).2 _ (List.mem_cons_of_mem _ (List.mem_cons_of_mem _ (List.mem_cons_self ..))) rfl
              have s72 := (hk 7 (by decide)).at (d := 72) rfl rfl rfl
              have s73 := (hk 8 (by decide)).at (d := 73) rfl rfl rfl
              have s4 := (hk 9 (by decide)).at (d := 4) rfl rfl rfl
              have hlit := hS.lit _ (by kernel_rfl) (lits_cons s65 (lits_cons s66 (lits_cons s67 (lits_cons s68 (lits_cons s69 (lits_cons s70 (lits_cons s71 (lits_cons s72 (lits_cons s73 (lits_cons s4 lits_nil))))))))))
              rw [hlit]
              have HF9 := hide (below_to HF8.out.bel (Nat.le_refl _) hw)
              clear hlit hk hS f68 f70 t71 hw
              simp only [litT, List.setIfInBounds_toArray, List.set_cons_succ, List.set_cons_zero]
              go_wp2_with fail
              go_ret
              exact ⟨rfl, HF9.out⟩
      · have hav : accV p (rootL items) items.length [] = [] := by unfold accV; rw [if_neg hacc]
        rw [hav] at HC6
        have ha0 : (accE p (rootL items) items.length [] != 0) = true := by rw [bne_iff_ne]; exact hacc
        generalize accE p (rootL items) items.length [] = E at *
        clear hav hacc
        have C7 := Next_any b _ _ [] (by decide) v6 w6 HC6.out
        unfold cliP at C7
        have HC6' := HC6
        go_wp2_with ((with_reducible refine C7.mono ?_); rintro e w7 ⟨rfl, hb⟩; have HF7 := hide (HF6.out.to hb); clear hb)
        go_ret
        exact ⟨rfl, HF7.out.bel⟩
end Go.Proofs.YtfhanbiifjiklaaGreatDoor

/- PageGrowsTruly: the plain law and the walk. -/
set_option linter.unusedVariables false
set_option linter.unusedSimpArgs false
namespace Go.Proofs.YtfhanbiifjiklaaGreatDoor
open Go.RowKit

theorem bothG_1000 {old : List UInt8} (ho : old.length ≤ 1000) : ∀ (f n m : Nat) (wh : Bool) (st : List (List UInt8)) (sh : Bool), (∀ d ∈ st, d.length ≤ 1000) → (bothG old f n m wh st sh).1.1.length ≤ 1000 ∧ (bothG old f n m wh st sh).1.2.length ≤ 1000
  | 0, n, m, wh, st, sh, hd => ⟨ho, ho⟩
  | f + 1, n, m, wh, st, sh, hd => by
    have ht : ∀ d ∈ st.tail, d.length ≤ 1000 := fun d h => hd d (List.mem_of_mem_tail h)
    by_cases hn : m = n
    · subst hn
      rw [bothG_eq]
      cases wh
      · exact ⟨head_1000 hd, head_1000 hd⟩
      · exact ⟨ho, ho⟩
    · by_cases hm : m ≤ halfN n
      · rw [bothG_le old hn hm]
        exact ⟨(bothG_1000 ho f _ _ _ _ _ ht).1, by show (nodeD _ _).length ≤ _; rw [nodeD_len]; decide⟩
      · rw [bothG_gt old hn hm]
        exact ⟨by show (nodeD _ _).length ≤ _; rw [nodeD_len]; decide, by show (nodeD _ _).length ≤ _; rw [nodeD_len]; decide⟩
theorem ltx_small {old : List UInt8} (ho : old.length ≤ 1000) : ∀ (f n m : Nat) (wh : Bool) (st : List (List UInt8)), (∀ d ∈ st, d.length ≤ 1000) → ∀ s ∈ ltxF old f n m wh st, s.length ≤ 4000
  | 0, n, m, wh, st, hd, s, hs => by cases hs
  | f + 1, n, m, wh, st, hd, s, hs => by
    have ht : ∀ d ∈ st.tail, d.length ≤ 1000 := fun d h => hd d (List.mem_of_mem_tail h)
    unfold ltxF at hs
    split at hs
    · cases hs
    · split at hs
      · rcases List.mem_append.1 hs with hs | hs
        · exact ltx_small ho f _ _ _ _ ht s hs
        · rw [List.mem_singleton.1 hs]; exact join3_len (by decide) (bothG_1000 ho _ _ _ _ _ _ ht).2 (head_1000 hd)
      · rcases List.mem_append.1 hs with hs | hs
        · rcases List.mem_append.1 hs with hs | hs
          · exact ltx_small ho f _ _ _ _ ht s hs
          · rw [List.mem_singleton.1 hs]; exact join3_len (by decide) (head_1000 hd) (bothG_1000 ho _ _ _ _ _ _ ht).1
        · rw [List.mem_singleton.1 hs]; exact join3_len (by decide) (head_1000 hd) (bothG_1000 ho _ _ _ _ _ _ ht).2
/-- what is digested to check a link -/
def linkV (a b link : List (List UInt8)) : List (List UInt8) := ltxF (rootL a) b.length b.length a.length true link.reverse
theorem ext_facts {a b link : List (List UInt8)} (h : extV (rootL a) a.length (rootL b) b.length link = true) : a.length ≤ b.length ∧ b.length ≤ 1000000 ∧ properT link = true ∧ (1 ≤ a.length → link.length = lonF b.length b.length a.length true ∧ (bothG (rootL a) b.length b.length a.length true link.reverse false).1.1 = rootL a ∧ (bothG (rootL a) b.length b.length a.length true link.reverse false).1.2 = rootL b) := by
  unfold extV at h
  split at h
  · rename_i hc
    obtain ⟨c1, c2, c3, c4, c5⟩ := hc
    refine ⟨by omega, by omega, c4, fun h1 => ?_⟩
    rw [if_neg (by omega), Int.toNat_natCast, Int.toNat_natCast, boV_ref h1 (by omega) c4] at h
    simp only [Bool.and_eq_true, decide_eq_true_eq] at h
    exact ⟨h.1, h.2.1, h.2.2⟩
  · cases h
theorem grows_sound {a b link : List (List UInt8)} (h : extV (rootL a) a.length (rootL b) b.length link = true) (hB : beginsV b a = false) : 1 ≤ a.length ∧ CollIn ((digestedV a ++ digestedV b) ++ linkV a b link) := by
  obtain ⟨h1, h2, h3, h4⟩ := ext_facts h
  have ha : 1 ≤ a.length := by
    rcases Nat.eq_zero_or_pos a.length with h0 | h0
    · rw [List.eq_nil_of_length_eq_zero h0] at hB
      cases hB
    · exact h0
  refine ⟨ha, ?_⟩
  obtain ⟨h5, h6, h7⟩ := h4 ha
  have inA : ∀ s ∈ textsV (leavesV a), s ∈ (digestedV a ++ digestedV b) ++ linkV a b link := fun s hs => List.mem_append.2 (.inl (List.mem_append.2 (.inl (List.mem_append.2 (.inl hs)))))
  have inB : ∀ s ∈ textsV (leavesV b), s ∈ (digestedV a ++ digestedV b) ++ linkV a b link := fun s hs => List.mem_append.2 (.inl (List.mem_append.2 (.inr (List.mem_append.2 (.inl hs)))))
  have inL : ∀ s ∈ linkV a b link, s ∈ (digestedV a ++ digestedV b) ++ linkV a b link := fun s hs => List.mem_append.2 (.inr hs)
  rcases both_sound (rootL a) b.length b.length a.length true link.reverse (leavesV b) (leaves_len b) (Nat.le_refl _) ha h1 h7 with ⟨e1, e2⟩ | hc
  · rw [h6] at e1
    rcases tree_sound a.length (leavesV a) ((leavesV b).take a.length) (by rw [leaves_len]; exact Nat.le_refl _) (by rw [List.length_take, leaves_len, leaves_len]; omega) e1 with e | hc
    · obtain ⟨k, x, y, g1, g2, g3⟩ := begins_no h1 hB
      have hk := (List.getElem?_eq_some_iff.1 g2).1
      have q1 : (leavesV a)[k]? = some (leafD y) := by unfold leavesV; rw [List.getElem?_map, g2]; rfl
      have q2 : ((leavesV b).take a.length)[k]? = some (leafD x) := by rw [List.getElem?_take_of_lt hk]; unfold leavesV; rw [List.getElem?_map, g1]; rfl
      rw [e, q2] at q1
      rcases leafD_sound (Option.some.inj q1) with e | hc
      · exact absurd e g3
      · refine hc.mono (fun s hs => ?_) (fun s hs => ?_)
        · rw [List.mem_singleton.1 hs]
          exact List.mem_append.2 (.inl (List.mem_append.2 (.inr (List.mem_append.2 (.inr (List.mem_map.2 ⟨x, List.mem_of_getElem? g1, rfl⟩))))))
        · rw [List.mem_singleton.1 hs]
          exact List.mem_append.2 (.inl (List.mem_append.2 (.inl (List.mem_append.2 (.inr (List.mem_map.2 ⟨y, List.mem_of_getElem? g2, rfl⟩))))))
    · exact hc.mono inA (fun s hs => (List.mem_append.1 (e2 s hs)).elim (inB s) (inL s))
  · exact hc.mono inB inL
theorem grow_ext {r0 r : List UInt8} {s0 s : Int} {link : List (List UInt8)} (h : growE r0 s0 r s link = 0) : extV r0 s0 r s link = true := by
  unfold growE at h
  split at h
  · split at h
    · assumption
    · cases h
  · cases h
set_option maxRecDepth 100000 in
set_option maxHeartbeats 4000000 in
theorem truly_law (a b link : List (List UInt8)) (hna : a.length ≤ 8796093022208) (hxa : ∀ x ∈ a, x.length ≤ 140737488355328) (hnb : b.length ≤ 8796093022208) (hxb : ∀ x ∈ b, x.length ≤ 140737488355328) (hnl : link.length ≤ 8796093022208) (hxl : ∀ x ∈ link, x.length ≤ 140737488355328) (va vb vl : Value) (w : World) (hva : TextsAt w va a) (hvb : TextsAt w vb b) (hvl : TextsAt w vl link) (hg : Glob w) :
    Calls Tryz.prog 9 #[va, vb, vl] w fun e w' => e = .returned (.bool true) ∧ Below w.heap.size w w' := by
  have HA := hide hva
  have HBb := hide hvb
  have HLk := hide hvl
  have HG := hide hg
  have CA := fun (w' : World) (hb : Below w.heap.size w w') => few_any a hna hxa va w' (hva.to hb)
  have CB := fun (w' : World) (hb : Below w.heap.size w w') => few_any b hnb hxb vb w' (hvb.to hb)
  have CK : ∀ w' : World, Below w.heap.size w w' → Calls Tryz.prog 32 #[vl, .int .i64 60] w' fun e w'' => e = .returned (.bool (fewT link 60)) ∧ w'' = w' := fun (w' : World) (hb : Below w.heap.size w w') => Few_any link hnl hxl 60 (by omega) vl w' (hvl.to hb)
  obtain ⟨Aa, ca, rfl, _⟩ := hva.slice
  obtain ⟨Ab, cb, rfl, _⟩ := hvb.slice
  obtain ⟨Al, cl, rfl, _⟩ := hvl.slice
  have C1 := head_any w hg
  clear hva hvb hvl hg
  have hfe : (fewI a = true ∧ fewI b = true ∧ link.length ≤ 30 ∧ fewT link 60 = true) ∨ ¬ (fewI a = true ∧ fewI b = true ∧ link.length ≤ 30 ∧ fewT link 60 = true) := Classical.em _
  rcases hfe with ⟨f1, f2, f3, f4⟩ | hno
  · have LA := hide (fewI_lg f1)
    have LB := hide (fewI_lg f2)
    have HLX : Hid (∀ x ∈ link, x.length ≤ 60) := by
      unfold fewT at f4
      simp only [Bool.and_eq_true, List.all_eq_true, decide_eq_true_eq] at f4
      exact f4.1
    have hla := LA.out.len
    have hlb := LB.out.len
    have c0 : decide ((30 : Int) < (link.length : Int)) = false := decide_eq_false (by omega)
    have c0' : decide (30 < link.length) = false := decide_eq_false (by omega)
    go_enter Tryz.func9, Tryz.ntmps9
    go_wp2_with fail
    refine C1.mono ?_
    rintro e w1 ⟨rfl, hb⟩
    have HB1 := hide hb
    have CA := CA w1 hb
    have CB := CB w1 hb
    have CK := CK w1 hb
    rw [f1] at CA
    rw [f2] at CB
    rw [f4] at CK
    clear hb C1 f1 f2 f4
    go_wp2_with (first | ((with_reducible refine CA.mono ?_); rintro e w3 ⟨rfl, e9⟩; have e9 := e9.symm; subst e9) | ((with_reducible refine CB.mono ?_); rintro e w3 ⟨rfl, e9⟩; have e9 := e9.symm; subst e9) | ((with_reducible refine CK.mono ?_); rintro e w3 ⟨rfl, e9⟩; have e9 := e9.symm; subst e9))
    clear CA CB CK
    have C2 := rootL_any LA.out _ w1 (HA.out.to HB1.out) (HG.out.to HB1.out)
    refine C2.mono ?_
    rintro e w2 ⟨rfl, hb⟩
    have HB2 := hide (below_to HB1.out (Nat.le_refl _) hb)
    clear hb C2 HB1
    go_wp2_with fail
    have C3 := NewL LA.out w2 (HG.out.to HB2.out)
    unfold cliP at C3
    refine C3.mono ?_
    rintro e w3 ⟨b0, rfl, hbb, hcl, hb⟩
    have HB3 := hide (below_to HB2.out (Nat.le_refl _) hb)
    have HC3 := hide hcl
    have hwb : w.heap.size ≤ b0 := by have := HB2.out.size; omega
    clear hb C3 HB2 hcl hbb
    go_wp2_with fail
    have C4 := rootL_any LB.out _ w3 (HBb.out.to HB3.out) (HG.out.to HB3.out)
    refine C4.mono ?_
    rintro e w4 ⟨rfl, hb⟩
    have HB4 := hide (below_to HB3.out (Nat.le_refl _) hb)
    have HC4 := hide (HC3.out.to hb)
    clear hb C4 HB3 HC3
    have C5 := Grow_any b0 (rootL a) a.length [] (.slice none 0 0) (rootL b) b.length link (by rw [isD_len (root_isD a)]; decide) (by rw [isD_len (root_isD b)]; decide) (by omega) (fun x hx => by have := HLX.out x hx; omega) (.slice Al link.length cl) w4 (HG.out.to HB4.out) HC4.out (HLk.out.to HB4.out)
    unfold cliP GrowR at C5
    go_wp2_with fail
    refine C5.mono ?_
    rintro e w5 ⟨rfl, _, hT⟩
    have HB5 : Hid (Below w.heap.size w w5) := HB4.out.trans (hT.below HB4.out.size hwb hwb)
    clear hT C5 HB4 HC4
    by_cases hge : growE (rootL a) a.length (rootL b) b.length link = 0
    · have hext := grow_ext hge
      rw [hge]
      have CBg := Begins_any b a (by omega) (by omega) (.slice Ab b.length cb) (.slice Aa a.length ca) w5 (HBb.out.to HB5.out) (HA.out.to HB5.out)
      cases hB : beginsV b a with
      | true =>
        rw [hB] at CBg
        clear hB hext hge
        go_wp2_with fail
        refine CBg.mono ?_
        rintro e w6 ⟨rfl, hb⟩
        have HB6 := hide (below_to HB5.out (Nat.le_refl _) hb)
        clear hb CBg
        go_wp2_with fail
        go_ret
        exact ⟨rfl, HB6.out⟩
      | false =>
        rw [hB] at CBg
        obtain ⟨ha1, hcoll⟩ := grows_sound hext hB
        obtain ⟨g1, g2, g3, g4⟩ := ext_facts hext
        obtain ⟨g5, _, _⟩ := g4 ha1
        have HEXT := hide hext
        have HCOLL := hide hcoll
        have HPL := hide g3
        have HLE := hide g5
        clear hB hext hge hcoll g3 g4 g5
        go_wp2_with fail
        refine CBg.mono ?_
        rintro e w6 ⟨rfl, hb⟩
        have HB6 := hide (below_to HB5.out (Nat.le_refl _) hb)
        clear hb CBg HB5
        go_wp2_with fail
        have C7 := rootL_any LA.out _ w6 (HA.out.to HB6.out) (HG.out.to HB6.out)
        refine C7.mono ?_
        rintro e w7 ⟨rfl, hb⟩
        have HB7 := hide (below_to HB6.out (Nat.le_refl _) hb)
        clear hb C7 HB6
        go_wp2_with fail
        have C8 := rootL_any LB.out _ w7 (HBb.out.to HB7.out) (HG.out.to HB7.out)
        refine C8.mono ?_
        rintro e w8 ⟨rfl, hb⟩
        have HB8 := hide (below_to HB7.out (Nat.le_refl _) hb)
        clear hb C8 HB7
        have C9 := rExtends_any (rootL a) a.length (rootL b) b.length link (by rw [isD_len (root_isD a)]; decide) (by rw [isD_len (root_isD b)]; decide) (by omega) (fun x hx => by have := HLX.out x hx; omega) (.slice Al link.length cl) w8 (HLk.out.to HB8.out)
        rw [HEXT.out] at C9
        go_wp2_with fail
        refine C9.mono ?_
        rintro e w9 ⟨rfl, hb⟩
        have HB9 := hide (below_to HB8.out (Nat.le_refl _) hb)
        clear hb C9 HB8
        go_wp2_with fail
        have C10 := Digested_any a LA.out.big.1 LA.out.big.2 _ w9 (HA.out.to HB9.out)
        unfold LvR at C10
        refine C10.mono ?_
        rintro e w10 ⟨v10, rfl, ho, hb⟩
        have HB10 := hide (below_to HB9.out (Nat.le_refl _) hb)
        have HO10 : Hid (OwnT w10 w.heap.size v10 (digestedV a)) := own_less ho HB9.out.size
        clear hb C10 HB9 ho
        go_wp2_with fail
        have C11 := Digested_any b LB.out.big.1 LB.out.big.2 _ w10 (HBb.out.to HB10.out)
        unfold LvR at C11
        refine C11.mono ?_
        rintro e w11 ⟨v11, rfl, ho, hb⟩
        have HB11 := hide (below_to HB10.out (Nat.le_refl _) hb)
        have HO11 := hide (own_to4 HO10.out hb)
        have HT11 := hide (TextsAt.of_own ho)
        have hda := dig_len a
        have hdb := dig_len b
        clear hb C11 HB10 HO10 ho
        go_wp2_with (at_builtin; refine wpList_append_texts rfl (.tmp 66) (.tmp 68) rfl w.heap.size v10 (digestedV a) rfl HO11.out v11 (digestedV b) rfl HT11.out (by omega) HB11.out.size ?_)
        intro v12 w12 ho hgr _
        have HB12 := hide (HB11.out.trans (below_grown hgr HB11.out.size (fun g e => (own_blk_lt HO11.out g e).1)))
        have HO12 := hide ho
        clear ho hgr HB11 HO11 HT11
        have y0 : decide ((0 : Int) < (a.length : Int)) = true := decide_eq_true (by omega)
        have y0' : decide (0 < a.length) = true := decide_eq_true (by omega)
        have hdd : (digestedV a ++ digestedV b).length ≤ 60 := by rw [List.length_append]; omega
        have hdk : (linkV a b link).length ≤ 40 := by have := ltx_len (rootL a) b.length b.length a.length true link.reverse; unfold linkV; omega
        go_wp2_with fail
        have C13 := rootL_any LA.out _ w12 (HA.out.to HB12.out) (HG.out.to HB12.out)
        refine C13.mono ?_
        rintro e w13 ⟨rfl, hb⟩
        have HB13 := hide (below_to HB12.out (Nat.le_refl _) hb)
        have HO13 := hide (own_to4 HO12.out hb)
        clear hb C13 HB12 HO12
        have C14 : Calls Tryz.prog 40 #[.int .i64 (b.length : Int), .int .i64 (a.length : Int), .bool true, .string (bs (rootL a)), .slice Al link.length cl] w13 (LvR (linkV a b link) w13) := rlt_any b.length b.length a.length true (rootL a) link _ w13 ha1 g1 (Nat.le_refl _) (by omega) HLE.out (by rw [isD_len (root_isD a)]; decide) (fun x hx => by have := HLX.out x hx; omega) (HLk.out.to HB13.out)
        unfold LvR at C14
        go_wp2_with fail
        refine C14.mono ?_
        rintro e w14 ⟨v14, rfl, ho, hb⟩
        have HB14 := hide (below_to HB13.out (Nat.le_refl _) hb)
        have HO14 := hide (own_to4 HO13.out hb)
        have HT14 := hide (TextsAt.of_own ho)
        have HSM := hide (show ∀ s ∈ linkV a b link, s.length ≤ 1000000 from fun s hs => by
          have := ltx_small (old := rootL a) (by rw [isD_len (root_isD a)]; decide) _ _ _ _ _ (fun d hd => by have := HLX.out d (by simpa using hd); omega) s hs
          omega)
        clear hb C14 HB13 HO13 ho
        generalize linkV a b link = LK at *
        have HSA := hide (dig_small (fun x hx => by have := LA.out.lx x hx; omega) : ∀ s ∈ digestedV a, s.length ≤ 1000000)
        have HSB := hide (dig_small (fun x hx => by have := LB.out.lx x hx; omega) : ∀ s ∈ digestedV b, s.length ≤ 1000000)
        have HSD : Hid (∀ s ∈ digestedV a ++ digestedV b, s.length ≤ 1000000) := fun s hs => (List.mem_append.1 hs).elim (HSA.out s) (HSB.out s)
        clear hda hdb HSA HSB
        generalize digestedV a ++ digestedV b = DD at *
        go_wp2_with (at_builtin; refine wpList_append_texts rfl (.tmp 73) (.tmp 81) rfl w.heap.size v12 DD rfl HO14.out v14 LK rfl HT14.out (by omega) HB14.out.size ?_)
        intro v15 w15 ho hgr _
        have HB15 := hide (HB14.out.trans (below_grown hgr HB14.out.size (fun g e => (own_blk_lt HO14.out g e).1)))
        have C16 := shown_app HCOLL.out (by omega) HSD.out HSM.out w15 v15 (TextsAt.of_own ho)
        clear ho hgr HB14 HO14 HT14
        go_wp2_with fail
        refine C16.mono ?_
        rintro e w16 ⟨rfl, hb⟩
        have HB16 := hide (below_to HB15.out (Nat.le_refl _) hb)
        clear hb C16 HB15
        go_wp2_with fail
        go_ret
        exact ⟨rfl, HB16.out⟩
    · have h0 : (growE (rootL a) a.length (rootL b) b.length link != 0) = true := by rw [bne_iff_ne]; exact hge
      clear hge
      generalize growE (rootL a) a.length (rootL b) b.length link = E at *
      go_wp2_with fail
      go_ret
      exact ⟨rfl, HB5.out⟩
  · have hh : (!fewI a || (!fewI b || (decide ((30 : Int) < (link.length : Int)) || !fewT link 60))) = true := by
      cases h1 : fewI a
      · rfl
      · cases h2 : fewI b
        · rfl
        · cases h4 : fewT link 60
          · simp
          · by_cases h3 : link.length ≤ 30
            · exact absurd ⟨h1, h2, h3, h4⟩ hno
            · simp; omega
    clear hno
    generalize fewI a = b1 at *
    generalize fewI b = b2 at *
    generalize fewT link 60 = b4 at *
    generalize c0 : decide ((30 : Int) < (link.length : Int)) = b3 at *
    have c0' : decide (30 < link.length) = b3 := by rw [← c0]; exact decide_eq_decide.2 (by omega)
    cases b1 <;> cases b2 <;> cases b3 <;> cases b4 <;> (try cases hh)
    all_goals
      go_enter Tryz.func9, Tryz.ntmps9
      go_wp2_with fail
      refine C1.mono ?_
      rintro e w1 ⟨rfl, hb⟩
      have HB1 := hide hb
      have CA := CA w1 hb
      have CB := CB w1 hb
      have CK := CK w1 hb
      clear hb C1
      go_wp2_with (first | ((with_reducible refine CA.mono ?_); rintro e w3 ⟨rfl, e9⟩; have e9 := e9.symm; subst e9) | ((with_reducible refine CB.mono ?_); rintro e w3 ⟨rfl, e9⟩; have e9 := e9.symm; subst e9) | ((with_reducible refine CK.mono ?_); rintro e w3 ⟨rfl, e9⟩; have e9 := e9.symm; subst e9))
      go_ret
      exact ⟨rfl, HB1.out⟩
end Go.Proofs.YtfhanbiifjiklaaGreatDoor
