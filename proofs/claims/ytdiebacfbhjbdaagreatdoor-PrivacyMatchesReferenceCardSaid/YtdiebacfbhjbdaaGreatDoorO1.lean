/- The walk of the statement PrivacyOrders. -/
import Derived.Test.YtdiebacfbhjbdaaGreatDoorNX
set_option linter.unusedVariables false
set_option linter.unusedSimpArgs false
namespace Go.Proofs.YtdiebacfbhjbdaaGreatDoor
open Go.RowKit

theorem filter_at {α : Type} {p : α → Bool} : ∀ {l : List α} {k : Nat} {x : α}, l[k]? = some x → p x = true → (l.filter p)[((l.take k).filter p).length]? = some x
  | y :: l, 0, x, h, hp => by
    simp at h; subst h
    simp [hp]
  | y :: l, k + 1, x, h, hp => by
    have ih := filter_at (l := l) (k := k) (x := x) (by simpa using h) hp
    rw [List.take_succ_cons, List.filter_cons, List.filter_cons]
    split
    · simpa using ih
    · exact ih
  | [], k, x, h, _ => by simp at h
theorem orders_snoc (q : List UInt8) {l : List Od} {k : Nat} {x : Od} (h : l[k]? = some x) : (ordersP (l.take (k + 1)) q).length = (ordersP (l.take k) q).length + if x.p = q then 0 else 1 := by
  unfold ordersP
  rw [List.take_add_one, h]
  simp only [Option.toList_some, List.filter_append, List.length_append]
  by_cases hp : x.p = q <;> simp [hp]
theorem orders_again (l : List Od) (q : List UInt8) : ordersP (ordersP l q) q = ordersP l q := by
  unfold ordersP
  rw [List.filter_filter]
  congr 1
  funext x
  simp
theorem orders_le (l : List Od) (q : List UInt8) : (ordersP l q).length ≤ l.length := List.length_filter_le _ _
set_option maxRecDepth 100000 in
set_option maxHeartbeats 8000000 in
theorem orders_law (l : List Od) (hl : l.length ≤ 8796093022208) (q : List UInt8) (v : Value) (w : World) (hv : OdsAt w v l) (hg : Glob w) :
    Calls Tryz.prog 9 #[v, .string (bs q)] w fun e w' => e = .returned (.bool true) ∧ Below w.heap.size w w' := by
  obtain ⟨A, c, rfl⟩ := hv.slice
  have CH := head_any w hg
  have HS := hide hv
  clear hv hg
  by_cases h30 : l.length ≤ 30
  · have e0 : decide ((30 : Int) < (l.length : Int)) = false := decide_eq_false (by omega)
    go_enter Tryz.func9, Tryz.ntmps9
    go_wp2_with fail
    refine CH.mono ?_
    rintro e w1 ⟨rfl, hb⟩
    have HB1 := hide hb
    have HS1 := hide (HS.out.to hb)
    clear hb CH
    go_wp2_with fail
    refine (Orders_any l (by omega) q _ w1 HS1.out).mono ?_
    rintro e w2 ⟨v', rfl, hr, hb⟩
    have HB2 := hide (below_to HB1.out (Nat.le_refl _) hb)
    have HS2 := hide (HS1.out.to hb)
    have HR2 := hide hr
    clear hb HB1 HS1
    have HAG := hide (orders_again l q)
    have HLE := orders_le l q
    obtain ⟨B, d, rfl⟩ := hr.slice
    clear hr
    go_wp2_with fail
    go_loopw [7, 8] (fun n i wr => ∃ k : Nat, i = .int .i64 (k : Int) ∧ k ≤ l.length ∧ n = .int .i64 (((ordersP (l.take k) q).length : Nat) : Int) ∧ Aside (Below w2.heap.size w2 wr)) (fun _ i _ => l.length - (intOf i).toNat)
    case atStart => exact ⟨0, rfl, by omega, rfl, Below.refl _ _⟩
    case round =>
      obtain ⟨k, rfl, hk, rfl, hB⟩ := hrel
      have HB : Hid (Below w2.heap.size w2 wr) := hB
      clear hB
      by_cases hlt : k < l.length
      · have e1 : decide ((k : Int) < (l.length : Int)) = true := decide_eq_true (by omega)
        obtain ⟨x, hx⟩ : ∃ x, l[k]? = some x := ⟨_, List.getElem?_eq_getElem hlt⟩
        have HSN := hide (orders_snoc q hx)
        obtain ⟨a, rfl, ha, c0, c1, c2, c3, c4, c5⟩ := (HS2.out.to HB.out).at_ hx
        by_cases hp : x.p = q
        · have e2 : ((bs x.p).toList == (bs q).toList) = true := by rw [hp]; simp
          rw [if_pos hp] at HSN
          clear hx hp
          generalize (ordersP (l.take k) q).length = N at *
          go_wp2_with fail
          refine ⟨⟨k + 1, by go_num, by omega, by rw [HSN.out]; rfl, HB.out⟩, ?_⟩
          simp [intOf]; omega
        · have e2 : ((bs x.p).toList == (bs q).toList) = false := by rw [beq_eq_false_iff_ne, bs_toList, bs_toList]; exact hp
          rw [if_neg hp] at HSN
          have hat : (ordersP l q)[(ordersP (l.take k) q).length]? = some x := filter_at hx (by simp [hp])
          obtain ⟨a', hB', ha', d0, d1, d2, d3, d4, d5⟩ := (HR2.out.to HB.out).at_ hat
          have hNlt : (ordersP (l.take k) q).length < (ordersP l q).length := (List.getElem?_eq_some_iff.1 hat).1
          subst hB'
          have hq := odq_no x
          clear hx hp hat
          generalize (ordersP (l.take k) q).length = N at *
          generalize (ordersP l q).length = M at *
          have e3 : decide ((M : Int) ≤ (N : Int)) = false := decide_eq_false (by omega)
          have i0 : (0 : Int) ≤ (k : Int) := by omega
          have i1 : (k : Int) < (l.length : Int) := by omega
          have j0 : (0 : Int) ≤ (N : Int) := by omega
          have j1 : (N : Int) < (M : Int) := by omega
          go_wp2_with fail
          go_quiet (fail)
          go_wp2_with fail
          refine ⟨⟨k + 1, by go_num, by omega, by rw [HSN.out]; go_num, below_drewN HB.out _⟩, ?_⟩
          simp [intOf]; omega
      · obtain rfl : k = l.length := by omega
        have e1 : decide ((l.length : Int) < (l.length : Int)) = false := by simp
        rw [List.take_length]
        have CO' : Calls Tryz.prog 27 #[.slice B (ordersP l q).length d, .string (bs q)] wr (OrdersR (ordersP l q) q wr) := Orders_any (ordersP l q) (by omega) q _ wr (HR2.out.to HB.out)
        have HR3 := hide (HR2.out.to HB.out)
        generalize hP : ordersP l q = P at *
        clear hP
        have hPP : ((P.length : Int) == (P.length : Int)) = true := by simp
        go_wp2_with fail
        refine CO'.mono ?_
        rintro e w4 ⟨v4, rfl, hr4, hb4⟩
        rw [HAG.out] at hr4
        have CS := SameO_any P P (by omega) (by omega) v4 (.slice B P.length d) w4 hr4 (HR3.out.to hb4)
        have HB4 := hide (below_to HB2.out (Nat.le_refl _) (below_to HB.out (Nat.le_refl _) hb4))
        rw [decide_eq_true rfl] at CS
        clear hr4 hb4 CO'
        go_wp2_with fail
        refine CS.mono ?_
        rintro e w5 ⟨rfl, hb5⟩
        have HB5 := hide (below_to HB4.out (Nat.le_refl _) hb5)
        clear hb5 CS
        go_wp2_with fail
        go_ret
        exact ⟨rfl, HB5.out⟩
  · have e0 : decide ((30 : Int) < (l.length : Int)) = true := decide_eq_true (by omega)
    go_enter Tryz.func9, Tryz.ntmps9
    go_wp2_with fail
    refine CH.mono ?_
    rintro e w1 ⟨rfl, hb⟩
    have HB1 := hide hb
    clear hb CH
    go_wp2_with fail
    go_ret
    exact ⟨rfl, HB1.out⟩
end Go.Proofs.YtdiebacfbhjbdaaGreatDoor
