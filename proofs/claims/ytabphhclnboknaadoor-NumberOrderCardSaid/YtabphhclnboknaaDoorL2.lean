/- Walk of the law NumberOrder. -/
import Derived.Test.YtabphhclnboknaaDoorLC
set_option linter.unusedVariables false
set_option linter.unusedSimpArgs false
namespace Go.Proofs.YtabphhclnboknaaDoor
open Go.RowKit

set_option maxHeartbeats 4000000 in
theorem order_law (a b c : HN) (w : World) (ha : a.fit) (hb : b.fit) (hc : c.fit) (hg : Glob w) : Calls Tryd.prog 4 #[hval a, hval b, hval c] w fun e w' => e = .returned (.bool true) ∧ Below w.heap.size w w' := by
  have HX := hide (hNew3 w a b c)
  have HB := hide (below3 w (.cells #[.int .i64 a.n, .string ⟨a.l.toArray⟩, .int .i64 a.num, .int .i64 a.den] 23) (.cells #[.int .i64 b.n, .string ⟨b.l.toArray⟩, .int .i64 b.num, .int .i64 b.den] 23) (.cells #[.int .i64 c.n, .string ⟨c.l.toArray⟩, .int .i64 c.num, .int .i64 c.den] 23))
  have HG := hide (glob3 hg (.cells #[.int .i64 a.n, .string ⟨a.l.toArray⟩, .int .i64 a.num, .int .i64 a.den] 23) (.cells #[.int .i64 b.n, .string ⟨b.l.toArray⟩, .int .i64 b.num, .int .i64 b.den] 23) (.cells #[.int .i64 c.n, .string ⟨c.l.toArray⟩, .int .i64 c.num, .int .i64 c.den] 23))
  have HS := hide (size3 w (.cells #[.int .i64 a.n, .string ⟨a.l.toArray⟩, .int .i64 a.num, .int .i64 a.den] 23) (.cells #[.int .i64 b.n, .string ⟨b.l.toArray⟩, .int .i64 b.num, .int .i64 b.den] 23) (.cells #[.int .i64 c.n, .string ⟨c.l.toArray⟩, .int .i64 c.num, .int .i64 c.den] 23))
  have HA := hide ha
  have HBf := hide hb
  have HC := hide hc
  clear ha hb hc hg
  go_enter Tryd.func4, Tryd.ntmps4
  unfold hval
  go_wp2_with fail
  generalize ((w.alloc (.cells #[.int .i64 a.n, .string ⟨a.l.toArray⟩, .int .i64 a.num, .int .i64 a.den] 23)).alloc (.cells #[.int .i64 b.n, .string ⟨b.l.toArray⟩, .int .i64 b.num, .int .i64 b.den] 23)).alloc (.cells #[.int .i64 c.n, .string ⟨c.l.toArray⟩, .int .i64 c.num, .int .i64 c.den] 23) = w1 at *
  refine (head_any _ HG.out).mono ?_
  rintro e w2 ⟨rfl, hb⟩
  have HB2 := hide (HB.out.trans (hb.mono HB.out.size))
  have HX2 := hide (show HBox w2 w.heap.size a ∧ HBox w2 (w.heap.size + 1) b ∧ HBox w2 (w.heap.size + 2) c from ⟨HX.out.1.below hb HX.out.1.blk.lt, HX.out.2.1.below hb HX.out.2.1.blk.lt, HX.out.2.2.below hb HX.out.2.2.blk.lt⟩)
  clear hb HX HB HG HS
  obtain ⟨U, hU, g, u0, rfl, hgu, hi⟩ := cls w2
  obtain ⟨x0, x1, x2, x3⟩ := box_all hgu HX2.out.1
  obtain ⟨y0, y1, y2, y3⟩ := box_all hgu HX2.out.2.1
  obtain ⟨z0, z1, z2, z3⟩ := box_all hgu HX2.out.2.2
  have CA := cls_call hgu hi (fun w _ => Valid_any a w HA.out)
  have CB := cls_call hgu hi (fun w _ => Valid_any b w HBf.out)
  have CC := cls_call hgu hi (fun w _ => Valid_any c w HC.out)
  unfold hval at CA CB CC
  cases hva : a.valid
  · rw [hva] at CA
    clear CB CC
    go_wp2_with ((with_reducible refine (CA _).mono ?_); rintro e w' ⟨rfl, u, rfl⟩)
    go_ret
    exact ⟨ret_bool rfl, HB2.out.trans ((hgu u).mono HB2.out.size)⟩
  cases hvb : b.valid
  · rw [hva] at CA
    rw [hvb] at CB
    clear CC
    go_wp2_with (first | ((with_reducible refine (CA _).mono ?_); rintro e w' ⟨rfl, u, rfl⟩) | ((with_reducible refine (CB _).mono ?_); rintro e w' ⟨rfl, u, rfl⟩))
    go_ret
    exact ⟨ret_bool rfl, HB2.out.trans ((hgu u).mono HB2.out.size)⟩
  cases hvc : c.valid
  · rw [hva] at CA
    rw [hvb] at CB
    rw [hvc] at CC
    go_wp2_with (first | ((with_reducible refine (CA _).mono ?_); rintro e w' ⟨rfl, u, rfl⟩) | ((with_reducible refine (CB _).mono ?_); rintro e w' ⟨rfl, u, rfl⟩) | ((with_reducible refine (CC _).mono ?_); rintro e w' ⟨rfl, u, rfl⟩))
    go_ret
    exact ⟨ret_bool rfl, HB2.out.trans ((hgu u).mono HB2.out.size)⟩
  rw [hva] at CA
  rw [hvb] at CB
  rw [hvc] at CC
  have DA := cls_call hgu hi (fun w _ => Compare_any a b w HA.out HBf.out)
  have DB := cls_call hgu hi (fun w _ => Compare_any b a w HBf.out HA.out)
  have EA := cls_call hgu hi (fun w _ => less_any a b w HA.out HBf.out)
  have EB := cls_call hgu hi (fun w _ => less_any b c w HBf.out HC.out)
  have EC := cls_call hgu hi (fun w _ => less_any a c w HA.out HC.out)
  unfold hval at DA DB EA EB EC
  have e1 := cmpV_key hva hvb
  have e2 := cmpV_key hvb hva
  rw [e1.1, e1.2] at DA
  rw [e2.1, e2.2, sgn_swap] at DB
  obtain ⟨s1, s2, s3, s4⟩ := sgn_rng a.key b.key
  have hab : sgn a.key b.key = 0 ↔ a = b := ⟨fun h => key_inj hva hvb (s3.1 h), fun h => s3.2 (by rw [h])⟩
  have htr : a.lt b = true → b.lt c = true → a.lt c = true := fun h h' => lt_trans' h h'
  have HH := hide (And.intro hab htr)
  clear e1 e2 s3 s4 hab htr hva hvb hvc
  generalize a.lt b = p at *
  generalize b.lt c = q at *
  generalize a.lt c = r at *
  generalize sgn a.key b.key = x at *
  have hx : x = -1 ∨ x = 0 ∨ x = 1 := by omega
  clear s1 s2
  rcases hx with rfl | rfl | rfl
  · have hq : ∀ w : World, (binOp .eql 23 (.agg #[.int .i64 a.n, .string ⟨a.l.toArray⟩, .int .i64 a.num, .int .i64 a.den]) (.agg #[.int .i64 b.n, .string ⟨b.l.toArray⟩, .int .i64 b.num, .int .i64 b.den])).run Tryd.prog w = .ok (.bool false) w := eql_no (fun h => by have := HH.out.1.2 h; omega)
    go_wp2_with (first | ((with_reducible refine (CA _).mono ?_); rintro e w' ⟨rfl, u, rfl⟩) | ((with_reducible refine (CB _).mono ?_); rintro e w' ⟨rfl, u, rfl⟩) | ((with_reducible refine (CC _).mono ?_); rintro e w' ⟨rfl, u, rfl⟩) | ((with_reducible refine (DA _).mono ?_); rintro e w' ⟨rfl, u, rfl⟩) | ((with_reducible refine (DB _).mono ?_); rintro e w' ⟨rfl, u, rfl⟩) | ((with_reducible refine (EA _).mono ?_); rintro e w' ⟨rfl, u, rfl⟩) | ((with_reducible refine (EB _).mono ?_); rintro e w' ⟨rfl, u, rfl⟩) | ((with_reducible refine (EC _).mono ?_); rintro e w' ⟨rfl, u, rfl⟩))
    all_goals
      go_ret
      exact ⟨ret_bool (by first | rfl | exact HH.out.2 (by assumption) (by assumption)), HB2.out.trans ((hgu _).mono HB2.out.size)⟩
  · obtain rfl := HH.out.1.1 rfl
    go_wp2_with (first | ((with_reducible refine (CA _).mono ?_); rintro e w' ⟨rfl, u, rfl⟩) | ((with_reducible refine (CB _).mono ?_); rintro e w' ⟨rfl, u, rfl⟩) | ((with_reducible refine (CC _).mono ?_); rintro e w' ⟨rfl, u, rfl⟩) | ((with_reducible refine (DA _).mono ?_); rintro e w' ⟨rfl, u, rfl⟩) | ((with_reducible refine (DB _).mono ?_); rintro e w' ⟨rfl, u, rfl⟩) | ((with_reducible refine (EA _).mono ?_); rintro e w' ⟨rfl, u, rfl⟩) | ((with_reducible refine (EB _).mono ?_); rintro e w' ⟨rfl, u, rfl⟩) | ((with_reducible refine (EC _).mono ?_); rintro e w' ⟨rfl, u, rfl⟩))
    all_goals
      go_ret
      exact ⟨ret_bool (by first | rfl | exact HH.out.2 (by assumption) (by assumption)), HB2.out.trans ((hgu _).mono HB2.out.size)⟩
  · have hq : ∀ w : World, (binOp .eql 23 (.agg #[.int .i64 a.n, .string ⟨a.l.toArray⟩, .int .i64 a.num, .int .i64 a.den]) (.agg #[.int .i64 b.n, .string ⟨b.l.toArray⟩, .int .i64 b.num, .int .i64 b.den])).run Tryd.prog w = .ok (.bool false) w := eql_no (fun h => by have := HH.out.1.2 h; omega)
    go_wp2_with (first | ((with_reducible refine (CA _).mono ?_); rintro e w' ⟨rfl, u, rfl⟩) | ((with_reducible refine (CB _).mono ?_); rintro e w' ⟨rfl, u, rfl⟩) | ((with_reducible refine (CC _).mono ?_); rintro e w' ⟨rfl, u, rfl⟩) | ((with_reducible refine (DA _).mono ?_); rintro e w' ⟨rfl, u, rfl⟩) | ((with_reducible refine (DB _).mono ?_); rintro e w' ⟨rfl, u, rfl⟩) | ((with_reducible refine (EA _).mono ?_); rintro e w' ⟨rfl, u, rfl⟩) | ((with_reducible refine (EB _).mono ?_); rintro e w' ⟨rfl, u, rfl⟩) | ((with_reducible refine (EC _).mono ?_); rintro e w' ⟨rfl, u, rfl⟩))
    all_goals
      go_ret
      exact ⟨ret_bool (by first | rfl | exact HH.out.2 (by assumption) (by assumption)), HB2.out.trans ((hgu _).mono HB2.out.size)⟩
end Go.Proofs.YtabphhclnboknaaDoor
