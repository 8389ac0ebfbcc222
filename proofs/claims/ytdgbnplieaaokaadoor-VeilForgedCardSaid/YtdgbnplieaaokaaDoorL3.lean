/- Walk of the law VeilOtherKeys. -/
import Derived.Test.YtdgbnplieaaokaaDoorV8
import Derived.Test.YtdgbnplieaaokaaDoorLC
import Derived.Deep.RegionWith
import Derived.Deep.DrawnRows
set_option linter.unusedVariables false
set_option linter.unusedSimpArgs false
namespace Go.Proofs.YtdgbnplieaaokaaDoor
open Go.RowKit

theorem Glob.drw {w : World} (h : Glob w) : Glob w.drew := h.to ((Below.refl _ w).drew)
theorem Blk.drw {w : World} {b : Nat} {t : TypeId} {cs : Array Value} (h : Blk w b t cs) : Blk w.drew b t cs := h
theorem Blk.new1 (w : World) (o : Obj) (t : TypeId) (cs : Array Value) : Blk ((w.alloc o).alloc (.cells cs t)) (w.heap.size + 1) t cs := by have := Blk.new (w.alloc o) t cs; rwa [show (w.alloc o).heap.size = w.heap.size + 1 by simp] at this
theorem Blk.new2 (w : World) (o : Obj) (t : TypeId) (cs : Array Value) : Blk ((w.alloc o).drew.alloc (.cells cs t)) (w.heap.size + 1) t cs := by have := Blk.new (w.alloc o).drew t cs; rwa [show (w.alloc o).drew.heap.size = w.heap.size + 1 by show (w.alloc o).heap.size = _; simp] at this
theorem mark_len {key salt hid : List UInt8} (h1 : key.length ≤ 140737488351232) (h2 : salt.length = 16) (h3 : hid.length = 10) : (joinD [markT, key, salt, hid]).length ≤ 140737488355328 := by
  have := join_len [markT, key, salt, hid] (fun l hl => by
    simp only [List.mem_cons, List.not_mem_nil, or_false] at hl
    rcases hl with rfl | rfl | rfl | rfl
    · decide
    all_goals omega)
  have e : markT.length = 4 := rfl
  simp only [List.map_cons, List.map_nil, List.sum_cons, List.sum_nil, List.length_cons, List.length_nil, e] at this
  omega
set_option maxHeartbeats 8000000 in
theorem other_law (key other salt : List UInt8) (x y : Int) (hk : key.length ≤ 140737488351232) (ho : other.length ≤ 140737488351232) (hs : salt.length ≤ 140737488351232) (w : World) (hg : Glob w) :
    Calls Tryd.prog 4 #[.string (bs key), .string (bs other), .string (bs salt), pval x y] w fun e w' => e = .returned (.bool true) ∧ Below w.heap.size w w' := by
  have HK := hide hk
  have HO := hide ho
  have HS := hide hs
  clear hk hs ho
  have HB := hide (below_one w (.cells #[.int .i64 x, .int .i64 y] 23))
  have HG := hide (hg.alloc (.cells #[.int .i64 x, .int .i64 y] 23))
  have Hp := hide (Blk.new w 23 #[.int .i64 x, .int .i64 y])
  clear hg
  go_enter Tryd.func4, Tryd.ntmps4
  unfold pval
  go_wp2_with fail
  generalize w.alloc (.cells #[.int .i64 x, .int .i64 y] 23) = w1 at *
  obtain ⟨Bp, HBp⟩ : ∃ A, Hid (w.heap.size = A) := ⟨_, rfl⟩
  rw [HBp.out] at Hp ⊢
  refine (head_any _ HG.out).mono ?_
  rintro e w2 ⟨rfl, hb⟩
  have HB2 := hide (below_to HB.out (Nat.le_refl _) hb)
  have HG2 := hide (HG.out.to hb)
  have Hp2 := hide (Hp.out.to hb)
  clear hb HB HG Hp
  have p0 := Hp2.out.cell 0
  have p1 := Hp2.out.cell 1
  go_wp2_with fail
  refine (Lock_any key salt x y HK.out HS.out _ HG2.out).mono ?_
  rintro e w3 ⟨rfl, hb⟩
  have HB3 := hide (below_to HB2.out (Nat.le_refl _) hb)
  have HG3 := hide (HG2.out.to hb)
  clear hb HB2 HG2 Hp2 p0 p1
  go_wp2_with fail
  have HS3 : Hid (Blk (w3.alloc (.cells #[.string (bs key), .string (bs other), .string (bs salt)] 9)) w3.heap.size 9 (strC [key, other, salt])) := Blk.new w3 _ _
  have HB4 := hide (below_alloc HB3.out (Nat.le_refl _) (.cells #[.string (bs key), .string (bs other), .string (bs salt)] 9))
  have HG4 := hide (HG3.out.alloc (.cells #[.string (bs key), .string (bs other), .string (bs salt)] 9))
  clear HB3 HG3
  generalize w3.alloc (.cells #[.string (bs key), .string (bs other), .string (bs salt)] 9) = w4 at *
  generalize w3.heap.size = A at *
  refine (short_any [key, other, salt] _ _ _ HS3.out (by simp) (fun l hl => by
    simp only [List.mem_cons, List.not_mem_nil, or_false] at hl
    have h1 := HK.out; have h2 := HO.out; have h3 := HS.out
    rcases hl with rfl | rfl | rfl <;> omega)).mono ?_
  rintro e w5 ⟨rfl, rfl⟩
  cases hsh : shortP [key, other, salt]
  · go_wp2_with fail
    go_ret
    exact ⟨ret_bool rfl, HB4.out⟩
  clear hsh HS3
  by_cases hko : key = other
  · have hke : ((bs key).toList == (bs other).toList) = true := by rw [hko]; simp
    clear hko
    go_wp2_with fail
    go_ret
    exact ⟨ret_bool rfl, HB4.out⟩
  have hke : ((bs key).toList == (bs other).toList) = false := by rw [bs_toList, bs_toList]; simpa using hko
  clear hko
  cases hc : canL salt x y
  · rw [(lock_not (key := key) hc).1]
    clear hc
    go_wp2_with fail
    go_ret
    exact ⟨ret_bool rfl, HB4.out⟩
  rw [lockE_can hc]
  obtain ⟨m1, m2, m3, m4⟩ := lock_parts (key := key) hc
  have hiv := lock_isV (key := key) hc
  have h16 : salt.length = 16 := ((isD_iff _).1 (by unfold canL at hc; simp only [Bool.and_eq_true] at hc; exact hc.1)).1
  have h10 := (hidP_spec key salt (show onP x y = true by unfold canL at hc; simp only [Bool.and_eq_true] at hc; exact hc.2)).1
  have s1 : (bs (lockP key salt x y)).size = 42 := by rw [bs_size, m4]
  have e1 : (bs (lockP key salt x y)).extract 16 26 = bs (hidP key salt x y) := by rw [bs_cut]; exact congrArg bs m2
  have HJ1 := hide (mark_len HK.out h16 h10)
  have HJ2 := hide (mark_len HO.out h16 h10)
  have HE : Hid (openE other (lockP key salt x y) = 15 ∨ (openE other (lockP key salt x y) = 0 ∧ listD [markT, key, salt, hidP key salt x y] = listD [markT, other, salt, hidP key salt x y])) := by
    show _ ∨ _
    cases hg : goodV other (lockP key salt x y)
    · left; rw [(open_bad hg).2.2, hiv]; rfl
    · right
      refine ⟨(open_good hg).2.2, ?_⟩
      unfold goodV at hg
      simp only [Bool.and_eq_true, decide_eq_true_eq] at hg
      have := hg.2.1
      rw [m1, m2, m3] at this
      exact this
  go_wp2_with fail
  refine (Open_any other (lockP key salt x y) HO.out (by rw [m4]; decide) _ HG4.out).mono ?_
  unfold pval
  rintro e w5 ⟨rfl, hb⟩
  have HB5a := hide (below_to HB4.out (Nat.le_refl _) hb)
  have HG5a := hide (HG4.out.to hb)
  clear hb HB4 HG4 m1 m2 m3 m4 hiv h16 h10 hc
  generalize bs (lockP key salt x y) = S at *
  generalize openX other (lockP key salt x y) = X at *
  generalize openY other (lockP key salt x y) = Y at *
  generalize openE other (lockP key salt x y) = E at *
  generalize hidP key salt x y = hd at *
  go_wp2_with fail
  have HB5 := hide (below_alloc HB5a.out (Nat.le_refl _) (.cells #[.int .i64 X, .int .i64 Y] 23))
  have HG5 := hide (HG5a.out.alloc (.cells #[.int .i64 X, .int .i64 Y] 23))
  clear HB5a HG5a
  generalize w5.alloc (.cells #[.int .i64 X, .int .i64 Y] 23) = w6 at *
  generalize w5.heap.size = A6 at *
  have L1 : ∀ (b : Nat) (w' : World), Blk w' b 9 #[.string ⟨#[109, 97, 114, 107]⟩, .string (bs key), .string (bs salt), .string (bs hd)] → Glob w' → Calls Tryd.prog 15 #[.slice (some ⟨b, 0, none⟩) 4 4] w' fun e w'' => e = .returned (.string (bs (listD [markT, key, salt, hd]))) ∧ Below w'.heap.size w' w'' := fun b w' h h' => List_any [markT, key, salt, hd] b _ w' h (by simp) HJ1.out h'
  have L2 : ∀ (b : Nat) (w' : World), Blk w' b 9 #[.string ⟨#[109, 97, 114, 107]⟩, .string (bs other), .string (bs salt), .string (bs hd)] → Glob w' → Calls Tryd.prog 15 #[.slice (some ⟨b, 0, none⟩) 4 4] w' fun e w'' => e = .returned (.string (bs (listD [markT, other, salt, hd]))) ∧ Below w'.heap.size w' w'' := fun b w' h h' => List_any [markT, other, salt, hd] b _ w' h (by simp) HJ2.out h'
  clear HJ1 HJ2
  go_region_with (go_at_call 15; (first | (refine (L1 _ _ ?_ ?_).mono ?_; (focus ((repeat (first | with_reducible exact Blk.new _ _ _ | with_reducible exact Blk.new1 _ _ _ _ | with_reducible exact Blk.new2 _ _ _ _ | with_reducible refine Blk.drw ?_ | with_reducible refine Blk.alloc ?_ _ | with_reducible refine Blk.to ?_ (by assumption))); done)); (focus ((repeat (first | with_reducible exact HG5.out | with_reducible refine Glob.drw ?_ | with_reducible refine Glob.alloc ?_ _ | with_reducible refine Glob.to ?_ (by assumption))); done))) | (refine (L2 _ _ ?_ ?_).mono ?_; (focus ((repeat (first | with_reducible exact Blk.new _ _ _ | with_reducible exact Blk.new1 _ _ _ _ | with_reducible exact Blk.new2 _ _ _ _ | with_reducible refine Blk.drw ?_ | with_reducible refine Blk.alloc ?_ _ | with_reducible refine Blk.to ?_ (by assumption))); done)); (focus ((repeat (first | with_reducible exact HG5.out | with_reducible refine Glob.drw ?_ | with_reducible refine Glob.alloc ?_ _ | with_reducible refine Glob.to ?_ (by assumption))); done))) | fail); rintro e wn ⟨rfl, hb⟩)
  all_goals (clear L1 L2 e1 s1 hke; obtain he | ⟨he, hl⟩ := HE.out)
  all_goals clear HE
  all_goals subst he
  all_goals first | rw [hl] | skip
  all_goals (go_wp2_with fail; go_ret)
  all_goals (refine ⟨ret_bool rfl, ?_⟩; (repeat (first | with_reducible exact HB5.out | with_reducible refine Below.drew ?_ | with_reducible refine below_alloc ?_ (Nat.le_refl _) _ | with_reducible refine below_to ?_ (Nat.le_refl _) (by assumption))))
end Go.Proofs.YtdgbnplieaaokaaDoor
