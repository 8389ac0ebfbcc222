/- Walk of the law VeilForm. -/
import Derived.Test.YtdgbnplieaaokaaDoorV8
import Derived.Test.YtdgbnplieaaokaaDoorLC
set_option linter.unusedVariables false
set_option linter.unusedSimpArgs false
namespace Go.Proofs.YtdgbnplieaaokaaDoor
open Go.RowKit

theorem lock_inj {key salt : List UInt8} {x y u v : Int} (h1 : canL salt x y = true) (h2 : canL salt u v = true) (e : lockP key salt x y = lockP key salt u v) : x = u ∧ y = v := by
  obtain ⟨_, a, b⟩ := lock_open (key := key) h1
  obtain ⟨_, c, d⟩ := lock_open (key := key) h2
  rw [e] at a b
  exact ⟨a.symm.trans c, b.symm.trans d⟩
set_option maxHeartbeats 8000000 in
theorem form_law (key other salt : List UInt8) (x y u v : Int) (hk : key.length ≤ 140737488351232) (ho : other.length ≤ 140737488351232) (hs : salt.length ≤ 140737488351232) (w : World) (hg : Glob w) :
    Calls Tryd.prog 6 #[.string (bs key), .string (bs other), .string (bs salt), pval x y, pval u v] w fun e w' => e = .returned (.bool true) ∧ Below w.heap.size w w' := by
  have HK := hide hk
  have HO := hide ho
  have HS := hide hs
  clear hk hs ho
  have HB := hide (below_two w (.cells #[.int .i64 x, .int .i64 y] 23) (.cells #[.int .i64 u, .int .i64 v] 23))
  have HG := hide ((hg.alloc (.cells #[.int .i64 x, .int .i64 y] 23)).alloc (.cells #[.int .i64 u, .int .i64 v] 23))
  have Hp := hide ((Blk.new w 23 #[.int .i64 x, .int .i64 y]).alloc (.cells #[.int .i64 u, .int .i64 v] 23))
  have Hq : Hid (Blk ((w.alloc (.cells #[.int .i64 x, .int .i64 y] 23)).alloc (.cells #[.int .i64 u, .int .i64 v] 23)) (w.heap.size + 1) 23 #[.int .i64 u, .int .i64 v]) := by have := Blk.new (w.alloc (.cells #[.int .i64 x, .int .i64 y] 23)) 23 #[.int .i64 u, .int .i64 v]; show Blk _ _ _ _; simpa using this
  clear hg
  go_enter Tryd.func6, Tryd.ntmps6
  unfold pval
  go_wp2_with fail
  generalize (w.alloc (.cells #[.int .i64 x, .int .i64 y] 23)).alloc (.cells #[.int .i64 u, .int .i64 v] 23) = w1 at *
  obtain ⟨Bq, HBq⟩ : ∃ A, Hid (w.heap.size + 1 = A) := ⟨_, rfl⟩
  rw [HBq.out] at Hq ⊢
  obtain ⟨Bp, HBp⟩ : ∃ A, Hid (w.heap.size = A) := ⟨_, rfl⟩
  rw [HBp.out] at Hp ⊢
  refine (head_any _ HG.out).mono ?_
  rintro e w2 ⟨rfl, hb⟩
  have HB2 := hide (below_to HB.out (Nat.le_refl _) hb)
  have HG2 := hide (HG.out.to hb)
  have Hp2 := hide (Hp.out.to hb)
  have Hq2 := hide (Hq.out.to hb)
  clear hb HB HG Hp Hq
  obtain ⟨U, hU, g, u0, rfl, hgu, hi⟩ := cls w2
  have p0 := blk_all hgu Hp2.out 0 rfl
  have p1 := blk_all hgu Hp2.out 1 rfl
  have q0 := blk_all hgu Hq2.out 0 rfl
  have q1 := blk_all hgu Hq2.out 1 rfl
  have C1 := cls_call hgu hi (fun w hb => Lock_any key salt x y HK.out HS.out w (HG2.out.to hb))
  have C2 := cls_call hgu hi (fun w hb => Lock_any other salt u v HO.out HS.out w (HG2.out.to hb))
  have C3 := cls_call hgu hi (fun w hb => Lock_any key salt u v HK.out HS.out w (HG2.out.to hb))
  unfold pval at C1 C2 C3
  go_wp2_with (first | ((with_reducible refine (C1 _).mono ?_); rintro e w' ⟨rfl, uz, rfl⟩) | ((with_reducible refine (C2 _).mono ?_); rintro e w' ⟨rfl, uz, rfl⟩) | ((with_reducible refine (C3 _).mono ?_); rintro e w' ⟨rfl, uz, rfl⟩))
  have HS3 : Hid (Blk ((g uz).alloc (.cells #[.string (bs key), .string (bs other), .string (bs salt)] 9)) (g uz).heap.size 9 (strC [key, other, salt])) := Blk.new (g uz) _ _
  have HB3 := hide (below_alloc (below_to HB2.out (Nat.le_refl _) (hgu uz)) (Nat.le_refl _) (.cells #[.string (bs key), .string (bs other), .string (bs salt)] 9))
  have Hp3 := hide ((Hp2.out.to (hgu uz)).alloc (.cells #[.string (bs key), .string (bs other), .string (bs salt)] 9))
  have Hq3 := hide ((Hq2.out.to (hgu uz)).alloc (.cells #[.string (bs key), .string (bs other), .string (bs salt)] 9))
  clear p0 p1 q0 q1 C1 C2 C3 HB2 HG2
  generalize (g uz).alloc (.cells #[.string (bs key), .string (bs other), .string (bs salt)] 9) = w3 at *
  generalize (g uz).heap.size = A at *
  clear Hp2 Hq2 hgu hi
  refine (short_any [key, other, salt] _ _ _ HS3.out (by simp) (fun l hl => by
    simp only [List.mem_cons, List.not_mem_nil, or_false] at hl
    have h1 := HK.out; have h2 := HO.out; have h3 := HS.out
    rcases hl with rfl | rfl | rfl <;> omega)).mono ?_
  rintro e w4 ⟨rfl, rfl⟩
  cases hsh : shortP [key, other, salt]
  · go_wp2_with fail
    go_ret
    exact ⟨ret_bool rfl, HB3.out⟩
  clear hsh HS3
  cases hc1 : canL salt x y
  · rw [(lock_not (key := key) hc1).1]
    clear hc1
    go_wp2_with fail
    go_ret
    exact ⟨ret_bool rfl, HB3.out⟩
  cases hc2 : canL salt u v
  · rw [lockE_can hc1, (lock_not (key := key) hc2).1]
    clear hc1 hc2
    go_wp2_with fail
    go_ret
    exact ⟨ret_bool rfl, HB3.out⟩
  rw [lockE_can hc1, lockE_can hc2]
  have s1 : (bs (lockP key salt x y)).size = 42 := by rw [bs_size, lock_len hc1]
  have s2 : (bs (lockP other salt u v)).size = 42 := by rw [bs_size, lock_len hc2]
  have e1 : (bs (lockP key salt x y)).extract 0 16 = bs salt := by rw [bs_cut]; exact congrArg bs (lock_parts hc1).1
  have e2 : (bs (lockP other salt u v)).extract 0 16 = bs salt := by rw [bs_cut]; exact congrArg bs (lock_parts hc2).1
  obtain ⟨U3, hU3, g3, u30, rfl, hgu3, hi3⟩ := cls w3
  have p0 := blk_all hgu3 Hp3.out 0 rfl
  have p1 := blk_all hgu3 Hp3.out 1 rfl
  have q0 := blk_all hgu3 Hq3.out 0 rfl
  have q1 := blk_all hgu3 Hq3.out 1 rfl
  have D1 := cls_call hgu3 hi3 (fun w _ => vIs_any (lockP key salt x y) (by rw [lock_len hc1]; decide) w)
  have D2 := cls_call hgu3 hi3 (fun w _ => vIs_any (lockP other salt u v) (by rw [lock_len hc2]; decide) w)
  rw [lock_isV hc1] at D1
  rw [lock_isV hc2] at D2
  have hq := pt_eql_dec x y u v
  by_cases hpq : x = u ∧ y = v
  · have heq : ((bs (lockP key salt x y)).toList == (bs (lockP key salt u v)).toList) = true := by rw [hpq.1, hpq.2]; simp
    rw [decide_eq_true hpq] at hq
    clear hpq hc1 hc2
    generalize bs (lockP key salt x y) = S1 at *
    generalize bs (lockP other salt u v) = S2 at *
    generalize bs (lockP key salt u v) = S3 at *
    go_wp2_with (first | ((with_reducible refine (D1 _).mono ?_); rintro e w' ⟨rfl, u, rfl⟩) | ((with_reducible refine (D2 _).mono ?_); rintro e w' ⟨rfl, u, rfl⟩))
    go_ret
    exact ⟨ret_bool (by first | rfl | simp), below_to HB3.out (Nat.le_refl _) (hgu3 _)⟩
  · have heq : ((bs (lockP key salt x y)).toList == (bs (lockP key salt u v)).toList) = false := by rw [bs_toList, bs_toList]; simpa using fun h => hpq (lock_inj hc1 hc2 h)
    rw [decide_eq_false hpq] at hq
    clear hpq hc1 hc2
    generalize bs (lockP key salt x y) = S1 at *
    generalize bs (lockP other salt u v) = S2 at *
    generalize bs (lockP key salt u v) = S3 at *
    go_wp2_with (first | ((with_reducible refine (D1 _).mono ?_); rintro e w' ⟨rfl, u, rfl⟩) | ((with_reducible refine (D2 _).mono ?_); rintro e w' ⟨rfl, u, rfl⟩))
    go_ret
    exact ⟨ret_bool (by first | rfl | simp), below_to HB3.out (Nat.le_refl _) (hgu3 _)⟩
end Go.Proofs.YtdgbnplieaaokaaDoor
