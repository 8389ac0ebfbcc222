/- Walk of the law VeilMatchesReference. -/
import Derived.Test.YtdgbnplieaaokaaGreatDoorV8
import Derived.Test.YtdgbnplieaaokaaGreatDoorLC
import Derived.Test.YtdgbnplieaaokaaGreatDoorH4
set_option linter.unusedVariables false
set_option linter.unusedSimpArgs false
namespace Go.Proofs.YtdgbnplieaaokaaGreatDoor
open Go.RowKit

set_option maxHeartbeats 8000000 in
theorem matches_law (key salt t : List UInt8) (x y : Int) (hk : key.length ≤ 140737488351232) (hs : salt.length ≤ 140737488351232) (ht : t.length ≤ 140737488351232) (w : World) (hg : Glob w) :
    Calls Tryz.prog 3 #[.string (bs key), .string (bs salt), pval x y, .string (bs t)] w fun e w' => e = .returned (.bool true) ∧ Below w.heap.size w w' := by
  have HK := hide hk
  have HS := hide hs
  have HT := hide ht
  clear hk hs ht
  have HB := hide (below_one w (.cells #[.int .i64 x, .int .i64 y] 23))
  have HG := hide (hg.alloc (.cells #[.int .i64 x, .int .i64 y] 23))
  have Hp := hide (Blk.new w 23 #[.int .i64 x, .int .i64 y])
  clear hg
  go_enter Tryz.func3, Tryz.ntmps3
  unfold pval
  go_wp2_with fail
  generalize w.alloc (.cells #[.int .i64 x, .int .i64 y] 23) = w1 at *
  obtain ⟨Bp, HBp⟩ : ∃ A, Hid (w.heap.size = A) := ⟨_, rfl⟩
  rw [HBp.out] at Hp ⊢
  refine (head_any _ HG.out).mono ?_
  rintro e w2 ⟨rfl, hb⟩
  have HB2 := hide (below_to HB.out (Nat.le_refl _) hb)
  have HG2 := hide (HG.out.to hb)
  have Hp2 := hide (Hp.out.to hb)
  clear hb HB HG Hp
  go_wp2_with fail
  have HS3 : Hid (Blk (w2.alloc (.cells #[.string (bs key), .string (bs salt), .string (bs t)] 9)) w2.heap.size 9 (strC [key, salt, t])) := Blk.new w2 _ _
  have HB3 := hide (below_alloc HB2.out (Nat.le_refl _) (.cells #[.string (bs key), .string (bs salt), .string (bs t)] 9))
  have HG3 := hide (HG2.out.alloc (.cells #[.string (bs key), .string (bs salt), .string (bs t)] 9))
  have Hp3 := hide (Hp2.out.alloc (.cells #[.string (bs key), .string (bs salt), .string (bs t)] 9))
  clear HB2 HG2 Hp2
  generalize w2.alloc (.cells #[.string (bs key), .string (bs salt), .string (bs t)] 9) = w3 at *
  generalize w2.heap.size = A at *
  refine (short_any [key, salt, t] _ _ _ HS3.out (by simp) (fun l hl => by
    simp only [List.mem_cons, List.not_mem_nil, or_false] at hl
    have h1 := HK.out; have h2 := HS.out; have h3 := HT.out
    rcases hl with rfl | rfl | rfl <;> omega)).mono ?_
  rintro e w4 ⟨rfl, rfl⟩
  cases hsh : shortP [key, salt, t]
  · go_wp2_with fail
    go_ret
    exact ⟨ret_bool rfl, HB3.out⟩
  obtain ⟨n1, n2, n3⟩ := short3 hsh
  have HN1 : Hid (key.length ≤ 1000000000) := by show _ ≤ _; omega
  have HN2 : Hid (salt.length ≤ 1000000000) := by show _ ≤ _; omega
  have HN3 : Hid (t.length ≤ 1000000000) := by show _ ≤ _; omega
  clear hsh HS3 n1 n2 n3
  obtain ⟨U, hU, g, u0, rfl, hgu, hi⟩ := cls w3
  have p0 := blk_all hgu Hp3.out 0 rfl
  have p1 := blk_all hgu Hp3.out 1 rfl
  have C1 := cls_call hgu hi (fun w hb => Lock_any key salt x y HK.out HS.out w (HG3.out.to hb))
  have C2 := cls_call hgu hi (fun w hb => rLock_any key salt x y HN1.out HN2.out w)
  have CO := cls_call hgu hi (fun w hb => Open_any key t HK.out HT.out w (HG3.out.to hb))
  have CR := fun w => rOpen_any key t HN1.out HN3.out w
  have CI := fun w => vIs_any t (by have := HT.out; omega) w
  have CV := fun w => rVIs_any t (by have := HT.out; omega) w
  unfold pval at C1 CO CR
  generalize bs (lockP key salt x y) = S at *
  generalize lockE salt x y = E at *
  generalize openX key t = X at *
  generalize openY key t = Y at *
  generalize openE key t = F at *
  generalize isV t = I at *
  go_wp2_with (first | ((with_reducible refine (C1 _).mono ?_); rintro e w' ⟨rfl, u, rfl⟩) | ((with_reducible refine (C2 _).mono ?_); rintro e w' ⟨rfl, u, rfl⟩))
  (with_reducible refine (CO _).mono ?_); rintro e w' ⟨rfl, u, rfl⟩
  clear C1 C2 CO p0 p1
  go_wp2_with fail
  have HB5 := hide (below_alloc (below_to HB3.out (Nat.le_refl _) (hgu u)) (Nat.le_refl _) (.cells #[.int .i64 X, .int .i64 Y] 23))
  have Hq5 := hide (Blk.new (g u) 23 #[.int .i64 X, .int .i64 Y])
  generalize (g u).alloc (.cells #[.int .i64 X, .int .i64 Y] 23) = w5 at *
  generalize (g u).heap.size = Q at *
  refine (CR _).mono ?_
  rintro e w6 ⟨rfl, hb⟩
  have HB6 := hide (below_to HB5.out (Nat.le_refl _) hb)
  have Hq6 := hide (Hq5.out.to hb)
  clear hb CR HB5 Hq5
  have q0 := Hq6.out.cell 0
  have q1 := Hq6.out.cell 1
  have q2 := Hq6.out.lt
  have q3 := Nat.ne_of_lt q2
  have he := pt_eql X Y
  go_wp2_with fail
  have HB7 := hide (below_alloc HB6.out (Nat.le_refl _) (.cells #[.int .i64 X, .int .i64 Y] 23))
  clear q0 q1 q2 q3 he HB6 Hq6
  generalize w6.alloc (.cells #[.int .i64 X, .int .i64 Y] 23) = w7 at *
  refine (CI _).mono ?_
  rintro e w8 ⟨rfl, hb⟩
  have HB8 := hide (below_to HB7.out (Nat.le_refl _) hb)
  clear hb HB7
  go_wp2_with fail
  refine (CV _).mono ?_
  rintro e w9 ⟨rfl, rfl⟩
  go_wp2_with fail
  go_ret
  exact ⟨ret_bool (by first | rfl | simp), HB8.out⟩
end Go.Proofs.YtdgbnplieaaokaaGreatDoor
