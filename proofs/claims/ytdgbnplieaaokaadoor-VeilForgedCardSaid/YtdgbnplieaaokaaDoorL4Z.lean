/- Walk of the law VeilForged: the ways out ahead; all cases. -/
import Derived.Test.YtdgbnplieaaokaaDoorV8
import Derived.Test.YtdgbnplieaaokaaDoorLC
import Derived.Test.YtdgbnplieaaokaaDoorL4
import Derived.Test.YtdgbnplieaaokaaDoorL4A0
import Derived.Test.YtdgbnplieaaokaaDoorL4A1
import Derived.Test.YtdgbnplieaaokaaDoorL4B0
import Derived.Test.YtdgbnplieaaokaaDoorL4B1
import Derived.Test.YtdgbnplieaaokaaDoorL4C0
import Derived.Test.YtdgbnplieaaokaaDoorL4C1
import Derived.Deep.RegionWith
import Derived.Deep.DrawnRows
import Derived.Test.YtdgbnplieaaokaaDoorLoose
set_option linter.unusedVariables false
set_option linter.unusedSimpArgs false
namespace Go.Proofs.YtdgbnplieaaokaaDoor
open Go.RowKit

set_option maxRecDepth 100000 in
set_option maxHeartbeats 8000000 in
theorem forged_out (key salt : List UInt8) (x y u v : Int) (mark : List UInt8) (hk : key.length ≤ 140737488351232) (hs : salt.length ≤ 140737488351232) (hm : mark.length ≤ 140737488351232) (w : World) (hg : Glob w) (hout : shortP [key, salt, mark] = true → canL salt x y = true → canL salt u v = true → False) :
    Calls Tryd.prog 5 #[.string (bs key), .string (bs salt), pval x y, pval u v, .string (bs mark)] w fun e w' => e = .returned (.bool true) ∧ Below w.heap.size w w' := by
  have HK := hide hk
  have HM := hide hm
  have HS := hide hs
  clear hk hs hm
  have HB := hide (below_two w (.cells #[.int .i64 x, .int .i64 y] 23) (.cells #[.int .i64 u, .int .i64 v] 23))
  have HG := hide ((hg.alloc (.cells #[.int .i64 x, .int .i64 y] 23)).alloc (.cells #[.int .i64 u, .int .i64 v] 23))
  have Hp := hide ((Blk.new w 23 #[.int .i64 x, .int .i64 y]).alloc (.cells #[.int .i64 u, .int .i64 v] 23))
  have Hq : Hid (Blk ((w.alloc (.cells #[.int .i64 x, .int .i64 y] 23)).alloc (.cells #[.int .i64 u, .int .i64 v] 23)) (w.heap.size + 1) 23 #[.int .i64 u, .int .i64 v]) := by have := Blk.new (w.alloc (.cells #[.int .i64 x, .int .i64 y] 23)) 23 #[.int .i64 u, .int .i64 v]; show Blk _ _ _ _; simpa using this
  clear hg
  go_enter Tryd.func5, Tryd.ntmps5
  unfold pval
  go_wp2_with fail
  generalize (w.alloc (.cells #[.int .i64 x, .int .i64 y] 23)).alloc (.cells #[.int .i64 u, .int .i64 v] 23) = w1 at *
  obtain ⟨Bq, HBq⟩ : ∃ A, Hid (w.heap.size + 1 = A) := ⟨_, rfl⟩
  rw [HBq.out] at Hq ⊢
  obtain ⟨Bp, HBp⟩ : ∃ A, Hid (w.heap.size = A) := ⟨_, rfl⟩
  rw [HBp.out] at Hp ⊢
  refine (head_any _ HG.out).mono ?_
  rintro e w2 ⟨rfl, hb⟩
  have HB2 := hide (below_to HB.out (Nat.le_refl _) hb)
  have HG2 := hide (HG.out.to hb)
  have Hp2 := hide (Hp.out.to hb)
  have Hq2 := hide (Hq.out.to hb)
  clear hb HB HG Hp Hq
  go_wp2_with fail
  have HS3 : Hid (Blk (w2.alloc (.cells #[.string (bs key), .string (bs salt), .string (bs mark)] 9)) w2.heap.size 9 (strC [key, salt, mark])) := Blk.new w2 _ _
  have HB3 := hide (below_alloc HB2.out (Nat.le_refl _) (.cells #[.string (bs key), .string (bs salt), .string (bs mark)] 9))
  have HG3 := hide (HG2.out.alloc (.cells #[.string (bs key), .string (bs salt), .string (bs mark)] 9))
  have Hp3 := hide (Hp2.out.alloc (.cells #[.string (bs key), .string (bs salt), .string (bs mark)] 9))
  have Hq3 := hide (Hq2.out.alloc (.cells #[.string (bs key), .string (bs salt), .string (bs mark)] 9))
  clear HB2 HG2 Hp2 Hq2
  generalize w2.alloc (.cells #[.string (bs key), .string (bs salt), .string (bs mark)] 9) = w3 at *
  generalize w2.heap.size = A at *
  refine (short_any [key, salt, mark] _ _ _ HS3.out (by simp) (fun l hl => by
    simp only [List.mem_cons, List.not_mem_nil, or_false] at hl
    have h1 := HK.out; have h2 := HM.out; have h3 := HS.out
    rcases hl with rfl | rfl | rfl <;> omega)).mono ?_
  rintro e w5 ⟨rfl, rfl⟩
  cases hsh : shortP [key, salt, mark]
  · go_wp2_with fail
    go_ret
    exact ⟨ret_bool rfl, HB3.out⟩
  have hs1 := hsh
  obtain ⟨n1, n2, n3⟩ := short3 hsh
  have HN1 := hide n1
  have HN2 := hide n2
  have HN3 := hide n3
  clear hsh HS3 n1 n2 n3
  obtain ⟨U, hU, g, u0, rfl, hgu, hi⟩ := cls w3
  have p0 := blk_all hgu Hp3.out 0 rfl
  have p1 := blk_all hgu Hp3.out 1 rfl
  have q0 := blk_all hgu Hq3.out 0 rfl
  have q1 := blk_all hgu Hq3.out 1 rfl
  have C1 := cls_call hgu hi (fun w hb => Lock_any key salt x y HK.out HS.out w (HG3.out.to hb))
  have C2 := cls_call hgu hi (fun w hb => Lock_any key salt u v HK.out HS.out w (HG3.out.to hb))
  unfold pval at C1 C2
  cases hc1 : canL salt x y
  · rw [(lock_not (key := key) hc1).1] at C1
    clear hc1
    go_wp2_with (first | ((with_reducible refine (C1 _).mono ?_); rintro e w' ⟨rfl, uz, rfl⟩) | ((with_reducible refine (C2 _).mono ?_); rintro e w' ⟨rfl, uz, rfl⟩))
    go_ret
    exact ⟨ret_bool rfl, below_to HB3.out (Nat.le_refl _) (hgu _)⟩
  cases hc2 : canL salt u v
  · rw [(lock_not (key := key) hc2).1] at C2
    rw [lockE_can hc1] at C1
    clear hc1 hc2
    go_wp2_with (first | ((with_reducible refine (C1 _).mono ?_); rintro e w' ⟨rfl, uz, rfl⟩) | ((with_reducible refine (C2 _).mono ?_); rintro e w' ⟨rfl, uz, rfl⟩))
    go_ret
    exact ⟨ret_bool rfl, below_to HB3.out (Nat.le_refl _) (hgu _)⟩
  exact absurd (hout hs1 hc1 hc2) (fun h => h)
theorem forged_law (key salt : List UInt8) (x y u v : Int) (mark : List UInt8) (hk : key.length ≤ 140737488351232) (hs : salt.length ≤ 140737488351232) (hm : mark.length ≤ 140737488351232) (w : World) (hg : Glob w) :
    Calls Tryd.prog 5 #[.string (bs key), .string (bs salt), pval x y, pval u v, .string (bs mark)] w fun e w' => e = .returned (.bool true) ∧ Below w.heap.size w w' := by
  by_cases h : shortP [key, salt, mark] = true ∧ canL salt x y = true ∧ canL salt u v = true
  · obtain ⟨h0, h1, h2⟩ := h
    cases hb : (mark == (lockP key salt x y).drop 26)
    · rcases forge_two (key := key) h1 h2 with ⟨he, hne⟩ | ⟨he, hx, hy, hl⟩
      · exact forged_A0 key salt x y u v mark hk hs hm w hg h0 h1 h2 hb he hne
      · by_cases hpq : x = u ∧ y = v
        · exact forged_B0 key salt x y u v mark hk hs hm w hg h0 h1 h2 hb he hx hy hpq
        · exact forged_C0 key salt x y u v mark hk hs hm w hg h0 h1 h2 hb he hx hy hpq hl
    · rcases forge_two (key := key) h1 h2 with ⟨he, hne⟩ | ⟨he, hx, hy, hl⟩
      · exact forged_A1 key salt x y u v mark hk hs hm w hg h0 h1 h2 hb he hne
      · by_cases hpq : x = u ∧ y = v
        · exact forged_B1 key salt x y u v mark hk hs hm w hg h0 h1 h2 hb he hx hy hpq
        · exact forged_C1 key salt x y u v mark hk hs hm w hg h0 h1 h2 hb he hx hy hpq hl
  · exact forged_out key salt x y u v mark hk hs hm w hg (fun a b c => h ⟨a, b, c⟩)
end Go.Proofs.YtdgbnplieaaokaaDoor
