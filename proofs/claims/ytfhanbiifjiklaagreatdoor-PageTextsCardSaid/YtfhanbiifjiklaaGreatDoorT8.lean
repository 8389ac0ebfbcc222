/- Walks of package tree: Check. -/
import Derived.Test.YtfhanbiifjiklaaGreatDoorT7
set_option linter.unusedVariables false
set_option linter.unusedSimpArgs false
namespace Go.Proofs.YtfhanbiifjiklaaGreatDoor
open Go.RowKit

def upV (leaf : List UInt8) (n i : Nat) (path : List (List UInt8)) (root : List UInt8) : Bool := decide ((upG leaf n n i path.reverse false).1 = root) && (!(upG leaf n n i path.reverse false).2.2 && (upG leaf n n i path.reverse false).2.1.isEmpty)
def checkV (root : List UInt8) (n i : Int) (leaf : List UInt8) (path : List (List UInt8)) : Bool :=
  if n ≤ 1000000 ∧ 0 ≤ i ∧ i < n ∧ properT path = true ∧ isD leaf = true then upV leaf n.toNat i.toNat path root else false
set_option maxRecDepth 100000 in
set_option maxHeartbeats 2000000 in
theorem Check_any (root : List UInt8) (n i : Int) (leaf : List UInt8) (path : List (List UInt8)) (hleaf : leaf.length ≤ 100000000000) (hp : path.length ≤ 1000000000) (hx : ∀ x ∈ path, x.length ≤ 100000000000) (v : Value) (w : World) (hv : TextsAt w v path) (hg : Glob w) :
    Calls Tryz.prog 68 #[.string (bs root), .int .i64 n, .int .i64 i, .string (bs leaf), v] w fun e w' => e = .returned (.bool (checkV root n i leaf path)) ∧ Below w.heap.size w w' := by
  have HX := hide hx
  have HB0 := hide (below_one w (.cells #[.string (bs leaf)] 9))
  have KL0 := hide (Blk.new w 9 #[.string (bs leaf)])
  have KG0 := hide (hg.alloc (.cells #[.string (bs leaf)] 9))
  have hgt := hg.top
  have CC := Clone_any path hp v (w.alloc (.cells #[.string (bs leaf)] 9)) (RowsAt.to hv HB0.out)
  unfold CloneR at CC
  have hE := ent_up
  clear hv hg hx
  go_enter Tryz.func68, Tryz.ntmps68
  go_wp2_with fail
  have C1 := CC
  refine C1.mono ?_
  rintro e w1 ⟨v1, rfl, hKO, hb⟩
  have HB1 := hide (below_to HB0.out (Nat.le_refl _) hb)
  have KL1 := hide (KL0.out.to hb)
  have KG1 := hide (KG0.out.to hb)
  have KO1 := hide hKO
  clear hb C1 HB0 KL0 KG0 hKO
  have KR1 : Hid (TextsAt w1 v1 path) := TextsAt.of_own KO1.out
  obtain ⟨A1, k1, rfl, _⟩ := KR1.out.slice
  have KS : Hid (∀ a, A1 = some a → w.heap.size + 1 ≤ a.block ∧ a.block < w1.heap.size) := fun a h => by
    have h' := KO1.out.lt a.block (by rw [h]; rfl)
    have h'' : (w.alloc (.cells #[.string (bs leaf)] 9)).heap.size = w.heap.size + 1 := by simp
    rw [h''] at h'
    exact h'
  clear KO1
  have HLW : Hid (w.heap.size < w1.heap.size) := KL1.out.lt
  have KD2 := hide (Blk.new w1 103 #[.slice A1 path.length k1])
  have HB2 := hide (below_alloc HB1.out (Nat.le_refl _) (.cells #[.slice A1 path.length k1] 103))
  have KL2 := hide (KL1.out.to (below_one w1 (.cells #[.slice A1 path.length k1] 103)))
  have KG2 := hide (KG1.out.to (below_one w1 (.cells #[.slice A1 path.length k1] 103)))
  have KR2 := hide (KR1.out.to (below_one w1 (.cells #[.slice A1 path.length k1] 103)))
  clear HB1 KL1 KG1 KR1
  by_cases c1 : n ≤ 1000000
  · have e1 : decide (1000000 < n) = false := decide_eq_false (by omega)
    by_cases c2 : 0 ≤ i
    · have e2 : decide (i < 0) = false := decide_eq_false (by omega)
      by_cases c3 : i < n
      · have e3 : decide (n ≤ i) = false := decide_eq_false (by omega)
        obtain ⟨N, rfl⟩ : ∃ N : Nat, n = N := ⟨n.toNat, by omega⟩
        obtain ⟨I, rfl⟩ : ∃ I : Nat, i = I := ⟨i.toNat, by omega⟩
        have d0 := (KD2.out.cell 0).trans rfl
        have CP := tproper_any path (by omega) HX.out _ (w1.alloc (.cells #[.slice A1 path.length k1] 103)) KR2.out
        have e4 : decide ((N : Int) ≤ (I : Int)) = false := decide_eq_false (by omega)
        have e5 : decide ((I : Int) < 0) = false := decide_eq_false (by omega)
        have e6 : decide ((1000000 : Int) < (N : Int)) = false := decide_eq_false (by omega)
        have e7 : decide (N ≤ I) = false := decide_eq_false (by omega)
        clear e1 e2 e3
        go_wp2_with fail
        cases hpr : properT path with
        | false =>
          rw [hpr] at CP
          have C3 := CP
          refine C3.mono ?_
          rintro e w3 ⟨rfl, hb⟩
          have HB3 := hide (below_to HB2.out (Nat.le_refl _) hb)
          have KL3 := hide (KL2.out.to hb)
          have KG3 := hide (KG2.out.to hb)
          have KR3 := hide (KR2.out.to hb)
          have KD3 := hide (KD2.out.to hb)
          clear hb C3 HB2 KL2 KG2 KR2 KD2
          go_wp2_with fail
          go_ret
          exact ⟨ret_bool (by unfold checkV; rw [if_neg (fun h => by rw [hpr] at h; exact absurd h.2.2.2.1 (by simp))]), HB3.out⟩
        | true =>
          rw [hpr] at CP
          have C3 := CP
          refine C3.mono ?_
          rintro e w3 ⟨rfl, hb⟩
          have HB3 := hide (below_to HB2.out (Nat.le_refl _) hb)
          have KL3 := hide (KL2.out.to hb)
          have KG3 := hide (KG2.out.to hb)
          have KR3 := hide (KR2.out.to hb)
          have KD3 := hide (KD2.out.to hb)
          clear hb C3 HB2 KL2 KG2 KR2 KD2
          have l0 := (KL3.out.cell 0).trans rfl
          have d1 := (KD3.out.cell 0).trans rfl
          have CI := Is_any leaf (by omega) w3
          go_wp2_with fail
          cases hld : isD leaf with
          | false =>
            rw [hld] at CI
            have C4 := CI
            refine C4.mono ?_
            rintro e w4 ⟨rfl, hb⟩
            have HB4 := hide (below_to HB3.out (Nat.le_refl _) hb)
            have KL4 := hide (KL3.out.to hb)
            have KG4 := hide (KG3.out.to hb)
            have KR4 := hide (KR3.out.to hb)
            have KD4 := hide (KD3.out.to hb)
            clear hb C4 HB3 KL3 KG3 KR3 KD3
            go_wp2_with fail
            go_ret
            exact ⟨ret_bool (by unfold checkV; rw [if_neg (fun h => by rw [hld] at h; exact absurd h.2.2.2.2 (by simp))]), HB4.out⟩
          | true =>
            rw [hld] at CI
            have C4 := CI
            refine C4.mono ?_
            rintro e w4 ⟨rfl, hb⟩
            have HB4 := hide (below_to HB3.out (Nat.le_refl _) hb)
            have KL4 := hide (KL3.out.to hb)
            have KG4 := hide (KG3.out.to hb)
            have KR4 := hide (KR3.out.to hb)
            have KD4 := hide (KD3.out.to hb)
            clear hb C4 HB3 KL3 KG3 KR3 KD3
            have HV : Hid (checkV root (N : Int) (I : Int) leaf path = upV leaf N I path root) := by
              show _ = _
              unfold checkV
              rw [if_pos ⟨c1, c2, c3, hpr, hld⟩, Int.toNat_natCast, Int.toNat_natCast]
            go_wp2_with fail
            have s1 : (w4.alloc (.cells #[.pointer (some ⟨w1.heap.size, 0, none⟩), .bool false] 119)).heap.size = w4.heap.size + 1 := by simp
            have s2 : ((w4.alloc (.cells #[.pointer (some ⟨w1.heap.size, 0, none⟩), .bool false] 119)).alloc (.cells #[.pointer (some ⟨w4.heap.size, 0, none⟩)] 116)).heap.size = w4.heap.size + 1 + 1 := by simp
            have HBW : Hid (Below w4.heap.size w4 (((w4.alloc (.cells #[.pointer (some ⟨w1.heap.size, 0, none⟩), .bool false] 119)).alloc (.cells #[.pointer (some ⟨w4.heap.size, 0, none⟩)] 116)).alloc (.cells #[.func (.func 101) #[] #[.pointer (some ⟨w.heap.size, 0, none⟩), .pointer (some ⟨w4.heap.size + 1, 0, none⟩), .pointer (some ⟨w4.heap.size + 1 + 1, 0, none⟩)]] 120))) := below_alloc (below_two _ _ _) (Nat.le_refl _) _
            have HLT : Hid (w1.heap.size < w4.heap.size) := KD4.out.lt
            have HGT : Hid (Tryz.prog.globals.size ≤ w.heap.size) := hgt
            have HUS : Hid (US w1.heap.size w4.heap.size (w4.heap.size + 1) (w4.heap.size + 1 + 1) w.heap.size leaf path.reverse false (((w4.alloc (.cells #[.pointer (some ⟨w1.heap.size, 0, none⟩), .bool false] 119)).alloc (.cells #[.pointer (some ⟨w4.heap.size, 0, none⟩)] 116)).alloc (.cells #[.func (.func 101) #[] #[.pointer (some ⟨w.heap.size, 0, none⟩), .pointer (some ⟨w4.heap.size + 1, 0, none⟩), .pointer (some ⟨w4.heap.size + 1 + 1, 0, none⟩)]] 120))) := by
              have a1 := HLT.out
              have a2 := HLW.out
              refine ⟨⟨⟨A1, path.length, k1, KD4.out.to HBW.out, by rw [List.reverse_reverse]; exact RowsAt.to KR4.out HBW.out, fun a h => ?_⟩, ((Blk.new w4 _ _).alloc _).alloc _, Nat.ne_of_lt a1⟩, ?_, ?_, KL4.out.to HBW.out, ⟨by omega, by omega, by omega, by omega, by omega, by omega⟩, ⟨by omega, by omega⟩⟩
              · have := KS.out a h
                exact ⟨by omega, by omega⟩
              · have := Blk.new (w4.alloc (.cells #[.pointer (some ⟨w1.heap.size, 0, none⟩), .bool false] 119)) 116 #[.pointer (some ⟨w4.heap.size, 0, none⟩)]
                rw [s1] at this
                exact this.alloc _
              · have := Blk.new ((w4.alloc (.cells #[.pointer (some ⟨w1.heap.size, 0, none⟩), .bool false] 119)).alloc (.cells #[.pointer (some ⟨w4.heap.size, 0, none⟩)] 116)) 120 #[.func (.func 101) #[] #[.pointer (some ⟨w.heap.size, 0, none⟩), .pointer (some ⟨w4.heap.size + 1, 0, none⟩), .pointer (some ⟨w4.heap.size + 1 + 1, 0, none⟩)]]
                rw [s2] at this
                exact this
            have CU := up_any w1.heap.size w4.heap.size (w4.heap.size + 1) (w4.heap.size + 1 + 1) w.heap.size leaf hleaf N N I path.reverse false (((w4.alloc (.cells #[.pointer (some ⟨w1.heap.size, 0, none⟩), .bool false] 119)).alloc (.cells #[.pointer (some ⟨w4.heap.size, 0, none⟩)] 116)).alloc (.cells #[.func (.func 101) #[] #[.pointer (some ⟨w.heap.size, 0, none⟩), .pointer (some ⟨w4.heap.size + 1, 0, none⟩), .pointer (some ⟨w4.heap.size + 1 + 1, 0, none⟩)]] 120)) (by omega) (Nat.le_refl _) (by omega) (by omega) (by rw [List.length_reverse]; exact hp) (fun d h => HX.out d (by simpa using h)) HUS.out (KG4.out.to HBW.out)
            have HUV : Hid (upV leaf N I path root = (decide ((upG leaf N N I path.reverse false).1 = root) && (!(upG leaf N N I path.reverse false).2.2 && (upG leaf N N I path.reverse false).2.1.isEmpty))) := rfl
            have HBS : Hid (w.heap.size ≤ (((w4.alloc (.cells #[.pointer (some ⟨w1.heap.size, 0, none⟩), .bool false] 119)).alloc (.cells #[.pointer (some ⟨w4.heap.size, 0, none⟩)] 116)).alloc (.cells #[.func (.func 101) #[] #[.pointer (some ⟨w.heap.size, 0, none⟩), .pointer (some ⟨w4.heap.size + 1, 0, none⟩), .pointer (some ⟨w4.heap.size + 1 + 1, 0, none⟩)]] 120)).heap.size) := Nat.le_trans HB4.out.size HBW.out.size
            have HBB := hide (HB4.out.trans (HBW.out.mono HB4.out.size))
            clear s1 s2 HUS HBW KL4 KG4 KR4 KD4 HB4 d0 d1 l0 CP CI CC
            generalize upG leaf N N I path.reverse false = r at *
            generalize ((w4.alloc (.cells #[.pointer (some ⟨w1.heap.size, 0, none⟩), .bool false] 119)).alloc (.cells #[.pointer (some ⟨w4.heap.size, 0, none⟩)] 116)).alloc (.cells #[.func (.func 101) #[] #[.pointer (some ⟨w.heap.size, 0, none⟩), .pointer (some ⟨w4.heap.size + 1, 0, none⟩), .pointer (some ⟨w4.heap.size + 1 + 1, 0, none⟩)]] 120) = w9 at *
            refine CU.mono ?_
            rintro e w10 ⟨rfl, hus, htw⟩
            have HU := hide hus
            have HB10 : Hid (Below w.heap.size w w10) := HBB.out.trans (htw.below HBS.out (Nat.le_of_lt HLW.out) (Nat.le_of_lt (Nat.lt_trans HLW.out HLT.out)))
            have pp := (hus.p.cell 0).trans rfl
            have CD := pdone_any w1.heap.size w4.heap.size r.2.1 r.2.2 w10 hus.ps
            clear hus htw CU HBB
            by_cases hr : r.1 = root
            · have er : ((bs r.1).toList == (bs root).toList) = true := by rw [hr]; simp
              have HF : Hid (checkV root (N : Int) (I : Int) leaf path = (!r.2.2 && r.2.1.isEmpty)) := by show _ = _; rw [HV.out, HUV.out, decide_eq_true hr]; rfl
              clear hr
              generalize (!r.2.2 && r.2.1.isEmpty) = b at *
              go_wp2_with ((with_reducible refine CD.mono ?_); rintro e w' ⟨rfl, rfl⟩)
              go_ret
              exact ⟨ret_bool (by rw [HF.out]), HB10.out⟩
            · have er : ((bs r.1).toList == (bs root).toList) = false := by rw [beq_eq_false_iff_ne, bs_toList, bs_toList]; exact hr
              have HF : Hid (checkV root (N : Int) (I : Int) leaf path = false) := by show _ = _; rw [HV.out, HUV.out, decide_eq_false hr]; rfl
              clear hr
              go_wp2_with fail
              go_ret
              exact ⟨ret_bool (by rw [HF.out]), HB10.out⟩
      · have e3 : decide (n ≤ i) = true := decide_eq_true (by omega)
        clear KS HLW
        go_wp2_with fail
        go_ret
        exact ⟨ret_bool (by unfold checkV; rw [if_neg (fun h => by have := h.2.2.1; omega)]), HB2.out⟩
    · have e2 : decide (i < 0) = true := decide_eq_true (by omega)
      clear KS HLW
      go_wp2_with fail
      go_ret
      exact ⟨ret_bool (by unfold checkV; rw [if_neg (fun h => by have := h.2.1; omega)]), HB2.out⟩
  · have e1 : decide (1000000 < n) = true := decide_eq_true (by omega)
    clear KS HLW
    go_wp2_with fail
    go_ret
    exact ⟨ret_bool (by unfold checkV; rw [if_neg (fun h => by have := h.1; omega)]), HB2.out⟩
end Go.Proofs.YtfhanbiifjiklaaGreatDoor
