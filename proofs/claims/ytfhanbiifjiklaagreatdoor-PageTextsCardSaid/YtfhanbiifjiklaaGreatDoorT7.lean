/- Walks of package tree: Check. -/
import Derived.Test.YtfhanbiifjiklaaGreatDoorT6
set_option linter.unusedVariables false
set_option linter.unusedSimpArgs false
namespace Go.Proofs.YtfhanbiifjiklaaGreatDoor
open Go.RowKit

/-- what a proof's digests make of a leaf: the root, what is left, whether one was missing -/
def upG (leaf : List UInt8) : Nat → Nat → Nat → List (List UInt8) → Bool → List UInt8 × List (List UInt8) × Bool
  | 0, _, _, st, sh => (leaf, st, sh)
  | f + 1, n, i, st, sh => if n = 1 then (leaf, st, sh) else
    if i < halfN n then (nodeD (upG leaf f (halfN n) i st.tail (nextS st sh)).1 (st.headD []), (upG leaf f (halfN n) i st.tail (nextS st sh)).2)
    else (nodeD (st.headD []) (upG leaf f (n - halfN n) (i - halfN n) st.tail (nextS st sh)).1, (upG leaf f (n - halfN n) (i - halfN n) st.tail (nextS st sh)).2)
theorem upG_one (leaf : List UInt8) (f i : Nat) (st : List (List UInt8)) (sh : Bool) : upG leaf (f + 1) 1 i st sh = (leaf, st, sh) := by unfold upG; rw [if_pos rfl]
theorem upG_lt (leaf : List UInt8) {f n i : Nat} (hn : n ≠ 1) (hi : i < halfN n) (st : List (List UInt8)) (sh : Bool) : upG leaf (f + 1) n i st sh = (nodeD (upG leaf f (halfN n) i st.tail (nextS st sh)).1 (st.headD []), (upG leaf f (halfN n) i st.tail (nextS st sh)).2) := by
  conv => lhs; unfold upG
  rw [if_neg hn, if_pos hi]
theorem upG_ge (leaf : List UInt8) {f n i : Nat} (hn : n ≠ 1) (hi : ¬ i < halfN n) (st : List (List UInt8)) (sh : Bool) : upG leaf (f + 1) n i st sh = (nodeD (st.headD []) (upG leaf f (n - halfN n) (i - halfN n) st.tail (nextS st sh)).1, (upG leaf f (n - halfN n) (i - halfN n) st.tail (nextS st sh)).2) := by
  conv => lhs; unfold upG
  rw [if_neg hn, if_neg hi]
theorem nodeD_len (a b : List UInt8) : (nodeD a b).length = 16 := isD_len (listD_isD _)
theorem upG_len {leaf : List UInt8} (hl : leaf.length ≤ 100000000000) : ∀ (f n i : Nat) (st : List (List UInt8)) (sh : Bool), (upG leaf f n i st sh).1.length ≤ 100000000000
  | 0, n, i, st, sh => hl
  | f + 1, n, i, st, sh => by
    unfold upG
    split
    · exact hl
    · split
      · show (nodeD _ _).length ≤ _; rw [nodeD_len]; decide
      · show (nodeD _ _).length ≤ _; rw [nodeD_len]; decide
structure US (bl bpf bp bup bleaf : Nat) (leaf : List UInt8) (st : List (List UInt8)) (sh : Bool) (w : World) : Prop where
  ps : PS bl bpf st sh w
  p : Blk w bp 116 #[.pointer (some ⟨bpf, 0, none⟩)]
  up : Blk w bup 120 #[.func (.func 101) #[] #[.pointer (some ⟨bleaf, 0, none⟩), .pointer (some ⟨bp, 0, none⟩), .pointer (some ⟨bup, 0, none⟩)]]
  lf : Blk w bleaf 9 #[.string (bs leaf)]
  n1 : bp ≠ bl ∧ bp ≠ bpf ∧ bup ≠ bl ∧ bup ≠ bpf ∧ bleaf ≠ bl ∧ bleaf ≠ bpf
  gl : Tryz.prog.globals.size ≤ bl ∧ Tryz.prog.globals.size ≤ bpf
theorem US.to {bl bpf bp bup bleaf : Nat} {leaf : List UInt8} {st : List (List UInt8)} {sh : Bool} {w w' : World} (h : US bl bpf bp bup bleaf leaf st sh w) (hb : Below w.heap.size w w') : US bl bpf bp bup bleaf leaf st sh w' := ⟨h.ps.to hb, h.p.to hb, h.up.to hb, h.lf.to hb, h.n1, h.gl⟩
theorem US.two {bl bpf bp bup bleaf : Nat} {leaf : List UInt8} {st st' : List (List UInt8)} {sh sh' : Bool} {w w' : World} (h : US bl bpf bp bup bleaf leaf st sh w) (hb : Two bl bpf w w') (h' : PS bl bpf st' sh' w') : US bl bpf bp bup bleaf leaf st' sh' w' :=
  ⟨h', Two.blk h.p hb h.n1.1 h.n1.2.1, Two.blk h.up hb h.n1.2.2.1 h.n1.2.2.2.1, Two.blk h.lf hb h.n1.2.2.2.2.1 h.n1.2.2.2.2.2, h.n1, h.gl⟩
theorem Glob.two {p q : Nat} {w w' : World} (h : Glob w) (hb : Two p q w w') (h1 : Tryz.prog.globals.size ≤ p) (h2 : Tryz.prog.globals.size ≤ q) : Glob w' := h.belowB (hb.below h.top h1 h2) (Nat.le_refl _)
theorem ent_up : ∀ args w, (callFunc 101 args).run Tryz.prog w = .ok (.enter 101 args) w := enters_fn Tryz.func101 (by kernel_rfl) rfl
def UpOk (bl bpf bp bup bleaf : Nat) (leaf : List UInt8) (f : Nat) : Prop := ∀ (n i : Nat) (st : List (List UInt8)) (sh : Bool) (w : World), 1 ≤ n → n ≤ f → n ≤ 1000000 → i < n → st.length ≤ 1000000000 → (∀ d ∈ st, d.length ≤ 100000000000) →
  US bl bpf bp bup bleaf leaf st sh w → Glob w → Calls Tryz.prog 101 #[.int .i64 (n : Int), .int .i64 (i : Int), .pointer (some ⟨bleaf, 0, none⟩), .pointer (some ⟨bp, 0, none⟩), .pointer (some ⟨bup, 0, none⟩)] w
    fun e w' => e = .returned (.string (bs (upG leaf f n i st sh).1)) ∧ US bl bpf bp bup bleaf leaf (upG leaf f n i st sh).2.1 (upG leaf f n i st sh).2.2 w' ∧ Two bl bpf w w'
theorem head_le {st : List (List UInt8)} (h : ∀ d ∈ st, d.length ≤ 100000000000) : (st.headD []).length ≤ 100000000000 := by
  cases st with
  | nil => decide
  | cons d r => exact h d (by simp)
set_option maxRecDepth 100000 in
set_option maxHeartbeats 1000000 in
theorem up_step (bl bpf bp bup bleaf : Nat) (leaf : List UInt8) (hleaf : leaf.length ≤ 100000000000) (f : Nat) (ih : UpOk bl bpf bp bup bleaf leaf f) : UpOk bl bpf bp bup bleaf leaf (f + 1) := by
  intro n i st sh w h1 hf hn hi hst hd hS hg
  have hE := ent_up
  have HS := hide hS
  have l0 := (hS.lf.cell 0).trans rfl
  have p0 := (hS.p.cell 0).trans rfl
  clear hS
  by_cases hn1 : n = 1
  · subst hn1
    have HV := hide (upG_one leaf f i st sh)
    clear p0 ih
    go_enter Tryz.func101, Tryz.ntmps101
    go_wp2_with fail
    go_ret
    exact ⟨by rw [HV.out]; rfl, by rw [HV.out]; exact HS.out, Two.refl _ _ _⟩
  · have e1 : ((n : Int) == 1) = false := by rw [beq_eq_false_iff_ne]; omega
    have hh := half_lt (n := n) (by omega)
    have CH := fun w => half_any n (by omega) w
    have CX := fun w h => pnext_any bl bpf st hst sh w h
    have HVL := fun h : i < halfN n => upG_lt leaf (f := f) hn1 h st sh
    have HVG := fun h : ¬ i < halfN n => upG_ge leaf (f := f) hn1 h st sh
    have hd' : ∀ d ∈ st.tail, d.length ≤ 100000000000 := fun d h => hd d (List.mem_of_mem_tail h)
    have hst' : st.tail.length ≤ 1000000000 := by rw [List.length_tail]; omega
    have hhd := head_le hd
    have HG := hide hg
    generalize hk : halfN n = k at *
    generalize st.headD [] = d at *
    generalize st.tail = st' at *
    generalize nextS st sh = sh' at *
    clear hk
    obtain ⟨U, hU, g, u0, rfl, hgu, hi'⟩ := cls w
    have HGU := hide hgu
    have HHI := hide hi'
    have CHg : ∀ u, Calls Tryz.prog 83 #[.int .i64 (n : Int)] (g u) fun e w' => e = .returned (.int .i64 (k : Int)) ∧ ∃ u', w' = g u' := fun u => (CH (g u)).mono fun e w' ⟨he, hw⟩ => ⟨he, u, hw⟩
    have p1 : ∀ u, (g u).cell? ⟨bp, 0, none⟩ = some (.pointer (some ⟨bpf, 0, none⟩)) := fun u => ((HS.out.to (hgu u)).p.cell 0).trans rfl
    have z1 : IntKind.i64.wrap ((n : Int) - (k : Int)) = (n : Int) - (k : Int) := IntWalk.i64_in _ (by omega)
    clear hgu hi' CH p0 l0 hg
    go_enter Tryz.func101, Tryz.ntmps101
    go_wp2_with fail
    refine wp_region_class_tail g 3 (by kernel_rfl) (by kernel_rfl) (HHI.out _ (HGU.out _).drew) ?_
    simp only [List.take_succ_cons, List.take_zero, List.drop_succ_cons, List.drop_zero]
    repeat (go_big_quiet_step (with_reducible exact CHg _))
    refine wpQuiet_nil ?_
    intro w5 hw5
    obtain ⟨u, rfl⟩ := hw5
    go_wp2_with fail
    refine (CX (g u) (HS.out.to (HGU.out u)).ps).mono ?_
    rintro e w4 ⟨rfl, hps, htw⟩
    have HTW : Hid (Two bl bpf (g u0) w4) := (Two.of (HGU.out u)).trans htw
    have HS4 := hide (HS.out.two HTW.out hps)
    have HG4 : Hid (Glob w4) := HG.out.two HTW.out HS.out.gl.1 HS.out.gl.2
    clear hps htw CX CHg p1
    by_cases hik : i < k
    · have e2 : decide ((i : Int) < (k : Int)) = true := decide_eq_true (by omega)
      have HV := hide (HVL hik)
      have CU := ih k i st' sh' w4 (by omega) (by omega) (by omega) hik hst' hd' HS4.out HG4.out
      have hrl := upG_len hleaf f k i st' sh'
      have u0' := (HS4.out.up.cell 0).trans rfl
      clear ih HVL HVG
      generalize upG leaf f k i st' sh' = R at *
      go_wp2_with fail
      refine CU.mono ?_
      rintro e w6 ⟨rfl, hus, htw⟩
      have HTW6 : Hid (Two bl bpf (g u0) w6) := HTW.out.trans htw
      have HS6 := hide hus
      have CN := node_any R.1 d hrl hhd w6 (HG.out.two HTW6.out HS.out.gl.1 HS.out.gl.2)
      clear hus htw CU
      go_wp2_with ((with_reducible refine CN.mono ?_); rintro e w7 ⟨rfl, hb7⟩)
      go_ret
      exact ⟨by rw [HV.out]; rfl, by rw [HV.out]; exact HS6.out.to (by assumption), HTW6.out.to (by assumption)⟩
    · have e2 : decide ((i : Int) < (k : Int)) = false := decide_eq_false (by omega)
      have z2 : IntKind.i64.wrap ((i : Int) - (k : Int)) = (i : Int) - (k : Int) := IntWalk.i64_in _ (by omega)
      have HV := hide (HVG hik)
      have CU0 := ih (n - k) (i - k) st' sh' w4 (by omega) (by omega) (by omega) (by omega) hst' hd' HS4.out HG4.out
      rw [show ((n - k : Nat) : Int) = (n : Int) - (k : Int) by omega, show ((i - k : Nat) : Int) = (i : Int) - (k : Int) by omega] at CU0
      have hrl := upG_len hleaf f (n - k) (i - k) st' sh'
      have u0' := (HS4.out.up.cell 0).trans rfl
      clear ih HVL HVG
      generalize upG leaf f (n - k) (i - k) st' sh' = R at *
      go_wp2_with fail
      refine CU0.mono ?_
      rintro e w6 ⟨rfl, hus, htw⟩
      have HTW6 : Hid (Two bl bpf (g u0) w6) := HTW.out.trans htw
      have HS6 := hide hus
      have CN := node_any d R.1 hhd hrl w6 (HG.out.two HTW6.out HS.out.gl.1 HS.out.gl.2)
      clear hus htw CU0
      go_wp2_with ((with_reducible refine CN.mono ?_); rintro e w7 ⟨rfl, hb7⟩)
      go_ret
      exact ⟨by rw [HV.out]; rfl, by rw [HV.out]; exact HS6.out.to (by assumption), HTW6.out.to (by assumption)⟩
theorem up_any (bl bpf bp bup bleaf : Nat) (leaf : List UInt8) (hleaf : leaf.length ≤ 100000000000) : ∀ f, UpOk bl bpf bp bup bleaf leaf f
  | 0 => fun n i st sh w h1 h2 => by omega
  | f + 1 => up_step bl bpf bp bup bleaf leaf hleaf f (up_any bl bpf bp bup bleaf leaf hleaf f)
end Go.Proofs.YtfhanbiifjiklaaGreatDoor
