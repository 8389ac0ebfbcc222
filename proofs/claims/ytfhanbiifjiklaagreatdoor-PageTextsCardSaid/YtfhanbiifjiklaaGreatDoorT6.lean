/- Walks of package tree: the proof's digests, taken one by one. -/
import Derived.Test.YtfhanbiifjiklaaGreatDoorT5
import Derived.Test.YtfhanbiifjiklaaGreatDoorBt
set_option linter.unusedVariables false
set_option linter.unusedSimpArgs false
namespace Go.Proofs.YtfhanbiifjiklaaGreatDoor
open Go.RowKit

/-- the digests that are left, the next one first; whether one was missing -/
structure PS (bl bpf : Nat) (st : List (List UInt8)) (sh : Bool) (w : World) : Prop where
  row : ∃ A n c, Blk w bl 103 #[.slice A n c] ∧ TextsAt w (.slice A n c) st.reverse ∧ ∀ a, A = some a → a.block ≠ bl ∧ a.block ≠ bpf
  prf : Blk w bpf 119 #[.pointer (some ⟨bl, 0, none⟩), .bool sh]
  ne : bl ≠ bpf
theorem PS.to {bl bpf : Nat} {st : List (List UInt8)} {sh : Bool} {w w' : World} (h : PS bl bpf st sh w) (hb : Below w.heap.size w w') : PS bl bpf st sh w' := by
  obtain ⟨A, n, c, h1, h2, h3⟩ := h.row
  exact ⟨⟨A, n, c, h1.to hb, h2.to hb, h3⟩, h.prf.to hb, h.ne⟩
set_option maxRecDepth 100000 in
set_option maxHeartbeats 1000000 in
theorem ppop_any (bl bpf : Nat) (st : List (List UInt8)) (hst : st.length ≤ 1000000000) (sh : Bool) (w : World) (hS : PS bl bpf st sh w) :
    Calls Tryz.prog 132 #[.pointer (some ⟨bl, 0, none⟩)] w fun e w' => e = .returned (.string (bs (st.headD []))) ∧ PS bl bpf st.tail sh w' ∧ Two bl bpf w w' := by
  obtain ⟨A, n, c, hb, ht, hfar⟩ := hS.row
  have HP := hide hS.prf
  have HN := hide hS.ne
  have HB := hide hb
  have HT := hide ht
  have HF := hide hfar
  have c0 := (hb.cell 0).trans rfl
  have f0 := hb.frozen 0
  obtain rfl : n = st.length := by
    obtain ⟨A', c', h⟩ := ht.slice
    have := h.1
    injection this with _ h2 _
    rw [h2, List.length_reverse]
  cases st with
  | nil =>
    clear hS hb ht hfar
    go_enter Tryz.func132, Tryz.ntmps132
    go_wp2_with fail
    go_ret
    exact ⟨rfl, ⟨⟨A, _, c, HB.out, HT.out, HF.out⟩, HP.out, HN.out⟩, Two.refl _ _ _⟩
  | cons d r =>
    have hm : (d :: r).length = r.length + 1 := rfl
    rw [hm] at HB HT c0
    have hcap := HT.out.cap
    rw [List.length_reverse] at hcap
    have hat : (d :: r).reverse[r.length]? = some d := by rw [List.reverse_cons, List.getElem?_append_right (by rw [List.length_reverse]; exact Nat.le_refl _), List.length_reverse, Nat.sub_self]; rfl
    obtain ⟨a, rfl, ha, cd⟩ := HT.out.at_ hat
    have HT2 : Hid (TextsAt w (.slice (some a) r.length c) r.reverse) := by
      have := HT.out.take (k := r.length) (by rw [List.length_reverse]; exact Nat.le_succ _) c (by omega)
      rw [List.reverse_cons, List.take_append_of_le_length (by rw [List.length_reverse]; exact Nat.le_refl _), List.take_of_length_le (by rw [List.length_reverse]; exact Nat.le_refl _)] at this
      exact this
    have hc1 : r.length + 1 ≤ c := hcap
    have hl : r.length ≤ 1000000000 := by omega
    clear hS hb ht hfar hat hm hcap hst
    generalize r.length = m at *
    have z1 : IntKind.i64.wrap ((m : Int) + 1 - 1) = (m : Int) := by rw [IntWalk.i64_in _ (by omega)]; omega
    have z2 : IntKind.i64.wrap (((m + 1 : Nat) : Int) - 1) = (m : Int) := by rw [IntWalk.i64_in _ (by omega)]; omega
    have i0 : (0 : Int) ≤ (m : Int) := by omega
    have i1 : (m : Int) < ((m + 1 : Nat) : Int) := by omega
    have i2 : (m : Int) ≤ (c : Int) := by omega
    go_enter Tryz.func132, Tryz.ntmps132
    go_wp2_with fail
    go_quiet (fail)
    go_wp2_with fail
    go_region
    go_wp2_with fail
    go_ret
    refine ⟨rfl, ⟨⟨some a, m, c, (HB.out.drewN _).set_ 0 _, ?_, HF.out⟩, (HP.out.drewN _).far (Ne.symm HN.out) _, HN.out⟩, ((Two.refl _ _ _).drewN _).set1 0 _⟩
    exact RowsAt.store (p := ⟨bl, 0, none⟩) (RowsAt.to HT2.out (below_drewN (Below.refl _ _) _)) (fun a' h => (HF.out a' h).1) _
def nextS (st : List (List UInt8)) (sh : Bool) : Bool := sh || (st.headD []).isEmpty
set_option maxRecDepth 100000 in
set_option maxHeartbeats 1000000 in
theorem pnext_any (bl bpf : Nat) (st : List (List UInt8)) (hst : st.length ≤ 1000000000) (sh : Bool) (w : World) (hS : PS bl bpf st sh w) :
    Calls Tryz.prog 102 #[.pointer (some ⟨bpf, 0, none⟩)] w fun e w' => e = .returned (.string (bs (st.headD []))) ∧ PS bl bpf st.tail (nextS st sh) w' ∧ Two bl bpf w w' := by
  have CP := ppop_any bl bpf st hst sh w hS
  have c0 := (hS.prf.cell 0).trans rfl
  have HV : Hid (nextS st sh = (sh || (st.headD []).isEmpty)) := rfl
  clear hS
  generalize st.headD [] = d at *
  go_enter Tryz.func102, Tryz.ntmps102
  go_wp2_with fail
  refine CP.mono ?_
  rintro e w2 ⟨rfl, hS2, hb⟩
  obtain ⟨A, n, c, hb1, ht, hfar⟩ := hS2.row
  have HB1 := hide hb1
  have HT := hide ht
  have HF := hide hfar
  have HP := hide hS2.prf
  have HN := hide hS2.ne
  have HW := hide hb
  have d0 := (HP.out.cell 0).trans rfl
  have d1 := (HP.out.cell 1).trans rfl
  have f1 := HP.out.frozen 1
  have fin : ∀ b : Bool, Hid (nextS st sh = b) → Hid (PS bl bpf st.tail (nextS st sh) (w2.setCell ⟨bpf, 1, none⟩ (.bool b)) ∧ Two bl bpf w (w2.setCell ⟨bpf, 1, none⟩ (.bool b))) := fun b hv => by
    rw [hv.out]
    exact ⟨⟨⟨A, n, c, HB1.out.far HN.out _, RowsAt.store (p := ⟨bpf, 1, none⟩) HT.out (fun a' h => (HF.out a' h).2) _, HF.out⟩, HP.out.set_ 1 _, HN.out⟩, HW.out.set2 1 _⟩
  clear hS2 hb1 ht hfar hb CP c0
  cases hs : sh with
  | true =>
    have FN := fin true (by show _ = _; rw [HV.out, hs]; rfl)
    rw [hs] at d1
    clear fin hs HV
    go_wp2_with fail
    go_ret
    exact ⟨rfl, FN.out.1, FN.out.2⟩
  | false =>
    cases he : d.isEmpty with
    | true =>
      have e1 : (bs d).toList.isEmpty = true := by rw [bs_toList]; exact he
      have FN := fin true (by show _ = _; rw [HV.out, hs, he]; rfl)
      rw [hs] at d1
      clear fin hs HV he
      go_wp2_with fail
      go_ret
      exact ⟨rfl, FN.out.1, FN.out.2⟩
    | false =>
      have e1 : (bs d).toList.isEmpty = false := by rw [bs_toList]; exact he
      have FN := fin false (by show _ = _; rw [HV.out, hs, he]; rfl)
      rw [hs] at d1
      clear fin hs HV he
      go_wp2_with fail
      go_ret
      exact ⟨rfl, FN.out.1, FN.out.2⟩
set_option maxRecDepth 100000 in
set_option maxHeartbeats 1000000 in
theorem pdone_any (bl bpf : Nat) (st : List (List UInt8)) (sh : Bool) (w : World) (hS : PS bl bpf st sh w) :
    Calls Tryz.prog 104 #[.pointer (some ⟨bpf, 0, none⟩)] w fun e w' => e = .returned (.bool (!sh && st.isEmpty)) ∧ w' = w := by
  obtain ⟨A, n, c, hb1, ht, hfar⟩ := hS.row
  have c0 := (hS.prf.cell 0).trans rfl
  have c1 := (hS.prf.cell 1).trans rfl
  have b0 := (hb1.cell 0).trans rfl
  obtain rfl : n = st.length := by
    obtain ⟨A', c', h⟩ := ht.slice
    have := h.1
    injection this with _ h2 _
    rw [h2, List.length_reverse]
  clear hS hb1 ht hfar
  cases sh with
  | true =>
    go_enter Tryz.func104, Tryz.ntmps104
    go_wp2_with fail
    go_ret
    exact ⟨rfl, rfl⟩
  | false =>
    cases st with
    | nil =>
      go_enter Tryz.func104, Tryz.ntmps104
      go_wp2_with fail
      go_ret
      exact ⟨rfl, rfl⟩
    | cons d r =>
      have e1 : (((d :: r).length : Int) == 0) = false := by rw [beq_eq_false_iff_ne, List.length_cons]; omega
      have e2 : ((r.length : Int) + 1 == 0) = false := by rw [beq_eq_false_iff_ne]; omega
      go_enter Tryz.func104, Tryz.ntmps104
      go_wp2_with fail
      go_ret
      exact ⟨rfl, rfl⟩
end Go.Proofs.YtfhanbiifjiklaaGreatDoor
