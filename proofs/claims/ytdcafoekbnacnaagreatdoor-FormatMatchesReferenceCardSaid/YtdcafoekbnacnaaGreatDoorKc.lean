/- FormatMatchesReference returns true for every scheme, values and text, and leaves its arguments as they were; the package variables that the row lists are laid as the program's text lays them (the card ties them). No other condition. -/
import Derived.Test.YtdcafoekbnacnaaGreatDoorRows
import Derived.Test.YtdcafoekbnacnaaGreatDoorCards
import Derived.Test.YtdcafoekbnacnaaGreatDoorTie
import Derived.Test.YtdcafoekbnacnaaGreatDoorMA
import Derived.OpenShut
import Derived.ShutString
import Derived.Deep.DeepHandedRow
import Derived.Lay
import Derived.LaidOnce
import Derived.SevenTiedAt
import Derived.Test.YtdcafoekbnacnaaGreatDoorMB
import Derived.Test.YtdcafoekbnacnaaGreatDoorMC
import Derived.Test.YtdcafoekbnacnaaGreatDoorME
set_option linter.unusedVariables false
set_option linter.unusedSimpArgs false
namespace Go.Proofs.YtdcafoekbnacnaaGreatDoor.formatMatchesReference
open Go.ChangeShapes Go.WideShapes Go.ChangeAt Go.RowKit Go.Lib

theorem own : ownKnob Tryz.prog.godebug = none := by kernel_rfl
theorem laidOut : laidOutB Tryz.prog = true := by kernel_rfl

set_option maxRecDepth 100000 in
theorem lifted (os : Os) (started : os.Started) (H : Type) (enc : TypeId × Value → H) :
    ReturnsInHanded {} Tryz.checked os 10 .any ((OpenSpec.ofChange Rows.formatMatchesReferenceSpec).preRow enc Tryz.prog Tryz.f10 Rows.formatMatchesReferenceRow.domain false Rows.formatMatchesReferenceRow.laid) (Rows.formatMatchesReferenceSpec.post enc Tryz.prog Tryz.f10 false true false false) := by
  refine returnsInHanded_of_row (C := Tryz.checked) (s := OpenSpec.ofChange Rows.formatMatchesReferenceSpec) (F := fun _ _ _ => 0) own started (by kernel_rfl) Tryz.func10
    (ChangeSpec.witness_shaped (enc := enc) (C := Tryz.checked) (os := os) (s := Rows.formatMatchesReferenceSpec) (X := fun w _ => laidMetH Tryz.prog Rows.formatMatchesReferenceRow.laid w) false (World.laidAll Tryz.prog os Rows.formatMatchesReferenceRow.laid) #[.agg #[.string ⟨#[]⟩, .slice none 0 0], .agg #[.string ⟨#[]⟩, .string ⟨#[]⟩, .string ⟨#[]⟩, .string ⟨#[]⟩, .string ⟨#[]⟩, .string ⟨#[]⟩, .string ⟨#[]⟩, .string ⟨#[]⟩, .string ⟨#[]⟩], .string ⟨#[]⟩] 8 (World.laidAll_os _ _ _)
      (World.shaped_of_ZipB (by kernel_rfl) (by kernel_rfl)) (by kernel_rfl) (by kernel_rfl) (by kernel_rfl)
      (by rw [MakeChecks.laidMetH_plain _ _ _ (by kernel_rfl)]; exact laidMet_laidAll _ (by kernel_rfl) (by kernel_rfl))) ?_
  intro W base args ds gs before hval0 hW _ _ hsz0 hL0 hsh _
  have hval : ∀ (j : Nat) t v, Tryz.f10.params[j]? = some t → args[j]? = some v → Value.okWide Tryz.prog W .any base t v := hval0
  have hsz : (DataW.weightsEach Tryz.prog (Tryz.f10.params.toList ++ Rows.formatMatchesReferenceSpec.plain.varTypes Tryz.prog) (ds ++ gs)).all (· ≤ reachBytes) = true := hsz0
  have hL : laidMet Tryz.prog Rows.formatMatchesReferenceRow.laid W := by rw [MakeChecks.laidMetH_plain _ _ _ (by kernel_rfl)] at hL0; exact hL0
  have HGl := glob4_of hsh hL
  clear hL0
  have hW' := hW
  obtain ⟨p, q, hA0, hV, rfl, hfz, hnd⟩ := hW
  have hA : DataW.TrodAll enc Tryz.prog W 0 (fun _ => true) true Tryz.f10.params.toList args.toList ds p := hA0
  rw [Tryz.params10] at hA hval hsz
  obtain ⟨v0, vs0, d0, ds0, p0, q0, hargs, rfl, rfl, h0, r0⟩ := trodAll_cons hA
  obtain ⟨v1, vs1, d1, ds1, p1, q1, rfl, rfl, rfl, h1, r1⟩ := trodAll_cons r0
  obtain ⟨v2, vs2, d2, ds2, p2, q2, rfl, rfl, rfl, h2, r2⟩ := trodAll_cons r1
  obtain ⟨rfl, rfl, rfl⟩ := trodAll_nil r2
  obtain rfl : args = #[v0, v1, v2] := by cases args; simp_all
  obtain ⟨rfl, rfl⟩ := trodVars_none hV
  have k0 := h0
  have lt0 : ∀ x ∈ p0, x.block < W.heap.size := by obtain ⟨m, hm⟩ := k0; exact DataW.trod_lt m _ _ _ hm
  obtain ⟨cs0, rfl, _⟩ := okWide_struct Tryz.underlying24 (hval 0 24 v0 rfl rfl)
  obtain ⟨sl0, sc0, e0, at0, len0, cl0⟩ := came_scheme (CameC.of_trod k0 (weights_each hsz 0 rfl rfl))
  obtain rfl : cs0 = #[.string (bs sc0.c), sl0] := by cases cs0; simpa [Value.cells] using e0
  have k1 := h1
  have lt1 : ∀ x ∈ p1, x.block < W.heap.size := by obtain ⟨m, hm⟩ := k1; exact DataW.trod_lt m _ _ _ hm
  obtain ⟨cs1, rfl, _⟩ := okWide_array Tryz.underlying26 (hval 1 26 v1 rfl rfl)
  obtain ⟨a1, b1, c1, d1x, e1x, f1, g1x, h1x, i1, e1⟩ := came_fields (CameC.of_trod k1 (weights_each hsz 1 rfl rfl))
  obtain rfl : cs1 = #[.string (bs a1), .string (bs b1), .string (bs c1), .string (bs d1x), .string (bs e1x), .string (bs f1), .string (bs g1x), .string (bs h1x), .string (bs i1)] := by cases cs1; simpa [Value.cells] using e1
  have k2 := h2
  have lt2 : ∀ x ∈ p2, x.block < W.heap.size := by obtain ⟨m, hm⟩ := k2; exact DataW.trod_lt m _ _ _ hm
  obtain ⟨s2, rfl⟩ := okWide_string Tryz.underlying9 (hval 2 9 v2 rfl rfl)
  obtain ⟨s2', e2, l2⟩ := (CameC.of_trod k2 (weights_each hsz 2 rfl rfl)).string Tryz.underlying9
  obtain rfl : s2 = s2' := by simpa [Value.cells] using e2
  clear hA0 hval0
  refine (match24_law sc0 len0 cl0 _ a1 b1 c1 d1x e1x f1 g1x h1x i1 s2.data.toList (len_of l2) W at0 HGl).mono fun e W' ⟨he, bel⟩ => ?_
  subst he
  exact ⟨_, rfl, _, _, _, [], _, [], hW', trodAll_mk1 (shut_bool Tryz.underlying4 _), (trodAll_cons_mk (Below.trod laidOut (by kernel_rfl) (of_decide_eq_true (by kernel_rfl)) k0 bel lt0) (trodAll_cons_mk (Below.trod laidOut (by kernel_rfl) (of_decide_eq_true (by kernel_rfl)) k1 bel lt1) (trodAll_cons_mk (Below.trod laidOut (by kernel_rfl) (of_decide_eq_true (by kernel_rfl)) k2 bel lt2) trodAll_mk0))), rfl, bel.frame _, fun h => by cases h⟩

theorem a1 : laidOutB Tryz.prog = true := by kernel_rfl
theorem a2 : mapsRowed Tryz.prog = true := by kernel_rfl
theorem a4 : (Rows.formatMatchesReferenceRow.inPlace == Tryz.prog.inPlace 10) = true := by kernel_rfl
theorem a5 : (Rows.formatMatchesReferenceRow.unfollowed == Tryz.prog.unfollowed 10) = true := by kernel_rfl
theorem a6 : (Rows.formatMatchesReferenceRow.recurses == Tryz.prog.recurses 10) = true := by kernel_rfl
theorem a7 : (Rows.formatMatchesReferenceRow.named == Tryz.prog.varsNamed 10) = true := by kernel_rfl
theorem a8 : (Rows.formatMatchesReferenceRow.plainKeys == Tryz.prog.plainKeys) = true := by kernel_rfl
theorem a9 : Tryz.prog.stopsHeard = true := by kernel_rfl
theorem b1 : Tryz.prog.mayEnter = true := by kernel_rfl
theorem b2 : (Rows.formatMatchesReferenceRow.lifted == Tryz.prog.liftsFinal) = true := by kernel_rfl
theorem and2 {a b : Bool} (ha : a = true) (hb : b = true) : (a && b) = true := by rw [ha, hb]; rfl
set_option maxRecDepth 100000 in
theorem closed : joinedFacts Tryz.prog 10 Tryz.f10 (Rows.formatMatchesReferenceSpec) Rows.formatMatchesReferenceRow = true := by
  unfold joinedFacts
  repeat' (with_reducible refine and2 ?_ ?_)
  all_goals first | with_reducible exact a1 | with_reducible exact a2 | with_reducible exact a4 | with_reducible exact a5 | with_reducible exact a6 | with_reducible exact a7 | with_reducible exact a8 | with_reducible exact a9 | with_reducible exact b1 | with_reducible exact b2 | kernel_rfl

theorem over : Rows.formatMatchesReferenceRow.holds Tryz.pinned (OpenSpec.ofChange Rows.formatMatchesReferenceSpec) :=
  OpenClaim.holds_of_wide 10 Tryz.f10 rfl rfl rfl rfl rfl rfl rfl ⟨rfl, rfl, rfl, rfl, rfl⟩ rfl rfl rfl rfl rfl (by kernel_rfl) Tryz.func10 closed
    (of_decide_eq_true (by kernel_rfl)) (by unfold Func.isWrapper; first | (rw [if_pos (by decide +kernel)]; kernel_rfl) | (rw [if_neg (by decide +kernel)]; exact ⟨rfl, rfl⟩))
    (fun os started H enc _ => by rw [OpenClaim.pre_eq_preRow]; exact lifted os started H enc)

theorem proved : Rows.FormatMatchesReferenceCardSaid :=
  Claim7.holds_tied_plain_at .later [] [.data, .data, .data, .data, .sentinel, .sentinel, .listed, .data, .pinned] true (true, "5c60d74d29d2b7e1ff39bc3668c5936bfc228215227c91c35cde66d84e7beeba") true over (fun _ h => by cases h) (by kernel_rfl) (fun _ h => by cases h) formatMatchesReference_row_tie rfl ⟨rfl, rfl⟩ (by kernel_rfl) rfl
    (fun f fn hf hfn => by
      obtain rfl : f = 10 := Option.some.inj ((show Tryz.prog.funcNamed "gazetteer/gazetteerlaw24.FormatMatchesReference" = some 10 by kernel_rfl).symm.trans hf) |>.symm
      obtain rfl : fn = Tryz.f10 := (Option.some.inj (Tryz.func10.symm.trans hfn)).symm
      exact ⟨by kernel_rfl, fun j t ht => by
        rw [Tryz.params10] at ht
        have hm : t ∈ [24, 26, 9] := by simpa using Array.mem_of_getElem? ht
        have hall : ([24, 26, 9].all fun u => !Tryz.prog.wantsStandIn u) = true := by kernel_rfl
        exact (show Tryz.prog.wantsStandIn t = false by simpa using List.all_eq_true.1 hall t hm)⟩)
    (by kernel_rfl)
#print axioms proved
end Go.Proofs.YtdcafoekbnacnaaGreatDoor.formatMatchesReference
