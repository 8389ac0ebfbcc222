/- Walks of package privacy: record.valid. -/
import Derived.Test.YtdiebacfbhjbdaaGreatDoorN5
set_option linter.unusedVariables false
set_option linter.unusedSimpArgs false
namespace Go.Proofs.YtdiebacfbhjbdaaGreatDoor
open Go.RowKit

set_option maxRecDepth 100000 in
set_option maxHeartbeats 4000000 in
theorem rvalid_any (log : List Ln) (hf : ∀ l ∈ log, l.fit) (hl : log.length ≤ 1000000000) (v : Value) (w : World) (hv : LnsAt w v log) (hg : Glob w) : Calls Tryz.prog 36 #[v] w fun e w' => e = .returned (.bool (validG log)) ∧ Below w.heap.size w w' := by
  obtain ⟨A, c, rfl⟩ := hv.slice
  have HS := hide hv
  have HG := hide hg
  have HV : Hid (validG log = (log.all validL && decide (log.length ≤ 10000))) := rfl
  clear hv hg
  go_enter Tryz.func36, Tryz.ntmps36
  go_wp2_with fail
  go_loopw [4, 7] (fun _ i wr => ∃ k : Nat, i = .int .i64 (k : Int) ∧ (k ≤ log.length ∧ log.all validL = (log.drop k).all validL) ∧ Below w.heap.size w wr) (fun _ i _ => log.length - (intOf i).toNat)
  case atStart => exact ⟨0, rfl, ⟨by omega, rfl⟩, Below.refl _ _⟩
  case round =>
    obtain ⟨k, rfl, ⟨hk, hall⟩, hB⟩ := hrel
    have HA := hide hall
    have HB := hide hB
    clear hall hB
    by_cases hlt : k < log.length
    · have e1 : decide ((k : Int) < (log.length : Int)) = true := decide_eq_true (by omega)
      obtain ⟨l, hl'⟩ : ∃ l, log[k]? = some l := ⟨_, List.getElem?_eq_getElem hlt⟩
      obtain ⟨a, rfl, ha, c0, c1, c2, c3⟩ := LnsAt.at_ (HS.out.to HB.out) hl'
      have HW := hide (below_alloc HB.out (Nat.le_refl _) (.cells #[.string (bs l.p), .string (bs l.t), .string (bs l.s), .string (bs l.d)] 32))
      have CV : Calls Tryz.prog 15 #[.agg #[.string (bs l.p), .string (bs l.t), .string (bs l.s), .string (bs l.d)]] (wr.alloc (.cells #[.string (bs l.p), .string (bs l.t), .string (bs l.s), .string (bs l.d)] 32)) fun e w' => e = .returned (.bool (validL l)) ∧ Below (wr.alloc (.cells #[.string (bs l.p), .string (bs l.t), .string (bs l.s), .string (bs l.d)] 32)).heap.size (wr.alloc (.cells #[.string (bs l.p), .string (bs l.t), .string (bs l.s), .string (bs l.d)] 32)) w' := Valid_any l (hf l (List.mem_of_getElem? hl')) _ (HG.out.to HW.out)
      have HD : Hid (log.drop k = l :: log.drop (k + 1)) := by
        show _ = _
        rw [List.drop_eq_getElem_cons hlt]
        rw [List.getElem?_eq_getElem hlt] at hl'
        rw [Option.some.inj hl']
      clear hl' hf
      cases hvl : validL l with
      | true =>
        rw [hvl] at CV
        have HN : Hid (log.all validL = (log.drop (k + 1)).all validL) := by show _ = _; rw [HA.out, HD.out, List.all_cons, hvl]; rfl
        clear hvl
        go_wp2_with ((with_reducible refine CV.mono ?_); rintro e w' ⟨rfl, hb⟩)
        refine ⟨⟨k + 1, by go_num, ⟨by omega, HN.out⟩, below_to HW.out (Nat.le_refl _) (by assumption)⟩, ?_⟩
        simp [intOf]; omega
      | false =>
        rw [hvl] at CV
        have HN : Hid (validG log = false) := by show _ = _; rw [HV.out, HA.out, HD.out, List.all_cons, hvl]; rfl
        clear hvl
        go_wp2_with ((with_reducible refine CV.mono ?_); rintro e w' ⟨rfl, hb⟩)
        go_ret
        exact ⟨ret_bool (by rw [HN.out]), below_to HW.out (Nat.le_refl _) (by assumption)⟩
    · obtain rfl : k = log.length := by omega
      have e1 : decide ((log.length : Int) < (log.length : Int)) = false := by simp
      have HN : Hid (validG log = decide ((log.length : Int) ≤ 10000)) := by
        show _ = _
        rw [HV.out, HA.out, List.drop_length, List.all_nil, Bool.true_and]
        exact decide_eq_decide.2 (by omega)
      go_wp2_with fail
      go_ret
      exact ⟨ret_bool (by rw [HN.out]), HB.out⟩
end Go.Proofs.YtdiebacfbhjbdaaGreatDoor
