/- Walks of package tree: proper, Root. -/
import Derived.Test.YtfhanbiifjiklaaGreatDoorT2
set_option linter.unusedVariables false
set_option linter.unusedSimpArgs false
namespace Go.Proofs.YtfhanbiifjiklaaGreatDoor
open Go.RowKit

theorem drop_at' {α : Type} {l : List α} {k : Nat} {x : α} (h : l[k]? = some x) : l.drop k = x :: l.drop (k + 1) := by
  obtain ⟨hlt, e⟩ := List.getElem?_eq_some_iff.1 h
  rw [List.drop_eq_getElem_cons hlt, e]
def IdxR (b : Bool) (w : World) (e : Ending) (w' : World) : Prop := ∃ i : Int, e = .returned (.int .i64 i) ∧ decide (0 ≤ i) = b ∧ Below w.heap.size w w'
set_option maxRecDepth 100000 in
set_option maxHeartbeats 4000000 in
theorem IndexFunc_dig (K : FuncId) (hE : ∀ args w, (callFunc K args).run Tryz.prog w = .ok (.enter K args) w) (p : List UInt8 → Bool) (ls : List (List UInt8)) (hn : ls.length ≤ 140737488355328) (v : Value) (w : World) (hv : TextsAt w v ls)
    (hF : ∀ x ∈ ls, ∀ w', Below w.heap.size w w' → Calls Tryz.prog K #[.string (bs x)] w' fun e w'' => e = .returned (.bool (p x)) ∧ Below w'.heap.size w' w'') :
    Calls Tryz.prog 133 #[v, .func (.func K) #[] #[]] w (IdxR (ls.any p) w) := by
  obtain ⟨A, c, rfl, hc⟩ := hv.slice
  have HS := hide hv
  have HF := hide hF
  clear hv hF
  go_enter Tryz.func133, Tryz.ntmps133
  go_wp2_with fail
  go_loopw [5, 8] (fun _ i wr => ∃ k : Nat, i = .int .i64 (k : Int) ∧ k ≤ ls.length ∧ Aside (Below w.heap.size w wr) ∧ Aside (ls.any p = (ls.drop k).any p)) (fun _ i _ => ls.length - (intOf i).toNat)
  case atStart => exact ⟨0, rfl, by omega, Below.refl _ _, rfl⟩
  case round =>
    obtain ⟨k, rfl, hk, hB, hA⟩ := hrel
    have HB : Hid (Below w.heap.size w wr) := hB
    have HA : Hid (ls.any p = (ls.drop k).any p) := hA
    clear hB hA
    by_cases hlt : k < ls.length
    · have e1 : decide ((k : Int) < (ls.length : Int)) = true := decide_eq_true (by omega)
      obtain ⟨x, hx⟩ : ∃ x, ls[k]? = some x := ⟨_, List.getElem?_eq_getElem hlt⟩
      obtain ⟨a, rfl, ha, c0⟩ := (HS.out.to HB.out).at_ hx
      have CV := HF.out x (List.mem_of_getElem? hx) wr HB.out
      have HD := hide (drop_at' hx)
      clear hx
      cases hp : p x with
      | true =>
        rw [hp] at CV
        have HV : Hid (ls.any p = true) := by show _ = _; rw [HA.out, HD.out, List.any_cons, hp]; rfl
        clear hp
        go_wp2_with ((with_reducible refine CV.mono ?_); rintro e w4 ⟨rfl, hb4⟩)
        go_ret
        exact ⟨_, rfl, by rw [HV.out]; exact decide_eq_true (by omega), below_to HB.out (Nat.le_refl _) (by assumption)⟩
      | false =>
        rw [hp] at CV
        have HV : Hid (ls.any p = (ls.drop (k + 1)).any p) := by show _ = _; rw [HA.out, HD.out, List.any_cons, hp]; rfl
        clear hp
        go_wp2_with ((with_reducible refine CV.mono ?_); rintro e w4 ⟨rfl, hb4⟩)
        refine ⟨⟨k + 1, by go_num, by omega, below_to HB.out (Nat.le_refl _) (by assumption), HV.out⟩, ?_⟩
        simp [intOf]; omega
    · obtain rfl : k = ls.length := by omega
      have e1 : decide ((ls.length : Int) < (ls.length : Int)) = false := by simp
      have HV : Hid (ls.any p = false) := by show _ = _; rw [HA.out, List.drop_length]; rfl
      go_wp2_with fail
      go_ret
      exact ⟨-1, rfl, by rw [HV.out]; rfl, HB.out⟩
set_option maxHeartbeats 1000000 in
theorem ContainsFunc_dig (K : FuncId) (hE : ∀ args w, (callFunc K args).run Tryz.prog w = .ok (.enter K args) w) (p : List UInt8 → Bool) (ls : List (List UInt8)) (hn : ls.length ≤ 140737488355328) (v : Value) (w : World) (hv : TextsAt w v ls)
    (hF : ∀ x ∈ ls, ∀ w', Below w.heap.size w w' → Calls Tryz.prog K #[.string (bs x)] w' fun e w'' => e = .returned (.bool (p x)) ∧ Below w'.heap.size w' w'') :
    Calls Tryz.prog 112 #[v, .func (.func K) #[] #[]] w fun e w' => e = .returned (.bool (ls.any p)) ∧ Below w.heap.size w w' := by
  have CI := IndexFunc_dig K hE p ls hn v w hv hF
  clear hv hF
  go_enter Tryz.func112, Tryz.ntmps112
  go_wp2_with fail
  refine CI.mono ?_
  rintro e w2 ⟨i, rfl, hi, hb⟩
  have HI := hide hi
  have HB := hide hb
  clear hi hb
  go_wp2_with fail
  go_ret
  exact ⟨ret_bool HI.out, HB.out⟩
theorem ent_proper1 : ∀ args w, (callFunc 113 args).run Tryz.prog w = .ok (.enter 113 args) w := enters_fn Tryz.func113 (by kernel_rfl) rfl
set_option maxHeartbeats 1000000 in
theorem proper1_any (x : List UInt8) (hx : x.length ≤ 100000000000) (w : World) : Calls Tryz.prog 113 #[.string (bs x)] w fun e w' => e = .returned (.bool (!isD x)) ∧ Below w.heap.size w w' := by
  have CI := Is_any x (by omega) w
  go_enter Tryz.func113, Tryz.ntmps113
  go_wp2_with ((with_reducible refine CI.mono ?_); rintro e w' ⟨rfl, hb⟩)
  go_ret
  exact ⟨rfl, by assumption⟩
set_option maxHeartbeats 1000000 in
theorem tproper_any (ls : List (List UInt8)) (hn : ls.length ≤ 140737488355328) (hx : ∀ x ∈ ls, x.length ≤ 100000000000) (v : Value) (w : World) (hv : TextsAt w v ls) :
    Calls Tryz.prog 82 #[v] w fun e w' => e = .returned (.bool (properT ls)) ∧ Below w.heap.size w w' := by
  have CI := ContainsFunc_dig 113 ent_proper1 (fun x => !isD x) ls hn v w hv (fun x h w' _ => proper1_any x (hx x h) w')
  have HV : Hid (properT ls = !(ls.any fun x => !isD x)) := by show _ = _; unfold properT; rw [List.not_any_eq_all_not]; simp
  clear hv hx
  go_enter Tryz.func82, Tryz.ntmps82
  go_wp2_with ((with_reducible refine CI.mono ?_); rintro e w' ⟨rfl, hb⟩)
  go_ret
  exact ⟨ret_bool (by rw [HV.out]), by assumption⟩
set_option maxHeartbeats 2000000 in
theorem tRoot_any (ls : List (List UInt8)) (hn : ls.length ≤ 140737488355328) (hx : ∀ x ∈ ls, x.length ≤ 100000000000) (v : Value) (w : World) (hv : TextsAt w v ls) (hg : Glob w) :
    Calls Tryz.prog 45 #[v] w fun e w' => e = .returned (.tuple #[.string (bs (rootV ls)), .int .i64 (rootE ls)]) ∧ Below w.heap.size w w' := by
  have CP := tproper_any ls hn hx v w hv
  have CT := fun (w' : World) (hb : Below w.heap.size w w') => total_any ls hn hx v w' (hv.to hb) (hg.to hb)
  unfold rootV rootE
  clear hv hg hx
  cases hp : properT ls with
  | false =>
    rw [hp] at CP
    rw [if_neg (by simp), if_neg (by simp)]
    clear hp
    go_enter Tryz.func45, Tryz.ntmps45
    go_wp2_with ((with_reducible refine CP.mono ?_); rintro e w' ⟨rfl, hb⟩)
    go_ret2
    exact ⟨rfl, by assumption⟩
  | true =>
    rw [hp] at CP
    rw [if_pos rfl, if_pos rfl]
    clear hp
    go_enter Tryz.func45, Tryz.ntmps45
    go_wp2_with fail
    refine CP.mono ?_
    rintro e w2 ⟨rfl, hb⟩
    have HB := hide hb
    have CT' := CT _ hb
    clear hb CP CT
    go_wp2_with ((with_reducible refine CT'.mono ?_); rintro e w3 ⟨rfl, hb3⟩)
    go_ret2
    exact ⟨rfl, below_to HB.out (Nat.le_refl _) (by assumption)⟩
end Go.Proofs.YtfhanbiifjiklaaGreatDoor
