/- Walks of slices.Clone and tree.Path. -/
import Derived.Test.YtfhanbiifjiklaaGreatDoorT3
import Derived.Test.YtfhanbiifjiklaaGreatDoorShelf2
import Derived.Laws.AppendOwnNone
set_option linter.unusedVariables false
set_option linter.unusedSimpArgs false
namespace Go.Proofs.YtfhanbiifjiklaaGreatDoor
open Go.RowKit

theorem own_to4 {w w' : World} {base : Nat} {e : TypeId} {size n : Nat} {v : Value} {xs : List Value} (h : w.ownsRow base e size v n xs) (hb : Below w.heap.size w w') : w'.ownsRow base e size v n xs :=
  h.kept (show w.grownBy w' none from ⟨hb.os, hb.tape, hb.output, hb.size, fun i hi _ => hb.block i hi⟩) (by cases v.ownBlock <;> simp)
theorem cells_new4 {W : World} {xs : List Value} {ty : TypeId} {b : Nat} (hb : b = W.heap.size) : ∀ (j : Nat) (u : Value), xs[j]? = some u → (W.alloc (.cells xs.toArray ty)).cell? ((⟨b, 0, none⟩ : Addr).add j) = some u := by
  subst hb
  intro j u hu
  rw [show (⟨W.heap.size, 0, none⟩ : Addr).add j = ⟨W.heap.size, j, none⟩ by unfold Addr.add; split <;> simp_all]
  refine ((Blk.new W ty xs.toArray).cell j).trans ?_
  simpa using hu
theorem TextsAt.none_nil {w : World} {n c : Nat} {ls : List (List UInt8)} (h : TextsAt w (.slice none n c) ls) : ls = [] := by
  cases ls with
  | nil => rfl
  | cons x r =>
    obtain ⟨a, h1, _⟩ := h.at_ (k := 0) (x := x) rfl
    cases h1
def flatS (ls : List (List UInt8)) : List Value := ls.map fun x => .string (bs x)
theorem flatS_eq : ∀ ls : List (List UInt8), (ls.map strV).flatten = flatS ls
  | [] => rfl
  | x :: l => by simp [flatS, strV, flatS_eq l]
theorem flatS_at {ls : List (List UInt8)} {j : Nat} {u : Value} (h : (flatS ls)[j]? = some u) : ∃ x, ls[j]? = some x ∧ u = .string (bs x) := by
  unfold flatS at h
  rw [List.getElem?_map, Option.map_eq_some_iff] at h
  obtain ⟨x, h1, h2⟩ := h
  exact ⟨x, h1, h2.symm⟩
theorem TextsAt.cells {w : World} {a : Addr} {n c : Nat} {ls : List (List UInt8)} (h : TextsAt w (.slice (some a) n c) ls) : ∀ (j : Nat) u, (flatS ls)[j]? = some u → w.cell? (a.add j) = some u := fun j u hu => by
  obtain ⟨x, hx, rfl⟩ := flatS_at hu
  obtain ⟨a', e, _, hc⟩ := h.at_ hx
  rw [Option.some.inj e]
  exact hc
theorem TextsAt.of_own {w : World} {B : Nat} {v : Value} {ls : List (List UInt8)} (h : w.ownsRow B 9 1 v ls.length (flatS ls)) : TextsAt w v ls := RowsAt.of_own (by simp [strV]) (by rw [List.length_map, flatS_eq]; exact h)
theorem flatS_len (ls : List (List UInt8)) : (flatS ls).length = ls.length := by simp [flatS]
def OwnT (w : World) (B : Nat) (v : Value) (ls : List (List UInt8)) : Prop := w.ownsRow B 9 1 v ls.length (flatS ls)
def CloneR (ls : List (List UInt8)) (w : World) (e : Ending) (w' : World) : Prop := ∃ v', e = .returned v' ∧ OwnT w' w.heap.size v' ls ∧ Below w.heap.size w w'
set_option maxRecDepth 100000 in
set_option maxHeartbeats 2000000 in
theorem Clone_any (ls : List (List UInt8)) (hl : ls.length ≤ 1000000000) (v : Value) (w : World) (hv : TextsAt w v ls) : Calls Tryz.prog 46 #[v] w (CloneR ls w) := by
  obtain ⟨A, c, rfl, hc⟩ := hv.slice
  have q22 : ∀ (w : World) (a : Option Addr) (n c n' c' : Nat), (binOp .eql 22 (.slice a n c) (.slice none n' c')).run Tryz.prog w = .ok (.bool a.isNone) w := fun w a n c n' c' => Lib.run_eql_slice_nil w _ _ a n c n' c' Tryz.underlying22
  cases A with
  | none =>
    have HL := hide hv.none_nil
    clear hv
    go_enter Tryz.func46, Tryz.ntmps46
    go_wp2_with fail
    go_ret
    exact ⟨_, rfl, by rw [HL.out]; exact World.ownsRow_nil _ _ _ _, Below.refl _ _⟩
  | some a =>
    obtain ⟨i0, hi0, hz0, hz1, hz2⟩ := info_parts (show (Tryz.prog.info? 9).map (fun i => (i.zero, i.size, i.bytes)) = some (some (.string ⟨#[]⟩), 1, 16) by kernel_rfl)
    have HE := hide (below_one w (.cells #[] 9))
    have o0 : Hid (World.ownsRow (w.alloc (.cells #[] 9)) w.heap.size 9 1 (.slice (some ⟨w.heap.size, 0, none⟩) 0 0) 0 []) := ⟨rfl, .inr ⟨w.heap.size, 0, #[], rfl, Nat.le_refl _, heap_alloc_new w _, Nat.le_refl _, by omega, rfl, rfl⟩⟩
    have hcell := hide (hv.to HE.out).cells
    have HFL := hide (show (flatS ls).length = ls.length * 1 by rw [flatS_len, Nat.mul_one])
    clear hv
    go_enter Tryz.func46, Tryz.ntmps46
    go_wp2_with (at_builtin; refine wpList_append_own _ rfl (.tmp 5) (.tmp 6) _ rfl w.heap.size 9 i0 (.string ⟨#[]⟩) 1 16 Tryz.underlying22 hi0 hz0 hz1 hz2 rfl (by omega) _ 0 [] rfl o0.out a ls.length c (flatS ls) rfl HFL.out hcell.out ?c2 ?c4 ?c5 ?c3 ?_)
    case c2 =>
      intro u hu
      obtain ⟨x, _, rfl⟩ := List.mem_map.1 hu
      rfl
    case c4 => simp only [maxLen]; omega
    case c5 => omega
    case c3 => exact HE.out.size
    intro v' w6 hown6 hgr6 _
    have HB : Hid (Below w.heap.size w w6) := HE.out.grown hgr6 HE.out.size (fun b hb => (o0.out.lt b hb).1)
    have HO : Hid (OwnT w6 w.heap.size v' ls) := by
      show World.ownsRow _ _ _ _ _ _ _
      simpa using hown6
    clear hown6 hgr6
    go_wp2_with fail
    go_ret
    exact ⟨v', rfl, HO.out, HB.out⟩
end Go.Proofs.YtfhanbiifjiklaaGreatDoor
