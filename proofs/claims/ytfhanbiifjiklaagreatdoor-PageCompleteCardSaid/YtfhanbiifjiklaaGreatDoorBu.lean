/- Words for Builders, strconv.Itoa, strings.Trim; lists of texts. -/
import Derived.Test.YtfhanbiifjiklaaGreatDoorGl
import Derived.Test.YtfhanbiifjiklaaGreatDoorBs
import Derived.Test.YtfhanbiifjiklaaGreatDoorShelf
import Derived.Lib.Builder
import Derived.Lib.SlTrimSet
set_option linter.unusedVariables false
set_option linter.unusedSimpArgs false
namespace Go.Proofs.YtfhanbiifjiklaaGreatDoor
open Go.RowKit

theorem grown_of_below {w w' : World} (hb : Below w.heap.size w w') : w.grownBy w' none := ⟨hb.os, hb.tape, hb.output, hb.size, fun i hi _ => hb.block i hi⟩
theorem below_grow {B : Nat} {a w : World} (h : Below B a w) (hB : B ≤ w.heap.size) (os : Array Obj) : Below B a (Sort.grow w os) :=
  ⟨h.os, h.tape, h.output, by simp; have := h.size; omega, fun k hk => by
    rw [← h.block k hk]
    show (w.heap ++ os)[k]? = w.heap[k]?
    rw [Array.getElem?_append_left (by omega)]⟩
theorem BuilderAt_to {T e : TypeId} {B b : Nat} {p : Value} {xs : List Value} {w w' : World} (h : Lib.BuilderAt T e B b p xs w) (hb : Below w.heap.size w w') : Lib.BuilderAt T e B b p xs w' := by
  have hlt := h.lt
  obtain ⟨h1, v, h2, h3, h4⟩ := h
  refine ⟨h1, v, (hb.block b hlt).trans h2, h3.kept (grown_of_below hb) ?_, h4⟩
  cases v.ownBlock <;> simp
theorem IsBuilder_to {T e : TypeId} {B b : Nat} {xs : List Value} {w w' : World} (h : Lib.IsBuilder T e B b xs w) (hb : Below w.heap.size w w') : Lib.IsBuilder T e B b xs w' :=
  h.elim (fun x => .inl (BuilderAt_to x hb)) (fun x => .inr (BuilderAt_to x hb))
theorem Itoa_any (n : Int) (h0 : -9223372036854775808 ≤ n) (h1 : n ≤ 9223372036854775807) (w : World) (hg : Glob w) : Calls Tryz.prog 55 #[.int .i64 n] w fun e w' => e = .returned (.string (bs (Lib.itoa n))) ∧ Below w.heap.size w w' :=
  (Tryz.strconv_Itoa n h0 h1 w hg.tab).mono fun e w' ⟨h, k, os, h'⟩ => ⟨h, h' ▸ below_grow (below_drewN (Below.refl _ w) k) (Nat.le_refl _) os⟩
theorem strCells_bs (l : List UInt8) : Lib.strCells (bs l) = Lib.byteCells l := by unfold Lib.strCells; rw [bs_list]; rfl
theorem byteCells_app (l m : List UInt8) : Lib.byteCells (l ++ m) = Lib.byteCells l ++ Lib.byteCells m := by simp [Lib.byteCells]
/-- a list of texts as the cells of a slice -/
def strC (ls : List (List UInt8)) : Array Value := (ls.map fun l => Value.string (bs l)).toArray
theorem strC_at {ls : List (List UInt8)} {k : Nat} {l : List UInt8} (h : ls[k]? = some l) : (strC ls)[k]? = some (.string (bs l)) := by simp [strC, h]
theorem repeat_zeros (k : Nat) : Lib.repeatL [48] k = List.replicate k 48 := by
  induction k with
  | zero => rfl
  | succ k ih => simp_all [Lib.repeatL, List.replicate_succ]
theorem dw_nil (p : UInt8 → Bool) : ∀ l : List UInt8, l.dropWhile p = [] ↔ ∀ c ∈ l, p c = true
  | [] => by simp
  | c :: r => by
    rw [List.dropWhile_cons]
    by_cases h : p c = true
    · rw [if_pos h, dw_nil p r]; simp [h]
    · rw [if_neg h]; simp [h]
theorem dw_head (p : UInt8 → Bool) : ∀ (l : List UInt8) (c : UInt8) (r : List UInt8), l.dropWhile p = c :: r → p c = false
  | [], c, r, h => by simp at h
  | a :: l, c, r, h => by
    rw [List.dropWhile_cons] at h
    by_cases hp : p a = true
    · rw [if_pos hp] at h; exact dw_head p l c r h
    · rw [if_neg hp] at h
      injection h with h1 _
      rw [← h1]; simpa using hp
/-- all bytes of a set trimmed off -/
theorem trimS_nil (l cs : List UInt8) : Lib.trimS l cs = [] ↔ ∀ c ∈ l, c ∈ cs := by
  have e : Lib.trimS l cs = ((l.reverse.dropWhile (cs.contains ·)).reverse).dropWhile (cs.contains ·) := rfl
  rw [e, dw_nil]
  constructor
  · intro h
    cases hd : l.reverse.dropWhile (cs.contains ·) with
    | nil =>
      have := (dw_nil _ _).1 hd
      intro c hc
      have h1 := this c (by simpa using hc)
      simpa using h1
    | cons c r =>
      have h1 := dw_head _ _ _ _ hd
      have h2 := h c (by rw [hd]; simp)
      rw [h1] at h2; cases h2
  · intro h
    have : l.reverse.dropWhile (cs.contains ·) = [] := (dw_nil _ _).2 (fun c hc => by have := h c (by simpa using hc); simpa using this)
    rw [this]; simp
end Go.Proofs.YtfhanbiifjiklaaGreatDoor
