/- Words for the walk of Read. -/
import Derived.Test.YtldicibhfmnjnaaGreatDoorC6
import Derived.Laws.CopyOwn
set_option linter.unusedVariables false
set_option linter.unusedSimpArgs false
namespace Go.Proofs.YtldicibhfmnjnaaGreatDoor
open Go.RowKit

theorem miss_app (x : Int) : ∀ (l : List Int) (j : Nat), miss j (l ++ [x]) = miss j l ++ (if x < 0 then [j + l.length] else [])
  | [], j => by simp [miss]
  | v :: l, j => by
    simp only [List.cons_append, miss, List.length_cons]
    rw [miss_app x l (j + 1), show j + 1 + l.length = j + (l.length + 1) by omega]
    split <;> rfl
theorem miss_take {l : List Int} {k : Nat} {x : Int} (h : l[k]? = some x) : miss 0 (l.take (k + 1)) = miss 0 (l.take k) ++ (if x < 0 then [k] else []) := by
  have hk : k < l.length := by rcases Nat.lt_or_ge k l.length with h' | h'; exact h'; rw [List.getElem?_eq_none h'] at h; cases h
  rw [List.take_add_one, h]
  show miss 0 (l.take k ++ [x]) = _
  rw [miss_app, Nat.zero_add, List.length_take, Nat.min_eq_left (by omega)]
theorem miss_len : ∀ (l : List Int) (j : Nat), (miss j l).length ≤ l.length
  | [], _ => by simp [miss]
  | v :: l, j => by
    have := miss_len l (j + 1)
    unfold miss
    split <;> simp <;> omega
def natsI (M : List Nat) : List Int := M.map fun (i : Nat) => (i : Int)
theorem natsI_len (M : List Nat) : (natsI M).length = M.length := by simp [natsI]
theorem own_to {w w' : World} {base : Nat} {e : TypeId} {size n : Nat} {v : Value} {xs : List Value} (h : w.ownsRow base e size v n xs) (hb : Below w.heap.size w w') : w'.ownsRow base e size v n xs :=
  h.kept (grown_of_below hb) (by cases v.ownBlock <;> simp)
theorem run_make_any {P : Program} {t e : TypeId} {z : Value} {sz : Nat} (ht : P.underlying t = some (.slice e)) (hinfo : (P.info? e).map (fun i => (i.zero, i.size, i.bytes)) = some (some z, 1, sz)) (hz : z.cells = #[z]) {N : Int} {n : Nat} (hN : N = n) (hn : n * sz ≤ 281474976710656) (hn2 : n ≤ 9223372036854775807) (w : World) :
    (Instr.makeSlice t (.int .i64 N) (.int .i64 N)).run P w = .ok (.slice (some ⟨w.heap.size, 0, none⟩) n n) (w.alloc (.cells (madeCells #[z] n) e)) := by
  subst hN
  obtain ⟨i0, hi, hz0, hz1, hz2⟩ := info_parts hinfo
  have hb : (i0.bytes : Int) * (n : Int) ≤ 281474976710656 := by
    have h : ((n * sz : Nat) : Int) ≤ 281474976710656 := by omega
    rwa [Int.natCast_mul, Int.mul_comm, ← hz2] at h
  have h := run_make (P := P) w t e i0 z ht hi hz0 .i64 .i64 (n : Int) (n : Int) (by omega) (by omega) hb (by omega)
  simp only [Int.toNat_natCast, hz1, Nat.mul_one, hz] at h
  exact h
theorem made_len (z : Value) (n : Nat) : (madeCells #[z] n).toList.length = n := by simp [madeCells]
theorem splice_full {cur cs : List Value} (h : cs.length = cur.length) : Go.splice cur 0 cs = cs := by
  unfold Go.splice
  rw [List.take_zero, List.nil_append, Nat.zero_add, h, List.drop_length, List.append_nil]
theorem intC_V (l : List Int) : intC l = (intV l).toArray := rfl
theorem ints_of_blk {w : World} {f : Nat} {t : TypeId} {l : List Int} {n m c : Nat} (h : Blk w f t (intC l)) (hm : m ≤ l.length) (hc : m ≤ c) : IntsAt w (.slice (some ⟨f, 0, none⟩) m c) (l.take m) :=
  ⟨f, c, by rw [List.length_take, Nat.min_eq_left hm], h.lt, by rw [List.length_take, Nat.min_eq_left hm]; exact hc, fun k x hx => by
    rw [List.getElem?_take] at hx
    split at hx
    · exact (h.cell k).trans (intC_at hx)
    · cases hx⟩
def MiI (l : List Int) (w1 wr : World) (v i : Value) : Prop := ∃ k : Nat, k ≤ l.length ∧ i = .int .i64 (k : Int) ∧ wr.ownsRow w1.heap.size 3 1 v (miss 0 (l.take k)).length (intV (natsI (miss 0 (l.take k)))) ∧ Below w1.heap.size w1 wr
theorem read_fill {s : List UInt8} {F : List Int} (hR : canR s = true) (hf : fillP (vals s) = some F) :
    (oneP F = 0 ∧ twoP F = 0 → readE s = 0 ∧ readP s = (F.take (F.length - 2)).map symC) ∧ (¬ (oneP F = 0 ∧ twoP F = 0) → readE s = 20 ∧ readP s = []) := by
  constructor
  · intro h
    exact read_ok hR (by unfold readV; rw [hf]; simp [h])
  · intro h
    exact read_no hR (by unfold readV; rw [hf]; simp [h])
theorem read_many {s : List UInt8} (hR : canR s = true) (hf : 3 ≤ (miss 0 (vals s)).length) : readE s = 20 ∧ readP s = [] := by
  refine read_no hR ?_
  unfold readV fillP
  generalize miss 0 (vals s) = M at *
  match M, hf with
  | _ :: _ :: _ :: _, _ => rfl
theorem canR_of3 {s : List UInt8} (h : s.all okC = true ∧ 3 ≤ s.length ∧ s.length ≤ 36) : canR s = true := by unfold canR; simp [h]
theorem canR_not {s : List UInt8} (h : ¬ (s.all okC = true ∧ 3 ≤ s.length ∧ s.length ≤ 36)) : readE s = 1 ∧ readP s = [] := by
  have : canR s = false := by
    rw [← Bool.not_eq_true]
    intro h'
    unfold canR at h'
    simp only [Bool.and_eq_true, decide_eq_true_eq] at h'
    exact h ⟨h'.1.1, h'.1.2, h'.2⟩
  unfold readE readP
  rw [this]; exact ⟨rfl, rfl⟩
end Go.Proofs.YtldicibhfmnjnaaGreatDoor
