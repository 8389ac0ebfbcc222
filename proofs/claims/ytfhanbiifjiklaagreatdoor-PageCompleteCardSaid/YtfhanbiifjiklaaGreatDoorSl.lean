/- Slices of texts and of records, wherever they lie. -/
import Derived.Test.YtfhanbiifjiklaaGreatDoorCl2
import Derived.Test.YtfhanbiifjiklaaGreatDoorBu
set_option linter.unusedVariables false
set_option linter.unusedSimpArgs false
namespace Go.Proofs.YtfhanbiifjiklaaGreatDoor
open Go.RowKit

/-- the slice value v holds the rows ls, each of `size` cells -/
def RowsAt (w : World) (size : Nat) (v : Value) (ls : List (List Value)) : Prop := ∃ A c, v = .slice A ls.length c ∧ ls.length ≤ c ∧
  (∀ x ∈ ls, x.length = size) ∧ ∀ (k : Nat) x, ls[k]? = some x → ∃ a, A = some a ∧ a.block < w.heap.size ∧ ∀ (j : Nat) u, x[j]? = some u → w.cell? ((a.add (k * size)).add j) = some u
theorem RowsAt.to {w w' : World} {size : Nat} {v : Value} {ls : List (List Value)} (h : RowsAt w size v ls) (hb : Below w.heap.size w w') : RowsAt w' size v ls := by
  obtain ⟨A, c, h1, h2, h3, h4⟩ := h
  refine ⟨A, c, h1, h2, h3, fun k x hx => ?_⟩
  obtain ⟨a, e, hl, hc⟩ := h4 k x hx
  exact ⟨a, e, Nat.lt_of_lt_of_le hl hb.size, fun j u hu => (hb.cell (by rw [block_of_add, block_of_add]; exact hl)).trans (hc j u hu)⟩
theorem RowsAt.nil (w : World) (size : Nat) : RowsAt w size (.slice none 0 0) [] := ⟨none, 0, rfl, Nat.le_refl _, by simp, fun k x h => by simp at h⟩
/-- element k -/
theorem RowsAt.at_ {w : World} {size : Nat} {v : Value} {ls : List (List Value)} (h : RowsAt w size v ls) {k : Nat} {x : List Value} (hx : ls[k]? = some x) :
    ∃ a c, v = .slice (some a) ls.length c ∧ ls.length ≤ c ∧ a.block < w.heap.size ∧ x.length = size ∧ ∀ (j : Nat) u, x[j]? = some u → w.cell? ((a.add (k * size)).add j) = some u := by
  obtain ⟨A, c, h1, h2, h3, h4⟩ := h
  obtain ⟨a, e, hl, hc⟩ := h4 k x hx
  exact ⟨a, c, by rw [h1, e], h2, hl, h3 x (List.mem_of_getElem? hx), hc⟩
/-- a row that the call has made -/
theorem RowsAt.of_blk {w : World} {b n c : Nat} {t : TypeId} {cs : Array Value} {size : Nat} {ls : List (List Value)} (h : Blk w b t cs) (hn : n = ls.length) (hc : n ≤ c) (hs : ∀ x ∈ ls, x.length = size)
    (hat : ∀ (k : Nat) x, ls[k]? = some x → ∀ (j : Nat) u, x[j]? = some u → cs[k * size + j]? = some u) : RowsAt w size (.slice (some ⟨b, 0, none⟩) n c) ls := by
  refine ⟨some ⟨b, 0, none⟩, c, by rw [hn], by omega, hs, fun k x hx => ⟨_, rfl, h.lt, fun j u hu => ?_⟩⟩
  have e : ((⟨b, 0, none⟩ : Addr).add (k * size)).add j = ⟨b, k * size + j, none⟩ := by
    rw [add_of_add]; unfold Addr.add; split
    · rename_i h0; simp [h0]
    · simp
  rw [e]
  exact (h.cell _).trans (hat k x hx j u hu)
theorem flat_at {size : Nat} : ∀ (ls : List (List Value)), (∀ x ∈ ls, x.length = size) → ∀ (k : Nat) (x : List Value) (j : Nat) (u : Value), ls[k]? = some x → x[j]? = some u → ls.flatten[k * size + j]? = some u
  | [], _, k, x, j, u, h, _ => by simp at h
  | y :: l, hs, 0, x, j, u, h, hu => by
    simp at h
    subst h
    have hj : j < y.length := by rcases Nat.lt_or_ge j y.length with h | h; exact h; rw [List.getElem?_eq_none h] at hu; cases hu
    rw [List.flatten_cons, Nat.zero_mul, Nat.zero_add, List.getElem?_append_left hj]; exact hu
  | y :: l, hs, k + 1, x, j, u, h, hu => by
    have hy := hs y (by simp)
    have ih := flat_at l (fun z hz => hs z (by simp [hz])) k x j u (by simpa using h) hu
    rw [List.flatten_cons, List.getElem?_append_right (by rw [hy, Nat.add_mul]; omega), hy]
    rw [show (k + 1) * size + j - size = k * size + j by rw [Nat.add_mul]; omega]
    exact ih
theorem flat_len {size : Nat} : ∀ (ls : List (List Value)), (∀ x ∈ ls, x.length = size) → ls.flatten.length = ls.length * size
  | [], _ => by simp
  | y :: l, hs => by
    rw [List.flatten_cons, List.length_append, hs y (by simp), flat_len l (fun z hz => hs z (by simp [hz])), List.length_cons, Nat.add_mul]
    omega
/-- a row grown by append -/
theorem RowsAt.of_own {w : World} {B : Nat} {e : TypeId} {size : Nat} {v : Value} {ls : List (List Value)} (hs : ∀ x ∈ ls, x.length = size) (h : w.ownsRow B e size v ls.length ls.flatten) : RowsAt w size v ls := by
  obtain ⟨_, h⟩ := h
  rcases h with ⟨hv, h0⟩ | ⟨g, cap, cur, hv, hB, hg, hn, _, hsz, ht⟩
  · rw [List.eq_nil_of_length_eq_zero h0, hv]; exact RowsAt.nil w size
  · rw [hv]
    refine RowsAt.of_blk (cs := cur) hg rfl hn hs fun k x hx j u hu => ?_
    have h1 := flat_at ls hs k x j u hx hu
    rw [← ht, List.getElem?_take] at h1
    split at h1
    · simpa using h1
    · cases h1
/-- a part of a slice -/
theorem RowsAt.take {w : World} {size n c : Nat} {A : Option Addr} {ls : List (List Value)} (h : RowsAt w size (.slice A n c) ls) {k : Nat} (hk : k ≤ ls.length) (c' : Nat) (hc : k ≤ c') : RowsAt w size (.slice A k c') (ls.take k) := by
  obtain ⟨A', c0, h1, h2, h3, h4⟩ := h
  have e := h1
  injection e with e1 e2 e3
  subst e1
  refine ⟨A, c', by rw [List.length_take]; congr 1; omega, by rw [List.length_take]; omega, fun x hx => h3 x (List.mem_of_mem_take hx), fun j x hx => ?_⟩
  rw [List.getElem?_take] at hx
  split at hx
  · exact h4 j x hx
  · cases hx
theorem RowsAt.drop {w : World} {size n c : Nat} {a : Addr} {ls : List (List Value)} (h : RowsAt w size (.slice (some a) n c) ls) {k : Nat} (hk : k ≤ ls.length) (c' : Nat) (hc : ls.length - k ≤ c') : RowsAt w size (.slice (some (a.add (k * size))) (ls.length - k) c') (ls.drop k) := by
  obtain ⟨A', c0, h1, h2, h3, h4⟩ := h
  have e := h1
  injection e with e1 e2 e3
  subst e1
  refine ⟨some (a.add (k * size)), c', by rw [List.length_drop], by rw [List.length_drop]; exact hc, fun x hx => h3 x (List.mem_of_mem_drop hx), fun j x hx => ?_⟩
  rw [List.getElem?_drop] at hx
  obtain ⟨a', e', hl, hcell⟩ := h4 (k + j) x hx
  obtain rfl := Option.some.inj e'
  refine ⟨_, rfl, by rw [block_of_add]; exact hl, fun i u hu => ?_⟩
  have := hcell i u hu
  rw [add_of_add] at this
  rw [add_of_add, add_of_add, ← this]
  congr 2
  rw [Nat.add_mul]; omega
/-- texts -/
def strV (l : List UInt8) : List Value := [.string (bs l)]
def TextsAt (w : World) (v : Value) (ls : List (List UInt8)) : Prop := RowsAt w 1 v (ls.map strV)
theorem TextsAt.to {w w' : World} {v : Value} {ls : List (List UInt8)} (h : TextsAt w v ls) (hb : Below w.heap.size w w') : TextsAt w' v ls := RowsAt.to h hb
end Go.Proofs.YtfhanbiifjiklaaGreatDoor
