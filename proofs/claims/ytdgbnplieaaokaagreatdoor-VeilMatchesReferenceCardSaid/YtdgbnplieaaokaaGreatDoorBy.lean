/- Rows of bytes that the call made: a text as bytes, a byte written, the bytes as a text. -/
import Derived.Test.YtdgbnplieaaokaaGreatDoorBs
import Derived.Test.YtdgbnplieaaokaaGreatDoorCl2
import Derived.Laws.IdiomStrings
import Derived.Laws.World
set_option linter.unusedVariables false
set_option linter.unusedSimpArgs false
namespace Go.Proofs.YtdgbnplieaaokaaGreatDoor
open Go.RowKit

/-- block b holds the bytes l, which may be written -/
structure Byt (w : World) (b : Nat) (l : List UInt8) : Prop where
  lt : b < w.heap.size
  cell : ∀ (j : Nat) (c : UInt8), l[j]? = some c → w.cell? ⟨b, j, none⟩ = some (.int .u8 (c.toNat : Int))
  free : ∀ j, j < l.length → w.frozen? ⟨b, j, none⟩ = false
theorem Byt.below {w w' : World} {b B : Nat} {l : List UInt8} (h : Byt w b l) (hb : Below B w w') (hB : b < B) : Byt w' b l :=
  ⟨Nat.lt_of_lt_of_le h.lt hb.size, fun j c hc => (hb.cell (p := ⟨b, j, none⟩) hB).trans (h.cell j c hc), fun j hj => (hb.frozen (p := ⟨b, j, none⟩) hB).trans (h.free j hj)⟩
theorem Byt.to {w w' : World} {b : Nat} {l : List UInt8} (h : Byt w b l) (hb : Below w.heap.size w w') : Byt w' b l := h.below hb h.lt
theorem Byt.set_ {w : World} {b j : Nat} {l : List UInt8} (h : Byt w b l) (hj : j < l.length) (c : UInt8) : Byt (w.setCell ⟨b, j, none⟩ (.int .u8 (c.toNat : Int))) b (l.set j c) := by
  have h0 := h.cell j l[j] (List.getElem?_eq_getElem hj)
  refine ⟨by simpa [World.setCell] using h.lt, fun i d hd => ?_, fun i hi => by rw [World.frozen?_setCell]; exact h.free i (by simpa using hi)⟩
  by_cases e : i = j
  · subst e
    rw [List.getElem?_set_self hj] at hd
    cases hd
    exact World.cell?_setCell_same _ _ _ h0
  · rw [List.getElem?_set_ne (Ne.symm e)] at hd
    rw [World.cell?_setCell_other _ _ _ _ (by intro h'; injection h' with _ h2 _; exact e h2.symm)]
    exact h.cell i d hd
theorem Byt.far {w : World} {b : Nat} {l : List UInt8} (h : Byt w b l) {p : Addr} (hp : p.block ≠ b) (v : Value) : Byt (w.setCell p v) b l :=
  ⟨by simpa [World.setCell] using h.lt, fun i d hd => by rw [World.cell?_setCell_other _ _ _ _ (by intro h'; exact hp (by rw [h']))]; exact h.cell i d hd, fun i hi => by rw [World.frozen?_setCell]; exact h.free i hi⟩
theorem wpList_bytes_of {P : Program} {w : World} {ops : Array Oper} {rest : List Oper} {o : Oper} {a : Act} {Q : Exit → Act → World → Prop} (hgd : o.guard = none) (src dst e : TypeId) (x : Operand)
    (ho : o.op = .convert src dst x) (hs : P.underlying src = some .string) (hd : P.underlying dst = some (.slice e)) (he : P.underlying e = some (.int .u8)) (l : List UInt8) (hx : a.eval x = .string (bs l))
    (h : ∀ (w' : World) (cap : Nat), l.length ≤ cap → Byt w' w.heap.size l → Below w.heap.size w w' → wpList P ops Q rest (a.put o.dst (.slice (some ⟨w.heap.size, 0, none⟩) l.length cap)) w') : wpList P ops Q (o :: rest) a w := by
  have hrun := run_bytes_of_string (P := P) w src dst e (bs l) hs hd he
  have hcap := grownCap_ge w (bs l).size 0 e
  rw [bs_size] at hrun hcap
  generalize grownCap w l.length 0 e = cap at *
  have hsz : (bytesRow (bs l) cap).size = cap := by unfold bytesRow; rw [Array.size_append, Array.size_map, Array.size_replicate, bs_size]; show (bs l).size + _ = _; rw [bs_size]; omega
  rw [hsz] at hrun
  have hnew : (w.drew.alloc (.cells (bytesRow (bs l) cap) e (cap, cap + 1))).heap[w.heap.size]? = some (.cells (bytesRow (bs l) cap) e (cap, cap + 1)) := by
    show (w.heap.push _)[w.heap.size]? = _
    simp
  refine wpList_plain hgd fun K hK => ?_
  unfold Oper.wp
  simp only [execOp, ho, hx]
  rw [show (do let y ← convert src dst (.string (bs l)); pure (Next.value y) : Sem Next).run P w = .ok (.value (.slice (some ⟨w.heap.size, 0, none⟩) l.length cap)) (w.drew.alloc (.cells (bytesRow (bs l) cap) e (cap, cap + 1))) by simp [hrun, Result.andThen]]
  refine hK _ _ (h _ cap hcap ⟨?_, fun j c hc => ?_, fun j hj => ?_⟩ ?_)
  · show w.heap.size < (w.heap.push _).size; simp
  · simp only [World.cell?, hnew]
    have hj : j < l.length := by
      rcases Nat.lt_or_ge j l.length with h' | h'
      · exact h'
      · rw [List.getElem?_eq_none h'] at hc; cases hc
    unfold bytesRow
    rw [if_neg (by simp), Array.getElem?_append_left (by rw [Array.size_map]; show j < (bs l).size; rw [bs_size]; exact hj)] 
    have : (bs l).data[j]? = some c := by show l.toArray[j]? = _; simpa using hc
    simp [this]
  · simp only [World.frozen?, hnew]
    have : ¬ cap ≤ j := by omega
    simp [this]
  · exact (Below.refl w.heap.size w).drew.alloc (Nat.le_refl _) _
end Go.Proofs.YtdgbnplieaaokaaGreatDoor
