/- Plain facts of formed pages: sizes. -/
import Derived.Test.YtfhanbiifjiklaaGreatDoorD5
set_option linter.unusedVariables false
set_option linter.unusedSimpArgs false
namespace Go.Proofs.YtfhanbiifjiklaaGreatDoor
open Go.RowKit

theorem formed_len {p : Pg} (h : formedB p = true) : (∀ q ∈ p.paths, q.length ≤ 20 ∧ ∀ x ∈ q, x.length = 16) ∧ (∀ x ∈ p.items, x.length ≤ 20000) := by
  obtain ⟨⟨hf, hs, hr, hn, hl⟩, hp⟩ := formed_spec h
  refine ⟨fun q hq => ?_, fun x hx => ?_⟩
  · obtain ⟨k, hk, rfl⟩ := List.getElem_of_mem hq
    have := okPart_spec (hp k (by omega))
    rw [show p.paths.getD k [] = p.paths[k] by simp [hk]] at this
    exact ⟨this.2.1, fun x hx => isD_len (this.1 x hx)⟩
  · obtain ⟨k, hk, rfl⟩ := List.getElem_of_mem hx
    exact (okPart_spec (hp k hk)).2.2
theorem formed_fit {p : Pg} (h : formedB p = true) : p.fit := by
  obtain ⟨⟨hf, hs, hr, hn, hl⟩, hp⟩ := formed_spec h
  obtain ⟨h1, h2⟩ := formed_len h
  have := isD_len hr
  exact ⟨by omega, fun x hx => by have := h2 x hx; omega, by omega, fun q hq => by have := (h1 q hq).1; omega, fun q hq x hx => by have := (h1 q hq).2 x hx; omega, by omega, by omega, by omega⟩
theorem line_len60 (x : List UInt8) (q : List (List UInt8)) (hx : x.length ≤ 60) (hn : q.length ≤ 20) (hq : ∀ y ∈ q, y.length ≤ 16) : (lineT x q).length ≤ 500 := by
  unfold lineT
  rw [Lib.join_cons]
  have h1 := itoa_len x.length (by omega)
  have h2 := tail_len 16 q hq
  have h3 : q.length * (16 + 1) ≤ 20 * 17 := Nat.mul_le_mul hn (Nat.le_refl _)
  simp only [List.length_append, List.length_cons, List.length_nil]
  omega
theorem text_len {p : Pg} (h : formedB p = true) (h6 : ∀ x ∈ p.items, x.length ≤ 60) : (textPg p).length ≤ 100000 := by
  obtain ⟨⟨hf, hs, hr, hn, hl⟩, hp⟩ := formed_spec h
  obtain ⟨h1, h2⟩ := formed_len h
  unfold textPg
  rw [List.length_append]
  have e1 := flat_le p.line 500 (fun k => by
    unfold Pg.line
    have hk : (k : Nat) < p.paths.length := by have := k.2; omega
    rw [show p.paths.getD k [] = p.paths[(k : Nat)] by simp [hk]]
    have hq := h1 _ (List.getElem_mem hk)
    exact line_len60 _ _ (h6 _ (List.getElem_mem k.2)) hq.1 (fun y hy => by rw [hq.2 y hy]; exact Nat.le_refl _)) (List.finRange p.items.length)
  rw [List.length_finRange] at e1
  have e2 : p.items.length * 500 ≤ 50 * 500 := Nat.mul_le_mul hn (Nat.le_refl _)
  have e3 : (headT p).length ≤ 200 := by
    unfold headT
    have a1 : (Lib.itoa p.fr).length ≤ 20 := by have := itoa_len p.fr.toNat (by omega); rwa [Int.toNat_of_nonneg hf.1] at this
    have a2 : (Lib.itoa p.size).length ≤ 20 := by have := itoa_len p.size.toNat (by omega); rwa [Int.toNat_of_nonneg hs.1] at this
    have a3 := itoa_len p.items.length (by omega)
    have a4 := isD_len hr
    rw [Lib.join_cons]
    have a5 := tail_len 20 [Lib.itoa p.fr, Lib.itoa p.size, p.root, Lib.itoa p.items.length] (by
      intro x hx
      simp only [List.mem_cons, List.not_mem_nil, or_false] at hx
      rcases hx with rfl | rfl | rfl | rfl <;> omega)
    simp only [List.length_append, List.length_cons, List.length_nil] at a5 ⊢
    omega
  omega
theorem fit_wide {p : Pg} (h : p.fit) : p.wide := ⟨by have := h.ni; omega, fun x hx => by have := h.li x hx; omega, by have := h.np; omega, fun q hq => by have := h.nq q hq; omega, fun q hq x hx => by have := h.lq q hq x hx; omega, by have := h.lr; omega⟩
theorem no_fit : noPg.fit := ⟨by decide, (fun x hx => absurd hx List.not_mem_nil), by decide, (fun x hx => absurd hx List.not_mem_nil), (fun x hx => absurd hx List.not_mem_nil), by decide, by decide, by decide⟩
theorem parseV_fit (t : List UInt8) : (parseV t).fit := by
  unfold parseV
  cases h : parseP t with
  | none => exact no_fit
  | some p => exact formed_fit (text_of_parse h).1
end Go.Proofs.YtfhanbiifjiklaaGreatDoor
