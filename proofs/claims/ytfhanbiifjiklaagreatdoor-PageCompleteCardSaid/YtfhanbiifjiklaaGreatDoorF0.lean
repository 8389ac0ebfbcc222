/- Plain laws of served pages: they are formed, and the client that trusts the log takes them over. -/
import Derived.Test.YtfhanbiifjiklaaGreatDoorE0
set_option linter.unusedVariables false
set_option linter.unusedSimpArgs false
namespace Go.Proofs.YtfhanbiifjiklaaGreatDoor
open Go.RowKit

theorem upG_of {leaf : List UInt8} : ∀ (f n i : Nat) (st : List (List UInt8)) (r : List UInt8) (rest : List (List UInt8)), upF f n i leaf st = some (r, rest) → (∀ d ∈ st, d ≠ []) → upG leaf f n i st false = (r, rest, false)
  | 0, n, i, st, r, rest, h, _ => by simp [upF] at h
  | f + 1, n, i, st, r, rest, h, hd => by
    unfold upF at h
    by_cases h1 : n = 1
    · rw [if_pos h1] at h
      subst h1
      rw [upG_one]
      cases h
      rfl
    · rw [if_neg h1] at h
      match st, h, hd with
      | [], h, _ => simp at h
      | side :: st, h, hd =>
        have hne : side ≠ [] := hd side (by simp)
        have hsh : nextS (side :: st) false = false := by
          unfold nextS
          cases side with
          | nil => exact absurd rfl hne
          | cons _ _ => rfl
        simp only [] at h
        by_cases hi : i < halfN n
        · rw [if_pos hi] at h
          cases hu : upF f (halfN n) i leaf st with
          | none => rw [hu] at h; cases h
          | some v =>
            obtain ⟨r', rest'⟩ := v
            have ih := upG_of f (halfN n) i st r' rest' hu (fun d h => hd d (by simp [h]))
            rw [hu] at h
            simp only [Option.map_some, Option.some.injEq, Prod.mk.injEq] at h
            rw [upG_lt leaf h1 hi, hsh]
            show (nodeD (upG leaf f (halfN n) i st false).1 side, (upG leaf f (halfN n) i st false).2) = _
            rw [ih, ← h.1, ← h.2]
        · rw [if_neg hi] at h
          cases hu : upF f (n - halfN n) (i - halfN n) leaf st with
          | none => rw [hu] at h; cases h
          | some v =>
            obtain ⟨r', rest'⟩ := v
            have ih := upG_of f (n - halfN n) (i - halfN n) st r' rest' hu (fun d h => hd d (by simp [h]))
            rw [hu] at h
            simp only [Option.map_some, Option.some.injEq, Prod.mk.injEq] at h
            rw [upG_ge leaf h1 hi, hsh]
            show (nodeD side (upG leaf f (n - halfN n) (i - halfN n) st false).1, (upG leaf f (n - halfN n) (i - halfN n) st false).2) = _
            rw [ih, ← h.1, ← h.2]
theorem pathF_len : ∀ (f : Nat) (l : List (List UInt8)) (i : Nat), (pathF f l i).length ≤ f
  | 0, l, i => by simp [pathF]
  | f + 1, l, i => by
    unfold pathF
    split
    · simp
    · split
      · rw [List.length_cons]; exact Nat.succ_le_succ (pathF_len f _ _)
      · rw [List.length_cons]; exact Nat.succ_le_succ (pathF_len f _ _)
theorem pathV_isD {L : List (List UInt8)} (h : properT L = true) (k : Nat) : ∀ d ∈ pathV L k, isD d = true := fun d hd => by
  unfold pathV at hd
  exact path_isD L.length L k h d (by simpa using hd)
theorem check_path {L : List (List UInt8)} (hp : properT L = true) (hl : L.length ≤ 1000000) {k : Nat} {x : List UInt8} (hx : L[k]? = some x) : checkV (totalT L) (L.length : Int) (k : Int) x (pathV L k) = true := by
  have hk : k < L.length := (List.getElem?_eq_some_iff.1 hx).1
  have hxd : isD x = true := by unfold properT at hp; exact List.all_eq_true.1 hp x (List.mem_of_getElem? hx)
  have hpp : properT (pathV L k) = true := by unfold properT; rw [List.all_eq_true]; exact pathV_isD hp k
  unfold checkV
  rw [if_pos ⟨by omega, by omega, by omega, hpp, hxd⟩, Int.toNat_natCast, Int.toNat_natCast]
  have hu := up_path L.length L k x [] (Nat.le_refl _) hx
  rw [List.append_nil] at hu
  have hne : ∀ d ∈ pathF L.length L k, d ≠ [] := fun d hd e => by
    have := path_isD L.length L k hp d hd
    rw [e] at this
    exact absurd this (by decide)
  have hg := upG_of L.length L.length k _ _ _ hu hne
  unfold upV
  rw [show (pathV L k).reverse = pathF L.length L k by unfold pathV; rw [List.reverse_reverse], hg]
  simp
/-- a log of the statements' size -/
structure Lg (items : List (List UInt8)) : Prop where
  len : items.length ≤ 12
  lx : ∀ x ∈ items, x.length ≤ 60
theorem fewI_lg {items : List (List UInt8)} (h : fewI items = true) : Lg items := by
  unfold fewI fewT at h
  simp only [Bool.and_eq_true, decide_eq_true_eq, List.all_eq_true] at h
  exact ⟨h.1, h.2.1⟩
theorem Lg.take {items : List (List UInt8)} (h : Lg items) (k : Nat) : Lg (items.take k) := ⟨by have := h.len; rw [List.length_take]; omega, fun x hx => h.lx x (List.mem_of_mem_take hx)⟩
theorem Lg.big {items : List (List UInt8)} (h : Lg items) : items.length ≤ 1000 ∧ ∀ x ∈ items, x.length ≤ 100000 := ⟨by have := h.len; omega, fun x hx => by have := h.lx x hx; omega⟩
def rootL (items : List (List UInt8)) : List UInt8 := totalT (leavesV items)
theorem leaves_proper (items : List (List UInt8)) : properT (leavesV items) = true := (leaves_ok items).1
theorem leaves_len (items : List (List UInt8)) : (leavesV items).length = items.length := (leaves_ok items).2.2
theorem root_isD (items : List (List UInt8)) : isD (rootL items) = true := total_isD _ (leaves_proper items)
theorem serve_yes {items : List (List UInt8)} (h : Lg items) {F M : Nat} (hF : F ≤ items.length) (h1 : 1 ≤ M) (h2 : M ≤ 50) : serveB items F M = true := by
  have hl := h.len
  unfold serveB logB
  simp only [Bool.and_eq_true, Bool.not_eq_true', List.any_eq_false, decide_eq_true_eq]
  exact ⟨⟨fun x hx => by have := h.lx x hx; simp; omega, by omega⟩, by omega, by omega⟩
theorem page_items (items : List (List UInt8)) (F M : Nat) : (pageV items F M).items = (items.drop F).take M := rfl
theorem page_ilen (items : List (List UInt8)) (F M : Nat) : (pageV items F M).items.length = min M (items.length - F) := by rw [page_items, List.length_take, List.length_drop]
theorem page_path {items : List (List UInt8)} {F M k : Nat} (hk : k < (pageV items F M).items.length) : (pageV items F M).paths.getD k [] = pathV (leavesV items) (F + k) := by
  have hk' : k < ((items.drop F).take M).length := hk
  show ((List.range ((items.drop F).take M).length).map fun i => pathV (leavesV items) (F + i)).getD k [] = _
  rw [List.getD_eq_getElem?_getD, List.getElem?_map, List.getElem?_range hk']
  rfl
theorem page_plen (items : List (List UInt8)) (F M : Nat) : (pageV items F M).paths.length = (pageV items F M).items.length := by
  show ((List.range ((items.drop F).take M).length).map fun i => pathV (leavesV items) (F + i)).length = _
  simp [page_items]
theorem pathV_len (L : List (List UInt8)) (i : Nat) : (pathV L i).length ≤ L.length := by
  unfold pathV
  rw [List.length_reverse]
  exact pathF_len _ _ _
theorem page_formed {items : List (List UInt8)} (h : Lg items) {F M : Nat} (hF : F ≤ items.length) (h2 : M ≤ 50) : formedB (pageV items F M) = true := by
  have hl := h.len
  have e1 := page_ilen items F M
  have e2 := page_plen items F M
  unfold formedB
  rw [Bool.and_eq_true]
  refine ⟨?_, List.all_eq_true.2 fun k _ => ?_⟩
  · unfold headB
    simp only [Bool.and_eq_true, decide_eq_true_eq]
    have f0 : (pageV items F M).fr = (F : Int) := rfl
    have s0 : (pageV items F M).size = (items.length : Int) := rfl
    exact ⟨by omega, by omega, root_isD items, by omega, e2⟩
  · unfold Pg.okAt
    rw [page_path k.2]
    unfold okPart pathB
    simp only [Bool.and_eq_true, Bool.not_eq_true', decide_eq_true_eq, List.any_eq_false]
    refine ⟨⟨fun x hx => by rw [pathV_isD (leaves_proper items) _ x hx]; simp, ?_⟩, ?_⟩
    · have := pathV_len (leavesV items) (F + (k : Nat))
      rw [leaves_len] at this
      omega
    · have hm : (pageV items F M).items[k] ∈ items := List.mem_of_mem_drop (List.mem_of_mem_take (List.getElem_mem (l := (items.drop F).take M) k.2))
      have := h.lx _ hm
      omega
theorem page_at {items : List (List UInt8)} {F M k : Nat} (hk : k < (pageV items F M).items.length) : items[F + k]? = some (pageV items F M).items[k] := by
  have hk' : k < ((items.drop F).take M).length := hk
  have hm : k < M := by rw [List.length_take] at hk'; omega
  have := List.getElem?_eq_getElem hk'
  rw [List.getElem?_take_of_lt hm, List.getElem?_drop] at this
  exact this
theorem page_held {items : List (List UInt8)} (h : Lg items) {F M : Nat} (hF : F ≤ items.length) : heldB (pageV items F M) (rootL items) items.length = true := by
  have hl := h.len
  have e1 := page_ilen items F M
  unfold heldB
  rw [Bool.and_eq_true]
  refine ⟨?_, List.all_eq_true.2 fun k _ => ?_⟩
  · unfold sameB
    simp only [Bool.and_eq_true, decide_eq_true_eq]
    have f0 : (pageV items F M).fr = (F : Int) := rfl
    exact ⟨rfl, rfl, by show (pageV items F M).fr ≤ (items.length : Int) - ((pageV items F M).items.length : Int); omega⟩
  · unfold Pg.checkAt
    rw [page_path k.2]
    have hx : (leavesV items)[F + (k : Nat)]? = some (leafD (pageV items F M).items[k]) := by
      unfold leavesV
      rw [List.getElem?_map, page_at k.2]; rfl
    have := check_path (leaves_proper items) (by rw [leaves_len]; omega) hx
    rw [leaves_len] at this
    have f0 : (pageV items F M).fr + ((k : Nat) : Int) = ((F + (k : Nat) : Nat) : Int) := by show (F : Int) + _ = _; omega
    rw [f0]
    exact this
theorem page_accE {items : List (List UInt8)} (h : Lg items) {F M k : Nat} (hF : F ≤ items.length) (h2 : M ≤ 50) (hk : k ≤ items.length) : accE (pageV items F M) (rootL items) items.length (items.take k) = if k < F then 13 else 0 := by
  unfold accE
  rw [page_formed h hF h2, page_held h hF, if_pos rfl, if_pos rfl]
  have f0 : (pageV items F M).fr = (F : Int) := rfl
  rw [f0, List.length_take]
  by_cases hc : k < F
  · rw [if_pos (by omega), if_pos hc]
  · rw [if_neg (by omega), if_neg hc]
theorem take_more {α : Type} (l : List α) {k F M : Nat} (hk : k ≤ l.length) (hF : F ≤ k) : l.take k ++ ((l.drop F).take M).drop (k - F) = l.take (max k (min (F + M) l.length)) := by
  have e : ((l.drop F).take M).drop (k - F) = (l.drop k).take (M - (k - F)) := by
    rw [List.drop_take, List.drop_drop, show F + (k - F) = k by omega]
  rw [e]
  rcases Nat.lt_or_ge (F + M) k with hc | hc
  · rw [show M - (k - F) = 0 by omega, List.take_zero, List.append_nil]
    congr 1; omega
  · rcases Nat.lt_or_ge (F + M) l.length with hd | hd
    · rw [show max k (min (F + M) l.length) = k + (M - (k - F)) by omega, List.take_add]
    · rw [show max k (min (F + M) l.length) = l.length by omega, List.take_length, List.take_of_length_le (l := l.drop k) (by rw [List.length_drop]; omega), List.take_append_drop]
theorem page_accV {items : List (List UInt8)} (h : Lg items) {F M k : Nat} (hF : F ≤ items.length) (h2 : M ≤ 50) (hk : k ≤ items.length) : accV (pageV items F M) (rootL items) items.length (items.take k) = items.take (if k < F then k else max k (min (F + M) items.length)) := by
  unfold accV
  rw [page_accE h hF h2 hk]
  by_cases hc : k < F
  · rw [if_pos hc, if_neg (by decide), if_pos hc]
  · rw [if_neg hc, if_pos rfl, if_neg hc, page_items]
    have f0 : (pageV items F M).fr.toNat = F := rfl
    rw [f0, List.length_take, Nat.min_eq_left hk]
    exact take_more items hk (by omega)
theorem page_fit {items : List (List UInt8)} (h : Lg items) {F M : Nat} (hF : F ≤ items.length) (h2 : M ≤ 50) : (pageV items F M).fit := formed_fit (page_formed h hF h2)
theorem new_yes {items : List (List UInt8)} (h : Lg items) : newB (rootL items) items.length = true := by
  have hl := h.len
  unfold newB
  rw [root_isD, decide_eq_true (by omega : (0 : Int) ≤ (items.length : Int)), decide_eq_true (by omega : (items.length : Int) ≤ 10000)]
  simp only [Bool.true_and, Bool.not_eq_true', Bool.and_eq_false_iff, decide_eq_false_iff_not, Bool.not_eq_false', decide_eq_true_eq]
  by_cases h0 : items.length = 0
  · right
    rw [List.eq_nil_of_length_eq_zero h0]
    rfl
  · left; omega
/-! slices of small numbers -/
def U8sAt (w : World) (v : Value) (zs : List Nat) : Prop := RowsAt w 1 v (zs.map fun z : Nat => [Value.int .u8 (z : Int)])
theorem U8sAt.to {w w' : World} {v : Value} {zs : List Nat} (h : U8sAt w v zs) (hb : Below w.heap.size w w') : U8sAt w' v zs := RowsAt.to h hb
theorem U8sAt.slice {w : World} {v : Value} {zs : List Nat} (h : U8sAt w v zs) : ∃ A c, v = .slice A zs.length c ∧ zs.length ≤ c := by
  obtain ⟨A, c, h1, h2, _⟩ := h
  exact ⟨A, c, by rw [h1, List.length_map], by simpa using h2⟩
theorem U8sAt.at_ {w : World} {A : Option Addr} {n c : Nat} {zs : List Nat} (h : U8sAt w (.slice A n c) zs) {k z : Nat} (hz : zs[k]? = some z) : ∃ a, A = some a ∧ a.block < w.heap.size ∧ w.cell? (a.add k) = some (.int .u8 (z : Int)) := by
  obtain ⟨a, c', h1, _, h3, _, h5⟩ := RowsAt.at_ h (k := k) (x := [Value.int .u8 (z : Int)]) (by rw [List.getElem?_map, hz]; rfl)
  injection h1 with e1
  refine ⟨a, e1, h3, ?_⟩
  have := h5 0 _ rfl
  rwa [add_of_add, Nat.add_zero, Nat.mul_one] at this
end Go.Proofs.YtfhanbiifjiklaaGreatDoor
