/- Several texts as one, in build order. -/
import Derived.Test.YtfhanbiifjiklaaGreatDoorMC
import Derived.Test.YtfhanbiifjiklaaGreatDoorMA
import Derived.Test.YtfhanbiifjiklaaGreatDoorRows
import Derived.Stop.LaidErr
import Derived.Lib.LaidTab
import Derived.Clock
import Derived.Test.YtfhanbiifjiklaaGreatDoorMB
import Derived.Lib.AppendStr
import Derived.OwnWalk
/- What a row of the seat gives: the variables' cells. -/
set_option linter.unusedVariables false
set_option linter.unusedSimpArgs false
namespace Go.Proofs.YtfhanbiifjiklaaGreatDoor
open Go.RowKit

theorem iface_of_trod {H : Type} {enc : TypeId × Value → H} {P : Program} {w : World} {base : Nat} {sp : Nat → Bool} {held : Bool} {fuel : Nat} {t : TypeId} {ms : Array (String × TypeId)} {cs : List Value} {y : DataW H} {p : List MemPlace}
    (ht : P.underlying t = some (.interface ms)) (h : DataW.trod enc P w base sp held fuel t cs = some (y, p)) : ∃ v, cs = [v] ∧ (v = .nilIface ∨ ∃ te pe, v = .iface te pe) := by
  cases fuel with
  | zero => simp [DataW.trod] at h
  | succ fuel =>
    match cs, h with
    | [], h => simp [DataW.trod, ht] at h
    | [v], h =>
      refine ⟨v, rfl, ?_⟩
      cases v <;> simp [DataW.trod, ht] at h <;> simp
    | _ :: _ :: _, h => simp [DataW.trod, ht] at h
theorem iface_head {P : Program} {n : String} {d : DataW Unit} {r : List (String × DataW Unit)} {W : World} {g : Nat} {ti : TypeId} {ms : Array (String × TypeId)}
    (h : laidMet P ((n, d) :: r) W) (hg : P.globalNamed n = some g) (ht : (P.globals[g]?).map (·.type) = some ti) (hi : P.underlying ti = some (.interface ms)) :
    ∃ ev, W.cell? ⟨g, 0, none⟩ = some ev ∧ (ev = .nilIface ∨ ∃ te pe, ev = .iface te pe) := by
  obtain ⟨ps, ⟨g0, t0, cs0, f0, p0, q0, hg0, ht0, hv0, hd0, _, e0⟩, _, _⟩ := h
  obtain rfl := Option.some.inj (hg.symm.trans hg0)
  obtain rfl := Option.some.inj (ht.symm.trans ht0)
  obtain ⟨v, hv, hc⟩ := iface_of_trod hi hd0
  obtain rfl : cs0 = #[v] := by cases cs0; simpa using hv
  exact ⟨v, by simpa using World.var?_cell hg0 hv0 0, hc⟩
theorem int_of_shape {P : Program} {w : World} {g : Nat} {t : TypeId} {zero : Array Value} (h : w.ShapedOpen P) (hg : g < P.globals.size)
    (h0 : ((begin P (fun _ _ => 0) default).world.heap[g]?).bind Obj.row? = some (zero, t)) (hz : zero.size = 1)
    (hb : P.buildable t = true) (hc : P.cellTypes P.depth t = some [t]) (hu : P.underlying t = some (.int .i64)) : ∃ p, w.cell? ⟨g, 0, none⟩ = some (.int .i64 p) := by
  obtain ⟨cs, hh, hs, hr⟩ := h.1 g zero t hg h0
  obtain ⟨ts, hts, _, hall⟩ := hr hb
  rw [hc] at hts
  cases hts
  have h1 : 0 < cs.size := by omega
  obtain ⟨u, hu', hok⟩ := hall 0 cs[0] (by simp [h1])
  have : u = t := by simpa using hu'.symm
  subst this
  have hcell : w.cell? ⟨g, 0, none⟩ = some cs[0] := by simp [World.cell?, hh, h1]
  rw [hcell]
  unfold Cell.ok at hok
  rw [hu] at hok
  cases hv : cs[0] <;> rw [hv] at hok <;> simp at hok
  obtain ⟨rfl, _⟩ := hok
  exact ⟨_, rfl⟩
theorem glob_of {w : World} (hs : w.ShapedOpen Tryz.prog) (hL : laidMet Tryz.prog Rows.pageTextsRow.laid w) : Glob w := by
  have h2 := hL.tail
  have h3 := h2.tail
  have h5 := h3.tail.tail
  refine ⟨?_, ?_, ?_, ?_, ?_, ?_⟩
  · obtain ⟨⟨z, ty⟩, h0⟩ := Option.isSome_iff_exists.1 (show (((begin Tryz.prog (fun _ _ => 0) default).world.heap[7]?).bind Obj.row?).isSome = true by kernel_rfl)
    obtain ⟨cs, h, _⟩ := hs.1 7 z ty (of_decide_eq_true (by kernel_rfl)) h0
    have hz : Tryz.prog.globals.size = 8 := by kernel_rfl
    rw [hz]
    rcases Nat.lt_or_ge 7 w.heap.size with h' | h'
    · omega
    · rw [Array.getElem?_eq_none h'] at h; cases h
  · exact int_of_shape (g := 0) (t := 3) (zero := #[.int .i64 0]) hs (of_decide_eq_true (by kernel_rfl)) (by kernel_rfl) rfl (by kernel_rfl) (by kernel_rfl) Tryz.underlying3
  · exact iface_head (g := 2) (ti := 71) h5.tail (by kernel_rfl) (by kernel_rfl) Tryz.underlying71
  · exact iface_head (g := 3) (ti := 71) h5 (by kernel_rfl) (by kernel_rfl) Tryz.underlying71
  · exact Lib.tabIs_of_head (t := 199) (e := 5) (n := 64) (g := 7) (by kernel_rfl) (by kernel_rfl) Tryz.underlying199 Tryz.underlying5 (by kernel_rfl) (by kernel_rfl) h2
  · exact Lib.tabIs_of_head (t := 171) (e := 111) (n := 20) (g := 1) (by kernel_rfl) (by kernel_rfl) Tryz.underlying171 Tryz.underlying111 (by kernel_rfl) (by kernel_rfl) h3
open Go.ChangeShapes Go.WideShapes Go.Deep
theorem reachB {n : Nat} (h : n ≤ reachBytes) : n ≤ 140737488351232 := by unfold reachBytes at h; omega
end Go.Proofs.YtfhanbiifjiklaaGreatDoor

/- Slices of records and of texts that came in. -/
set_option linter.unusedVariables false
set_option linter.unusedSimpArgs false
namespace Go.Proofs.YtfhanbiifjiklaaGreatDoor
open Go.RowKit Go.ChangeShapes Go.WideShapes Go.Deep

theorem reachC {n : Nat} (h : n ≤ reachBytes) : n ≤ 140737488351232 := by unfold reachBytes at h; omega
theorem rows_came {α : Type} {w : World} {a : Addr} {n c size : Nat} (enc : α → List Value) (Q : α → Prop) (hs : ∀ x, (enc x).length = size) (h0 : 0 < size) (hc : n ≤ c)
    (h : ∀ i, i < n → ∃ x : α, Q x ∧ ∀ j u, (enc x)[j]? = some u → w.cell? (a.add (i * size + j)) = some u) : ∃ ls : List α, ls.length = n ∧ (∀ x ∈ ls, Q x) ∧ RowsAt w size (.slice (some a) n c) (ls.map enc) := by
  have hex : ∀ m, m ≤ n → ∃ ls : List α, ls.length = m ∧ (∀ x ∈ ls, Q x) ∧ ∀ (i : Nat) x, ls[i]? = some x → ∀ j u, (enc x)[j]? = some u → w.cell? (a.add (i * size + j)) = some u := by
    intro m
    induction m with
    | zero => exact fun _ => ⟨[], rfl, by simp, by simp⟩
    | succ m ih =>
      intro hm
      obtain ⟨ls, h1, h2, h3⟩ := ih (by omega)
      obtain ⟨x, hq, hx⟩ := h m (by omega)
      refine ⟨ls ++ [x], by simp [h1], fun y hy => ?_, fun i y hy j u hu => ?_⟩
      · rcases List.mem_append.1 hy with hy | hy
        · exact h2 y hy
        · rw [List.mem_singleton.1 hy]; exact hq
      · rcases Nat.lt_or_ge i ls.length with hi | hi
        · rw [List.getElem?_append_left hi] at hy
          exact h3 i y hy j u hu
        · rw [List.getElem?_append_right hi] at hy
          have hz : i - ls.length = 0 := by
            rcases Nat.eq_zero_or_pos (i - ls.length) with hz | hz
            · exact hz
            · rw [List.getElem?_eq_none (by simp only [List.length_cons, List.length_nil]; omega)] at hy; cases hy
          rw [hz] at hy
          simp at hy
          subst hy
          obtain rfl : i = m := by omega
          exact hx j u hu
  obtain ⟨ls, h1, h2, h3⟩ := hex n (Nat.le_refl _)
  refine ⟨ls, h1, h2, some a, c, by rw [List.length_map, h1], by rw [List.length_map]; omega, fun x hx => ?_, fun k x hx => ?_⟩
  · obtain ⟨y, _, rfl⟩ := List.mem_map.1 hx
    exact hs y
  · rw [List.getElem?_map, Option.map_eq_some_iff] at hx
    obtain ⟨y, hy, rfl⟩ := hx
    have hk := h3 k y hy
    refine ⟨a, rfl, ?_, fun j u hu => by rw [add_of_add]; exact hk j u hu⟩
    have hl : 0 < (enc y).length := by rw [hs]; exact h0
    have := World.block_lt_of_cell? w _ (hk 0 _ (List.getElem?_eq_getElem hl))
    rwa [block_of_add] at this
theorem came_texts {H : Type} {enc : TypeId × Value → H} {w : World} {cs : List Value} (h : CameC enc Tryz.prog w 22 cs) :
    ∃ (v : Value) (ls : List (List UInt8)), cs = [v] ∧ TextsAt w v ls ∧ (∀ x ∈ ls, x.length ≤ 140737488355328) ∧ ls.length ≤ 8796093022208 := by
  rcases h.slice Tryz.underlying22 with rfl | ⟨a, n, c, rfl, hn, hb, _, hi⟩
  · exact ⟨_, [], rfl, RowsAt.nil _ _, by simp, by simp⟩
  · have h1 : Tryz.prog.cellsOf 9 = 1 := by kernel_rfl
    have h2 : Tryz.prog.bytesOf 9 = 16 := by kernel_rfl
    rw [h1] at hi
    rw [h2] at hb
    obtain ⟨ls, e, hq, hr⟩ := rows_came (w := w) (a := a) (c := c) (size := 1) strV (fun x => x.length ≤ 140737488355328) (fun _ => rfl) (by decide) hn fun i hi' => by
      obtain ⟨cs', hl, hat, hcm⟩ := hi i hi'
      obtain ⟨s, rfl, hs⟩ := hcm.string Tryz.underlying9
      refine ⟨s.data.toList, ?_, fun j u hu => ?_⟩
      · have := reachC hs
        have h3 := Lib.size_eq s
        omega
      · have hj : j = 0 := by
          rcases Nat.eq_zero_or_pos j with hz | hz
          · exact hz
          · rw [List.getElem?_eq_none (by simp only [strV, List.length_cons, List.length_nil]; omega)] at hu; cases hu
        subst hj
        rw [hat 0 (by decide)]
        exact hu
    refine ⟨_, ls, rfl, e ▸ hr, hq, ?_⟩
    have := reachC hb
    omega
end Go.Proofs.YtfhanbiifjiklaaGreatDoor

/- Plain laws of served pages: they are formed, and the client that trusts the log takes them over. -/
set_option linter.unusedVariables false
set_option linter.unusedSimpArgs false
namespace Go.Proofs.YtfhanbiifjiklaaGreatDoor
open Go.RowKit

theorem upG_of {leaf : List UInt8} : ∀ (f n i : Nat) (st : List (List UInt8)) (r : List UInt8) (rest : List (List UInt8)), upF f n i leaf st = some (r, rest) → (∀ d ∈ st, d ≠ []) → upG leaf f n i st false = (r, rest, false)
  | 0, n, i, st, r, rest, h, _ => by simp [upF] at h
  | f + 1, n, i, st, r, rest, h, hd => by
    unfold upF at h
    by_cases h1 : n = 1
    · rw [if_pos h1] at h
      subst h1
      rw [upG_one]
      cases h
      rfl
    · rw [if_neg h1] at h
      match st, h, hd with
      | [], h, _ => simp at h
      | side :: st, h, hd =>
        have hne : side ≠ [] := hd side (by simp)
        have hsh : nextS (side :: st) false = false := by
          unfold nextS
          cases side with
          | nil => exact absurd rfl hne
          | cons _ _ => rfl
        simp only [] at h
        by_cases hi : i < halfN n
        · rw [if_pos hi] at h
          cases hu : upF f (halfN n) i leaf st with
          | none => rw [hu] at h; cases h
          | some v =>
            obtain ⟨r', rest'⟩ := v
            have ih := upG_of f (halfN n) i st r' rest' hu (fun d h => hd d (by simp [h]))
            rw [hu] at h
            simp only [Option.map_some, Option.some.injEq, Prod.mk.injEq] at h
            rw [upG_lt leaf h1 hi, hsh]
            show (nodeD (upG leaf f (halfN n) i st false).1 side, (upG leaf f (halfN n) i st false).2) = _
            rw [ih, ← h.1, ← h.2]
        · rw [if_neg hi] at h
          cases hu : upF f (n - halfN n) (i - halfN n) leaf st with
          | none => rw [hu] at h; cases h
          | some v =>
            obtain ⟨r', rest'⟩ := v
            have ih := upG_of f (n - halfN n) (i - halfN n) st r' rest' hu (fun d h => hd d (by simp [h]))
            rw [hu] at h
            simp only [Option.map_some, Option.some.injEq, Prod.mk.injEq] at h
            rw [upG_ge leaf h1 hi, hsh]
            show (nodeD side (upG leaf f (n - halfN n) (i - halfN n) st false).1, (upG leaf f (n - halfN n) (i - halfN n) st false).2) = _
            rw [ih, ← h.1, ← h.2]
theorem pathF_len : ∀ (f : Nat) (l : List (List UInt8)) (i : Nat), (pathF f l i).length ≤ f
  | 0, l, i => by simp [pathF]
  | f + 1, l, i => by
    unfold pathF
    split
    · simp
    · split
      · rw [List.length_cons]; exact Nat.succ_le_succ (pathF_len f _ _)
      · rw [List.length_cons]; exact Nat.succ_le_succ (pathF_len f _ _)
theorem pathV_isD {L : List (List UInt8)} (h : properT L = true) (k : Nat) : ∀ d ∈ pathV L k, isD d = true := fun d hd => by
  unfold pathV at hd
  exact path_isD L.length L k h d (by simpa using hd)
theorem check_path {L : List (List UInt8)} (hp : properT L = true) (hl : L.length ≤ 1000000) {k : Nat} {x : List UInt8} (hx : L[k]? = some x) : checkV (totalT L) (L.length : Int) (k : Int) x (pathV L k) = true := by
  have hk : k < L.length := (List.getElem?_eq_some_iff.1 hx).1
  have hxd : isD x = true := by unfold properT at hp; exact List.all_eq_true.1 hp x (List.mem_of_getElem? hx)
  have hpp : properT (pathV L k) = true := by unfold properT; rw [List.all_eq_true]; exact pathV_isD hp k
  unfold checkV
  rw [if_pos ⟨by omega, by omega, by omega, hpp, hxd⟩, Int.toNat_natCast, Int.toNat_natCast]
  have hu := up_path L.length L k x [] (Nat.le_refl _) hx
  rw [List.append_nil] at hu
  have hne : ∀ d ∈ pathF L.length L k, d ≠ [] := fun d hd e => by
    have := path_isD L.length L k hp d hd
    rw [e] at this
    exact absurd this (by decide)
  have hg := upG_of L.length L.length k _ _ _ hu hne
  unfold upV
  rw [show (pathV L k).reverse = pathF L.length L k by unfold pathV; rw [List.reverse_reverse], hg]
  simp
/-- a log of the statements' size -/
structure Lg (items : List (List UInt8)) : Prop where
  len : items.length ≤ 12
  lx : ∀ x ∈ items, x.length ≤ 60
theorem fewI_lg {items : List (List UInt8)} (h : fewI items = true) : Lg items := by
  unfold fewI fewT at h
  simp only [Bool.and_eq_true, decide_eq_true_eq, List.all_eq_true] at h
  exact ⟨h.1, h.2.1⟩
theorem Lg.take {items : List (List UInt8)} (h : Lg items) (k : Nat) : Lg (items.take k) := ⟨by have := h.len; rw [List.length_take]; omega, fun x hx => h.lx x (List.mem_of_mem_take hx)⟩
theorem Lg.big {items : List (List UInt8)} (h : Lg items) : items.length ≤ 1000 ∧ ∀ x ∈ items, x.length ≤ 100000 := ⟨by have := h.len; omega, fun x hx => by have := h.lx x hx; omega⟩
def rootL (items : List (List UInt8)) : List UInt8 := totalT (leavesV items)
theorem leaves_proper (items : List (List UInt8)) : properT (leavesV items) = true := (leaves_ok items).1
theorem leaves_len (items : List (List UInt8)) : (leavesV items).length = items.length := (leaves_ok items).2.2
theorem root_isD (items : List (List UInt8)) : isD (rootL items) = true := total_isD _ (leaves_proper items)
theorem serve_yes {items : List (List UInt8)} (h : Lg items) {F M : Nat} (hF : F ≤ items.length) (h1 : 1 ≤ M) (h2 : M ≤ 50) : serveB items F M = true := by
  have hl := h.len
  unfold serveB logB
  simp only [Bool.and_eq_true, Bool.not_eq_true', List.any_eq_false, decide_eq_true_eq]
  exact ⟨⟨fun x hx => by have := h.lx x hx; simp; omega, by omega⟩, by omega, by omega⟩
theorem page_items (items : List (List UInt8)) (F M : Nat) : (pageV items F M).items = (items.drop F).take M := rfl
theorem page_ilen (items : List (List UInt8)) (F M : Nat) : (pageV items F M).items.length = min M (items.length - F) := by rw [page_items, List.length_take, List.length_drop]
theorem page_path {items : List (List UInt8)} {F M k : Nat} (hk : k < (pageV items F M).items.length) : (pageV items F M).paths.getD k [] = pathV (leavesV items) (F + k) := by
  have hk' : k < ((items.drop F).take M).length := hk
  show ((List.range ((items.drop F).take M).length).map fun i => pathV (leavesV items) (F + i)).getD k [] = _
  rw [List.getD_eq_getElem?_getD, List.getElem?_map, List.getElem?_range hk']
  rfl
theorem page_plen (items : List (List UInt8)) (F M : Nat) : (pageV items F M).paths.length = (pageV items F M).items.length := by
  show ((List.range ((items.drop F).take M).length).map fun i => pathV (leavesV items) (F + i)).length = _
  simp [page_items]
theorem pathV_len (L : List (List UInt8)) (i : Nat) : (pathV L i).length ≤ L.length := by
  unfold pathV
  rw [List.length_reverse]
  exact pathF_len _ _ _
theorem page_formed {items : List (List UInt8)} (h : Lg items) {F M : Nat} (hF : F ≤ items.length) (h2 : M ≤ 50) : formedB (pageV items F M) = true := by
  have hl := h.len
  have e1 := page_ilen items F M
  have e2 := page_plen items F M
  unfold formedB
  rw [Bool.and_eq_true]
  refine ⟨?_, List.all_eq_true.2 fun k _ => ?_⟩
  · unfold headB
    simp only [Bool.and_eq_true, decide_eq_true_eq]
    have f0 : (pageV items F M).fr = (F : Int) := rfl
    have s0 : (pageV items F M).size = (items.length : Int) := rfl
    exact ⟨by omega, by omega, root_isD items, by omega, e2⟩
  · unfold Pg.okAt
    rw [page_path k.2]
    unfold okPart pathB
    simp only [Bool.and_eq_true, Bool.not_eq_true', decide_eq_true_eq, List.any_eq_false]
    refine ⟨⟨fun x hx => by rw [pathV_isD (leaves_proper items) _ x hx]; simp, ?_⟩, ?_⟩
    · have := pathV_len (leavesV items) (F + (k : Nat))
      rw [leaves_len] at this
      omega
    · have hm : (pageV items F M).items[k] ∈ items := List.mem_of_mem_drop (List.mem_of_mem_take (List.getElem_mem (l := (items.drop F).take M) k.2))
      have := h.lx _ hm
      omega
theorem page_at {items : List (List UInt8)} {F M k : Nat} (hk : k < (pageV items F M).items.length) : items[F + k]? = some (pageV items F M).items[k] := by
  have hk' : k < ((items.drop F).take M).length := hk
  have hm : k < M := by rw [List.length_take] at hk'; omega
  have := List.getElem?_eq_getElem hk'
  rw [List.getElem?_take_of_lt hm, List.getElem?_drop] at this
  exact this
theorem page_held {items : List (List UInt8)} (h : Lg items) {F M : Nat} (hF : F ≤ items.length) : heldB (pageV items F M) (rootL items) items.length = true := by
  have hl := h.len
  have e1 := page_ilen items F M
  unfold heldB
  rw [Bool.and_eq_true]
  refine ⟨?_, List.all_eq_true.2 fun k _ => ?_⟩
  · unfold sameB
    simp only [Bool.and_eq_true, decide_eq_true_eq]
    have f0 : (pageV items F M).fr = (F : Int) := rfl
    exact ⟨rfl, rfl, by show (pageV items F M).fr ≤ (items.length : Int) - ((pageV items F M).items.length : Int); omega⟩
  · unfold Pg.checkAt
    rw [page_path k.2]
    have hx : (leavesV items)[F + (k : Nat)]? = some (leafD (pageV items F M).items[k]) := by
      unfold leavesV
      rw [List.getElem?_map, page_at k.2]; rfl
    have := check_path (leaves_proper items) (by rw [leaves_len]; omega) hx
    rw [leaves_len] at this
    have f0 : (pageV items F M).fr + ((k : Nat) : Int) = ((F + (k : Nat) : Nat) : Int) := by show (F : Int) + _ = _; omega
    rw [f0]
    exact this
theorem page_accE {items : List (List UInt8)} (h : Lg items) {F M k : Nat} (hF : F ≤ items.length) (h2 : M ≤ 50) (hk : k ≤ items.length) : accE (pageV items F M) (rootL items) items.length (items.take k) = if k < F then 13 else 0 := by
  unfold accE
  rw [page_formed h hF h2, page_held h hF, if_pos rfl, if_pos rfl]
  have f0 : (pageV items F M).fr = (F : Int) := rfl
  rw [f0, List.length_take]
  by_cases hc : k < F
  · rw [if_pos (by omega), if_pos hc]
  · rw [if_neg (by omega), if_neg hc]
theorem take_more {α : Type} (l : List α) {k F M : Nat} (hk : k ≤ l.length) (hF : F ≤ k) : l.take k ++ ((l.drop F).take M).drop (k - F) = l.take (max k (min (F + M) l.length)) := by
  have e : ((l.drop F).take M).drop (k - F) = (l.drop k).take (M - (k - F)) := by
    rw [List.drop_take, List.drop_drop, show F + (k - F) = k by omega]
  rw [e]
  rcases Nat.lt_or_ge (F + M) k with hc | hc
  · rw [show M - (k - F) = 0 by omega, List.take_zero, List.append_nil]
    congr 1; omega
  · rcases Nat.lt_or_ge (F + M) l.length with hd | hd
    · rw [show max k (min (F + M) l.length) = k + (M - (k - F)) by omega, List.take_add]
    · rw [show max k (min (F + M) l.length) = l.length by omega, List.take_length, List.take_of_length_le (l := l.drop k) (by rw [List.length_drop]; omega), List.take_append_drop]
theorem page_accV {items : List (List UInt8)} (h : Lg items) {F M k : Nat} (hF : F ≤ items.length) (h2 : M ≤ 50) (hk : k ≤ items.length) : accV (pageV items F M) (rootL items) items.length (items.take k) = items.take (if k < F then k else max k (min (F + M) items.length)) := by
  unfold accV
  rw [page_accE h hF h2 hk]
  by_cases hc : k < F
  · rw [if_pos hc, if_neg (by decide), if_pos hc]
  · rw [if_neg hc, if_pos rfl, if_neg hc, page_items]
    have f0 : (pageV items F M).fr.toNat = F := rfl
    rw [f0, List.length_take, Nat.min_eq_left hk]
    exact take_more items hk (by omega)
theorem page_fit {items : List (List UInt8)} (h : Lg items) {F M : Nat} (hF : F ≤ items.length) (h2 : M ≤ 50) : (pageV items F M).fit := formed_fit (page_formed h hF h2)
theorem new_yes {items : List (List UInt8)} (h : Lg items) : newB (rootL items) items.length = true := by
  have hl := h.len
  unfold newB
  rw [root_isD, decide_eq_true (by omega : (0 : Int) ≤ (items.length : Int)), decide_eq_true (by omega : (items.length : Int) ≤ 10000)]
  simp only [Bool.true_and, Bool.not_eq_true', Bool.and_eq_false_iff, decide_eq_false_iff_not, Bool.not_eq_false', decide_eq_true_eq]
  by_cases h0 : items.length = 0
  · right
    rw [List.eq_nil_of_length_eq_zero h0]
    rfl
  · left; omega
/-! slices of small numbers -/
def U8sAt (w : World) (v : Value) (zs : List Nat) : Prop := RowsAt w 1 v (zs.map fun z : Nat => [Value.int .u8 (z : Int)])
theorem U8sAt.to {w w' : World} {v : Value} {zs : List Nat} (h : U8sAt w v zs) (hb : Below w.heap.size w w') : U8sAt w' v zs := RowsAt.to h hb
theorem U8sAt.slice {w : World} {v : Value} {zs : List Nat} (h : U8sAt w v zs) : ∃ A c, v = .slice A zs.length c ∧ zs.length ≤ c := by
  obtain ⟨A, c, h1, h2, _⟩ := h
  exact ⟨A, c, by rw [h1, List.length_map], by simpa using h2⟩
theorem U8sAt.at_ {w : World} {A : Option Addr} {n c : Nat} {zs : List Nat} (h : U8sAt w (.slice A n c) zs) {k z : Nat} (hz : zs[k]? = some z) : ∃ a, A = some a ∧ a.block < w.heap.size ∧ w.cell? (a.add k) = some (.int .u8 (z : Int)) := by
  obtain ⟨a, c', h1, _, h3, _, h5⟩ := RowsAt.at_ h (k := k) (x := [Value.int .u8 (z : Int)]) (by rw [List.getElem?_map, hz]; rfl)
  injection h1 with e1
  refine ⟨a, e1, h3, ?_⟩
  have := h5 0 _ rfl
  rwa [add_of_add, Nat.add_zero, Nat.mul_one] at this
end Go.Proofs.YtfhanbiifjiklaaGreatDoor

/- Pages and lists of texts that came in. -/
set_option linter.unusedVariables false
set_option linter.unusedSimpArgs false
namespace Go.Proofs.YtfhanbiifjiklaaGreatDoor
open Go.RowKit Go.ChangeShapes Go.WideShapes Go.Deep

theorem len_of {s : ByteArray} (h : s.size ≤ reachBytes) : s.data.toList.length ≤ 140737488355328 := by
  have := reachC h
  have h3 := Lib.size_eq s
  omega
/-- a row of single cells that came in -/
theorem cells_came {α : Type} {w : World} {a : Addr} {n : Nat} (R : Value → α → Prop) (h : ∀ i, i < n → ∃ v x, w.cell? (a.add i) = some v ∧ R v x) :
    ∃ ls : List α, ls.length = n ∧ ∀ (i : Nat) x, ls[i]? = some x → ∃ v, w.cell? (a.add i) = some v ∧ R v x := by
  induction n with
  | zero => exact ⟨[], rfl, by simp⟩
  | succ m ih =>
    obtain ⟨ls, h1, h2⟩ := ih (fun i hi => h i (by omega))
    obtain ⟨v, x, hc, hr⟩ := h m (by omega)
    refine ⟨ls ++ [x], by simp [h1], fun i y hy => ?_⟩
    rcases Nat.lt_or_ge i ls.length with hi | hi
    · rw [List.getElem?_append_left hi] at hy
      exact h2 i y hy
    · rw [List.getElem?_append_right hi] at hy
      have hz : i - ls.length = 0 := by
        rcases Nat.eq_zero_or_pos (i - ls.length) with hz | hz
        · exact hz
        · rw [List.getElem?_eq_none (by simp only [List.length_cons, List.length_nil]; omega)] at hy; cases hy
      rw [hz] at hy
      simp at hy
      subst hy
      obtain rfl : i = m := by omega
      exact ⟨v, hc, hr⟩
theorem came_paths {H : Type} {enc : TypeId × Value → H} {w : World} {cs : List Value} (h : CameC enc Tryz.prog w 23 cs) :
    ∃ (v : Value) (ps : List (List (List UInt8))), cs = [v] ∧ PathsAt w v ps ∧ ps.length ≤ 8796093022208 ∧ (∀ q ∈ ps, q.length ≤ 8796093022208) ∧ ∀ q ∈ ps, ∀ x ∈ q, x.length ≤ 140737488355328 := by
  rcases h.slice Tryz.underlying23 with rfl | ⟨a, n, c, rfl, hn, hb, _, hi⟩
  · exact ⟨_, [], rfl, PathsAt.nil w, by simp, by simp, by simp⟩
  · have h1 : Tryz.prog.cellsOf 22 = 1 := by kernel_rfl
    have h2 : Tryz.prog.bytesOf 22 = 24 := by kernel_rfl
    rw [h1] at hi
    rw [h2] at hb
    obtain ⟨ps, e, hr⟩ := cells_came (w := w) (a := a) (n := n) (fun v (q : List (List UInt8)) => TextsAt w v q ∧ (∀ x ∈ q, x.length ≤ 140737488355328) ∧ q.length ≤ 8796093022208) fun i hi' => by
      obtain ⟨cs', hl, hat, hcm⟩ := hi i hi'
      obtain ⟨v, q, rfl, hq, hx, hql⟩ := came_texts hcm
      have := hat 0 (by decide)
      rw [Nat.mul_one, Nat.add_zero] at this
      exact ⟨v, q, this, hq, hx, hql⟩
    refine ⟨_, ps, rfl, ⟨some a, c, by rw [e], by omega, fun k q hq => ?_⟩, ?_, fun q hq => ?_, fun q hq => ?_⟩
    · obtain ⟨v, hc, ht, _⟩ := hr k q hq
      refine ⟨a, v, rfl, ?_, hc, ht⟩
      have := World.block_lt_of_cell? w _ hc
      rwa [block_of_add] at this
    · have := reachC hb
      omega
    · obtain ⟨k, hk, rfl⟩ := List.getElem_of_mem hq
      obtain ⟨v, _, _, _, h⟩ := hr k _ (List.getElem?_eq_getElem hk)
      exact h
    · obtain ⟨k, hk, rfl⟩ := List.getElem_of_mem hq
      obtain ⟨v, _, _, h, _⟩ := hr k _ (List.getElem?_eq_getElem hk)
      exact h
theorem came_page {H : Type} {enc : TypeId × Value → H} {w : World} {cs : List Value} (h : CameC enc Tryz.prog w 25 cs) :
    ∃ (p : Pg) (vi vp : Value), cs = [.int .i64 p.fr, .int .i64 p.size, .string (bs p.root), vi, vp] ∧ TextsAt w vi p.items ∧ PathsAt w vp p.paths ∧ p.wide ∧ (-9223372036854775808 ≤ p.fr ∧ p.fr ≤ 9223372036854775807) ∧ (-9223372036854775808 ≤ p.size ∧ p.size ≤ 9223372036854775807) := by
  obtain ⟨h1, h2⟩ := h.fields Tryz.underlying25 (by kernel_rfl) (by kernel_rfl)
  obtain ⟨v0, e0, c0⟩ := h2 0 _ rfl
  obtain ⟨v1, e1, c1⟩ := h2 1 _ rfl
  obtain ⟨v2, e2, c2⟩ := h2 2 _ rfl
  obtain ⟨v3, e3, c3⟩ := h2 3 _ rfl
  obtain ⟨v4, e4, c4⟩ := h2 4 _ rfl
  obtain ⟨x0, g0, f0⟩ := c0.int Tryz.underlying3
  obtain ⟨x1, g1, f1⟩ := c1.int Tryz.underlying3
  obtain ⟨s2, g2, l2⟩ := c2.string Tryz.underlying9
  obtain ⟨v3', it, g3, ht, hx, hl⟩ := came_texts c3
  obtain ⟨v4', ps, g4, hp, hpl, hql, hqx⟩ := came_paths c4
  simp only [List.cons.injEq, and_true] at g0 g1 g2 g3 g4
  subst g0 g1 g2 g3 g4
  have h1' : cs.length = 5 := h1
  match cs, h1' with
  | [y0, y1, y2, y3, y4], _ =>
    simp only [List.getElem?_cons_zero, List.getElem?_cons_succ, Option.some.injEq] at e0 e1 e2 e3 e4
    have b0 : -9223372036854775808 ≤ x0 ∧ x0 ≤ 9223372036854775807 := by simpa [Lit.wf, IntKind.min, IntKind.max, IntKind.signed, IntKind.bits] using f0
    have b1 : -9223372036854775808 ≤ x1 ∧ x1 ≤ 9223372036854775807 := by simpa [Lit.wf, IntKind.min, IntKind.max, IntKind.signed, IntKind.bits] using f1
    exact ⟨⟨x0, x1, s2.data.toList, it, ps⟩, v3, v4, by rw [e0, e1, e2, e3, e4]; rfl, ht, hp, ⟨hl, hx, hpl, hql, hqx, len_of l2⟩, b0, b1⟩
theorem came_u8s {H : Type} {enc : TypeId × Value → H} {w : World} {cs : List Value} (h : CameC enc Tryz.prog w 37 cs) :
    ∃ (v : Value) (zs : List Nat), cs = [v] ∧ U8sAt w v zs ∧ zs.length ≤ 140737488355328 ∧ ∀ z ∈ zs, z ≤ 255 := by
  rcases h.slice Tryz.underlying37 with rfl | ⟨a, n, c, rfl, hn, hb, _, hi⟩
  · exact ⟨_, [], rfl, RowsAt.nil _ _, by simp, by simp⟩
  · have h1 : Tryz.prog.cellsOf 5 = 1 := by kernel_rfl
    have h2 : Tryz.prog.bytesOf 5 = 1 := by kernel_rfl
    rw [h1] at hi
    rw [h2] at hb
    obtain ⟨ls, e, hq, hr⟩ := rows_came (w := w) (a := a) (c := c) (size := 1) (fun z : Nat => [Value.int .u8 (z : Int)]) (fun z => z ≤ 255) (fun _ => rfl) (by decide) hn fun i hi' => by
      obtain ⟨cs', hl, hat, hcm⟩ := hi i hi'
      obtain ⟨x, rfl, hw⟩ := hcm.int Tryz.underlying5
      obtain ⟨b0, b1⟩ : 0 ≤ x ∧ x ≤ 255 := by simpa [Lit.wf, IntKind.min, IntKind.max, IntKind.signed, IntKind.bits] using hw
      refine ⟨x.toNat, by omega, fun j u hu => ?_⟩
      have hj : j = 0 := by
        rcases Nat.eq_zero_or_pos j with hz | hz
        · exact hz
        · rw [List.getElem?_eq_none (by simp only [List.length_cons, List.length_nil]; omega)] at hu; cases hu
      subst hj
      rw [hat 0 (by decide), ← hu, Int.toNat_of_nonneg b0]
    refine ⟨_, ls, rfl, e ▸ hr, ?_, hq⟩
    have := reachC hb
    omega
end Go.Proofs.YtfhanbiifjiklaaGreatDoor

/- Walks of the reference of layer 1: mix, Sum. -/
set_option linter.unusedVariables false
set_option linter.unusedSimpArgs false
namespace Go.Proofs.YtfhanbiifjiklaaGreatDoor
open Go.RowKit

set_option maxHeartbeats 1000000 in
theorem rmix_any (X : Nat) (hX : X < 18446744073709551616) (w : World) : Calls Tryz.prog 108 #[.int .u64 (X : Int)] w fun e w' => e = .returned (.int .u64 ((mixN X : Nat) : Int)) ∧ w' = w := by
  have HM := hide (mix_val X hX)
  have hx := hX
  clear hX
  go_enter Tryz.func108, Tryz.ntmps108
  go_wp2_with fail
  go_ret
  exact ⟨congrArg (fun z => Ending.returned (Value.int .u64 z)) HM.out, rfl⟩
def hexS : List UInt8 := [48, 49, 50, 51, 52, 53, 54, 55, 56, 57, 97, 98, 99, 100, 101, 102]
theorem hexS_cut : ∀ m, m < 16 → (hexS.drop m).take (m + 1 - m) = [hexC m] := by decide
theorem hexS_ext (m : Nat) (h : m < 16) : (⟨#[48, 49, 50, 51, 52, 53, 54, 55, 56, 57, 97, 98, 99, 100, 101, 102]⟩ : ByteArray).extract m (m + 1) = bs [hexC m] := by
  have := bs_cut hexS m (m + 1)
  rw [hexS_cut m h] at this
  exact this
theorem pad8_at (l : List UInt8) (j : Nat) (hj : j < 8) : (pad8 l)[j]? = some (l.getD j 0) := by
  unfold pad8
  rcases Nat.lt_or_ge j l.length with h | h
  · rw [List.getElem?_append_left (by rw [List.length_take]; omega), List.getElem?_take_of_lt hj, List.getD_eq_getElem?_getD, List.getElem?_eq_getElem h]; rfl
  · rw [List.getElem?_append_right (by rw [List.length_take]; omega), List.getElem?_replicate, if_pos (by rw [List.length_take]; omega), List.getD_eq_getElem?_getD, List.getElem?_eq_none h]; rfl
def InI (P : List UInt8) (a : Nat) (w wr : World) (b i : Value) : Prop := ∃ j : Nat, j ≤ 8 ∧ i = .int .i64 ((a : Int) + (j : Int)) ∧ b = .int .u64 ((packN (P.take j) : Nat) : Int) ∧ wr = w
def OutI (l : List UInt8) (w wr : World) (st fr : Value) : Prop := ∃ k a : Nat, (k ≤ l.length / 8 + 1 ∧ a ≤ l.length + 8) ∧ Hid (8 * k = a) ∧ fr = .int .i64 (a : Int) ∧ st = .int .u64 ((stN l k : Nat) : Int) ∧ wr = w
def HexI (N : Nat) (w wr : World) (st s i : Value) : Prop := ∃ (j u : Nat) (S : List UInt8), j ≤ 16 ∧ i = .int .i64 (j : Int) ∧ st = .int .u64 (u : Int) ∧ u < 18446744073709551616 ∧ s = .string (bs S) ∧ S.length ≤ 16 ∧ Hid (S.length = j) ∧ Hid (hexN (16 - j) u ++ S = hexN 16 N) ∧ wr = w
set_option maxRecDepth 100000 in
set_option maxHeartbeats 1000000 in
theorem rSum_any (l : List UInt8) (hl : l.length ≤ 140737488355328) (w : World) : Calls Tryz.prog 71 #[.string (bs l)] w fun e w' => e = .returned (.string (bs (sumD l))) ∧ w' = w := by
  have hsz : (bs l).size = l.length := bs_size l
  have HX := hide (u64_xor_nat 7640891576956012809 l.length (by decide) (by omega))
  have z0 : IntKind.u64.wrap (l.length : Int) = (l.length : Int) := by rw [IntKind.wrap_u64]; omega
  go_enter Tryz.func71, Tryz.ntmps71
  go_wp2_with fail
  go_loopw [3, 4, 5, 6] (fun st fr _ _ wr => OutI l w wr st fr) (fun _ fr _ _ _ => l.length + 9 - (intOf fr).toNat)
  case atStart => exact ⟨0, 0, ⟨by omega, by omega⟩, rfl, rfl, congrArg (fun z => Value.int .u64 z) HX.out, rfl⟩
  case round =>
    obtain ⟨k, a, ⟨hk, ha⟩, HK, rfl, rfl, rfl⟩ := hrel
    have hst := stN_lt (l := l) (by omega) k
    clear HX
    by_cases hlt : a ≤ l.length
    · have e1 : decide ((a : Int) ≤ (l.length : Int)) = true := decide_eq_true (by omega)
      have HKs : Hid (stN l (k + 1) = mixN (stN l k ^^^ packN (pad8 (l.drop a)))) := by show _ = _; rw [← HK.out]; rfl
      have HPl := hide (pad8_len (l.drop a))
      have HPa : Hid (∀ j, j < 8 → (pad8 (l.drop a))[j]? = some (l.getD (a + j) 0)) := fun j hj => by rw [pad8_at _ j hj, List.getD_eq_getElem?_getD, List.getElem?_drop, ← List.getD_eq_getElem?_getD]
      generalize pad8 (l.drop a) = P at *
      generalize stN l k = s at *
      go_wp2_with fail
      go_loopw [5, 6] (fun b i wr2 => InI P a wr wr2 b i) (fun _ i _ => a + 8 - (intOf i).toNat)
      case atStart => exact ⟨0, by omega, by simp, rfl, rfl⟩
      case round =>
        obtain ⟨j, hj, rfl, rfl, rfl⟩ := hrel
        by_cases hj8 : j < 8
        · have e2 : decide ((a : Int) + (j : Int) < (a : Int) + 8) = true := decide_eq_true (by omega)
          have hN : packN (P.take j) < 72057594037927936 := by
            have h1 := packN_lt (P.take j)
            have h2 : 256 ^ (P.take j).length ≤ 256 ^ 7 := Nat.pow_le_pow_right (by decide) (by rw [List.length_take]; omega)
            omega
          have HN : Hid (packN (P.take (j + 1)) = packN (P.take j) * 256 + (l.getD (a + j) 0).toNat) := by
            show _ = _
            rw [List.take_add_one, HPa.out j hj8]
            exact packN_snoc _ _
          generalize packN (P.take j) = N at *
          by_cases hin : a + j < l.length
          · have e3 : decide ((a : Int) + (j : Int) < (l.length : Int)) = true := decide_eq_true (by omega)
            obtain ⟨c, hc⟩ : ∃ c, l[a + j]? = some c := ⟨_, List.getElem?_eq_getElem hin⟩
            have ci0 := index_bs l (a + j) c hc
            have ci : ∀ w, (Instr.index 9 (.string (bs l)) (.int .i64 ((a : Int) + (j : Int)))).run Tryz.prog w = .ok (.int .u8 (c.toNat : Int)) w := by
              rw [show (a : Int) + (j : Int) = ((a + j : Nat) : Int) by omega]
              exact ci0 
            clear ci0
            have c8 := c.toNat_lt
            rw [show l.getD (a + j) 0 = c by rw [List.getD_eq_getElem?_getD, hc]; rfl] at HN
            clear hc
            go_wp2_with fail
            refine ⟨⟨j + 1, by omega, by go_num, by rw [HN.out]; go_num, rfl⟩, ?_⟩
            simp [intOf]; omega
          · have e3 : decide ((a : Int) + (j : Int) < (l.length : Int)) = false := decide_eq_false (by omega)
            rw [show l.getD (a + j) 0 = 0 by rw [List.getD_eq_getElem?_getD, List.getElem?_eq_none (by omega)]; rfl] at HN
            go_wp2_with fail
            refine ⟨⟨j + 1, by omega, by go_num, by rw [HN.out]; simp, rfl⟩, ?_⟩
            simp [intOf]; omega
        · obtain rfl : j = 8 := by omega
          have e2 : decide ((a : Int) + (8 : Int) < (a : Int) + 8) = false := decide_eq_false (by omega)
          have HP8 : Hid (packN (P.take 8) = packN P) := by show _ = _; rw [List.take_of_length_le (by have := HPl.out; omega)]
          rw [HP8.out]
          have hN : packN P < 18446744073709551616 := packN_lt64 (by have := HPl.out; omega)
          generalize packN P = N at *
          have hx := u64_xor_nat s N hst hN
          have CM := fun w => rmix_any (s ^^^ N) (xor_lt64 hst hN) w
          generalize s ^^^ N = X at *
          go_wp2_with ((with_reducible refine (CM _).mono ?_); rintro e w' ⟨rfl, rfl⟩)
          refine ⟨⟨k + 1, a + 8, ⟨by have := HK.out; omega, by omega⟩, by have := HK.out; show _ = _; omega, by go_num, by rw [HKs.out], rfl⟩, ?_⟩
          simp [intOf]; omega
    · have e1 : decide ((a : Int) ≤ (l.length : Int)) = false := decide_eq_false (by omega)
      have HS : Hid (stN l k = sumN l) := by
        show _ = _
        have := HK.out
        rw [sumN_st, show k = l.length / 8 + 1 by omega]
      have hs : sumN l < 18446744073709551616 := by rw [← HS.out]; exact hst
      rw [HS.out]
      have HD : Hid (sumD l = hexN 16 (sumN l)) := rfl
      generalize sumN l = N at *
      clear HS hst
      go_wp2_with fail
      go_loopw [3, 7, 8] (fun st s i wr2 => HexI N wr wr2 st s i) (fun _ _ i _ => 16 - (intOf i).toNat)
      case atStart => exact ⟨0, N, [], by omega, rfl, rfl, hs, rfl, by simp, rfl, by show _ = _; simp, rfl⟩
      case round =>
        obtain ⟨j, u, S, hj, rfl, rfl, hu, rfl, hS, HSl, HE, rfl⟩ := hrel
        have hz : (bs S).size = S.length := bs_size S
        by_cases hj16 : j < 16
        · have e2 : decide ((j : Int) < 16) = true := decide_eq_true (by omega)
          obtain ⟨m, hm, hm16⟩ : ∃ m, u % 16 = m ∧ m < 16 := ⟨_, rfl, by omega⟩
          have h1 : (u : Int).tmod 16 = (m : Int) := by rw [Int.tmod_eq_emod_of_nonneg (by omega), ← hm, Int.natCast_emod]; rfl
          have hx := hexS_ext m hm16
          have hz1 : (bs [hexC m]).size = 1 := rfl
          have H2 : Hid ((u : Int) / 16 = ((u / 16 : Nat) : Int)) := by show _ = _; rw [Int.natCast_ediv]; rfl
          have HN : Hid (hexN (16 - (j + 1)) (u / 16) ++ ([hexC m] ++ S) = hexN 16 N) := by
            show _ = _
            rw [← HE.out, show 16 - j = (16 - (j + 1)) + 1 by omega, hexN, hm, List.append_assoc]
          clear hm
          go_wp2_with fail
          refine ⟨⟨j + 1, u / 16, [hexC m] ++ S, by omega, by go_num, by rw [H2.out], by omega, by rw [← bs_app], by have := HSl.out; rw [List.length_append, List.length_cons, List.length_nil]; omega, by show _ = _; have := HSl.out; rw [List.length_append, List.length_cons, List.length_nil]; omega, HN.out, rfl⟩, ?_⟩
          simp [intOf]; omega
        · obtain rfl : j = 16 := by omega
          have e2 : decide (((16 : Nat) : Int) < 16) = false := by decide
          have HF : Hid (S = sumD l) := by show _ = _; rw [HD.out, ← HE.out]; rfl
          go_wp2_with fail
          go_ret
          exact ⟨ret_str' (by rw [HF.out]), rfl⟩
end Go.Proofs.YtfhanbiifjiklaaGreatDoor

/- Walks of the reference of layer 1: Joined, List, Digit, Is. -/
set_option linter.unusedVariables false
set_option linter.unusedSimpArgs false
namespace Go.Proofs.YtfhanbiifjiklaaGreatDoor
open Go.RowKit

def lenS (ls : List (List UInt8)) : Nat := (ls.map List.length).sum
theorem lenS_snoc {ls : List (List UInt8)} {k : Nat} {x : List UInt8} (h : ls[k]? = some x) : lenS (ls.take (k + 1)) = lenS (ls.take k) + x.length := by unfold lenS; rw [List.take_add_one, h]; simp
theorem lenS_le (ls : List (List UInt8)) (k : Nat) : lenS (ls.take k) ≤ lenS ls := by
  have : lenS ls = lenS (ls.take k) + lenS (ls.drop k) := by unfold lenS; rw [← List.sum_append_nat, ← List.map_append, List.take_append_drop]
  omega
def JoB (w : World) (B : Nat) (v : Value) (J : List UInt8) : Prop := w.ownsRow B 5 1 v J.length (Lib.byteCells J)
set_option maxRecDepth 100000 in
set_option maxHeartbeats 300000 in
theorem rJoined_any (ls : List (List UInt8)) (hn : ls.length ≤ 1000) (hs : lenS ls ≤ 100000000000) (hl : (joinD ls).length ≤ 140737488355328) (v : Value) (w : World) (hv : TextsAt w v ls) :
    Calls Tryz.prog 73 #[v] w fun e w' => e = .returned (.string (bs (joinD ls))) ∧ Below w.heap.size w w' := by
  obtain ⟨A, c, rfl, _⟩ := hv.slice
  obtain ⟨i0, hi0, hz0, hz1, hz2⟩ := info_parts (show (Tryz.prog.info? 5).map (fun i => (i.zero, i.size, i.bytes)) = some (some (.int .u8 0), 1, 1) by kernel_rfl)
  have HS := hide hv
  have HT := hide hl
  clear hv hl
  go_enter Tryz.func73, Tryz.ntmps73
  go_wp2_with fail
  go_loopw [3, 4] (fun n i wr => ∃ k m : Nat, i = .int .i64 (k : Int) ∧ n = .int .i64 (m : Int) ∧ (k ≤ ls.length ∧ m ≤ 100000021000) ∧ Hid (m = lenS (ls.take k) + 21 * k) ∧ wr = w) (fun _ i _ => ls.length - (intOf i).toNat)
  case atStart => exact ⟨0, 0, rfl, rfl, ⟨by omega, by omega⟩, rfl, rfl⟩
  case round =>
    obtain ⟨k, m, rfl, rfl, ⟨hk, hm⟩, HM, hw⟩ := hrel
    obtain rfl : w = wr := hw.symm
    clear hw
    by_cases hlt : k < ls.length
    · have e1 : decide ((k : Int) < (ls.length : Int)) = true := decide_eq_true (by omega)
      obtain ⟨x, hx⟩ : ∃ x, ls[k]? = some x := ⟨_, List.getElem?_eq_getElem hlt⟩
      obtain ⟨a, rfl, ha, c0⟩ := HS.out.at_ hx
      have hz : (bs x).size = x.length := bs_size _
      have HL := hide (lenS_snoc hx)
      have HLE := hide (lenS_le ls (k + 1))
      have hxl : x.length ≤ 100000000000 := by have h1 := HL.out; have h2 := HLE.out; omega
      clear hx
      go_wp2_with fail
      refine ⟨⟨k + 1, m + (x.length + 21), by go_num, by go_num, ⟨by omega, ?_⟩, ?_, trivial⟩, ?_⟩
      · have h1 := HL.out; have h2 := HLE.out; have h3 := HM.out; omega
      · show _ = _
        have h1 := HL.out; have h3 := HM.out; omega
      · simp [intOf]; omega
    · obtain rfl : k = ls.length := by omega
      have e1 : decide ((ls.length : Int) < (ls.length : Int)) = false := by simp
      go_wp2_with (refine wpList_make_own _ rfl (.const (.int .i64 0)) (.tmp 21) 37 rfl w.heap.size 5 i0 (.int .u8 0) 1 Tryz.underlying37 hi0 hz0 hz1 .i64 .i64 (m : Int) m rfl rfl rfl (by rw [hz2]; omega) (by simp only [maxLen]; omega) (Nat.le_refl _) ?_; intro w2 hown2 hgr2)
      have HO2 := hide hown2
      have HB2 : Hid (Below w.heap.size w w2) := (Below.refl _ _).grown hgr2 (Nat.le_refl _) (fun k h => by cases h)
      clear hown2 hgr2
      have hne0 : Value.slice (some ⟨w.heap.size, 0, none⟩) 0 m ≠ .slice none 0 0 := by intro h; injection h with h; cases h
      generalize Value.slice (some ⟨w.heap.size, 0, none⟩) 0 m = out0 at *
      go_loopw [5, 6] (fun out i w3 => ∃ k : Nat, i = .int .i64 (k : Int) ∧ k ≤ ls.length ∧ Aside (Below w.heap.size w w3) ∧ Aside (JoB w3 w.heap.size out (joinD (ls.take k))) ∧ Aside (out ≠ .slice none 0 0)) (fun _ i _ => ls.length - (intOf i).toNat)
      case atStart => exact ⟨0, rfl, by omega, HB2.out, HO2.out, hne0⟩
      case round =>
        obtain ⟨k, rfl, hk2, hB, hO, hne⟩ := hrel
        have HB : Hid (Below w.heap.size w wr) := hB
        have HO : Hid (wr.ownsRow w.heap.size 5 1 _ (joinD (ls.take k)).length (Lib.byteCells (joinD (ls.take k)))) := hO
        have HNE : Hid (_ ≠ Value.slice none 0 0) := hne
        clear hB hO hne hne0 HO2 HB2
        by_cases hlt : k < ls.length
        · have e1 : decide ((k : Int) < (ls.length : Int)) = true := decide_eq_true (by omega)
          obtain ⟨x, hx⟩ : ∃ x, ls[k]? = some x := ⟨_, List.getElem?_eq_getElem hlt⟩
          obtain ⟨a, rfl, ha, c0⟩ := (TextsAt.to HS.out HB.out).at_ hx
          have hz : (bs x).size = x.length := bs_size _
          have HJ : Hid (joinD (ls.take (k + 1)) = joinD (ls.take k) ++ (Lib.decDigits x.length ++ [58] ++ x)) := by
            show _ = _
            rw [List.take_add_one, hx]
            have h := joinD_snoc (ls.take k) x
            rw [show Lib.itoa (x.length : Int) = Lib.decDigits x.length by unfold Lib.itoa; rw [if_neg (by omega)]; simp] at h
            exact h
          have HLN : Hid ((joinD (ls.take k)).length + ((Lib.decDigits x.length).length + 1 + x.length) ≤ 140737488355328) := by
            have h1 : joinD ls = joinD (ls.take (k + 1)) ++ joinD (ls.drop (k + 1)) := by unfold joinD; rw [← List.flatMap_append, List.take_append_drop]
            have h2 := HT.out
            rw [h1, HJ.out] at h2
            simp only [List.length_append, List.length_cons, List.length_nil] at h2
            show _ ≤ _
            omega
          have hxl : x.length ≤ 9223372036854775807 := by have := HLN.out; omega
          have CD := fun w => rDecimal_any x.length hxl w
          have hz2' : (bs (Lib.decDigits x.length)).size = (Lib.decDigits x.length).length := bs_size _
          have HXx := hide hx
          clear hx
          generalize joinD (ls.take k) = J at *
          generalize Lib.decDigits x.length = D at *
          have b0 : J.length + (bs D).size ≤ 140737488355328 := by have := HLN.out; rw [hz2']; omega
          have b1 : J.length + (bs D).size + 1 ≤ 140737488355328 := by have := HLN.out; rw [hz2']; omega
          have b2 : J.length + (bs D).size + 1 + (bs x).size ≤ 140737488355328 := by have := HLN.out; rw [hz2', hz]; omega
          have b3 : w.heap.size ≤ wr.heap.size := HB.out.size
          have HB0 := hide b0
          have HB1 := hide b1
          have HB2 := hide b2
          have HB3 := hide b3
          clear b0 b1 b2 b3 hz2'
          go_wp2_with (first | ((with_reducible refine (CD _).mono ?_); rintro e w' ⟨rfl, rfl⟩) | (at_builtin; (refine Lib.wpList_append_own_string _ rfl (.tmp 29) (.tmp 35) 37 9 rfl w.heap.size 5 i0 Tryz.underlying37 Tryz.underlying9 hi0 hz0 hz1 hz2 _ J.length (Lib.byteCells J) rfl HO.out (bs D) rfl (by have := HB0.out; simp only [maxLen]; omega) (by have := HB0.out; omega) HB3.out ?_); intro v1 w11 hown1 hgr1 hiff1) | (at_builtin; (refine wpList_append_own _ rfl (.tmp 37) (.tmp 38) _ rfl w.heap.size 5 i0 (.int .u8 0) 1 1 Tryz.underlying37 hi0 hz0 hz1 hz2 rfl (by omega) _ (J.length + (bs D).size) (Lib.byteCells J ++ Lib.strCells (bs D)) rfl (own_to4 hown1 (below_one _ _)) ⟨_, 0, none⟩ 1 1 [.int .u8 58] rfl rfl (cells_new4 (xs := [.int .u8 58]) rfl) (by intro u hu; rw [List.mem_singleton.1 hu]; rfl) (by have := HB1.out; simp only [maxLen]; omega) (by have := HB1.out; omega) (Nat.le_trans HB3.out (Nat.le_trans hgr1.size (below_one _ _).size)) ?_); intro v2 w12 hown2 hgr2 hiff2; have HB11 := hide (HB.out.grown hgr1 HB3.out (fun k h => (HO.out.lt k h).1)); have HB12 := hide ((below_alloc HB11.out (Nat.le_refl _) (.cells #[.int .u8 58] 5)).grown hgr2 (Nat.le_trans HB11.out.size (below_one _ _).size) (fun k h => (hown1.lt k h).1)); obtain ⟨a2, ea2, _, hcx⟩ := (TextsAt.to HS.out HB12.out).at_ HXx.out; obtain rfl := Option.some.inj ea2) | (at_builtin; (refine Lib.wpList_append_own_string _ rfl (.tmp 40) (.tmp 44) 37 9 rfl w.heap.size 5 i0 Tryz.underlying37 Tryz.underlying9 hi0 hz0 hz1 hz2 _ (J.length + (bs D).size + 1) (Lib.byteCells J ++ Lib.strCells (bs D) ++ [Value.int IntKind.u8 58]) rfl hown2 (bs x) rfl (by have := HB2.out; simp only [maxLen]; omega) (by have := HB2.out; omega) HB12.out.size ?_); intro v3 w13 hown3 hgr3 hiff3; have HB13 := hide (HB12.out.grown hgr3 HB12.out.size (fun k h => (hown2.lt k h).1)); have HO13 := hide hown3; have HN13 : Hid (v3 ≠ Value.slice none 0 0) := fun h => by (have h2 := (hiff3.1 h).1; have h3 := (hiff2.1 h2).2; omega)))
          have HF13 : Hid (JoB w13 w.heap.size v3 (joinD (ls.take (k + 1)))) := by
            have h := HO13.out
            rw [strCells_bs, strCells_bs, bs_size, bs_size, ← byteCells_app, show [Value.int IntKind.u8 58] = Lib.byteCells [58] from rfl, ← byteCells_app, ← byteCells_app] at h
            show JoB _ _ _ _
            rw [HJ.out]
            unfold JoB
            have e5 : J ++ (D ++ ([58] : List UInt8) ++ x) = J ++ D ++ [58] ++ x := by simp
            have e6 : (J ++ D ++ ([58] : List UInt8) ++ x).length = J.length + D.length + 1 + x.length := by simp only [List.length_append, List.length_cons, List.length_nil]
            rw [e5, e6]
            exact h
          refine ⟨⟨k + 1, by go_num, by omega, HB13.out, HF13.out, HN13.out⟩, ?_⟩
          simp [intOf]; omega
        · obtain rfl : k = ls.length := by omega
          rw [List.take_length] at HO
          have e1 : decide ((ls.length : Int) < (ls.length : Int)) = false := by simp
          obtain ⟨A2, c2, rfl⟩ := own_sl4 HO.out
          have hcv : (convert 37 9 (.slice A2 (joinD ls).length c2)).run Tryz.prog wr = .ok (.string (bs (joinD ls))) wr := by
            have h := HO.out
            obtain ⟨_, h⟩ := h
            rcases h with ⟨hv, _⟩ | ⟨g, cap, cur, hv, hgB, hg, h1, h2, h3, h4⟩
            · exact absurd hv HNE.out
            · injection hv with e1 e2 e3
              subst e1
              refine conv_bytes (P := Tryz.prog) wr 37 5 9 Tryz.underlying37 Tryz.underlying5 Tryz.underlying9 g 0 (joinD ls) _ _ rfl (fun i c hc => ?_)
              rw [Nat.zero_add]
              refine (Blk.cell (cs := cur) hg i).trans ?_
              have hi : i < (joinD ls).length := (List.getElem?_eq_some_iff.1 hc).1
              have h5 : (cur.toList.take ((joinD ls).length * 1))[i]? = some (.int .u8 (c.toNat : Int)) := by rw [h4]; simp [Lib.byteCells, hc]
              rw [List.getElem?_take, if_pos (by omega)] at h5
              simpa using h5
          go_wp2_with fail
          go_ret
          exact ⟨rfl, HB.out⟩
set_option maxHeartbeats 400000 in
theorem rList_any (ls : List (List UInt8)) (hn : ls.length ≤ 1000) (hs : lenS ls ≤ 100000000000) (hl : (joinD ls).length ≤ 140737488355328) (v : Value) (w : World) (hv : TextsAt w v ls) :
    Calls Tryz.prog 107 #[v] w fun e w' => e = .returned (.string (bs (listD ls))) ∧ Below w.heap.size w w' := by
  have CJ := rJoined_any ls hn hs hl v w hv
  have CS := fun w => rSum_any (joinD ls) hl w
  clear hv
  go_enter Tryz.func107, Tryz.ntmps107
  go_wp2_with (first | ((with_reducible refine CJ.mono ?_); rintro e w1 ⟨rfl, hb⟩) | ((with_reducible refine (CS _).mono ?_); rintro e w' ⟨rfl, rfl⟩))
  go_ret
  exact ⟨rfl, by assumption⟩
def digV (c : UInt8) : Int := if 48 ≤ c.toNat ∧ c.toNat ≤ 57 then (c.toNat : Int) - 48 else if 97 ≤ c.toNat ∧ c.toNat ≤ 102 then (c.toNat : Int) - 87 else -1
set_option maxHeartbeats 1000000 in
theorem rDigit_any (c : UInt8) (w : World) : Calls Tryz.prog 109 #[.int .u8 (c.toNat : Int)] w fun e w' => e = .returned (.int .i64 (digV c)) ∧ w' = w := by
  have hc := c.toNat_lt
  have HV : Hid (digV c = if 48 ≤ c.toNat ∧ c.toNat ≤ 57 then (c.toNat : Int) - 48 else if 97 ≤ c.toNat ∧ c.toNat ≤ 102 then (c.toNat : Int) - 87 else -1) := rfl
  generalize c.toNat = n at *
  have hc' : n < 256 := hc
  by_cases h1 : 48 ≤ n ∧ n ≤ 57
  · rw [if_pos h1] at HV
    have a1 : (48 : Int) ≤ (n : Int) := by omega
    have a2 : (n : Int) ≤ 57 := by omega
    clear h1 hc
    go_enter Tryz.func109, Tryz.ntmps109
    go_wp2_with fail
    go_ret
    exact ⟨ret_int HV.out.symm, rfl⟩
  · rw [if_neg h1] at HV
    by_cases h2 : 97 ≤ n ∧ n ≤ 102
    · rw [if_pos h2] at HV
      have a1 : (97 : Int) ≤ (n : Int) := by omega
      have a2 : (n : Int) ≤ 102 := by omega
      clear h1 h2 hc
      go_enter Tryz.func109, Tryz.ntmps109
      go_wp2_with fail
      go_ret
      exact ⟨ret_int (by rw [HV.out]; omega), rfl⟩
    · rw [if_neg h2] at HV
      clear hc
      go_enter Tryz.func109, Tryz.ntmps109
      go_wp2_with fail
      all_goals first
        | omega
        | (go_ret; exact ⟨ret_int (by rw [HV.out]), rfl⟩)
theorem digV_hex (c : UInt8) : decide (digV c < 0) = !isHex c := by
  have hc := c.toNat_lt
  unfold digV isHex
  generalize c.toNat = n at *
  by_cases h1 : 48 ≤ n ∧ n ≤ 57
  · rw [if_pos h1, decide_eq_false (by omega), decide_eq_true h1.1, decide_eq_true h1.2]; rfl
  · rw [if_neg h1]
    by_cases h2 : 97 ≤ n ∧ n ≤ 102
    · rw [if_pos h2, decide_eq_false (by omega), decide_eq_true h2.1, decide_eq_true h2.2]; simp
    · rw [if_neg h2]
      have e1 : (decide (48 ≤ n) && decide (n ≤ 57)) = false := by rw [← Bool.not_eq_true]; simpa using h1
      have e2 : (decide (97 ≤ n) && decide (n ≤ 102)) = false := by rw [← Bool.not_eq_true]; simpa using h2
      rw [e1, e2]; rfl
set_option maxRecDepth 100000 in
set_option maxHeartbeats 1000000 in
theorem rIs_any (l : List UInt8) (hl : l.length ≤ 140737488355328) (w : World) : Calls Tryz.prog 75 #[.string (bs l)] w fun e w' => e = .returned (.bool (isD l)) ∧ w' = w := by
  have hsz : (bs l).size = l.length := bs_size l
  have HV : Hid (isD l = (decide (l.length = 16) && l.all isHex)) := rfl
  go_enter Tryz.func75, Tryz.ntmps75
  go_wp2_with fail
  go_loopw [3] (fun i wr => ∃ k : Nat, i = .int .i64 (k : Int) ∧ (k ≤ l.length ∧ k ≤ 16) ∧ Hid (l.all isHex = (l.drop k).all isHex) ∧ wr = w) (fun i _ => l.length - (intOf i).toNat)
  case atStart => exact ⟨0, rfl, ⟨by omega, by omega⟩, rfl, rfl⟩
  case round =>
    obtain ⟨k, rfl, ⟨hk, hk16⟩, HA, rfl⟩ := hrel
    by_cases hlt : k < l.length ∧ k < 16
    · obtain ⟨h1, h2⟩ := hlt
      have e1 : decide ((k : Int) < (l.length : Int)) = true := decide_eq_true (by omega)
      have e2 : decide ((k : Int) < 16) = true := decide_eq_true (by omega)
      obtain ⟨c, hc⟩ : ∃ c, l[k]? = some c := ⟨_, List.getElem?_eq_getElem h1⟩
      have ci := index_bs l k c hc
      have CD := fun w => rDigit_any c w
      have HD := hide (drop_at' hc)
      have HX := hide (digV_hex c)
      clear hc
      generalize digV c = d at *
      cases hx : isHex c with
      | true =>
        have e3 : decide (d < 0) = false := by rw [HX.out, hx]; rfl
        have HN : Hid (l.all isHex = (l.drop (k + 1)).all isHex) := by show _ = _; rw [HA.out, HD.out, List.all_cons, hx]; rfl
        clear hx
        go_wp2_with ((with_reducible refine (CD _).mono ?_); rintro e w' ⟨rfl, rfl⟩)
        refine ⟨⟨k + 1, by go_num, ⟨by omega, by omega⟩, HN.out, trivial⟩, ?_⟩
        simp [intOf]; omega
      | false =>
        have e3 : decide (d < 0) = true := by rw [HX.out, hx]; rfl
        have HN : Hid (isD l = false) := by show _ = _; rw [HV.out, HA.out, HD.out, List.all_cons, hx]; simp
        clear hx
        go_wp2_with ((with_reducible refine (CD _).mono ?_); rintro e w' ⟨rfl, rfl⟩)
        go_ret
        exact ⟨ret_bool (by rw [HN.out]), rfl⟩
    · have HN : Hid (isD l = ((l.length : Int) == 16)) := by
        show _ = _
        by_cases h16 : l.length = 16
        · rw [HV.out, HA.out, List.drop_of_length_le (by omega), decide_eq_true h16, h16]; rfl
        · rw [HV.out, decide_eq_false h16]
          symm
          rw [Bool.false_and, beq_eq_false_iff_ne]; omega
      by_cases h1 : k < l.length
      · have e1 : decide ((k : Int) < (l.length : Int)) = true := decide_eq_true (by omega)
        have e2 : decide ((k : Int) < 16) = false := decide_eq_false (by omega)
        clear hlt
        go_wp2_with fail
        go_ret
        exact ⟨ret_bool (by rw [HN.out]), rfl⟩
      · have e1 : decide ((k : Int) < (l.length : Int)) = false := decide_eq_false (by omega)
        clear hlt
        go_wp2_with fail
        go_ret
        exact ⟨ret_bool (by rw [HN.out]), rfl⟩
end Go.Proofs.YtfhanbiifjiklaaGreatDoor

/- Walks of the reference of layer 2: Half, Leaf, node, Empty, root, digests, Root. -/
set_option linter.unusedVariables false
set_option linter.unusedSimpArgs false
namespace Go.Proofs.YtfhanbiifjiklaaGreatDoor
open Go.RowKit

theorem rows_newS (w : World) (t : TypeId) (ls : List (List UInt8)) (cs : Array Value) (hcs : cs.toList = (ls.map strV).flatten) (n : Nat) (hn : n = ls.length) : TextsAt (w.alloc (.cells cs t)) (.slice (some ⟨w.heap.size, 0, none⟩) n n) ls := by
  refine RowsAt.of_blk (Blk.new w t cs) (by rw [List.length_map]; exact hn) (Nat.le_refl _) (by simp [strV]) fun k x hx j u hu => ?_
  have := flat_at (size := 1) (ls.map strV) (by simp [strV]) k x j u hx hu
  rw [← hcs] at this
  simpa using this
set_option maxRecDepth 100000 in
set_option maxHeartbeats 400000 in
theorem rHalf_any (n : Nat) (hn : n ≤ 140737488355328) (w : World) : Calls Tryz.prog 81 #[.int .i64 (n : Int)] w fun e w' => e = .returned (.int .i64 ((halfN n : Nat) : Int)) ∧ w' = w := by
  go_enter Tryz.func81, Tryz.ntmps81
  go_wp2_with fail
  go_loopw [3] (fun k wr => ∃ u f : Nat, k = .int .i64 (u : Int) ∧ (1 ≤ u ∧ u ≤ n + 1 ∧ n ≤ u + f ∧ halfF f u n = halfN n) ∧ wr = w) (fun k _ => n - (intOf k).toNat)
  case atStart => exact ⟨1, n, rfl, ⟨Nat.le_refl _, by omega, by omega, rfl⟩, rfl⟩
  case round =>
    obtain ⟨u, f, rfl, ⟨h1, h1', h2, h3⟩, rfl⟩ := hrel
    have H3 := hide h3
    clear h3
    by_cases hlt : u * 2 < n
    · have e1 : decide (2 * (u : Int) < (n : Int)) = true := decide_eq_true (by omega)
      obtain ⟨f', rfl⟩ : ∃ f', f = f' + 1 := ⟨f - 1, by omega⟩
      have H4 := hide (halfF_go (f := f') hlt)
      go_wp2_with fail
      refine ⟨⟨u * 2, f', by go_num, ⟨by omega, by omega, by omega, H4.out.symm.trans H3.out⟩, trivial⟩, ?_⟩
      simp [intOf]; omega
    · have e1 : decide (2 * (u : Int) < (n : Int)) = false := decide_eq_false (by omega)
      have H4 : Hid (halfN n = u) := H3.out.symm.trans (halfF_stop (by omega))
      go_wp2_with fail
      go_ret
      exact ⟨ret_int (by rw [H4.out]), rfl⟩
theorem lenS2 (a b : List UInt8) : lenS [a, b] = a.length + b.length := by simp [lenS]
theorem lenS3 (a b c : List UInt8) : lenS [a, b, c] = a.length + b.length + c.length := by simp [lenS]; omega
set_option maxHeartbeats 400000 in
theorem rnode_any (a b : List UInt8) (ha : a.length ≤ 1000000000) (hb : b.length ≤ 1000000000) (w : World) : Calls Tryz.prog 111 #[.string (bs a), .string (bs b)] w fun e w' => e = .returned (.string (bs (nodeD a b))) ∧ Below w.heap.size w w' := by
  have CL : Calls Tryz.prog 107 #[.slice (some ⟨w.heap.size, 0, none⟩) 3 3] (w.alloc (.cells #[.string ⟨#[110, 111, 100, 101]⟩, .string (bs a), .string (bs b)] 9)) fun e w' => e = .returned (.string (bs (nodeD a b))) ∧ Below (w.alloc (.cells #[.string ⟨#[110, 111, 100, 101]⟩, .string (bs a), .string (bs b)] 9)).heap.size (w.alloc (.cells #[.string ⟨#[110, 111, 100, 101]⟩, .string (bs a), .string (bs b)] 9)) w' :=
    rList_any [nodeT, a, b] (by simp) (by rw [lenS3]; have : nodeT.length = 4 := rfl; omega) (join3 (by decide) (by omega) (by omega)) _ _ (rows_newS w 9 [nodeT, a, b] _ rfl 3 rfl)
  have HB := hide (below_one w (.cells #[.string ⟨#[110, 111, 100, 101]⟩, .string (bs a), .string (bs b)] 9))
  clear ha hb
  go_enter Tryz.func111, Tryz.ntmps111
  go_wp2_with ((with_reducible refine CL.mono ?_); rintro e w' ⟨rfl, hb⟩)
  go_ret
  exact ⟨rfl, below_to HB.out (Nat.le_refl _) (by assumption)⟩
set_option maxHeartbeats 400000 in
theorem rLeaf_any (a : List UInt8) (ha : a.length ≤ 1000000000) (w : World) : Calls Tryz.prog 70 #[.string (bs a)] w fun e w' => e = .returned (.string (bs (leafD a))) ∧ Below w.heap.size w w' := by
  have CL : Calls Tryz.prog 107 #[.slice (some ⟨w.heap.size, 0, none⟩) 2 2] (w.alloc (.cells #[.string ⟨#[108, 101, 97, 102]⟩, .string (bs a)] 9)) fun e w' => e = .returned (.string (bs (leafD a))) ∧ Below (w.alloc (.cells #[.string ⟨#[108, 101, 97, 102]⟩, .string (bs a)] 9)).heap.size (w.alloc (.cells #[.string ⟨#[108, 101, 97, 102]⟩, .string (bs a)] 9)) w' :=
    rList_any [leafT, a] (by simp) (by rw [lenS2]; have : leafT.length = 4 := rfl; omega) (join2 (by decide) (by omega)) _ _ (rows_newS w 9 [leafT, a] _ rfl 2 rfl)
  have HB := hide (below_one w (.cells #[.string ⟨#[108, 101, 97, 102]⟩, .string (bs a)] 9))
  clear ha
  go_enter Tryz.func70, Tryz.ntmps70
  go_wp2_with ((with_reducible refine CL.mono ?_); rintro e w' ⟨rfl, hb⟩)
  go_ret
  exact ⟨rfl, below_to HB.out (Nat.le_refl _) (by assumption)⟩
set_option maxHeartbeats 400000 in
theorem rEmpty_any (w : World) : Calls Tryz.prog 76 #[] w fun e w' => e = .returned (.string (bs (listD [emptyT]))) ∧ Below w.heap.size w w' := by
  have CL : Calls Tryz.prog 107 #[.slice (some ⟨w.heap.size, 0, none⟩) 1 1] (w.alloc (.cells #[.string ⟨#[101, 109, 112, 116, 121]⟩] 9)) fun e w' => e = .returned (.string (bs (listD [emptyT]))) ∧ Below (w.alloc (.cells #[.string ⟨#[101, 109, 112, 116, 121]⟩] 9)).heap.size (w.alloc (.cells #[.string ⟨#[101, 109, 112, 116, 121]⟩] 9)) w' :=
    rList_any [emptyT] (by simp) (by decide) (by decide +kernel) _ _ (rows_newS w 9 [emptyT] _ rfl 1 rfl)
  have HB := hide (below_one w (.cells #[.string ⟨#[101, 109, 112, 116, 121]⟩] 9))
  go_enter Tryz.func76, Tryz.ntmps76
  go_wp2_with fail
  refine CL.mono ?_
  rintro e w2 ⟨rfl, hb⟩
  have HB2 := hide (below_to HB.out (Nat.le_refl _) hb)
  clear hb CL
  go_wp2_with fail
  go_ret
  exact ⟨rfl, HB2.out⟩
def RRootOk (f : Nat) : Prop := ∀ (ls : List (List UInt8)) (v : Value) (w : World), TextsAt w v ls → ls.length ≤ f → ls.length ≤ 140737488355328 → (∀ x ∈ ls, x.length ≤ 1000000000) → Calls Tryz.prog 89 #[v] w fun e w' => e = .returned (.string (bs (totalT ls))) ∧ Below w.heap.size w w'
theorem total_le {ls : List (List UInt8)} (hx : ∀ x ∈ ls, x.length ≤ 1000000000) : (totalT ls).length ≤ 1000000000 := by
  unfold totalT
  split
  · rw [isD_len (listD_isD _)]; decide
  · cases hl : ls.length with
    | zero => simp [sumT]
    | succ f =>
      by_cases h1 : ls.length = 1
      · rw [sumT_one f h1]
        match ls, h1 with
        | [x], _ => exact hx x (by simp)
      · rw [sumT_two f h1]
        unfold nodeD
        rw [isD_len (listD_isD _)]; decide
set_option maxHeartbeats 1000000 in
theorem rroot_nil (v : Value) (w : World) (hv : TextsAt w v []) : Calls Tryz.prog 89 #[v] w fun e w' => e = .returned (.string (bs (totalT []))) ∧ Below w.heap.size w w' := by
  obtain ⟨A, c, rfl, hc⟩ := hv.slice
  have CE := rEmpty_any w
  have HV : Hid (totalT [] = listD [emptyT]) := rfl
  clear hv
  go_enter Tryz.func89, Tryz.ntmps89
  go_wp2_with ((with_reducible refine CE.mono ?_); rintro e w' ⟨rfl, hb⟩)
  go_ret
  exact ⟨by rw [HV.out]; rfl, by assumption⟩
set_option maxRecDepth 100000 in
set_option maxHeartbeats 1000000 in
theorem rroot_step (f : Nat) (ih : RRootOk f) : RRootOk (f + 1) := by
  intro ls v w hv hf hn hx
  obtain ⟨A, c, rfl, hc⟩ := hv.slice
  by_cases hl0 : ls.length = 0
  · obtain rfl : ls = [] := List.eq_nil_of_length_eq_zero hl0
    exact rroot_nil _ w hv
  by_cases hl1 : ls.length = 1
  · obtain ⟨x, rfl⟩ : ∃ x, ls = [x] := by
      match ls, hl1 with
      | [x], _ => exact ⟨x, rfl⟩
    obtain ⟨a, rfl, ha, c0⟩ := hv.at_ (k := 0) (x := x) rfl
    have HV : Hid (totalT [x] = x) := by show _ = _; unfold totalT; rw [if_neg (by simp)]; exact sumT_one 0 rfl
    rw [show a.add 0 = a from rfl] at c0
    clear hv hx ih
    go_enter Tryz.func89, Tryz.ntmps89
    go_wp2_with fail
    go_ret
    exact ⟨by rw [HV.out]; rfl, Below.refl _ _⟩
  · have hh := half_lt (n := ls.length) (by omega)
    have HV := hide (total_two (l := ls) (by omega))
    have CH := fun w => rHalf_any ls.length hn w
    obtain ⟨x0, hx0⟩ : ∃ x, ls[0]? = some x := ⟨_, List.getElem?_eq_getElem (by omega)⟩
    obtain ⟨a, rfl, ha, _⟩ := hv.at_ hx0
    clear hx0
    obtain ⟨U, hU, g, u0, rfl, hgu, hi⟩ := cls w
    have e0 : ((ls.length : Int) == 0) = false := by rw [beq_eq_false_iff_ne]; omega
    have e1 : ((ls.length : Int) == 1) = false := by rw [beq_eq_false_iff_ne]; omega
    generalize hk : halfN ls.length = k at *
    have CS1 := cls_call hgu hi (fun w hw => ih (ls.take k) _ w ((hv.take (k := k) (by omega) c (by omega)).to hw) (by rw [List.length_take]; omega) (by rw [List.length_take]; omega) (fun x h => hx x (List.mem_of_mem_take h)))
    have CS2 := cls_call hgu hi (fun w hw => ih (ls.drop k) _ w ((hv.drop (k := k) (by omega) (c - k) (by omega)).to hw) (by rw [List.length_drop]; omega) (by rw [List.length_drop]; omega) (fun x h => hx x (List.mem_of_mem_drop h)))
    have CN := cls_call hgu hi (fun w hw => rnode_any (totalT (ls.take k)) (totalT (ls.drop k)) (total_le (fun x h => hx x (List.mem_of_mem_take h))) (total_le (fun x h => hx x (List.mem_of_mem_drop h))) w)
    have HGU := hide hgu
    have HHI := hide hi
    have k1 : (k : Int) ≤ (c : Int) := by omega
    have k0 : (0 : Int) ≤ (k : Int) := by omega
    have k2 : (k : Int) ≤ (ls.length : Int) := by omega
    have k3 : ((k : Int) == (c : Int)) = false := by rw [beq_eq_false_iff_ne]; omega
    have k4 : k ≠ c := by omega
    clear hgu hi hx hv ih
    go_enter Tryz.func89, Tryz.ntmps89
    go_wp2_with ((with_reducible refine (CH _).mono ?_); rintro e w' ⟨rfl, rfl⟩)
    refine wp_region_class g (by kernel_rfl) (by kernel_rfl) (HHI.out _ (HGU.out _).drew) ?_
    repeat (go_big_quiet_step (first | with_reducible exact CS1 _ | with_reducible exact CS2 _ | with_reducible exact CN _))
    refine wpQuiet_nil ?_
    intro w5 hw5
    obtain ⟨u, rfl⟩ := hw5
    go_wp2_with fail
    go_ret
    exact ⟨by rw [HV.out]; rfl, HGU.out _⟩
theorem rroot_any : ∀ f, RRootOk f
  | 0 => fun ls v w hv hf hn hx => by
    obtain rfl : ls = [] := List.eq_nil_of_length_eq_zero (by omega)
    exact rroot_nil v w hv
  | f + 1 => rroot_step f (rroot_any f)
set_option maxRecDepth 100000 in
set_option maxHeartbeats 1000000 in
theorem rdigests_any (ls : List (List UInt8)) (hn : ls.length ≤ 140737488355328) (hx : ∀ x ∈ ls, x.length ≤ 140737488355328) (v : Value) (w : World) (hv : TextsAt w v ls) : Calls Tryz.prog 78 #[v] w fun e w' => e = .returned (.bool (properT ls)) ∧ w' = w := by
  obtain ⟨A, c, rfl, hc⟩ := hv.slice
  have HS := hide hv
  have HX := hide hx
  have HV : Hid (properT ls = ls.all isD) := rfl
  clear hv hx
  go_enter Tryz.func78, Tryz.ntmps78
  go_wp2_with fail
  go_loopw [3] (fun i wr => ∃ k : Nat, i = .int .i64 (k : Int) ∧ k ≤ ls.length ∧ Hid (ls.all isD = (ls.drop k).all isD) ∧ wr = w) (fun i _ => ls.length - (intOf i).toNat)
  case atStart => exact ⟨0, rfl, by omega, rfl, rfl⟩
  case round =>
    obtain ⟨k, rfl, hk, HA, rfl⟩ := hrel
    by_cases hlt : k < ls.length
    · have e1 : decide ((k : Int) < (ls.length : Int)) = true := decide_eq_true (by omega)
      obtain ⟨x, hx⟩ : ∃ x, ls[k]? = some x := ⟨_, List.getElem?_eq_getElem hlt⟩
      obtain ⟨a, rfl, ha, c0⟩ := HS.out.at_ hx
      have CI := fun w => rIs_any x (HX.out x (List.mem_of_getElem? hx)) w
      have HD := hide (drop_at' hx)
      clear hx
      cases hd : isD x with
      | true =>
        have HN : Hid (ls.all isD = (ls.drop (k + 1)).all isD) := by show _ = _; rw [HA.out, HD.out, List.all_cons, hd]; rfl
        rw [hd] at CI
        clear hd
        go_wp2_with ((with_reducible refine (CI _).mono ?_); rintro e w' ⟨rfl, rfl⟩)
        refine ⟨⟨k + 1, by go_num, by omega, HN.out, trivial⟩, ?_⟩
        simp [intOf]; omega
      | false =>
        have HN : Hid (properT ls = false) := by show _ = _; rw [HV.out, HA.out, HD.out, List.all_cons, hd]; rfl
        rw [hd] at CI
        clear hd
        go_wp2_with ((with_reducible refine (CI _).mono ?_); rintro e w' ⟨rfl, rfl⟩)
        go_ret
        exact ⟨ret_bool (by rw [HN.out]), rfl⟩
    · obtain rfl : k = ls.length := by omega
      have e1 : decide ((ls.length : Int) < (ls.length : Int)) = false := by simp
      have HN : Hid (properT ls = true) := by show _ = _; rw [HV.out, HA.out, List.drop_length]; rfl
      go_wp2_with fail
      go_ret
      exact ⟨ret_bool (by rw [HN.out]), rfl⟩
set_option maxHeartbeats 1000000 in
theorem rRoot_any (ls : List (List UInt8)) (hn : ls.length ≤ 140737488355328) (hx : ∀ x ∈ ls, x.length ≤ 1000000000) (v : Value) (w : World) (hv : TextsAt w v ls) :
    Calls Tryz.prog 50 #[v] w fun e w' => e = .returned (.tuple #[.string (bs (rootV ls)), .int .i64 (rootE ls)]) ∧ Below w.heap.size w w' := by
  have CP := rdigests_any ls hn (fun x h => Nat.le_trans (hx x h) (by decide)) v w hv
  have CT := rroot_any ls.length ls v w hv (Nat.le_refl _) hn hx
  unfold rootV rootE
  clear hv hx
  cases hp : properT ls with
  | false =>
    rw [hp] at CP
    rw [if_neg (by simp), if_neg (by simp)]
    clear hp CT
    go_enter Tryz.func50, Tryz.ntmps50
    go_wp2_with ((with_reducible refine CP.mono ?_); rintro e w' ⟨rfl, rfl⟩)
    go_ret2
    exact ⟨rfl, Below.refl _ _⟩
  | true =>
    rw [hp] at CP
    rw [if_pos rfl, if_pos rfl]
    clear hp
    go_enter Tryz.func50, Tryz.ntmps50
    go_wp2_with (first | ((with_reducible refine CP.mono ?_); rintro e w' ⟨rfl, rfl⟩) | ((with_reducible refine CT.mono ?_); rintro e w3 ⟨rfl, hb3⟩))
    go_ret2
    exact ⟨rfl, by assumption⟩
end Go.Proofs.YtfhanbiifjiklaaGreatDoor

/- The plain laws of proofs in trees: what is accepted is what is there, or two texts have one digest. -/
set_option linter.unusedVariables false
set_option linter.unusedSimpArgs false
namespace Go.Proofs.YtfhanbiifjiklaaGreatDoor
open Go

/-! joined texts -/
theorem dig_or (u : Nat) : ∀ c ∈ Lib.decDigits u, c ≠ 58 := by
  induction u using Nat.strongRecOn with
  | ind u ih =>
    intro c hc
    rw [Lib.decDigits] at hc
    split at hc
    · rename_i h
      simp only [List.mem_cons, List.not_mem_nil, or_false] at hc
      subst hc
      intro e
      have := congrArg UInt8.toNat e
      simp at this; omega
    · rename_i h
      rcases List.mem_append.1 hc with hc | hc
      · exact ih (u / 10) (by omega) c hc
      · simp only [List.mem_cons, List.not_mem_nil, or_false] at hc
        subst hc
        intro e
        have := congrArg UInt8.toNat e
        simp at this; omega
theorem dec_inj : ∀ {u v : Nat}, Lib.decDigits u = Lib.decDigits v → u = v := by
  have val : ∀ u : Nat, (Lib.decDigits u).foldl (fun a c => a * 10 + (c.toNat - 48)) 0 = u := by
    intro u
    induction u using Nat.strongRecOn with
    | ind u ih =>
      rw [Lib.decDigits]
      split
      · rename_i h
        simp; omega
      · rename_i h
        rw [List.foldl_append, ih (u / 10) (by omega)]
        simp; omega
  intro u v h
  rw [← val u, h, val v]
theorem span_inj {b : UInt8} : ∀ {l m : List UInt8} {r s : List UInt8}, b ∉ l → b ∉ m → l ++ b :: r = m ++ b :: s → l = m ∧ r = s
  | [], [], r, s, _, _, h => by simpa using h
  | [], c :: m, r, s, _, h2, h => by simp at h; simp [h.1] at h2
  | c :: l, [], r, s, h1, _, h => by simp at h; simp [← h.1] at h1
  | c :: l, d :: m, r, s, h1, h2, h => by
    simp only [List.cons_append, List.cons.injEq] at h
    simp only [List.mem_cons, not_or] at h1 h2
    obtain ⟨e1, e2⟩ := span_inj h1.2 h2.2 h.2
    exact ⟨by rw [h.1, e1], e2⟩
theorem joinD_cons (s : List UInt8) (ls : List (List UInt8)) : joinD (s :: ls) = Lib.itoa s.length ++ 58 :: (s ++ joinD ls) := by simp [joinD]
theorem joinD_inj : ∀ {a b : List (List UInt8)}, joinD a = joinD b → a = b
  | [], [], _ => rfl
  | [], y :: b, h => by rw [joinD_cons] at h; simp [joinD] at h
  | x :: a, [], h => by rw [joinD_cons] at h; simp [joinD] at h
  | x :: a, y :: b, h => by
    rw [joinD_cons, joinD_cons] at h
    have hi : ∀ n : Nat, Lib.itoa (n : Int) = Lib.decDigits n := fun n => by unfold Lib.itoa; rw [if_neg (by omega)]; rfl
    rw [hi, hi] at h
    obtain ⟨e1, e2⟩ := span_inj (fun hm => dig_or _ _ hm rfl) (fun hm => dig_or _ _ hm rfl) h
    have e3 := dec_inj e1
    obtain ⟨e4, e5⟩ := List.append_inj e2 e3
    rw [e4, joinD_inj e5]
/-- two different texts with one digest: one of each list -/
def Coll (a b : List (List UInt8)) : Prop := ∃ s ∈ a, ∃ t ∈ b, s ≠ t ∧ sumD s = sumD t
theorem Coll.mono {a b a' b' : List (List UInt8)} (h : Coll a b) (ha : ∀ s ∈ a, s ∈ a') (hb : ∀ s ∈ b, s ∈ b') : Coll a' b' := by
  obtain ⟨s, h1, t, h2, h3⟩ := h
  exact ⟨s, ha s h1, t, hb t h2, h3⟩
theorem list_sound {x y : List (List UInt8)} (h : listD x = listD y) : x = y ∨ (joinD x ≠ joinD y ∧ sumD (joinD x) = sumD (joinD y)) := by
  by_cases he : joinD x = joinD y
  · exact .inl (joinD_inj he)
  · exact .inr ⟨he, h⟩
theorem node_sound {a b c d : List UInt8} (h : nodeD a b = nodeD c d) : (a = c ∧ b = d) ∨ Coll [joinD [nodeT, a, b]] [joinD [nodeT, c, d]] := by
  rcases list_sound h with h | h
  · simp only [List.cons.injEq, and_true, true_and] at h; exact .inl h
  · exact .inr ⟨_, List.mem_singleton.2 rfl, _, List.mem_singleton.2 rfl, h⟩
theorem leafD_sound {a b : List UInt8} (h : leafD a = leafD b) : a = b ∨ Coll [joinD [leafT, a]] [joinD [leafT, b]] := by
  rcases list_sound h with h | h
  · simp only [List.cons.injEq, and_true, true_and] at h; exact .inl h
  · exact .inr ⟨_, List.mem_singleton.2 rfl, _, List.mem_singleton.2 rfl, h⟩
/-! what is digested for a root -/
def textsF : Nat → List (List UInt8) → List (List UInt8)
  | 0, _ => []
  | f + 1, l => if l.length = 0 then [joinD [emptyT]] else if l.length = 1 then [] else textsF f (l.take (halfN l.length)) ++ textsF f (l.drop (halfN l.length)) ++ [joinD [nodeT, totalT (l.take (halfN l.length)), totalT (l.drop (halfN l.length))]]
theorem textsF_two {f : Nat} {l : List (List UInt8)} (h : 2 ≤ l.length) : textsF (f + 1) l = textsF f (l.take (halfN l.length)) ++ textsF f (l.drop (halfN l.length)) ++ [joinD [nodeT, totalT (l.take (halfN l.length)), totalT (l.drop (halfN l.length))]] := by
  conv => lhs; unfold textsF
  rw [if_neg (by omega), if_neg (by omega)]
theorem textsF_one {f : Nat} {l : List (List UInt8)} (h : l.length = 1) : textsF (f + 1) l = [] := by unfold textsF; rw [if_neg (by omega), if_pos h]
theorem textsF_more : ∀ (f g : Nat) (l : List (List UInt8)), l.length < f → l.length < g → textsF f l = textsF g l := by
  intro f
  induction f with
  | zero => intro g l h1 h2; omega
  | succ f ih =>
    intro g l h1 h2
    obtain ⟨g', rfl⟩ : ∃ g', g = g' + 1 := ⟨g - 1, by omega⟩
    rcases Nat.lt_or_ge 1 l.length with h | h
    · obtain ⟨a, b⟩ := half_lt (n := l.length) h
      rw [textsF_two h, textsF_two h]
      generalize halfN l.length = k at *
      rw [ih g' (l.take k) (by rw [List.length_take]; omega) (by rw [List.length_take]; omega), ih g' (l.drop k) (by rw [List.length_drop]; omega) (by rw [List.length_drop]; omega)]
    · rcases Nat.eq_zero_or_pos l.length with h0 | h0
      · unfold textsF; rw [if_pos h0, if_pos h0]
      · rw [textsF_one (by omega), textsF_one (by omega)]
def textsV (l : List (List UInt8)) : List (List UInt8) := textsF (l.length + 1) l
theorem texts_two {l : List (List UInt8)} (h : 2 ≤ l.length) : textsV l = textsV (l.take (halfN l.length)) ++ textsV (l.drop (halfN l.length)) ++ [joinD [nodeT, totalT (l.take (halfN l.length)), totalT (l.drop (halfN l.length))]] := by
  obtain ⟨a, b⟩ := half_lt (n := l.length) h
  unfold textsV
  rw [textsF_two h]
  generalize halfN l.length = k at *
  rw [textsF_more l.length ((l.take k).length + 1) (l.take k) (by rw [List.length_take]; omega) (by omega), textsF_more l.length ((l.drop k).length + 1) (l.drop k) (by rw [List.length_drop]; omega) (by omega)]
theorem total_one (x : List UInt8) : totalT [x] = x := by unfold totalT; rw [if_neg (by simp)]; rfl
/-- two lists of the same length with one root -/
theorem tree_sound : ∀ (f : Nat) (l m : List (List UInt8)), l.length ≤ f → m.length = l.length → totalT l = totalT m → l = m ∨ Coll (textsV l) (textsV m) := by
  intro f
  induction f with
  | zero => intro l m h1 h2 _; left; rw [List.eq_nil_of_length_eq_zero (by omega : l.length = 0), List.eq_nil_of_length_eq_zero (by omega : m.length = 0)]
  | succ f ih =>
    intro l m h1 h2 h
    rcases Nat.lt_or_ge 1 l.length with hl | hl
    · obtain ⟨a, b⟩ := half_lt (n := l.length) hl
      rw [total_two hl, total_two (l := m) (by omega)] at h
      have t1 := texts_two hl
      have t2 := texts_two (l := m) (by omega)
      rw [h2] at h t2
      generalize halfN l.length = k at *
      rcases node_sound h with ⟨e1, e2⟩ | hc
      · rcases ih (l.take k) (m.take k) (by rw [List.length_take]; omega) (by rw [List.length_take, List.length_take]; omega) e1 with e3 | hc
        · rcases ih (l.drop k) (m.drop k) (by rw [List.length_drop]; omega) (by rw [List.length_drop, List.length_drop]; omega) e2 with e4 | hc
          · left; rw [← List.take_append_drop k l, ← List.take_append_drop k m, e3, e4]
          · right; rw [t1, t2]; exact hc.mono (fun s hs => by simp [hs]) (fun s hs => by simp [hs])
        · right; rw [t1, t2]; exact hc.mono (fun s hs => by simp [hs]) (fun s hs => by simp [hs])
      · right; rw [t1, t2]; exact hc.mono (fun s hs => by simp only [List.mem_append]; exact .inr hs) (fun s hs => by simp only [List.mem_append]; exact .inr hs)
    · match l, m, hl, h2 with
      | [], [], _, _ => exact .inl rfl
      | [x], [y], _, _ => rw [total_one, total_one] at h; left; rw [h]
/-! paths -/
theorem upG_fst (leaf : List UInt8) : ∀ (f n i : Nat) (st : List (List UInt8)) (a b : Bool), (upG leaf f n i st a).1 = (upG leaf f n i st b).1
  | 0, _, _, _, _, _ => rfl
  | f + 1, n, i, st, a, b => by
    unfold upG
    split
    · rfl
    · split
      · simp only; rw [upG_fst leaf f (halfN n) i st.tail (nextS st a) (nextS st b)]
      · simp only; rw [upG_fst leaf f (n - halfN n) (i - halfN n) st.tail (nextS st a) (nextS st b)]
/-- what is digested for a path -/
def ptxF (leaf : List UInt8) : Nat → Nat → Nat → List (List UInt8) → List (List UInt8)
  | 0, _, _, _ => []
  | f + 1, n, i, st => if n = 1 then [] else
    if i < halfN n then ptxF leaf f (halfN n) i st.tail ++ [joinD [nodeT, (upG leaf f (halfN n) i st.tail false).1, st.headD []]]
    else ptxF leaf f (n - halfN n) (i - halfN n) st.tail ++ [joinD [nodeT, st.headD [], (upG leaf f (n - halfN n) (i - halfN n) st.tail false).1]]
theorem up_sound (leaf : List UInt8) : ∀ (f n i : Nat) (st : List (List UInt8)) (sh : Bool) (ls : List (List UInt8)), ls.length = n → n ≤ f → i < n → (upG leaf f n i st sh).1 = totalT ls → ls[i]? = some leaf ∨ Coll (textsV ls) (ptxF leaf f n i st) := by
  intro f
  induction f with
  | zero => intro n i st sh ls h1 h2 h3; omega
  | succ f ih =>
    intro n i st sh ls h1 h2 h3 h
    by_cases hn : n = 1
    · subst hn
      obtain rfl : i = 0 := by omega
      rw [upG_one] at h
      match ls, h1 with
      | [x], _ => left; rw [total_one] at h; simp [show leaf = x from h]
    · obtain ⟨a, b⟩ := half_lt (n := n) (by omega)
      have t1 := texts_two (l := ls) (by omega)
      have tt := total_two (l := ls) (by omega)
      rw [h1] at t1 tt
      rw [tt] at h
      by_cases hi : i < halfN n
      · rw [upG_lt leaf hn hi] at h
        simp only at h
        have hp : ptxF leaf (f + 1) n i st = ptxF leaf f (halfN n) i st.tail ++ [joinD [nodeT, (upG leaf f (halfN n) i st.tail false).1, st.headD []]] := by
          conv => lhs; unfold ptxF
          rw [if_neg hn, if_pos hi]
        rw [upG_fst leaf f (halfN n) i st.tail _ false] at h
        rw [hp, t1]
        generalize halfN n = k at *
        rcases node_sound h with ⟨e1, e2⟩ | hc
        · rcases ih k i st.tail false (ls.take k) (by rw [List.length_take]; omega) (by omega) hi e1 with e3 | hc
          · left; rw [List.getElem?_take_of_lt hi] at e3; exact e3
          · right; exact hc.mono (fun s hs => by simp [hs]) (fun s hs => by simp [hs])
        · right
          obtain ⟨s, h1, t, h2, h3, h4⟩ := hc
          exact ⟨t, by simp only [List.mem_append]; exact .inr h2, s, by simp only [List.mem_append]; exact .inr h1, fun e => h3 e.symm, h4.symm⟩
      · rw [upG_ge leaf hn hi] at h
        simp only at h
        have hp : ptxF leaf (f + 1) n i st = ptxF leaf f (n - halfN n) (i - halfN n) st.tail ++ [joinD [nodeT, st.headD [], (upG leaf f (n - halfN n) (i - halfN n) st.tail false).1]] := by
          conv => lhs; unfold ptxF
          rw [if_neg hn, if_neg hi]
        rw [upG_fst leaf f (n - halfN n) (i - halfN n) st.tail _ false] at h
        rw [hp, t1]
        generalize halfN n = k at *
        rcases node_sound h with ⟨e1, e2⟩ | hc
        · rcases ih (n - k) (i - k) st.tail false (ls.drop k) (by rw [List.length_drop]; omega) (by omega) (by omega) e2 with e3 | hc
          · left; rw [List.getElem?_drop, show k + (i - k) = i by omega] at e3; exact e3
          · right; exact hc.mono (fun s hs => by simp [hs]) (fun s hs => by simp [hs])
        · right
          obtain ⟨s, h1, t, h2, h3, h4⟩ := hc
          exact ⟨t, by simp only [List.mem_append]; exact .inr h2, s, by simp only [List.mem_append]; exact .inr h1, fun e => h3 e.symm, h4.symm⟩
/-! half of a part -/
theorem halfF_ge : ∀ (f k n : Nat), k ≤ halfF f k n
  | 0, k, n => Nat.le_refl _
  | f + 1, k, n => by
    unfold halfF
    split
    · have := halfF_ge f (k * 2) n; omega
    · exact Nat.le_refl _
theorem halfF_same : ∀ (f g k n m : Nat), 1 ≤ k → k < n → n ≤ k + f → m ≤ k + g → halfF f k n < m → m ≤ n → halfF g k m = halfF f k n := by
  intro f
  induction f with
  | zero => intro g k n m h1 h2 h3; omega
  | succ f ih =>
    intro g k n m h1 h2 h3 h4 h5 h6
    have hkm : k < m := by
      refine Nat.lt_of_le_of_lt ?_ h5
      unfold halfF
      split
      · have := (halfF_ge f (k * 2) n); omega
      · exact Nat.le_refl _
    obtain ⟨g', rfl⟩ : ∃ g', g = g' + 1 := ⟨g - 1, by omega⟩
    by_cases h : k * 2 < n
    · have e1 : halfF (f + 1) k n = halfF f (k * 2) n := halfF_go h
      rw [e1] at h5 ⊢
      have := halfF_ge f (k * 2) n
      have e2 : halfF (g' + 1) k m = halfF g' (k * 2) m := halfF_go (by omega)
      rw [e2]
      exact ih g' (k * 2) n m (by omega) h (by omega) (by omega) h5 h6
    · have e1 : halfF (f + 1) k n = k := by
        unfold halfF
        rw [if_neg h]
      have e2 : halfF (g' + 1) k m = k := by
        unfold halfF
        rw [if_neg (by omega)]
      rw [e1, e2]
theorem half_part {m n : Nat} (h : 2 ≤ n) (h1 : halfN n < m) (h2 : m ≤ n) : halfN m = halfN n := halfF_same n m 1 n m (Nat.le_refl _) (by omega) (by omega) (by omega) h1 h2
/-! links -/
/-- what a link's digests make: the root of the first m, that of all, what is left, whether one was missing -/
def bothG (old : List UInt8) : Nat → Nat → Nat → Bool → List (List UInt8) → Bool → (List UInt8 × List UInt8) × List (List UInt8) × Bool
  | 0, _, _, _, st, sh => ((old, old), st, sh)
  | f + 1, n, m, wh, st, sh => if m = n then (if wh then ((old, old), st, sh) else ((st.headD [], st.headD []), st.tail, nextS st sh)) else
    if m ≤ halfN n then (((bothG old f (halfN n) m wh st.tail (nextS st sh)).1.1, nodeD (bothG old f (halfN n) m wh st.tail (nextS st sh)).1.2 (st.headD [])), (bothG old f (halfN n) m wh st.tail (nextS st sh)).2)
    else ((nodeD (st.headD []) (bothG old f (n - halfN n) (m - halfN n) false st.tail (nextS st sh)).1.1, nodeD (st.headD []) (bothG old f (n - halfN n) (m - halfN n) false st.tail (nextS st sh)).1.2), (bothG old f (n - halfN n) (m - halfN n) false st.tail (nextS st sh)).2)
theorem bothG_eq (old : List UInt8) (f n : Nat) (wh : Bool) (st : List (List UInt8)) (sh : Bool) : bothG old (f + 1) n n wh st sh = if wh then ((old, old), st, sh) else ((st.headD [], st.headD []), st.tail, nextS st sh) := by unfold bothG; rw [if_pos rfl]
theorem bothG_le (old : List UInt8) {f n m : Nat} (hn : m ≠ n) (hm : m ≤ halfN n) (wh : Bool) (st : List (List UInt8)) (sh : Bool) : bothG old (f + 1) n m wh st sh = (((bothG old f (halfN n) m wh st.tail (nextS st sh)).1.1, nodeD (bothG old f (halfN n) m wh st.tail (nextS st sh)).1.2 (st.headD [])), (bothG old f (halfN n) m wh st.tail (nextS st sh)).2) := by
  conv => lhs; unfold bothG
  rw [if_neg hn, if_pos hm]
theorem bothG_gt (old : List UInt8) {f n m : Nat} (hn : m ≠ n) (hm : ¬ m ≤ halfN n) (wh : Bool) (st : List (List UInt8)) (sh : Bool) : bothG old (f + 1) n m wh st sh = ((nodeD (st.headD []) (bothG old f (n - halfN n) (m - halfN n) false st.tail (nextS st sh)).1.1, nodeD (st.headD []) (bothG old f (n - halfN n) (m - halfN n) false st.tail (nextS st sh)).1.2), (bothG old f (n - halfN n) (m - halfN n) false st.tail (nextS st sh)).2) := by
  conv => lhs; unfold bothG
  rw [if_neg hn, if_neg hm]
theorem bothG_fst (old : List UInt8) : ∀ (f n m : Nat) (wh : Bool) (st : List (List UInt8)) (a b : Bool), (bothG old f n m wh st a).1 = (bothG old f n m wh st b).1
  | 0, _, _, _, _, _, _ => rfl
  | f + 1, n, m, wh, st, a, b => by
    by_cases h : m = n
    · subst h; rw [bothG_eq, bothG_eq]; cases wh <;> rfl
    · by_cases hm : m ≤ halfN n
      · rw [bothG_le old h hm, bothG_le old h hm]; simp only; rw [bothG_fst old f (halfN n) m wh st.tail (nextS st a) (nextS st b)]
      · rw [bothG_gt old h hm, bothG_gt old h hm]; simp only; rw [bothG_fst old f (n - halfN n) (m - halfN n) false st.tail (nextS st a) (nextS st b)]
/-- what is digested for a link -/
def ltxF (old : List UInt8) : Nat → Nat → Nat → Bool → List (List UInt8) → List (List UInt8)
  | 0, _, _, _, _ => []
  | f + 1, n, m, wh, st => if m = n then [] else
    if m ≤ halfN n then ltxF old f (halfN n) m wh st.tail ++ [joinD [nodeT, (bothG old f (halfN n) m wh st.tail false).1.2, st.headD []]]
    else ltxF old f (n - halfN n) (m - halfN n) false st.tail ++ [joinD [nodeT, st.headD [], (bothG old f (n - halfN n) (m - halfN n) false st.tail false).1.1]] ++ [joinD [nodeT, st.headD [], (bothG old f (n - halfN n) (m - halfN n) false st.tail false).1.2]]
theorem both_sound (old : List UInt8) : ∀ (f n m : Nat) (wh : Bool) (st : List (List UInt8)) (ls : List (List UInt8)), ls.length = n → n ≤ f → 1 ≤ m → m ≤ n → (bothG old f n m wh st false).1.2 = totalT ls →
    ((bothG old f n m wh st false).1.1 = totalT (ls.take m) ∧ ∀ s ∈ textsV (ls.take m), s ∈ textsV ls ++ ltxF old f n m wh st) ∨ Coll (textsV ls) (ltxF old f n m wh st) := by
  intro f
  induction f with
  | zero => intro n m wh st ls h1 h2 h3 h4; omega
  | succ f ih =>
    intro n m wh st ls h1 h2 h3 h4 h
    by_cases hn : m = n
    · subst hn
      left
      rw [bothG_eq] at h ⊢
      rw [List.take_of_length_le (by omega)]
      refine ⟨?_, fun s hs => List.mem_append.2 (.inl hs)⟩
      cases wh <;> simpa using h
    · obtain ⟨a, b⟩ := half_lt (n := n) (by omega)
      have t1 := texts_two (l := ls) (by omega)
      have tt := total_two (l := ls) (by omega)
      rw [h1] at t1 tt
      rw [tt] at h
      by_cases hm : m ≤ halfN n
      · have hp : ltxF old (f + 1) n m wh st = ltxF old f (halfN n) m wh st.tail ++ [joinD [nodeT, (bothG old f (halfN n) m wh st.tail false).1.2, st.headD []]] := by
          conv => lhs; unfold ltxF
          rw [if_neg hn, if_pos hm]
        rw [bothG_le old hn hm] at h ⊢
        simp only at h ⊢
        rw [bothG_fst old f (halfN n) m wh st.tail _ false] at h ⊢
        rw [hp, t1]
        generalize halfN n = k at *
        rcases node_sound h with ⟨e1, e2⟩ | hc
        · rcases ih k m wh st.tail (ls.take k) (by rw [List.length_take]; omega) (by omega) h3 hm e1 with ⟨e3, e4⟩ | hc
          · left
            rw [List.take_take, Nat.min_eq_left hm] at e3 e4
            refine ⟨e3, fun s hs => ?_⟩
            have := e4 s hs
            simp only [List.mem_append] at this ⊢
            rcases this with h | h
            · exact .inl (.inl (.inl h))
            · exact .inr (.inl h)
          · right; exact hc.mono (fun s hs => by simp [hs]) (fun s hs => by simp [hs])
        · right
          obtain ⟨s, h1, t, h2, h3, h4⟩ := hc
          exact ⟨t, by simp only [List.mem_append]; exact .inr h2, s, by simp only [List.mem_append]; exact .inr h1, fun e => h3 e.symm, h4.symm⟩
      · have hp : ltxF old (f + 1) n m wh st = ltxF old f (n - halfN n) (m - halfN n) false st.tail ++ [joinD [nodeT, st.headD [], (bothG old f (n - halfN n) (m - halfN n) false st.tail false).1.1]] ++ [joinD [nodeT, st.headD [], (bothG old f (n - halfN n) (m - halfN n) false st.tail false).1.2]] := by
          conv => lhs; unfold ltxF
          rw [if_neg hn, if_neg hm]
        have hh := half_part (n := n) (m := m) (by omega) (by omega) h4
        have tm := total_two (l := ls.take m) (by rw [List.length_take]; omega)
        have xm := texts_two (l := ls.take m) (by rw [List.length_take]; omega)
        have hlm : (ls.take m).length = m := by rw [List.length_take]; omega
        rw [hlm, hh] at tm xm
        rw [bothG_gt old hn hm] at h ⊢
        simp only at h ⊢
        rw [bothG_fst old f (n - halfN n) (m - halfN n) false st.tail _ false] at h ⊢
        rw [hp, t1]
        generalize halfN n = k at *
        have q1 : (ls.take m).take k = ls.take k := by rw [List.take_take, Nat.min_eq_left (by omega)]
        have q2 : (ls.take m).drop k = (ls.drop k).take (m - k) := by rw [List.drop_take]
        rw [q1, q2] at tm xm
        rcases node_sound h with ⟨e1, e2⟩ | hc
        · rcases ih (n - k) (m - k) false st.tail (ls.drop k) (by rw [List.length_drop]; omega) (by omega) (by omega) (by omega) e2 with ⟨e3, e4⟩ | hc
          · left
            refine ⟨by rw [tm, e1, e3], fun s hs => ?_⟩
            rw [xm] at hs
            simp only [List.mem_append] at hs ⊢
            rcases hs with (hs | hs) | hs
            · exact .inl (.inl (.inl hs))
            · have := e4 s hs
              simp only [List.mem_append] at this
              rcases this with h | h
              · exact .inl (.inl (.inr h))
              · exact .inr (.inl (.inl h))
            · refine .inr (.inl (.inr ?_))
              rw [e1, e3]; exact hs
          · right; exact hc.mono (fun s hs => by simp [hs]) (fun s hs => by simp [hs])
        · right
          obtain ⟨s, h1, t, h2, h3, h4⟩ := hc
          exact ⟨t, by simp only [List.mem_append]; exact .inr h2, s, by simp only [List.mem_append]; exact .inr h1, fun e => h3 e.symm, h4.symm⟩
end Go.Proofs.YtfhanbiifjiklaaGreatDoor

/- A drawn region whose relations know the frame ahead of and behind an operation. -/
set_option linter.unusedVariables false
set_option linter.unusedSimpArgs false
namespace Go.Proofs.YtfhanbiifjiklaaGreatDoor
open Go Go.RowKit

/-- the region is fit for it -/
def looseB3 (ops : Array Oper) (n : Nat) (js : List Nat) : Bool :=
  (List.range ops.size).all fun i => match ops[i]? with
    | none => true
    | some o => (o.after.all fun e => !Region.binds .any e || decide (e.on < i)) &&
      (match o.dst with
       | none => true
       | some d => decide (d < n) && (List.range ops.size).all fun j => (i == j) || (match ops[j]? with
          | none => true
          | some oj => (oj.dst != some d) && (!js.contains j || !(oj.looksAt ops).contains d || Region.waitsFor .any ops j i)))
theorem looseB3_spec {ops : Array Oper} {n : Nat} {js : List Nat} (h : looseB3 ops n js = true) : ∀ (i : Nat) (o : Oper), ops[i]? = some o → (∀ e ∈ o.after, Region.binds .any e = true → e.on < i) ∧
    ∀ d, o.dst = some d → d < n ∧ ∀ (j : Nat) (oj : Oper), i ≠ j → ops[j]? = some oj → oj.dst ≠ some d ∧ (j ∈ js → d ∈ oj.looksAt ops → Region.waitsFor .any ops j i = true) := by
  intro i o ho
  have hlt : i < ops.size := (Array.getElem?_eq_some_iff.1 ho).1
  have h1 := List.all_eq_true.1 h i (List.mem_range.2 hlt)
  simp only [ho, Bool.and_eq_true] at h1
  refine ⟨fun e he hb => ?_, fun d hd => ?_⟩
  · have := Array.all_eq_true_iff_forall_mem.1 h1.1 e he
    simpa [hb] using this
  · have h2 := h1.2
    simp only [hd, Bool.and_eq_true, decide_eq_true_eq] at h2
    refine ⟨h2.1, fun j oj hij hoj => ?_⟩
    have hjlt : j < ops.size := (Array.getElem?_eq_some_iff.1 hoj).1
    have h3 := List.all_eq_true.1 h2.2 j (List.mem_range.2 hjlt)
    simp only [hoj, Bool.or_eq_true, Bool.and_eq_true, bne_iff_ne, beq_iff_eq] at h3
    rcases h3 with h3 | h3
    · exact absurd h3 hij
    · refine ⟨h3.1, fun hjm hm => ?_⟩
      rcases h3.2 with (h4 | h4) | h4
      · simp only [Bool.not_eq_true', List.contains_eq_mem, decide_eq_false_iff_not] at h4
        exact absurd hjm h4
      · simp only [Bool.not_eq_true', List.contains_eq_mem, decide_eq_false_iff_not] at h4
        exact absurd hm h4
      · exact h4

section
variable {P : Program} {ops : Array Oper} {Q : Exit → Act → World → Prop} {md : Region.Mode} {C : World → Prop} {a0 : Act}
theorem wpAny_pre3 (Kn : Nat → Act → World → Prop) (N : Nat → Act → World → Prop) (Rel : Nat → Act → Act → World → World → Prop)
    (hacyc : ∀ (i : Nat) (o : Oper), ops[i]? = some o → ∀ e ∈ o.after, Region.binds md e = true → e.on < i)
    (hC : ∀ i a a' w w', C w → Rel i a a' w w' → C w')
    (hkeep : ∀ (i j : Nat) (o : Oper), i ≠ j → ops[i]? = some o → Region.waitsFor md ops j i = false → ∀ a v w w', Kn j a w → Rel i a (a.put o.dst v) w w' → Kn j (a.put o.dst v) w')
    (hNk : ∀ (i k : Nat) (o : Oper), i ≠ k → ops[k]? = some o → waitsT md ops ops.size k i = false → ∀ a v w w', N i a w → Rel k a (a.put o.dst v) w w' → N i (a.put o.dst v) w')
    (hop : ∀ (i : Nat) (o : Oper), ops[i]? = some o → ∀ a w, C w → Same ops a0 a → (∀ e ∈ o.after, Region.binds md e = true → Kn e.on a w) → N i a w →
      wpOp P ops Q i (fun a' w' => ∃ v, a' = a.put o.dst v ∧ Rel i a (a.put o.dst v) w w' ∧ Kn i (a.put o.dst v) w') a w)
    (hfin : ∀ a w, C w → Same ops a0 a → (∀ i, i < ops.size → Kn i a w) → Q .normal a w) :
    ∀ (f : Nat) (L : List Nat) (listed : Array Bool) (a : Act) (w : World), L.length ≤ f → listed.size = ops.size → (∀ i, i < ops.size → listed.getD i true = false → i ∈ L) → C w → Same ops a0 a →
      (∀ (j : Nat) (oj : Oper), ops[j]? = some oj → listed.getD j false = true → ∀ e ∈ oj.after, Region.binds md e = true → listed.getD e.on false = true) →
      (∀ i, i < ops.size → listed.getD i false = true → Kn i a w) → (∀ i, i < ops.size → listed.getD i true = false → N i a w) → wpAny P md ops Q f listed a w := by
  have hfull : ∀ listed : Array Bool, listed.size = ops.size → Region.ready md ops listed = [] → ∀ (d i : Nat), i < d → i < ops.size → listed.getD i false = true := by
    intro listed hsz hr d
    induction d with
    | zero => intro i hi; omega
    | succ d ih =>
      intro i hi hin
      rcases Nat.lt_or_ge i d with h | h
      · exact ih i h hin
      · obtain rfl : i = d := by omega
        cases hl : listed.getD i false with
        | true => rfl
        | false =>
          have hmem : i ∈ Region.ready md ops listed := by
            rw [mem_ready]
            refine ⟨getD_in (by omega) hl, ops[i], Array.getElem?_eq_getElem hin, fun e he hb => ?_⟩
            have := hacyc i ops[i] (Array.getElem?_eq_getElem hin) e he hb
            exact ih e.on this (by omega)
          rw [hr] at hmem
          cases hmem
  intro f
  induction f with
  | zero =>
    intro L listed a w hL hsz hun hw hs hcl hk hN
    have hall : ∀ i, i < ops.size → listed.getD i false = true := by
      intro i hi
      cases hl : listed.getD i false with
      | true => rfl
      | false =>
        have := hun i hi (getD_in (by omega) hl)
        have hL0 : L = [] := List.length_eq_zero_iff.1 (by omega)
        rw [hL0] at this
        cases this
    have hr : Region.ready md ops listed = [] := by
      apply List.eq_nil_iff_forall_not_mem.2
      intro i hi
      obtain ⟨h1, o, ho, _⟩ := mem_ready.1 hi
      have hlt : i < ops.size := (Array.getElem?_eq_some_iff.1 ho).1
      have h2 := hall i hlt
      rw [getD_both h1] at h2
      cases h2
    exact ⟨hr, hfin a w hw hs (fun i hi => hk i hi (hall i hi))⟩
  | succ f ih =>
    intro L listed a w hL hsz hun hw hs hcl hk hN
    refine ⟨fun hr => hfin a w hw hs (fun i hi => hk i hi (hfull listed hsz hr _ i hi hi)), fun i hi => ?_⟩
    obtain ⟨hiun, o, ho, hall⟩ := mem_ready.1 hi
    have hlt : i < ops.size := (Array.getElem?_eq_some_iff.1 ho).1
    refine wpOp_mono ?_ (hop i o ho a w hw hs (fun e he hb => hk e.on (by have := hacyc i o ho e he hb; omega) (hall e he hb)) (hN i hlt hiun))
    rintro a' w' ⟨v, rfl, hrel, hkn⟩
    have hiL := hun i hlt hiun
    refine ih (L.erase i) (listed.setIfInBounds i true) _ w' ?_ (by simpa using hsz) ?_ (hC i _ _ _ _ hw hrel) (hs.put ho v) ?_ ?_ ?_
    · rw [List.length_erase_of_mem hiL]; omega
    · intro j hj hjl
      rcases Nat.decEq j i with hji | hji
      · rw [getD_set_ne true (Ne.symm hji)] at hjl
        exact (List.mem_erase_of_ne hji).2 (hun j hj hjl)
      · subst hji
        rw [Array.getD_eq_getD_getElem?, Array.getElem?_setIfInBounds_self_of_lt (by omega)] at hjl
        cases hjl
    · intro j oj hoj hjl e he hb
      rcases Nat.decEq j i with hji | hji
      · rw [getD_set_ne false (Ne.symm hji)] at hjl
        exact getD_set_true (hcl j oj hoj hjl e he hb)
      · subst hji
        have : oj = o := Option.some.inj (hoj.symm.trans ho)
        subst this
        exact getD_set_true (hall e he hb)
    · intro j hj hjl
      rcases Nat.decEq j i with hji | hji
      · rw [getD_set_ne false (Ne.symm hji)] at hjl
        refine hkeep i j o (Ne.symm hji) ho ?_ a v w w' (hk j hj hjl) hrel
        cases hwf : Region.waitsFor md ops j i with
        | false => rfl
        | true =>
          obtain ⟨oj, hoj, e, he, hb, hon⟩ := Region.waitsFor_spec hwf
          have h1 := hcl j oj hoj hjl e he hb
          rw [hon, getD_both hiun] at h1
          cases h1
      · subst hji; exact hkn
    · intro j hj hjl
      rcases Nat.decEq j i with hji | hji
      · rw [getD_set_ne true (Ne.symm hji)] at hjl
        refine hNk j i o hji ho ?_ a v w w' (hN j hj hjl) hrel
        cases hwt : waitsT md ops ops.size i j with
        | false => rfl
        | true =>
          have := waitsT_listed hcl _ _ _ hwt o ho hall
          rw [getD_both hjl] at this
          cases this
      · subst hji
        rw [Array.getD_eq_getD_getElem?, Array.getElem?_setIfInBounds_self_of_lt (by omega)] at hjl
        cases hjl
/-- what operation i owes -/
def Owes3 (P : Program) (ops : Array Oper) (Q : Exit → Act → World → Prop) (C : World → Prop) (a0 : Act) (V : List (Option Value)) (Fs Ns : List (Nat × (Act → World → Prop))) (Rel : Nat → Act → Act → World → World → Prop) (i : Nat) (o : Oper) : Prop :=
  ∀ (a : Act) (w : World) (K : Act → World → Prop), C w → Same ops a0 a → (∀ e ∈ o.after, Region.binds .any e = true → Kn ops V Fs e.on a w) → (∀ p ∈ Ns, p.1 = i → p.2 a w) →
    (∀ v w', Rel i a (a.put o.dst v) w w' → (∀ v0, V[i]? = some (some v0) → v = v0) → (∀ p ∈ Fs, p.1 = i → p.2 (a.put o.dst v) w') → K (a.put o.dst v) w') →
    if Region.wanted o (yielded ops a.tmps) then o.wp P a w K Q else K (a.put o.dst undef) w
def AllOwe3 (P : Program) (ops : Array Oper) (Q : Exit → Act → World → Prop) (C : World → Prop) (a0 : Act) (V : List (Option Value)) (Fs Ns : List (Nat × (Act → World → Prop))) (Rel : Nat → Act → Act → World → World → Prop) : List Oper → Nat → Prop
  | [], _ => True
  | o :: l, k => Owes3 P ops Q C a0 V Fs Ns Rel k o ∧ AllOwe3 P ops Q C a0 V Fs Ns Rel l (k + 1)
theorem AllOwe3.at {V : List (Option Value)} {Fs Ns : List (Nat × (Act → World → Prop))} {Rel : Nat → Act → Act → World → World → Prop} : ∀ (l : List Oper) (k : Nat), AllOwe3 P ops Q C a0 V Fs Ns Rel l k → ∀ (j : Nat) (o : Oper), l[j]? = some o → Owes3 P ops Q C a0 V Fs Ns Rel (k + j) o
  | [], _, _, j, o, ho => by simp at ho
  | x :: l, k, h, 0, o, ho => by
    simp only [List.getElem?_cons_zero, Option.some.injEq] at ho
    subst ho
    exact h.1
  | x :: l, k, h, j + 1, o, ho => by
    simp only [List.getElem?_cons_succ] at ho
    have := AllOwe3.at l (k + 1) h.2 j o ho
    rwa [show k + 1 + j = k + (j + 1) by omega] at this
theorem wpAny_lo3 {w : World} {l : List Oper} (V : List (Option Value)) (Fs : List (Nat × (Act → World → Prop))) (Ns : List (Nat × (Act → World → Prop))) (Rel : Nat → Act → Act → World → World → Prop)
    (hB : looseB3 l.toArray a0.tmps.size (Fs.map (·.1)) = true) (hCw : C w.drew) (hC : ∀ i a a' w w', C w → Rel i a a' w w' → C w')
    (hst : ∀ p ∈ Fs, ∀ (i : Nat) (a a' : Act) (w w' : World), i ≠ p.1 → Region.waitsFor .any l.toArray p.1 i = false → (∀ t, (Oper.slots l.toArray p.1).contains t = true → a'.tmps[t]? = a.tmps[t]?) → (∃ o v, l.toArray[i]? = some o ∧ a' = a.put o.dst v) → Rel i a a' w w' → p.2 a w → p.2 a' w')
    (hN0 : ∀ p ∈ Ns, p.2 a0 w.drew)
    (hNst : ∀ p ∈ Ns, ∀ (i : Nat) (a a' : Act) (w w' : World), i ≠ p.1 → waitsT .any l.toArray l.length i p.1 = false → Rel i a a' w w' → p.2 a w → (∃ o v, l.toArray[i]? = some o ∧ a' = a.put o.dst v) → p.2 a' w')
    (hop : AllOwe3 P l.toArray Q C a0 V Fs Ns Rel l 0)
    (hfin : ∀ a w, C w → Same l.toArray a0 a → (∀ i, i < l.length → Kn l.toArray V Fs i a w) → Q .normal a w) : wpAny P .any l.toArray Q l.toArray.size (Array.replicate l.toArray.size false) a0 w.drew := by
  have hspec := looseB3_spec hB
  refine (wpAny_pre3 (C := C) (a0 := a0) (Kn l.toArray V Fs) (fun i a w => ∀ p ∈ Ns, p.1 = i → p.2 a w) Rel (fun i o ho => (hspec i o ho).1) hC ?_ ?_ ?_ ?_ _ (List.range l.toArray.size) _ _ _ (by simp) (by simp) ?_ hCw (Same.refl _ _) ?_ ?_ ?_)
  · intro i j o hij ho hwf a v w w' hk hrel
    refine ⟨fun oj u d hoj hu hd => ?_, fun p hp hpj => ?_⟩
    · have h1 := hk.1 oj u d hoj hu hd
      unfold Act.put
      split
      · rename_i di hdi
        have hne : di ≠ d := fun e => ((hspec i o ho).2 di hdi).2 j oj hij hoj |>.1 (by rw [hd, e])
        show (a.tmps.setIfInBounds di v)[d]? = _
        rw [Array.getElem?_setIfInBounds_ne hne]
        exact h1
      · exact h1
    · refine hst p hp i a _ w w' (by rw [hpj]; exact hij) (by rw [hpj]; exact hwf) (fun t ht => ?_) ⟨o, v, ho, rfl⟩ hrel (hk.2 p hp hpj)
      rw [hpj, List.contains_iff_mem] at ht
      unfold Act.put
      split
      · rename_i di hdi
        show (a.tmps.setIfInBounds di v)[t]? = _
        have hne : di ≠ t := by
          intro e
          subst e
          unfold Oper.slots at ht
          split at ht
          · cases ht
          · rename_i oj hoj
            have h2 := ((hspec i o ho).2 di hdi).2 j oj hij hoj
            rcases List.mem_append.1 ht with h3 | h3
            · rw [Option.mem_toList] at h3
              exact h2.1 h3
            · rw [h2.2 (List.mem_map.2 ⟨p, hp, hpj⟩) h3] at hwf
              cases hwf
        rw [Array.getElem?_setIfInBounds_ne hne]
      · rfl
  · intro i k o hik ho hwt a v w w' hN hrel p hp hpi
    refine hNst p hp k a _ w w' (by rw [hpi]; exact Ne.symm hik) (by rw [hpi]; simpa using hwt) hrel (hN p hp hpi) ⟨o, v, ho, rfl⟩
  · intro i o ho a w hw hs hk hN
    have h := AllOwe3.at l 0 hop i o (by simpa using ho)
    rw [Nat.zero_add] at h
    unfold wpOp
    simp only [ho]
    have hput : ∀ (v : Value) (w' : World), Rel i a (a.put o.dst v) w w' → (∀ v0, V[i]? = some (some v0) → v = v0) → (∀ p ∈ Fs, p.1 = i → p.2 (a.put o.dst v) w') → ∃ u, a.put o.dst v = a.put o.dst u ∧ Rel i a (a.put o.dst u) w w' ∧ Kn l.toArray V Fs i (a.put o.dst u) w' := by
      intro v w' hr hv hf
      refine ⟨v, rfl, hr, fun oj u d hoj hu hd => ?_, hf⟩
      have : oj = o := Option.some.inj (hoj.symm.trans ho)
      subst this
      have hvu := hv u hu
      subst hvu
      have hlt := ((hspec i oj ho).2 d hd).1
      unfold Act.put
      rw [hd]
      show (a.tmps.setIfInBounds d v)[d]? = _
      rw [Array.getElem?_setIfInBounds_self_of_lt (by rw [hs.2.1]; exact hlt)]
    have h' := h a w (fun a' w' => ∃ u, a' = a.put o.dst u ∧ Rel i a (a.put o.dst u) w w' ∧ Kn l.toArray V Fs i (a.put o.dst u) w') hw hs hk hN hput
    split
    · rename_i hwt
      rw [if_pos hwt] at h'
      exact .inl h'
    · rename_i hwt
      rw [if_neg hwt] at h'
      exact h'
  · intro a w hw hs hk
    exact hfin a w hw hs (fun i hi => hk i (by simpa using hi))
  · intro i hi _
    simpa using hi
  · intro j oj _ hl
    rw [getD_replicate_false] at hl
    cases hl
  · intro i _ hl
    rw [getD_replicate_false] at hl
    cases hl
  · intro i _ _ p hp _
    exact hN0 p hp
theorem wp_region_lo3 {id : Nat} {w : World} {l : List Oper} (V : List (Option Value)) (Fs : List (Nat × (Act → World → Prop))) (Ns : List (Nat × (Act → World → Prop))) (Rel : Nat → Act → Act → World → World → Prop)
    (hm : P.follows .mixedOrders = true) (hB : looseB3 l.toArray a0.tmps.size (Fs.map (·.1)) = true) (hCw : C w.drew) (hC : ∀ i a a' w w', C w → Rel i a a' w w' → C w')
    (hst : ∀ p ∈ Fs, ∀ (i : Nat) (a a' : Act) (w w' : World), i ≠ p.1 → Region.waitsFor .any l.toArray p.1 i = false → (∀ t, (Oper.slots l.toArray p.1).contains t = true → a'.tmps[t]? = a.tmps[t]?) → (∃ o v, l.toArray[i]? = some o ∧ a' = a.put o.dst v) → Rel i a a' w w' → p.2 a w → p.2 a' w')
    (hN0 : ∀ p ∈ Ns, p.2 a0 w.drew)
    (hNst : ∀ p ∈ Ns, ∀ (i : Nat) (a a' : Act) (w w' : World), i ≠ p.1 → waitsT .any l.toArray l.length i p.1 = false → Rel i a a' w w' → p.2 a w → (∃ o v, l.toArray[i]? = some o ∧ a' = a.put o.dst v) → p.2 a' w')
    (hop : AllOwe3 P l.toArray Q C a0 V Fs Ns Rel l 0)
    (hfin : ∀ a w, C w → Same l.toArray a0 a → (∀ i, i < l.length → Kn l.toArray V Fs i a w) → Q .normal a w) : (Code.region id l.toArray true).wp P Q a0 w :=
  wp_region_any hm (wpAny_lo3 V Fs Ns Rel hB hCw hC hst hN0 hNst hop hfin)

end
section
variable {ops : Array Oper} {n : Nat} {Rel : Nat → Act → Act → World → World → Prop}
theorem prek_nil3 : ∀ p ∈ ([] : List (Nat × (Act → World → Prop))), ∀ (i : Nat) (a a' : Act) (w w' : World), i ≠ p.1 → waitsT .any ops n i p.1 = false → Rel i a a' w w' → p.2 a w → (∃ o v, ops[i]? = some o ∧ a' = a.put o.dst v) → p.2 a' w' := fun p hp => by cases hp
theorem prek_cons3 {j : Nat} {F : Act → World → Prop} {Ns : List (Nat × (Act → World → Prop))} (h1 : ∀ (i : Nat) (a a' : Act) (w w' : World), i ≠ j → waitsT .any ops n i j = false → Rel i a a' w w' → F a w → (∃ o v, ops[i]? = some o ∧ a' = a.put o.dst v) → F a' w')
    (h2 : ∀ p ∈ Ns, ∀ (i : Nat) (a a' : Act) (w w' : World), i ≠ p.1 → waitsT .any ops n i p.1 = false → Rel i a a' w w' → p.2 a w → (∃ o v, ops[i]? = some o ∧ a' = a.put o.dst v) → p.2 a' w') :
    ∀ p ∈ (j, F) :: Ns, ∀ (i : Nat) (a a' : Act) (w w' : World), i ≠ p.1 → waitsT .any ops n i p.1 = false → Rel i a a' w w' → p.2 a w → (∃ o v, ops[i]? = some o ∧ a' = a.put o.dst v) → p.2 a' w' := fun p hp => by
  rcases List.mem_cons.1 hp with rfl | hp
  · exact h1
  · exact h2 p hp
end
section
variable {ops : Array Oper} {Rel : Nat → Act → Act → World → World → Prop}
theorem keeps3_nil : ∀ p ∈ ([] : List (Nat × (Act → World → Prop))), ∀ (i : Nat) (a a' : Act) (w w' : World), i ≠ p.1 → Region.waitsFor .any ops p.1 i = false → (∀ t, (Oper.slots ops p.1).contains t = true → a'.tmps[t]? = a.tmps[t]?) → (∃ o v, ops[i]? = some o ∧ a' = a.put o.dst v) → Rel i a a' w w' → p.2 a w → p.2 a' w' := fun p hp => by cases hp
theorem keeps3_cons {j : Nat} {F : Act → World → Prop} {Fs : List (Nat × (Act → World → Prop))} (h1 : ∀ (i : Nat) (a a' : Act) (w w' : World), i ≠ j → Region.waitsFor .any ops j i = false → (∀ t, (Oper.slots ops j).contains t = true → a'.tmps[t]? = a.tmps[t]?) → (∃ o v, ops[i]? = some o ∧ a' = a.put o.dst v) → Rel i a a' w w' → F a w → F a' w')
    (h2 : ∀ p ∈ Fs, ∀ (i : Nat) (a a' : Act) (w w' : World), i ≠ p.1 → Region.waitsFor .any ops p.1 i = false → (∀ t, (Oper.slots ops p.1).contains t = true → a'.tmps[t]? = a.tmps[t]?) → (∃ o v, ops[i]? = some o ∧ a' = a.put o.dst v) → Rel i a a' w w' → p.2 a w → p.2 a' w') : ∀ p ∈ (j, F) :: Fs, ∀ (i : Nat) (a a' : Act) (w w' : World), i ≠ p.1 → Region.waitsFor .any ops p.1 i = false → (∀ t, (Oper.slots ops p.1).contains t = true → a'.tmps[t]? = a.tmps[t]?) → (∃ o v, ops[i]? = some o ∧ a' = a.put o.dst v) → Rel i a a' w w' → p.2 a w → p.2 a' w' := fun p hp => by
  rcases List.mem_cons.1 hp with rfl | hp
  · exact h1
  · exact h2 p hp
/-- a slot that only operation k writes -/
theorem other_slot {d k i : Nat} (hd : ((List.range ops.size).all fun j => j == k || decide ((ops[j]?.bind (·.dst)) ≠ some d)) = true) {a a' : Act} (h : ∃ o v, ops[i]? = some o ∧ a' = a.put o.dst v) (hi : i ≠ k) : a'.tmps[d]? = a.tmps[d]? := by
  obtain ⟨o, v, ho, rfl⟩ := h
  have hlt : i < ops.size := (Array.getElem?_eq_some_iff.1 ho).1
  have h1 := List.all_eq_true.1 hd i (by simpa using hlt)
  simp only [Bool.or_eq_true, beq_iff_eq, decide_eq_true_eq, ho, Option.bind_some] at h1
  have h2 : o.dst ≠ some d := h1.resolve_left hi
  unfold Act.put
  split
  · rename_i di hdi
    have hne : di ≠ d := fun e => h2 (by rw [hdi, e])
    show (a.tmps.setIfInBounds di v)[d]? = _
    rw [Array.getElem?_setIfInBounds_ne hne]
  · rfl
end
end Go.Proofs.YtfhanbiifjiklaaGreatDoor

/- Walks of the reference of layer 2: the texts that are digested for a root. -/
set_option linter.unusedVariables false
set_option linter.unusedSimpArgs false
namespace Go.Proofs.YtfhanbiifjiklaaGreatDoor
open Go.RowKit Go.Shelf
attribute [local go_sem] Oper.semAt_some

theorem own_less {w : World} {B B' : Nat} {e : TypeId} {s n : Nat} {v : Value} {xs : List Value} (h : w.ownsRow B e s v n xs) (hB : B' ≤ B) : w.ownsRow B' e s v n xs := by
  obtain ⟨h0, h⟩ := h
  refine ⟨h0, h.imp id ?_⟩
  rintro ⟨g, cap, cur, h1, h2, h3⟩
  exact ⟨g, cap, cur, h1, Nat.le_trans hB h2, h3⟩
theorem wp_append_texts {o : Oper} {a : Act} {w : World} {K : Act → World → Prop} {Q : Exit → Act → World → Prop} (s x : Operand) (hop : o.op = Op.call { callee := Callee.builtin Builtin.append, args := #[s, x], argTypes := #[22, 22] })
    (B : Nat) (v : Value) (L : List (List UInt8)) (hs : a.eval s = v) (hown : OwnT w B v L) (xv : Value) (q : List (List UInt8)) (hx : a.eval x = xv) (hq : TextsAt w xv q) (hn : L.length + q.length ≤ 1000000000) (hB : B ≤ w.heap.size)
    (h : ∀ v' w', OwnT w' B v' (L ++ q) → w.grownBy w' v.ownBlock → v' ≠ undef → K (a.put o.dst v') w') : o.wp Tryz.prog a w K Q := by
  obtain ⟨i0, hi0, hz0, hz1, hz2⟩ := info_parts (show (Tryz.prog.info? 9).map (fun i => (i.zero, i.size, i.bytes)) = some (some (.string ⟨#[]⟩), 1, 16) by kernel_rfl)
  obtain ⟨A, c, rfl, hc⟩ := hq.slice
  cases q with
  | nil =>
    obtain ⟨Av, cv, rfl⟩ := own_sl4 hown
    have hle : L.length ≤ cv := by
      rcases hown.2 with ⟨h1, h2⟩ | ⟨g, cap, cur, h1, h3, h4, h5, _⟩
      · injection h1 with _ e2 e3; omega
      · injection h1 with _ _ e3; omega
    have hsrc : Src Tryz.prog i0.size 22 (.slice A ([] : List (List UInt8)).length c) 0 [] w := by
      cases A with
      | none => exact Src.ofNil w Tryz.underlying22 c
      | some ad => exact Src.ofSlice w Tryz.underlying22 ad 0 c [] (by simp) (fun j u h => by simp at h) (fun u h => by cases h)
    have hrun := run_append_nothing (P := Tryz.prog) w 22 22 o.type 9 i0 Tryz.underlying22 hi0 Av L.length cv hle _ hsrc
    unfold Oper.wp
    simp only [List.length_nil] at hrun hx
    simp [execOp, hop, resolve, invoke, builtin, hs, hx, hrun, Result.andThen]
    refine h _ w ?_ (World.grownBy.refl _ _) (by intro e; cases e)
    rw [List.append_nil]; exact hown
  | cons y q =>
    obtain ⟨ad, rfl, _, _⟩ := hq.at_ (k := 0) (x := y) rfl
    refine wp_append_keep w s x 22 hop B 9 i0 _ 1 16 Tryz.underlying22 hi0 hz0 hz1 hz2 rfl (by decide) v L.length _ hs hown ad (y :: q).length c ((y :: q).map fun l => Value.string (bs l)) hx (by simp) (fun j u hj => by
        rw [List.getElem?_map] at hj
        obtain ⟨z, hz, rfl⟩ := Option.map_eq_some_iff.1 hj
        obtain ⟨ad', e, _, hc⟩ := hq.at_ hz
        cases e
        exact hc) (by intro u hu; obtain ⟨z, _, rfl⟩ := List.mem_map.1 hu; rfl) (by unfold maxLen; omega) (by omega) hB ?_
    intro v' w' h2 h3 h4 h5
    refine h v' w' ?_ h3 (fun e => ?_)
    · unfold OwnT
      rw [List.length_append]
      have : flatS (L ++ y :: q) = flatS L ++ (y :: q).map fun l => Value.string (bs l) := by simp [flatS, encStr]
      rw [this]; exact h2
    · obtain ⟨_, _, e2⟩ := own_sl4 h2
      rw [e2] at e; cases e
theorem own_blk_lt {w : World} {B : Nat} {v : Value} {ls : List (List UInt8)} (h : OwnT w B v ls) : ∀ g, v.ownBlock = some g → B ≤ g ∧ g < w.heap.size := World.ownsRow.lt h
theorem own_one {w : World} {B : Nat} (x : List UInt8) (hB : B ≤ w.heap.size) : OwnT (w.alloc (.cells #[.string (bs x)] 9)) B (.slice (some ⟨w.heap.size, 0, none⟩) 1 1) [x] :=
  ⟨rfl, .inr ⟨w.heap.size, 1, #[.string (bs x)], rfl, hB, Blk.new _ _ _, Nat.le_refl _, by decide, rfl, rfl⟩⟩
theorem texts_len : ∀ (f : Nat) (l : List (List UInt8)), l.length ≤ f → 1 ≤ l.length → (textsV l).length + 1 = l.length
  | 0, l, h, h0 => by omega
  | f + 1, l, h, h0 => by
    rcases Nat.lt_or_ge 1 l.length with h1 | h1
    · obtain ⟨a, b⟩ := half_lt (n := l.length) h1
      rw [texts_two h1]
      generalize halfN l.length = k at *
      have t1 := texts_len f (l.take k) (by rw [List.length_take]; omega) (by rw [List.length_take]; omega)
      have t2 := texts_len f (l.drop k) (by rw [List.length_drop]; omega) (by rw [List.length_drop]; omega)
      rw [List.length_take] at t1
      rw [List.length_drop] at t2
      simp only [List.length_append, List.length_cons, List.length_nil]
      omega
    · match l, h1, h0 with
      | [x], _, _ => rw [show textsV [x] = [] from textsF_one rfl]; rfl
theorem texts_le (l : List (List UInt8)) : (textsV l).length ≤ l.length + 1 := by
  rcases Nat.eq_zero_or_pos l.length with h | h
  · rw [List.eq_nil_of_length_eq_zero h]; decide
  · have := texts_len l.length l (Nat.le_refl _) h; omega
def TxOk (f : Nat) : Prop := ∀ (ls : List (List UInt8)) (v : Value) (w : World), TextsAt w v ls → ls.length ≤ f → ls.length ≤ 100000 → (∀ x ∈ ls, x.length ≤ 1000000) → Calls Tryz.prog 72 #[v] w (LvR (textsV ls) w)
theorem TextsAt.to4 {w w' : World} {v : Value} {ls : List (List UInt8)} (h : TextsAt w v ls) (hb : Below w.heap.size w w') : TextsAt w' v ls := h.to hb
theorem put_far {a : Act} {d t : Tmp} {v : Value} (h : d ≠ t) : (a.put (some d) v).tmps[t]? = a.tmps[t]? := by
  show (a.tmps.setIfInBounds d v)[t]? = _
  rw [Array.getElem?_setIfInBounds_ne h]
theorem total_small {ls : List (List UInt8)} (hx : ∀ x ∈ ls, x.length ≤ 1000000) : (totalT ls).length ≤ 1000000000 := total_le (fun x h => Nat.le_trans (hx x h) (by decide))
theorem join_node {a b : List UInt8} (ha : a.length ≤ 1000000000) (hb : b.length ≤ 1000000000) (w : World) (v : Value) (hv : TextsAt w v [nodeT, a, b]) : Calls Tryz.prog 73 #[v] w fun e w' => e = .returned (.string (bs (joinD [nodeT, a, b]))) ∧ Below w.heap.size w w' :=
  rJoined_any [nodeT, a, b] (by simp) (by rw [lenS3]; simp [nodeT]; omega) (join3 (by decide) (by omega) (by omega)) v w hv
theorem rroot_at (ls : List (List UInt8)) (v : Value) (w : World) (hv : TextsAt w v ls) (hn : ls.length ≤ 140737488355328) (hx : ∀ x ∈ ls, x.length ≤ 1000000000) : Calls Tryz.prog 89 #[v] w fun e w' => e = .returned (.string (bs (totalT ls))) ∧ Below w.heap.size w w' := rroot_any ls.length ls v w hv (Nat.le_refl _) hn hx
theorem join_nodeB {a b : List UInt8} (ha : a.length ≤ 1000000000) (hb : b.length ≤ 1000000000) (w : World) (g : Nat) (hv : Blk w g 9 #[.string ⟨#[110, 111, 100, 101]⟩, .string (bs a), .string (bs b)]) : Calls Tryz.prog 73 #[.slice (some ⟨g, 0, none⟩) 3 3] w fun e w' => e = .returned (.string (bs (joinD [nodeT, a, b]))) ∧ Below w.heap.size w w' :=
  join_node ha hb w _ (TextsAt.of_blk (ls := [nodeT, a, b]) (show Blk w g 9 (strC [nodeT, a, b]) from hv) rfl)
set_option maxRecDepth 100000 in
set_option maxHeartbeats 1000000 in
theorem texts_nil (v : Value) (w : World) (hv : TextsAt w v []) : Calls Tryz.prog 72 #[v] w (LvR (textsV []) w) := by
  obtain ⟨A, c, rfl, hc⟩ := hv.slice
  have HE : ∀ (w' : World) (v' : Value), TextsAt w' v' [emptyT] → Calls Tryz.prog 73 #[v'] w' fun e w'' => e = .returned (.string (bs (joinD [emptyT]))) ∧ Below w'.heap.size w' w'' := fun w' v' h => rJoined_any [emptyT] (by simp) (by decide) (by decide +kernel) v' w' h
  have HV : Hid (textsV [] = [joinD [emptyT]]) := rfl
  have hr := HE (w.alloc (.cells #[.string (bs emptyT)] 9)) (.slice (some ⟨w.heap.size, 0, none⟩) 1 1) (TextsAt.of_blk (ls := [emptyT]) (Blk.new _ _ _) rfl)
  clear HE hv
  generalize joinD [emptyT] = X at *
  go_enter Tryz.func72, Tryz.ntmps72
  go_wp2_with fail
  refine hr.mono ?_
  rintro e w2 ⟨rfl, hb⟩
  have HB := hide (below_to (below_one w _) (Nat.le_refl _) hb)
  clear hb hr
  go_wp2_with fail
  go_ret
  refine ⟨_, rfl, ?_, below_to HB.out (Nat.le_refl _) (below_one _ _)⟩
  rw [HV.out]
  exact own_one X (by have := HB.out.size; omega)
set_option maxRecDepth 100000 in
set_option maxHeartbeats 4000000 in
theorem texts_step (f : Nat) (ih : TxOk f) : TxOk (f + 1) := by
  intro ls v w hv hf hn hx
  obtain ⟨A, c, rfl, hc⟩ := hv.slice
  by_cases hl0 : ls.length = 0
  · obtain rfl : ls = [] := List.eq_nil_of_length_eq_zero hl0
    exact texts_nil _ w hv
  by_cases hl1 : ls.length = 1
  · obtain ⟨x, rfl⟩ : ∃ x, ls = [x] := by
      match ls, hl1 with
      | [x], _ => exact ⟨x, rfl⟩
    have HV : Hid (textsV [x] = []) := textsF_one rfl
    clear hv hx ih
    go_enter Tryz.func72, Tryz.ntmps72
    go_wp2_with fail
    go_ret
    refine ⟨_, rfl, ?_, Below.refl _ _⟩
    rw [HV.out]
    exact World.ownsRow_nil _ _ _ _
  · have hh := half_lt (n := ls.length) (by omega)
    have HV := hide (texts_two (l := ls) (by omega))
    have CH := fun w => rHalf_any ls.length (by omega) w
    obtain ⟨x0, hx0⟩ : ∃ x, ls[0]? = some x := ⟨_, List.getElem?_eq_getElem (by omega)⟩
    obtain ⟨a, rfl, ha, _⟩ := hv.at_ hx0
    clear hx0
    have e0 : ((ls.length : Int) == 0) = false := by rw [beq_eq_false_iff_ne]; omega
    have e1 : ((ls.length : Int) == 1) = false := by rw [beq_eq_false_iff_ne]; omega
    generalize hk : halfN ls.length = k at *
    have HS := hide hv
    have HX := hide hx
    have HJ := hide (join_nodeB (a := totalT (ls.take k)) (b := totalT (ls.drop k)) (total_small (fun x h => hx x (List.mem_of_mem_take h))) (total_small (fun x h => hx x (List.mem_of_mem_drop h))))
    have k1 : (k : Int) ≤ (c : Int) := by omega
    have k0 : (0 : Int) ≤ (k : Int) := by omega
    have k2 : (k : Int) ≤ (ls.length : Int) := by omega
    have k3 : ((k : Int) == (c : Int)) = false := by rw [beq_eq_false_iff_ne]; omega
    have k4 : k ≠ c := by omega
    have k5 : ¬ c = k := by omega
    clear hx hv
    go_enter Tryz.func72, Tryz.ntmps72
    go_wp2_with ((with_reducible refine (CH _).mono ?_); rintro e w' ⟨rfl, rfl⟩)
    rename World => w1
    apply wp_region_lo3 (C := fun W => Below w1.heap.size w1 W) (V := [some _, some _, some _, some _, some _, some _, some _, some _, none, some _, some _]) (Fs := [(8, fun a W => ∃ b, a.tmps[25]? = some (.slice (some ⟨b, 0, none⟩) 3 3) ∧ Blk W b 9 #[.string ⟨#[110, 111, 100, 101]⟩, .string (bs (totalT (ls.take k))), .string (bs (totalT (ls.drop k)))])]) (Ns := []) (Rel := fun i b b' x x' => Below x.heap.size x x')
    case hm => kernel_rfl
    case hB => kernel_rfl
    case hCw => exact (Below.refl _ w1).drew
    case hC =>
      intro i a a' w_ w' hw hr
      have hr' : Below w_.heap.size w_ w' := hr
      exact below_to hw (Nat.le_refl _) hr'
    case hst =>
      refine keeps3_cons (fun i a a' w_ w' hne hwt hs hput hr h => by
        have hr' : Below w_.heap.size w_ w' := hr
        obtain ⟨b, h1, h2⟩ := h
        exact ⟨b, (hs 25 (by kernel_rfl)).trans h1, h2.to hr'⟩) ?_
      exact keeps3_nil
    case hN0 => exact pre0_nil
    case hNst =>
      exact prek_nil3
    case hop =>
      refine ⟨?_, ?_, ?_, ?_, ?_, ?_, ?_, ?_, ?_, ?_, ?_, trivial⟩
      · intro a w_ K hw hS hd hN hK
        have s0 := hS.at 0 (by kernel_rfl) rfl
        rw [if_pos (want_free rfl)]
        go_simp
        exact hK _ _ (Below.refl _ _) (vok rfl) (facts_cons (fun h => absurd h (by decide)) facts_nil)
      · intro a w_ K hw hS hd hN hK
        have s4 := hS.at 4 (by kernel_rfl) rfl
        rw [if_pos (want_free rfl)]
        go_simp
        exact hK _ _ (Below.refl _ _) (vok rfl) (facts_cons (fun h => absurd h (by decide)) facts_nil)
      · intro a w_ K hw hS hd hN hK
        have s17 := (waits_on hd 0 (by kernel_rfl)).at (d := 17) rfl rfl rfl
        have s18 := (waits_on hd 1 (by kernel_rfl)).at (d := 18) rfl rfl rfl
        rw [if_pos (want_free rfl)]
        go_simp
        exact hK _ _ (Below.refl _ _) (vok rfl) (facts_cons (fun h => absurd h (by decide)) facts_nil)
      · intro a w_ K hw hS hd hN hK
        have s19 := (waits_on hd 2 (by kernel_rfl)).at (d := 19) rfl rfl rfl
        rw [if_pos (want_free rfl)]
        go_simp
        with_reducible refine (rroot_at (ls.take k) _ w_ ((HS.out.take (k := k) (by omega) c (by omega)).to4 hw) (by rw [List.length_take]; omega) (fun x h => Nat.le_trans (HX.out x (List.mem_of_mem_take h)) (by decide))).mono ?_
        rintro e w' ⟨rfl, hb⟩
        exact hK _ _ hb (vok rfl) (facts_cons (fun h => absurd h (by decide)) facts_nil)
      · intro a w_ K hw hS hd hN hK
        have s0 := hS.at 0 (by kernel_rfl) rfl
        rw [if_pos (want_free rfl)]
        go_simp
        exact hK _ _ (Below.refl _ _) (vok rfl) (facts_cons (fun h => absurd h (by decide)) facts_nil)
      · intro a w_ K hw hS hd hN hK
        have s4 := hS.at 4 (by kernel_rfl) rfl
        rw [if_pos (want_free rfl)]
        go_simp
        exact hK _ _ (Below.refl _ _) (vok rfl) (facts_cons (fun h => absurd h (by decide)) facts_nil)
      · intro a w_ K hw hS hd hN hK
        have s21 := (waits_on hd 4 (by kernel_rfl)).at (d := 21) rfl rfl rfl
        have s22 := (waits_on hd 5 (by kernel_rfl)).at (d := 22) rfl rfl rfl
        rw [if_pos (want_free rfl)]
        go_simp
        exact hK _ _ (Below.refl _ _) (vok rfl) (facts_cons (fun h => absurd h (by decide)) facts_nil)
      · intro a w_ K hw hS hd hN hK
        have s23 := (waits_on hd 6 (by kernel_rfl)).at (d := 23) rfl rfl rfl
        rw [if_pos (want_free rfl)]
        go_simp
        with_reducible refine (rroot_at (ls.drop k) _ w_ ((HS.out.drop (k := k) (by omega) (c - k) (by omega)).to4 hw) (by rw [List.length_drop]; omega) (fun x h => Nat.le_trans (HX.out x (List.mem_of_mem_drop h)) (by decide))).mono ?_
        rintro e w' ⟨rfl, hb⟩
        exact hK _ _ hb (vok rfl) (facts_cons (fun h => absurd h (by decide)) facts_nil)
      · intro a w_ K hw hS hd hN hK
        have s20 := (waits_on hd 3 (by kernel_rfl)).at (d := 20) rfl rfl rfl
        have s24 := (waits_on hd 7 (by kernel_rfl)).at (d := 24) rfl rfl rfl
        rw [if_pos (want_free rfl)]
        go_simp
        exact hK _ _ (below_one _ _) (vfree rfl) (facts_cons (fun _ => ⟨_, hS.put_at (by kernel_rfl) _, Blk.new _ _ _⟩) facts_nil)
      · intro a w_ K hw hS hd hN hK
        obtain ⟨b25, s25, r25⟩ := (waits_on hd 8 (by kernel_rfl)).2 _ (List.mem_cons_self ..) rfl
        rw [if_pos (want_free rfl)]
        go_simp
        with_reducible refine (HJ.out w_ _ r25).mono ?_
        rintro e w' ⟨rfl, hb⟩
        exact hK _ _ hb (vok rfl) (facts_cons (fun h => absurd h (by decide)) facts_nil)
      · intro a w_ K hw hS hd hN hK
        have s26 := (waits_on hd 9 (by kernel_rfl)).at (d := 26) rfl rfl rfl
        rw [if_pos (want_free rfl)]
        go_simp
        exact hK _ _ (Below.refl _ _) (vok rfl) (facts_cons (fun h => absurd h (by decide)) facts_nil)
    case hfin =>
      intro a w4 hw hS hk
      have s17 := (hk 0 (by decide)).at (d := 17) rfl rfl rfl
      have s18 := (hk 1 (by decide)).at (d := 18) rfl rfl rfl
      have s19 := (hk 2 (by decide)).at (d := 19) rfl rfl rfl
      have s20 := (hk 3 (by decide)).at (d := 20) rfl rfl rfl
      have s21 := (hk 4 (by decide)).at (d := 21) rfl rfl rfl
      have s22 := (hk 5 (by decide)).at (d := 22) rfl rfl rfl
      have s23 := (hk 6 (by decide)).at (d := 23) rfl rfl rfl
      have s24 := (hk 7 (by decide)).at (d := 24) rfl rfl rfl
      obtain ⟨b25, s25, r25⟩ := (hk 8 (by decide)).2 _ (List.mem_cons_self ..) rfl
      have s26 := (hk 9 (by decide)).at (d := 26) rfl rfl rfl
      have s5 := (hk 10 (by decide)).at (d := 5) rfl rfl rfl
      have hlit := hS.lit _ (by kernel_rfl) (lits_cons s17 (lits_cons s18 (lits_cons s19 (lits_cons s20 (lits_cons s21 (lits_cons s22 (lits_cons s23 (lits_cons s24 (lits_cons s25 (lits_cons s26 (lits_cons s5 lits_nil)))))))))))
      rw [hlit]
      clear hlit hk hS s17 s18 s19 s20 s21 s22 s23 s24 s25 r25 s26 s5
      have HS4 := hide (HS.out.to hw)
      have HB := hide hw
      clear hw HJ
      simp only [litT, List.setIfInBounds_toArray, List.set_cons_succ, List.set_cons_zero]
      go_wp2_with fail
      clear HS
      rename_i w4x
      have HS := HS4
      clear HS4
      apply wp_region_lo3 (C := fun W => Below w4.heap.size w4 W) (V := [some _, some _, some _, none, some _, some _, some _, none, none, some _, none, none, none]) (Fs := [(3, fun a W => ∃ v, a.tmps[30]? = some v ∧ (a.tmps[35]? = some undef → OwnT W w4.heap.size v (textsV (ls.take k)))), (7, fun a W => ∃ v, a.tmps[34]? = some v ∧ (a.tmps[35]? = some undef → TextsAt W v (textsV (ls.drop k)))), (8, fun a W => ∃ v, a.tmps[35]? = some v ∧ v ≠ undef ∧ (a.tmps[38]? = some undef → OwnT W w4.heap.size v ((textsV (ls.take k)) ++ (textsV (ls.drop k))))), (10, fun a W => ∃ b, a.tmps[37]? = some (.slice (some ⟨b, 0, none⟩) 1 1) ∧ b < W.heap.size ∧ (a.tmps[38]? = some undef → Blk W b 9 #[.string (bs (joinD [nodeT, totalT (ls.take k), totalT (ls.drop k)]))]) ∧ ∀ v, a.tmps[30]? = some v → v.ownBlock ≠ some b), (11, fun a W => ∃ v, a.tmps[38]? = some v ∧ ¬ a.tmps[35]? = some undef ∧ OwnT W w4.heap.size v ((textsV (ls.take k)) ++ (textsV (ls.drop k)) ++ [(joinD [nodeT, totalT (ls.take k), totalT (ls.drop k)])])), (12, fun a W => ∃ v, a.tmps[38]? = some v ∧ a.tmps[2]? = some v ∧ ¬ a.tmps[35]? = some undef ∧ OwnT W w4.heap.size v ((textsV (ls.take k)) ++ (textsV (ls.drop k)) ++ [(joinD [nodeT, totalT (ls.take k), totalT (ls.drop k)])]))]) (Ns := [(8, fun a (_ : World) => a.tmps[35]? = some undef), (10, fun a W => ∀ v, a.tmps[30]? = some v → ∀ g, v.ownBlock = some g → g < W.heap.size), (11, fun a (_ : World) => a.tmps[38]? = some undef)]) (Rel := fun i b b' x x' => if i = 3 then (fun _ b' x x' => Below x.heap.size x x' ∧ ∀ v, b'.tmps[30]? = some v → ∀ g, v.ownBlock = some g → x.heap.size ≤ g ∧ g < x'.heap.size) b b' x x' else if i = 8 then (fun b b' x x' => b.tmps[35]? = some undef ∧ ¬ b'.tmps[35]? = some undef ∧ ∃ v, b.tmps[30]? = some v ∧ World.grownBy x x' (Value.ownBlock v) ∧ ∀ g, v.ownBlock = some g → w4.heap.size ≤ g) b b' x x' else if i = 11 then (fun b b' x x' => ¬ b.tmps[35]? = some undef ∧ ¬ b'.tmps[38]? = some undef ∧ ∃ r, World.grownBy x x' r ∧ ∀ g, r = some g → w4.heap.size ≤ g) b b' x x' else Below x.heap.size x x')
      case hm => kernel_rfl
      case hB => kernel_rfl
      case hCw => exact (Below.refl _ w4).drew
      case hC =>
        intro i a a' w_ w' hw hr
        by_cases e3 : i = 3
        · subst e3
          have hr' : (fun _ b' x x' => Below x.heap.size x x' ∧ ∀ v, b'.tmps[30]? = some v → ∀ g, v.ownBlock = some g → x.heap.size ≤ g ∧ g < x'.heap.size) a a' w_ w' := hr
          exact below_to hw (Nat.le_refl _) hr'.1
        by_cases e8 : i = 8
        · subst e8
          have hr' : (fun b b' x x' => b.tmps[35]? = some undef ∧ ¬ b'.tmps[35]? = some undef ∧ ∃ v, b.tmps[30]? = some v ∧ World.grownBy x x' (Value.ownBlock v) ∧ ∀ g, v.ownBlock = some g → w4.heap.size ≤ g) a a' w_ w' := hr
          obtain ⟨_, _, v, _, hg, hv⟩ := hr'
          exact hw.trans (below_grown hg hw.size hv)
        by_cases e11 : i = 11
        · subst e11
          have hr' : (fun b b' x x' => ¬ b.tmps[35]? = some undef ∧ ¬ b'.tmps[38]? = some undef ∧ ∃ r, World.grownBy x x' r ∧ ∀ g, r = some g → w4.heap.size ≤ g) a a' w_ w' := hr
          obtain ⟨_, _, r, hg, hv⟩ := hr'
          exact hw.trans (below_grown hg hw.size hv)
        have hr' : Below w_.heap.size w_ w' := by simpa [e3, e8, e11] using hr
        exact below_to hw (Nat.le_refl _) hr'
      case hst =>
        refine keeps3_cons (fun i a a' w_ w' hne hwt hs hput hr h => by
          by_cases e3 : i = 3
          · exact absurd e3 hne
          by_cases e8 : i = 8
          · subst e8
            have hr' : (fun b b' x x' => b.tmps[35]? = some undef ∧ ¬ b'.tmps[35]? = some undef ∧ ∃ v, b.tmps[30]? = some v ∧ World.grownBy x x' (Value.ownBlock v) ∧ ∀ g, v.ownBlock = some g → w4.heap.size ≤ g) a a' w_ w' := hr
            obtain ⟨v, h1, _⟩ := h
            exact ⟨v, (hs 30 (by kernel_rfl)).trans h1, fun e => absurd e hr'.2.1⟩
          by_cases e11 : i = 11
          · subst e11
            have hr' : (fun b b' x x' => ¬ b.tmps[35]? = some undef ∧ ¬ b'.tmps[38]? = some undef ∧ ∃ r, World.grownBy x x' r ∧ ∀ g, r = some g → w4.heap.size ≤ g) a a' w_ w' := hr
            obtain ⟨v, h1, _⟩ := h
            exact ⟨v, (hs 30 (by kernel_rfl)).trans h1, fun e => absurd ((other_slot (d := 35) (k := 8) (by kernel_rfl) hput (by decide)).symm.trans e) hr'.1⟩
          have hr' : Below w_.heap.size w_ w' := by simpa [e3, e8, e11] using hr
          obtain ⟨v, h1, h2⟩ := h
          exact ⟨v, (hs 30 (by kernel_rfl)).trans h1, fun e => own_to4 (h2 ((other_slot (d := 35) (k := 8) (by kernel_rfl) hput e8).symm.trans e)) hr'⟩) ?_
        refine keeps3_cons (fun i a a' w_ w' hne hwt hs hput hr h => by
          by_cases e3 : i = 3
          · subst e3
            have hr' : (fun _ b' x x' => Below x.heap.size x x' ∧ ∀ v, b'.tmps[30]? = some v → ∀ g, v.ownBlock = some g → x.heap.size ≤ g ∧ g < x'.heap.size) a a' w_ w' := hr
            obtain ⟨v, h1, h2⟩ := h
            exact ⟨v, (hs 34 (by kernel_rfl)).trans h1, fun e => (h2 ((other_slot (d := 35) (k := 8) (by kernel_rfl) hput (by decide)).symm.trans e)).to hr'.1⟩
          by_cases e8 : i = 8
          · subst e8
            have hr' : (fun b b' x x' => b.tmps[35]? = some undef ∧ ¬ b'.tmps[35]? = some undef ∧ ∃ v, b.tmps[30]? = some v ∧ World.grownBy x x' (Value.ownBlock v) ∧ ∀ g, v.ownBlock = some g → w4.heap.size ≤ g) a a' w_ w' := hr
            obtain ⟨v, h1, _⟩ := h
            exact ⟨v, (hs 34 (by kernel_rfl)).trans h1, fun e => absurd e hr'.2.1⟩
          by_cases e11 : i = 11
          · subst e11
            have hr' : (fun b b' x x' => ¬ b.tmps[35]? = some undef ∧ ¬ b'.tmps[38]? = some undef ∧ ∃ r, World.grownBy x x' r ∧ ∀ g, r = some g → w4.heap.size ≤ g) a a' w_ w' := hr
            obtain ⟨v, h1, _⟩ := h
            exact ⟨v, (hs 34 (by kernel_rfl)).trans h1, fun e => absurd ((other_slot (d := 35) (k := 8) (by kernel_rfl) hput (by decide)).symm.trans e) hr'.1⟩
          have hr' : Below w_.heap.size w_ w' := by simpa [e3, e8, e11] using hr
          obtain ⟨v, h1, h2⟩ := h
          exact ⟨v, (hs 34 (by kernel_rfl)).trans h1, fun e => (h2 ((other_slot (d := 35) (k := 8) (by kernel_rfl) hput e8).symm.trans e)).to hr'⟩) ?_
        refine keeps3_cons (fun i a a' w_ w' hne hwt hs hput hr h => by
          by_cases e3 : i = 3
          · subst e3
            have hr' : (fun _ b' x x' => Below x.heap.size x x' ∧ ∀ v, b'.tmps[30]? = some v → ∀ g, v.ownBlock = some g → x.heap.size ≤ g ∧ g < x'.heap.size) a a' w_ w' := hr
            obtain ⟨v, h1, h0, h2⟩ := h
            exact ⟨v, (hs 35 (by kernel_rfl)).trans h1, h0, fun e => own_to4 (h2 ((other_slot (d := 38) (k := 11) (by kernel_rfl) hput (by decide)).symm.trans e)) hr'.1⟩
          by_cases e8 : i = 8
          · exact absurd e8 hne
          by_cases e11 : i = 11
          · subst e11
            have hr' : (fun b b' x x' => ¬ b.tmps[35]? = some undef ∧ ¬ b'.tmps[38]? = some undef ∧ ∃ r, World.grownBy x x' r ∧ ∀ g, r = some g → w4.heap.size ≤ g) a a' w_ w' := hr
            obtain ⟨v, h1, h0, _⟩ := h
            exact ⟨v, (hs 35 (by kernel_rfl)).trans h1, h0, fun e => absurd e hr'.2.1⟩
          have hr' : Below w_.heap.size w_ w' := by simpa [e3, e8, e11] using hr
          obtain ⟨v, h1, h0, h2⟩ := h
          exact ⟨v, (hs 35 (by kernel_rfl)).trans h1, h0, fun e => own_to4 (h2 ((other_slot (d := 38) (k := 11) (by kernel_rfl) hput e11).symm.trans e)) hr'⟩) ?_
        refine keeps3_cons (fun i a a' w_ w' hne hwt hs hput hr h => by
          by_cases e3 : i = 3
          · subst e3
            have hr' : (fun _ b' x x' => Below x.heap.size x x' ∧ ∀ v, b'.tmps[30]? = some v → ∀ g, v.ownBlock = some g → x.heap.size ≤ g ∧ g < x'.heap.size) a a' w_ w' := hr
            obtain ⟨b, h1, h0, h2, h3⟩ := h
            exact ⟨b, (hs 37 (by kernel_rfl)).trans h1, Nat.lt_of_lt_of_le h0 hr'.1.size, fun e => (h2 ((other_slot (d := 38) (k := 11) (by kernel_rfl) hput (by decide)).symm.trans e)).to hr'.1, fun v hv e => by have q1 := (hr'.2 v hv b e).1; omega⟩
          by_cases e8 : i = 8
          · subst e8
            have hr' : (fun b b' x x' => b.tmps[35]? = some undef ∧ ¬ b'.tmps[35]? = some undef ∧ ∃ v, b.tmps[30]? = some v ∧ World.grownBy x x' (Value.ownBlock v) ∧ ∀ g, v.ownBlock = some g → w4.heap.size ≤ g) a a' w_ w' := hr
            obtain ⟨b, h1, h0, h2, h3⟩ := h
            obtain ⟨_, _, v, hv, hg, _⟩ := hr'
            exact ⟨b, (hs 37 (by kernel_rfl)).trans h1, Nat.lt_of_lt_of_le h0 hg.size, fun e => by have hB := h2 ((other_slot (d := 38) (k := 11) (by kernel_rfl) hput (by decide)).symm.trans e); exact (hg.block b hB.lt (fun e2 => h3 v hv e2.symm)).trans hB, fun v' hv' => h3 v' ((other_slot (d := 30) (k := 3) (by kernel_rfl) hput (by decide)).symm.trans hv')⟩
          by_cases e11 : i = 11
          · subst e11
            have hr' : (fun b b' x x' => ¬ b.tmps[35]? = some undef ∧ ¬ b'.tmps[38]? = some undef ∧ ∃ r, World.grownBy x x' r ∧ ∀ g, r = some g → w4.heap.size ≤ g) a a' w_ w' := hr
            obtain ⟨b, h1, h0, _, h3⟩ := h
            exact ⟨b, (hs 37 (by kernel_rfl)).trans h1, (by obtain ⟨_, _, _, hg, _⟩ := hr'; exact Nat.lt_of_lt_of_le h0 hg.size), fun e => absurd e hr'.2.1, fun v' hv' => h3 v' ((other_slot (d := 30) (k := 3) (by kernel_rfl) hput (by decide)).symm.trans hv')⟩
          have hr' : Below w_.heap.size w_ w' := by simpa [e3, e8, e11] using hr
          obtain ⟨b, h1, h0, h2, h3⟩ := h
          exact ⟨b, (hs 37 (by kernel_rfl)).trans h1, Nat.lt_of_lt_of_le h0 hr'.size, fun e => (h2 ((other_slot (d := 38) (k := 11) (by kernel_rfl) hput e11).symm.trans e)).to hr', fun v hv => h3 v ((other_slot (d := 30) (k := 3) (by kernel_rfl) hput e3).symm.trans hv)⟩) ?_
        refine keeps3_cons (fun i a a' w_ w' hne hwt hs hput hr h => by
          by_cases e3 : i = 3
          · subst e3
            have hr' : (fun _ b' x x' => Below x.heap.size x x' ∧ ∀ v, b'.tmps[30]? = some v → ∀ g, v.ownBlock = some g → x.heap.size ≤ g ∧ g < x'.heap.size) a a' w_ w' := hr
            obtain ⟨v, h1, h0, h2⟩ := h
            exact ⟨v, (hs 38 (by kernel_rfl)).trans h1, fun e => h0 ((other_slot (d := 35) (k := 8) (by kernel_rfl) hput (by decide)).symm.trans e), own_to4 h2 hr'.1⟩
          by_cases e8 : i = 8
          · subst e8
            have hr' : (fun b b' x x' => b.tmps[35]? = some undef ∧ ¬ b'.tmps[35]? = some undef ∧ ∃ v, b.tmps[30]? = some v ∧ World.grownBy x x' (Value.ownBlock v) ∧ ∀ g, v.ownBlock = some g → w4.heap.size ≤ g) a a' w_ w' := hr
            obtain ⟨v, h1, h0, h2⟩ := h
            exact absurd hr'.1 h0
          by_cases e11 : i = 11
          · exact absurd e11 hne
          have hr' : Below w_.heap.size w_ w' := by simpa [e3, e8, e11] using hr
          obtain ⟨v, h1, h0, h2⟩ := h
          exact ⟨v, (hs 38 (by kernel_rfl)).trans h1, fun e => h0 ((other_slot (d := 35) (k := 8) (by kernel_rfl) hput e8).symm.trans e), own_to4 h2 hr'⟩) ?_
        refine keeps3_cons (fun i a a' w_ w' hne hwt hs hput hr h => by
          by_cases e3 : i = 3
          · subst e3
            have hr' : (fun _ b' x x' => Below x.heap.size x x' ∧ ∀ v, b'.tmps[30]? = some v → ∀ g, v.ownBlock = some g → x.heap.size ≤ g ∧ g < x'.heap.size) a a' w_ w' := hr
            obtain ⟨v, h1, h3, h0, h2⟩ := h
            exact ⟨v, (hs 38 (by kernel_rfl)).trans h1, (hs 2 (by kernel_rfl)).trans h3, fun e => h0 ((other_slot (d := 35) (k := 8) (by kernel_rfl) hput (by decide)).symm.trans e), own_to4 h2 hr'.1⟩
          by_cases e8 : i = 8
          · subst e8
            have hr' : (fun b b' x x' => b.tmps[35]? = some undef ∧ ¬ b'.tmps[35]? = some undef ∧ ∃ v, b.tmps[30]? = some v ∧ World.grownBy x x' (Value.ownBlock v) ∧ ∀ g, v.ownBlock = some g → w4.heap.size ≤ g) a a' w_ w' := hr
            obtain ⟨v, h1, h3, h0, h2⟩ := h
            exact absurd hr'.1 h0
          by_cases e11 : i = 11
          · subst e11
            exact absurd (hwt.symm.trans (show Region.waitsFor .any _ 12 11 = true by kernel_rfl)) (by decide)
          have hr' : Below w_.heap.size w_ w' := by simpa [e3, e8, e11] using hr
          obtain ⟨v, h1, h3, h0, h2⟩ := h
          exact ⟨v, (hs 38 (by kernel_rfl)).trans h1, (hs 2 (by kernel_rfl)).trans h3, fun e => h0 ((other_slot (d := 35) (k := 8) (by kernel_rfl) hput e8).symm.trans e), own_to4 h2 hr'⟩) ?_
        exact keeps3_nil
      case hN0 => exact pre0_cons (rfl) (pre0_cons (fun v hv g hg => by obtain rfl : undef = v := Option.some.inj hv; cases hg) (pre0_cons (rfl) (pre0_nil)))
      case hNst =>
        refine prek_cons3 (fun i a a' w_ w' hne hwt hr h hput => by
          by_cases e3 : i = 3
          · subst e3
            have hr' : (fun _ b' x x' => Below x.heap.size x x' ∧ ∀ v, b'.tmps[30]? = some v → ∀ g, v.ownBlock = some g → x.heap.size ≤ g ∧ g < x'.heap.size) a a' w_ w' := hr
            exact (other_slot (d := 35) (k := 8) (by kernel_rfl) hput (by decide)).trans h
          by_cases e8 : i = 8
          · exact absurd e8 hne
          by_cases e11 : i = 11
          · subst e11
            have hr' : (fun b b' x x' => ¬ b.tmps[35]? = some undef ∧ ¬ b'.tmps[38]? = some undef ∧ ∃ r, World.grownBy x x' r ∧ ∀ g, r = some g → w4.heap.size ≤ g) a a' w_ w' := hr
            exact (other_slot (d := 35) (k := 8) (by kernel_rfl) hput (by decide)).trans h
          have hr' : Below w_.heap.size w_ w' := by simpa [e3, e8, e11] using hr
          exact (other_slot (d := 35) (k := 8) (by kernel_rfl) hput e8).trans h) ?_
        refine prek_cons3 (fun i a a' w_ w' hne hwt hr h hput => by
          by_cases e3 : i = 3
          · subst e3
            have hr' : (fun _ b' x x' => Below x.heap.size x x' ∧ ∀ v, b'.tmps[30]? = some v → ∀ g, v.ownBlock = some g → x.heap.size ≤ g ∧ g < x'.heap.size) a a' w_ w' := hr
            exact fun v hv g hg => (hr'.2 v hv g hg).2
          by_cases e8 : i = 8
          · subst e8
            have hr' : (fun b b' x x' => b.tmps[35]? = some undef ∧ ¬ b'.tmps[35]? = some undef ∧ ∃ v, b.tmps[30]? = some v ∧ World.grownBy x x' (Value.ownBlock v) ∧ ∀ g, v.ownBlock = some g → w4.heap.size ≤ g) a a' w_ w' := hr
            obtain ⟨_, _, _, _, hgr, _⟩ := hr'
            exact fun v hv g hg => Nat.lt_of_lt_of_le (h v ((other_slot (d := 30) (k := 3) (by kernel_rfl) hput (by decide)).symm.trans hv) g hg) hgr.size
          by_cases e11 : i = 11
          · subst e11
            have hr' : (fun b b' x x' => ¬ b.tmps[35]? = some undef ∧ ¬ b'.tmps[38]? = some undef ∧ ∃ r, World.grownBy x x' r ∧ ∀ g, r = some g → w4.heap.size ≤ g) a a' w_ w' := hr
            obtain ⟨_, _, _, hgr, _⟩ := hr'
            exact fun v hv g hg => Nat.lt_of_lt_of_le (h v ((other_slot (d := 30) (k := 3) (by kernel_rfl) hput (by decide)).symm.trans hv) g hg) hgr.size
          have hr' : Below w_.heap.size w_ w' := by simpa [e3, e8, e11] using hr
          exact fun v hv g hg => Nat.lt_of_lt_of_le (h v ((other_slot (d := 30) (k := 3) (by kernel_rfl) hput e3).symm.trans hv) g hg) hr'.size) ?_
        refine prek_cons3 (fun i a a' w_ w' hne hwt hr h hput => by
          by_cases e3 : i = 3
          · subst e3
            have hr' : (fun _ b' x x' => Below x.heap.size x x' ∧ ∀ v, b'.tmps[30]? = some v → ∀ g, v.ownBlock = some g → x.heap.size ≤ g ∧ g < x'.heap.size) a a' w_ w' := hr
            exact (other_slot (d := 38) (k := 11) (by kernel_rfl) hput (by decide)).trans h
          by_cases e8 : i = 8
          · subst e8
            have hr' : (fun b b' x x' => b.tmps[35]? = some undef ∧ ¬ b'.tmps[35]? = some undef ∧ ∃ v, b.tmps[30]? = some v ∧ World.grownBy x x' (Value.ownBlock v) ∧ ∀ g, v.ownBlock = some g → w4.heap.size ≤ g) a a' w_ w' := hr
            exact (other_slot (d := 38) (k := 11) (by kernel_rfl) hput (by decide)).trans h
          by_cases e11 : i = 11
          · exact absurd e11 hne
          have hr' : Below w_.heap.size w_ w' := by simpa [e3, e8, e11] using hr
          exact (other_slot (d := 38) (k := 11) (by kernel_rfl) hput e11).trans h) ?_
        exact prek_nil3
      case hop =>
        refine ⟨?_, ?_, ?_, ?_, ?_, ?_, ?_, ?_, ?_, ?_, ?_, ?_, ?_, trivial⟩
        · intro a w_ K hw hS hd hN hK
          have s0 := hS.at 0 (by kernel_rfl) rfl
          rw [if_pos (want_free rfl)]
          go_simp
          exact hK _ _ (Below.refl _ _) (vok rfl) (facts_cons (fun h => absurd h (by decide)) (facts_cons (fun h => absurd h (by decide)) (facts_cons (fun h => absurd h (by decide)) (facts_cons (fun h => absurd h (by decide)) (facts_cons (fun h => absurd h (by decide)) (facts_cons (fun h => absurd h (by decide)) facts_nil))))))
        · intro a w_ K hw hS hd hN hK
          have s4 := hS.at 4 (by kernel_rfl) rfl
          rw [if_pos (want_free rfl)]
          go_simp
          exact hK _ _ (Below.refl _ _) (vok rfl) (facts_cons (fun h => absurd h (by decide)) (facts_cons (fun h => absurd h (by decide)) (facts_cons (fun h => absurd h (by decide)) (facts_cons (fun h => absurd h (by decide)) (facts_cons (fun h => absurd h (by decide)) (facts_cons (fun h => absurd h (by decide)) facts_nil))))))
        · intro a w_ K hw hS hd hN hK
          have s27 := (waits_on hd 0 (by kernel_rfl)).at (d := 27) rfl rfl rfl
          have s28 := (waits_on hd 1 (by kernel_rfl)).at (d := 28) rfl rfl rfl
          rw [if_pos (want_free rfl)]
          go_simp
          exact hK _ _ (Below.refl _ _) (vok rfl) (facts_cons (fun h => absurd h (by decide)) (facts_cons (fun h => absurd h (by decide)) (facts_cons (fun h => absurd h (by decide)) (facts_cons (fun h => absurd h (by decide)) (facts_cons (fun h => absurd h (by decide)) (facts_cons (fun h => absurd h (by decide)) facts_nil))))))
        · intro a w_ K hw hS hd hN hK
          have s29 := (waits_on hd 2 (by kernel_rfl)).at (d := 29) rfl rfl rfl
          rw [if_pos (want_free rfl)]
          go_simp
          refine (ih (ls.take k) _ w_ ((HS.out.take (k := k) (by omega) c (by omega)).to4 hw) (by rw [List.length_take]; omega) (by rw [List.length_take]; omega) (fun x h => HX.out x (List.mem_of_mem_take h))).mono ?_
          rintro e w' ⟨v30, rfl, ho, hb⟩
          have hp30 := hS.put_at (s := 30) (by kernel_rfl) v30
          exact hK _ _ ⟨hb, fun v hv g hg => by obtain rfl : v30 = v := Option.some.inj (hp30.symm.trans hv); exact own_blk_lt ho g hg⟩ (vfree rfl) (facts_cons (fun _ => ⟨v30, hp30, fun _ => own_less ho hw.size⟩) (facts_cons (fun h => absurd h (by decide)) (facts_cons (fun h => absurd h (by decide)) (facts_cons (fun h => absurd h (by decide)) (facts_cons (fun h => absurd h (by decide)) (facts_cons (fun h => absurd h (by decide)) facts_nil))))))
        · intro a w_ K hw hS hd hN hK
          have s0 := hS.at 0 (by kernel_rfl) rfl
          rw [if_pos (want_free rfl)]
          go_simp
          exact hK _ _ (Below.refl _ _) (vok rfl) (facts_cons (fun h => absurd h (by decide)) (facts_cons (fun h => absurd h (by decide)) (facts_cons (fun h => absurd h (by decide)) (facts_cons (fun h => absurd h (by decide)) (facts_cons (fun h => absurd h (by decide)) (facts_cons (fun h => absurd h (by decide)) facts_nil))))))
        · intro a w_ K hw hS hd hN hK
          have s4 := hS.at 4 (by kernel_rfl) rfl
          rw [if_pos (want_free rfl)]
          go_simp
          exact hK _ _ (Below.refl _ _) (vok rfl) (facts_cons (fun h => absurd h (by decide)) (facts_cons (fun h => absurd h (by decide)) (facts_cons (fun h => absurd h (by decide)) (facts_cons (fun h => absurd h (by decide)) (facts_cons (fun h => absurd h (by decide)) (facts_cons (fun h => absurd h (by decide)) facts_nil))))))
        · intro a w_ K hw hS hd hN hK
          have s31 := (waits_on hd 4 (by kernel_rfl)).at (d := 31) rfl rfl rfl
          have s32 := (waits_on hd 5 (by kernel_rfl)).at (d := 32) rfl rfl rfl
          rw [if_pos (want_free rfl)]
          go_simp
          exact hK _ _ (Below.refl _ _) (vok rfl) (facts_cons (fun h => absurd h (by decide)) (facts_cons (fun h => absurd h (by decide)) (facts_cons (fun h => absurd h (by decide)) (facts_cons (fun h => absurd h (by decide)) (facts_cons (fun h => absurd h (by decide)) (facts_cons (fun h => absurd h (by decide)) facts_nil))))))
        · intro a w_ K hw hS hd hN hK
          have s33 := (waits_on hd 6 (by kernel_rfl)).at (d := 33) rfl rfl rfl
          rw [if_pos (want_free rfl)]
          go_simp
          refine (ih (ls.drop k) _ w_ ((HS.out.drop (k := k) (by omega) (c - k) (by omega)).to4 hw) (by rw [List.length_drop]; omega) (by rw [List.length_drop]; omega) (fun x h => HX.out x (List.mem_of_mem_drop h))).mono ?_
          rintro e w' ⟨v34, rfl, ho, hb⟩
          exact hK _ _ hb (vfree rfl) (facts_cons (fun h => absurd h (by decide)) (facts_cons (fun _ => ⟨v34, hS.put_at (by kernel_rfl) _, fun _ => TextsAt.of_own ho⟩) (facts_cons (fun h => absurd h (by decide)) (facts_cons (fun h => absurd h (by decide)) (facts_cons (fun h => absurd h (by decide)) (facts_cons (fun h => absurd h (by decide)) facts_nil))))))
        · intro a w_ K hw hS hd hN hK
          obtain ⟨v30, s30, f30⟩ := (waits_on hd 3 (by kernel_rfl)).2 _ (List.mem_cons_self ..) rfl
          obtain ⟨v34, s34, f34⟩ := (waits_on hd 7 (by kernel_rfl)).2 _ (List.mem_cons_of_mem _ (List.mem_cons_self ..)) rfl
          have hu35 := hN _ (List.mem_cons_self ..) rfl
          rw [if_pos (want_free rfl)]
          have t1 := texts_le (ls.take k)
          have t2 := texts_le (ls.drop k)
          rw [List.length_take] at t1
          rw [List.length_drop] at t2
          refine wp_append_texts (.tmp 30) (.tmp 34) rfl w4.heap.size v30 (textsV (ls.take k)) (eval_at s30) (f30 hu35) v34 (textsV (ls.drop k)) (eval_at s34) (f34 hu35) (by omega) hw.size ?_
          intro v35 w' ho hg hne
          have hp35 := hS.put_at (s := 35) (by kernel_rfl) v35
          exact hK v35 w' ⟨hu35, fun e => hne (Option.some.inj (hp35.symm.trans e)), v30, s30, hg, fun g e => (own_blk_lt (f30 hu35) g e).1⟩ (vfree rfl) (facts_cons (fun h => absurd h (by decide)) (facts_cons (fun h => absurd h (by decide)) (facts_cons (fun _ => ⟨v35, hp35, hne, fun _ => ho⟩) (facts_cons (fun h => absurd h (by decide)) (facts_cons (fun h => absurd h (by decide)) (facts_cons (fun h => absurd h (by decide)) facts_nil))))))
        · intro a w_ K hw hS hd hN hK
          have s5 := hS.at 5 (by kernel_rfl) rfl
          rw [if_pos (want_free rfl)]
          go_simp
          exact hK _ _ (Below.refl _ _) (vok rfl) (facts_cons (fun h => absurd h (by decide)) (facts_cons (fun h => absurd h (by decide)) (facts_cons (fun h => absurd h (by decide)) (facts_cons (fun h => absurd h (by decide)) (facts_cons (fun h => absurd h (by decide)) (facts_cons (fun h => absurd h (by decide)) facts_nil))))))
        · intro a w_ K hw hS hd hN hK
          have s36 := (waits_on hd 9 (by kernel_rfl)).at (d := 36) rfl rfl rfl
          have hv30 := hN _ (List.mem_cons_of_mem _ (List.mem_cons_self ..)) rfl
          rw [if_pos (want_free rfl)]
          go_simp
          exact hK _ _ (below_one _ _) (vfree rfl) (facts_cons (fun h => absurd h (by decide)) (facts_cons (fun h => absurd h (by decide)) (facts_cons (fun h => absurd h (by decide)) (facts_cons (fun _ => ⟨w_.heap.size, hS.put_at (by kernel_rfl) _, by simp, fun _ => Blk.new _ _ _, fun v hv e => by have := hv30 v ((put_far (by decide)).symm.trans hv) w_.heap.size e; omega⟩) (facts_cons (fun h => absurd h (by decide)) (facts_cons (fun h => absurd h (by decide)) facts_nil))))))
        · intro a w_ K hw hS hd hN hK
          obtain ⟨v35, s35, n35, f35⟩ := (waits_on hd 8 (by kernel_rfl)).2 _ (List.mem_cons_of_mem _ (List.mem_cons_of_mem _ (List.mem_cons_self ..))) rfl
          obtain ⟨b37, s37, l37, f37, k37⟩ := (waits_on hd 10 (by kernel_rfl)).2 _ (List.mem_cons_of_mem _ (List.mem_cons_of_mem _ (List.mem_cons_of_mem _ (List.mem_cons_self ..)))) rfl
          have hu38 := hN _ (List.mem_cons_of_mem _ (List.mem_cons_of_mem _ (List.mem_cons_self ..))) rfl
          rw [if_pos (want_free rfl)]
          have t1 := texts_le (ls.take k)
          have t2 := texts_le (ls.drop k)
          rw [List.length_take] at t1
          rw [List.length_drop] at t2
          have hrow : TextsAt w_ (.slice (some ⟨b37, 0, none⟩) 1 1) [(joinD [nodeT, totalT (ls.take k), totalT (ls.drop k)])] := TextsAt.of_blk (ls := [(joinD [nodeT, totalT (ls.take k), totalT (ls.drop k)])]) (f37 hu38) rfl
          refine wp_append_texts (.tmp 35) (.tmp 37) rfl w4.heap.size v35 ((textsV (ls.take k)) ++ (textsV (ls.drop k))) (eval_at s35) (f35 hu38) (.slice (some ⟨b37, 0, none⟩) 1 1) [(joinD [nodeT, totalT (ls.take k), totalT (ls.drop k)])] (eval_at s37) hrow (by rw [List.length_append, List.length_singleton]; omega) hw.size ?_
          intro v38 w' ho hg hne
          have hp38 := hS.put_at (s := 38) (by kernel_rfl) v38
          have n35' : ¬ a.tmps[35]? = some undef := fun e => n35 (Option.some.inj (s35.symm.trans e))
          exact hK v38 w' ⟨n35', fun e => hne (Option.some.inj (hp38.symm.trans e)), _, hg, fun g e => (own_blk_lt (f35 hu38) g e).1⟩ (vfree rfl) (facts_cons (fun h => absurd h (by decide)) (facts_cons (fun h => absurd h (by decide)) (facts_cons (fun h => absurd h (by decide)) (facts_cons (fun h => absurd h (by decide)) (facts_cons (fun _ => ⟨v38, hp38, fun e => n35' ((put_far (by decide)).symm.trans e), ho⟩) (facts_cons (fun h => absurd h (by decide)) facts_nil))))))
        · intro a w_ K hw hS hd hN hK
          obtain ⟨v38, s38, n38, f38⟩ := (waits_on hd 11 (by kernel_rfl)).2 _ (List.mem_cons_of_mem _ (List.mem_cons_of_mem _ (List.mem_cons_of_mem _ (List.mem_cons_of_mem _ (List.mem_cons_self ..))))) rfl
          rw [if_pos (want_free rfl)]
          go_simp
          exact hK _ _ (Below.refl _ _) (vfree rfl) (facts_cons (fun h => absurd h (by decide)) (facts_cons (fun h => absurd h (by decide)) (facts_cons (fun h => absurd h (by decide)) (facts_cons (fun h => absurd h (by decide)) (facts_cons (fun h => absurd h (by decide)) (facts_cons (fun _ => ⟨v38, (put_far (by decide)).trans s38, hS.put_at (by kernel_rfl) _, fun e => n38 ((put_far (by decide)).symm.trans e), f38⟩) facts_nil))))))
      case hfin =>
        intro a w5 hw hS hk
        have s27 := (hk 0 (by decide)).at (d := 27) rfl rfl rfl
        have s28 := (hk 1 (by decide)).at (d := 28) rfl rfl rfl
        have s29 := (hk 2 (by decide)).at (d := 29) rfl rfl rfl
        obtain ⟨v30, s30, f30⟩ := (hk 3 (by decide)).2 _ (List.mem_cons_self ..) rfl
        have s31 := (hk 4 (by decide)).at (d := 31) rfl rfl rfl
        have s32 := (hk 5 (by decide)).at (d := 32) rfl rfl rfl
        have s33 := (hk 6 (by decide)).at (d := 33) rfl rfl rfl
        obtain ⟨v34, s34, f34⟩ := (hk 7 (by decide)).2 _ (List.mem_cons_of_mem _ (List.mem_cons_self ..)) rfl
        obtain ⟨v35, s35, n35, f35⟩ := (hk 8 (by decide)).2 _ (List.mem_cons_of_mem _ (List.mem_cons_of_mem _ (List.mem_cons_self ..))) rfl
        have s36 := (hk 9 (by decide)).at (d := 36) rfl rfl rfl
        obtain ⟨b37, s37, l37, f37, k37⟩ := (hk 10 (by decide)).2 _ (List.mem_cons_of_mem _ (List.mem_cons_of_mem _ (List.mem_cons_of_mem _ (List.mem_cons_self ..)))) rfl
        obtain ⟨v38, s38, n38, f38⟩ := (hk 11 (by decide)).2 _ (List.mem_cons_of_mem _ (List.mem_cons_of_mem _ (List.mem_cons_of_mem _ (List.mem_cons_of_mem _ (List.mem_cons_self ..))))) rfl
        obtain ⟨v2, s38', s2, n2, f2⟩ := (hk 12 (by decide)).2 _ (List.mem_cons_of_mem _ (List.mem_cons_of_mem _ (List.mem_cons_of_mem _ (List.mem_cons_of_mem _ (List.mem_cons_of_mem _ (List.mem_cons_self ..)))))) rfl
        have hlit := hS.lit _ (by kernel_rfl) (lits_cons s27 (lits_cons s28 (lits_cons s29 (lits_cons s30 (lits_cons s31 (lits_cons s32 (lits_cons s33 (lits_cons s34 (lits_cons s35 (lits_cons s36 (lits_cons s37 (lits_cons s38 (lits_cons s2 lits_nil)))))))))))))
        rw [hlit]
        clear hlit hk hS s27 s28 s29 s30 s31 s32 s33 s34 s35 s36 s37 s38 s38' f30 f34 f35 n35 f37 k37 f38 n38
        have HB5 := hide (below_to HB.out (Nat.le_refl _) hw)
        simp only [litT, List.setIfInBounds_toArray, List.set_cons_succ, List.set_cons_zero]
        go_wp2_with fail
        go_ret
        exact ⟨v2, rfl, by rw [HV.out]; exact own_less f2 HB.out.size, HB5.out⟩
theorem texts_all : ∀ f, TxOk f
  | 0 => fun ls v w hv hf hn hx => by
    obtain rfl : ls = [] := List.eq_nil_of_length_eq_zero (by omega)
    exact texts_nil v w hv
  | f + 1 => texts_step f (texts_all f)
theorem Texts_any (ls : List (List UInt8)) (v : Value) (w : World) (hv : TextsAt w v ls) (hn : ls.length ≤ 100000) (hx : ∀ x ∈ ls, x.length ≤ 1000000) : Calls Tryz.prog 72 #[v] w (LvR (textsV ls) w) := texts_all ls.length ls v w hv (Nat.le_refl _) hn hx
end Go.Proofs.YtfhanbiifjiklaaGreatDoor

/- Walks of the reference: Leaves, Digested. -/
set_option linter.unusedVariables false
set_option linter.unusedSimpArgs false
namespace Go.Proofs.YtfhanbiifjiklaaGreatDoor
open Go.RowKit

set_option maxRecDepth 100000 in
set_option maxHeartbeats 2000000 in
theorem rLeaves_any (items : List (List UInt8)) (hn : items.length ≤ 1000000) (hx : ∀ x ∈ items, x.length ≤ 100000) (v : Value) (w : World) (hv : TextsAt w v items) :
    Calls Tryz.prog 49 #[v] w (LvR (leavesV items) w) := by
  obtain ⟨A, c, rfl, _⟩ := hv.slice
  have HS := hide hv
  have HX := hide hx
  obtain ⟨i0, hi0, hz0, hz1, hz2⟩ := info_parts info_str
  clear hv hx
  go_enter Tryz.func49, Tryz.ntmps49
  go_wp2_with fail
  go_loopw [3, 4] (fun o i wr => ∃ k : Nat, i = .int .i64 (k : Int) ∧ k ≤ items.length ∧ Aside (OwnT wr w.heap.size o ((leavesV items).take k)) ∧ Aside (Below w.heap.size w wr)) (fun _ i _ => items.length - (intOf i).toNat)
  case atStart => exact ⟨0, rfl, by omega, World.ownsRow_nil _ _ _ _, Below.refl _ _⟩
  case round =>
    obtain ⟨k, rfl, hk, hO, hB⟩ := hrel
    have HO : Hid (OwnT wr w.heap.size _ ((leavesV items).take k)) := hO
    have HB : Hid (Below w.heap.size w wr) := hB
    have htl : ((leavesV items).take k).length = k := by rw [List.length_take]; simp [leavesV]; omega
    obtain ⟨Ao, co, rfl⟩ := own_sl4 hO
    clear hO hB
    rw [htl] at HO ⊢
    by_cases hlt : k < items.length
    · have e1 : decide ((k : Int) < (items.length : Int)) = true := decide_eq_true (by omega)
      obtain ⟨x, hx⟩ : ∃ x, items[k]? = some x := ⟨_, List.getElem?_eq_getElem hlt⟩
      obtain ⟨a, rfl, ha, c0⟩ := (HS.out.to HB.out).at_ hx
      have hxl := HX.out x (List.mem_of_getElem? hx)
      have CL := rLeaf_any x (by omega) wr
      have HSN : Hid ((leavesV items).take (k + 1) = (leavesV items).take k ++ [leafD x]) := by show _ = _; unfold leavesV; rw [List.take_add_one, List.getElem?_map, hx]; rfl
      have HO1 : Hid (wr.ownsRow w.heap.size 9 1 (.slice Ao k co) k (flatS ((leavesV items).take k))) := by
        have := HO.out
        unfold OwnT at this
        rw [htl] at this
        exact this
      generalize leafD x = d at *
      generalize (leavesV items).take k = L at *
      clear hx HO
      go_wp2_with fail
      refine CL.mono ?_
      rintro e w4 ⟨rfl, hb4⟩
      have HO4 := hide (own_to4 HO1.out hb4)
      have HB4 := hide (below_to HB.out (Nat.le_refl _) hb4)
      have HSZ : Hid (w.heap.size ≤ w4.heap.size) := HB4.out.size
      clear hb4 CL HO1
      go_wp2_with (at_builtin; refine wpList_append_own _ rfl (.tmp 11) (.tmp 17) _ rfl w.heap.size 9 i0 (.string ⟨#[]⟩) 1 16 Tryz.underlying22 hi0 hz0 hz1 hz2 rfl (by omega) _ k (flatS L) rfl ?c0 ⟨_, 0, none⟩ 1 1 [.string (bs d)] rfl rfl ?c1 ?c2 ?c4 ?c5 ?c3 ?_)
      case c0 => exact own_to4 HO4.out (below_one _ _)
      case c1 => exact cells_new4 (xs := [.string (bs d)]) (by simp)
      case c2 => intro u hu; simp only [List.mem_cons, List.not_mem_nil, or_false] at hu; rcases hu with rfl; rfl
      case c4 => simp only [maxLen]; omega
      case c5 => omega
      case c3 => have := HSZ.out; simp; omega
      intro v' w6 hown6 hgr6 _
      have HB6 := hide ((below_alloc HB4.out (Nat.le_refl _) _).grown hgr6 (by have := HSZ.out; simp; omega) (fun b hb => (HO4.out.lt b hb).1))
      have HO6 : Hid (OwnT w6 w.heap.size v' ((leavesV items).take (k + 1))) := by
        rw [HSN.out]
        show World.ownsRow _ _ _ _ _ _ _
        rw [flatS_snoc, List.length_append, htl]
        exact hown6
      clear hown6 hgr6
      go_wp2_with fail
      refine ⟨⟨k + 1, by go_num, by omega, HO6.out, HB6.out⟩, ?_⟩
      simp [intOf]; omega
    · obtain rfl : k = items.length := by omega
      have e1 : decide ((items.length : Int) < (items.length : Int)) = false := by simp
      go_wp2_with fail
      go_ret
      refine ⟨_, rfl, ?_, HB.out⟩
      have := HO.out
      rwa [List.take_of_length_le (by simp [leavesV])] at this
def leafJ (x : List UInt8) : List UInt8 := joinD [leafT, x]
/-- what is digested for the root of a log -/
def digestedV (items : List (List UInt8)) : List (List UInt8) := textsV (leavesV items) ++ items.map leafJ
theorem dig_take (items : List (List UInt8)) : textsV (leavesV items) ++ (items.take items.length).map leafJ = digestedV items := by rw [List.take_length]; rfl
theorem join_leafB {x : List UInt8} (hx : x.length ≤ 100000) (w : World) (g : Nat) (hv : Blk w g 9 #[.string ⟨#[108, 101, 97, 102]⟩, .string (bs x)]) : Calls Tryz.prog 73 #[.slice (some ⟨g, 0, none⟩) 2 2] w fun e w' => e = .returned (.string (bs (leafJ x))) ∧ Below w.heap.size w w' :=
  rJoined_any [leafT, x] (by simp) (by rw [lenS2]; simp [leafT]; omega) (join2 (by decide) (by omega)) _ w (TextsAt.of_blk (ls := [leafT, x]) (show Blk w g 9 (strC [leafT, x]) from hv) rfl)
set_option maxRecDepth 100000 in
set_option maxHeartbeats 2000000 in
theorem Digested_any (items : List (List UInt8)) (hn : items.length ≤ 1000) (hx : ∀ x ∈ items, x.length ≤ 100000) (v : Value) (w : World) (hv : TextsAt w v items) :
    Calls Tryz.prog 30 #[v] w (LvR (digestedV items) w) := by
  have CL := rLeaves_any items (by omega) hx v w hv
  unfold LvR at CL
  obtain ⟨A, c, rfl, _⟩ := hv.slice
  have HS := hide hv
  have HX := hide hx
  obtain ⟨i0, hi0, hz0, hz1, hz2⟩ := info_parts info_str
  have HLT := hide (texts_le (leavesV items))
  clear hv hx
  go_enter Tryz.func30, Tryz.ntmps30
  go_wp2_with fail
  refine CL.mono ?_
  rintro e w1 ⟨v1, rfl, ho, hb⟩
  have HB1 := hide hb
  have CT := Texts_any (leavesV items) v1 w1 (TextsAt.of_own ho) (by rw [leaves_len]; omega) (fun x hx => by obtain ⟨y, _, rfl⟩ := List.mem_map.1 hx; rw [isD_len (leaf_isD y)]; decide)
  unfold LvR at CT
  clear hb ho CL
  go_wp2_with fail
  refine CT.mono ?_
  rintro e w2 ⟨v2, rfl, ho, hb⟩
  have HB2 := hide (below_to HB1.out (Nat.le_refl _) hb)
  have HO2 : Hid (OwnT w2 w.heap.size v2 (textsV (leavesV items))) := own_less ho HB1.out.size
  rw [leaves_len] at HLT
  generalize hTX : textsV (leavesV items) = TX at *
  have HD : Hid (digestedV items = TX ++ items.map leafJ) := by show _ = _; rw [← hTX]; rfl
  clear hb ho CT HB1 hTX
  go_wp2_with fail
  go_loopw [3, 4] (fun o i wr => ∃ k : Nat, i = .int .i64 (k : Int) ∧ k ≤ items.length ∧ Aside (OwnT wr w.heap.size o (TX ++ (items.take k).map leafJ)) ∧ Aside (Below w.heap.size w wr)) (fun _ i _ => items.length - (intOf i).toNat)
  case atStart => exact ⟨0, rfl, by omega, by show OwnT _ _ _ _; rw [List.take_zero, List.map_nil, List.append_nil]; exact HO2.out, HB2.out⟩
  case round =>
    clear HO2 HB2
    obtain ⟨k, rfl, hk, hO, hB⟩ := hrel
    have HO : Hid (OwnT wr w.heap.size _ (TX ++ (items.take k).map leafJ)) := hO
    have HB : Hid (Below w.heap.size w wr) := hB
    have htl : (TX ++ (items.take k).map leafJ).length = TX.length + k := by rw [List.length_append, List.length_map, List.length_take]; omega
    have hTl := HLT.out
    obtain ⟨Ao, co, rfl⟩ := own_sl4 hO
    clear hO hB
    rw [htl] at HO ⊢
    by_cases hlt : k < items.length
    · have e1 : decide ((k : Int) < (items.length : Int)) = true := decide_eq_true (by omega)
      obtain ⟨x, hx⟩ : ∃ x, items[k]? = some x := ⟨_, List.getElem?_eq_getElem hlt⟩
      obtain ⟨a, rfl, ha, c0⟩ := (HS.out.to HB.out).at_ hx
      have hxl := HX.out x (List.mem_of_getElem? hx)
      have CJ := fun w' : World => join_leafB (x := x) hxl w'
      have HSN : Hid (TX ++ (items.take (k + 1)).map leafJ = (TX ++ (items.take k).map leafJ) ++ [leafJ x]) := by show _ = _; rw [List.take_add_one, hx]; simp
      have HO1 : Hid (wr.ownsRow w.heap.size 9 1 (.slice Ao (TX.length + k) co) (TX.length + k) (flatS (TX ++ (items.take k).map leafJ))) := by
        have := HO.out
        unfold OwnT at this
        rw [htl] at this
        exact this
      generalize leafJ x = d at *
      generalize TX ++ (items.take k).map leafJ = L at *
      clear hx HO
      have CJ := CJ (wr.alloc (.cells #[.string ⟨#[108, 101, 97, 102]⟩, .string (bs x)] 9)) wr.heap.size (Blk.new _ _ _)
      go_wp2_with fail
      refine CJ.mono ?_
      rintro e w4 ⟨rfl, hb4⟩
      have hb4' := below_to (below_one wr (.cells #[.string ⟨#[108, 101, 97, 102]⟩, .string (bs x)] 9)) (Nat.le_refl _) hb4
      have HO4 := hide (own_to4 HO1.out hb4')
      have HB4 := hide (below_to HB.out (Nat.le_refl _) hb4')
      have HSZ : Hid (w.heap.size ≤ w4.heap.size) := HB4.out.size
      clear hb4 hb4' CJ HO1
      go_wp2_with (at_builtin; refine wpList_append_own _ rfl (.tmp 14) (.tmp 21) _ rfl w.heap.size 9 i0 (.string ⟨#[]⟩) 1 16 Tryz.underlying22 hi0 hz0 hz1 hz2 rfl (by omega) _ (TX.length + k) (flatS L) rfl ?c0 ⟨_, 0, none⟩ 1 1 [.string (bs d)] rfl rfl ?c1 ?c2 ?c4 ?c5 ?c3 ?_)
      case c0 => exact own_to4 HO4.out (below_one _ _)
      case c1 => exact cells_new4 (xs := [.string (bs d)]) (by simp)
      case c2 => intro u hu; simp only [List.mem_cons, List.not_mem_nil, or_false] at hu; rcases hu with rfl; rfl
      case c4 => simp only [maxLen]; omega
      case c5 => omega
      case c3 => have := HSZ.out; simp; omega
      intro v' w6 hown6 hgr6 _
      have HB6 := hide ((below_alloc HB4.out (Nat.le_refl _) _).grown hgr6 (by have := HSZ.out; simp; omega) (fun b hb => (HO4.out.lt b hb).1))
      have HO6 : Hid (OwnT w6 w.heap.size v' (TX ++ (items.take (k + 1)).map leafJ)) := by
        rw [HSN.out]
        show World.ownsRow _ _ _ _ _ _ _
        rw [flatS_snoc, List.length_append, htl]
        exact hown6
      clear hown6 hgr6
      go_wp2_with fail
      refine ⟨⟨k + 1, by go_num, by omega, HO6.out, HB6.out⟩, ?_⟩
      simp [intOf]; omega
    · obtain rfl : k = items.length := by omega
      have e1 : decide ((items.length : Int) < (items.length : Int)) = false := by simp
      go_wp2_with fail
      go_ret
      refine ⟨_, rfl, ?_, HB.out⟩
      have := HO.out
      rwa [List.take_length, ← HD.out] at this
end Go.Proofs.YtfhanbiifjiklaaGreatDoor

/- Walks of the reference of layer 2: paths. -/
set_option linter.unusedVariables false
set_option linter.unusedSimpArgs false
namespace Go.Proofs.YtfhanbiifjiklaaGreatDoor
open Go.RowKit

theorem wpList_append_texts {ops : Array Oper} {rest : List Oper} {o : Oper} {a : Act} {w : World} {Q : Exit → Act → World → Prop} (hgd : o.guard = none) (s x : Operand) (hop : o.op = Op.call { callee := Callee.builtin Builtin.append, args := #[s, x], argTypes := #[22, 22] })
    (B : Nat) (v : Value) (L : List (List UInt8)) (hs : a.eval s = v) (hown : OwnT w B v L) (xv : Value) (q : List (List UInt8)) (hx : a.eval x = xv) (hq : TextsAt w xv q) (hn : L.length + q.length ≤ 1000000000) (hB : B ≤ w.heap.size)
    (h : ∀ v' w', OwnT w' B v' (L ++ q) → w.grownBy w' v.ownBlock → v' ≠ undef → wpList Tryz.prog ops Q rest (a.put o.dst v') w') : wpList Tryz.prog ops Q (o :: rest) a w :=
  wpList_plain hgd fun _ hK => wp_append_texts s x hop B v L hs hown xv q hx hq hn hB fun v' w' h1 h2 h3 => hK _ _ (h v' w' h1 h2 h3)
/-- a path's length -/
def lenF : Nat → Nat → Nat → Nat
  | 0, _, _ => 0
  | f + 1, n, i => if n = 1 then 0 else if i < halfN n then lenF f (halfN n) i + 1 else lenF f (n - halfN n) (i - halfN n) + 1
theorem lenF_one (f i : Nat) : lenF (f + 1) 1 i = 0 := by unfold lenF; rw [if_pos rfl]
theorem lenF_lt {f n i : Nat} (h : n ≠ 1) (hi : i < halfN n) : lenF (f + 1) n i = lenF f (halfN n) i + 1 := by
  show (if n = 1 then 0 else if i < halfN n then lenF f (halfN n) i + 1 else lenF f (n - halfN n) (i - halfN n) + 1) = _
  rw [if_neg h, if_pos hi]
theorem lenF_ge {f n i : Nat} (h : n ≠ 1) (hi : ¬ i < halfN n) : lenF (f + 1) n i = lenF f (n - halfN n) (i - halfN n) + 1 := by
  show (if n = 1 then 0 else if i < halfN n then lenF f (halfN n) i + 1 else lenF f (n - halfN n) (i - halfN n) + 1) = _
  rw [if_neg h, if_neg hi]
theorem lenF_le : ∀ (f n i : Nat), lenF f n i ≤ f
  | 0, n, i => Nat.le_refl _
  | f + 1, n, i => by
    unfold lenF
    split
    · omega
    · split
      · have := lenF_le f (halfN n) i; omega
      · have := lenF_le f (n - halfN n) (i - halfN n); omega
theorem upG_rest (leaf : List UInt8) : ∀ (f n i : Nat) (st : List (List UInt8)) (sh : Bool), 1 ≤ n → n ≤ f → i < n → (∀ d ∈ st, d ≠ []) → (upG leaf f n i st sh).2 = (st.drop (lenF f n i), sh || decide (st.length < lenF f n i)) := by
  intro f
  induction f with
  | zero => intro n i st sh h1 h2; omega
  | succ f ih =>
    intro n i st sh h1 h2 h3 hd
    by_cases hn : n = 1
    · subst hn
      rw [upG_one, lenF_one]; simp
    · obtain ⟨a, b⟩ := half_lt (n := n) (by omega)
      have tl : ∀ d ∈ st.tail, d ≠ [] := fun d h => hd d (List.mem_of_mem_tail h)
      have fin : ∀ L, (st.tail.drop L, nextS st sh || decide (st.tail.length < L)) = (st.drop (L + 1), sh || decide (st.length < L + 1)) := fun L => by
        match st, hd with
        | [], _ => simp [nextS]
        | x :: st, hd =>
          have hx : x ≠ [] := hd x (by simp)
          cases x with
          | nil => exact absurd rfl hx
          | cons y x =>
            refine Prod.ext rfl ?_
            show (sh || false || decide (st.length < L)) = (sh || decide (st.length + 1 < L + 1))
            rw [Bool.or_false]
            congr 1
            exact decide_eq_decide.2 (by omega)
      by_cases hi : i < halfN n
      · rw [upG_lt leaf hn hi, lenF_lt hn hi]
        show (upG leaf f (halfN n) i st.tail (nextS st sh)).2 = _
        rw [ih _ _ _ _ (by omega) (by omega) hi tl]
        exact fin _
      · rw [upG_ge leaf hn hi, lenF_ge hn hi]
        show (upG leaf f (n - halfN n) (i - halfN n) st.tail (nextS st sh)).2 = _
        rw [ih _ _ _ _ (by omega) (by omega) (by omega) tl]
        exact fin _
theorem upG_small {leaf : List UInt8} (hl : leaf.length ≤ 1000000) : ∀ (f n i : Nat) (st : List (List UInt8)) (sh : Bool), (upG leaf f n i st sh).1.length ≤ 1000000
  | 0, n, i, st, sh => hl
  | f + 1, n, i, st, sh => by
    unfold upG
    split
    · exact hl
    · split <;> exact Nat.le_trans (Nat.le_of_eq (nodeD_len _ _)) (by decide)
theorem proper_ne {p : List (List UInt8)} (h : properT p = true) : ∀ d ∈ p, d ≠ [] := fun d hd e => by
  unfold properT at h
  have := List.all_eq_true.1 h d hd
  rw [e] at this
  exact absurd this (by decide)
/-- the reference's way to say it -/
theorem checkV_ref (root leaf : List UInt8) (N I : Nat) (p : List (List UInt8)) (hN : N ≤ 1000000) (hI : I < N) : checkV root N I leaf p = (decide (p.length = lenF N N I) && (properT p && (isD leaf && decide ((upG leaf N N I p.reverse false).1 = root)))) := by
  unfold checkV
  cases hp : properT p with
  | false => rw [if_neg (by simp)]; simp
  | true =>
    cases hl : isD leaf with
    | false => rw [if_neg (by simp)]; simp
    | true =>
      rw [if_pos ⟨by omega, by omega, by omega, rfl, rfl⟩, Int.toNat_natCast, Int.toNat_natCast]
      unfold upV
      have hr := upG_rest leaf N N I p.reverse false (by omega) (Nat.le_refl _) hI (fun d hd => proper_ne hp d (by simpa using hd))
      rw [hr]
      simp only [Bool.false_or, List.length_reverse, Bool.true_and]
      rw [Bool.and_comm (decide (p.length = lenF N N I))]
      congr 1
      rw [Bool.eq_iff_iff]
      simp only [Bool.and_eq_true, Bool.not_eq_true', decide_eq_false_iff_not, List.isEmpty_iff, List.drop_eq_nil_iff, List.length_reverse, decide_eq_true_eq]
      omega
def RLenOk (f : Nat) : Prop := ∀ (n i : Nat) (w : World), 1 ≤ n → n ≤ f → i < n → f ≤ 1000000000 → Calls Tryz.prog 105 #[.int .i64 (n : Int), .int .i64 (i : Int)] w fun e w' => e = .returned (.int .i64 ((lenF f n i : Nat) : Int)) ∧ w' = w
set_option maxRecDepth 100000 in
set_option maxHeartbeats 1000000 in
theorem rlen_step (f : Nat) (ih : RLenOk f) : RLenOk (f + 1) := by
  intro n i w h1 h2 h3 h4
  by_cases hn : n = 1
  · subst hn
    rw [lenF_one]
    have e0 : (((1 : Nat) : Int) == 1) = true := rfl
    clear ih
    go_enter Tryz.func105, Tryz.ntmps105
    go_wp2_with fail
    go_ret
    exact ⟨rfl, rfl⟩
  · obtain ⟨a, b⟩ := half_lt (n := n) (by omega)
    have CH := fun w => rHalf_any n (by omega) w
    have e0 : ((n : Int) == 1) = false := by rw [beq_eq_false_iff_ne]; omega
    by_cases hi : i < halfN n
    · have HV := hide (lenF_lt (f := f) hn hi)
      have CR := ih (halfN n) i w (by omega) (by omega) hi (by omega)
      have hb := lenF_le f (halfN n) i
      generalize halfN n = k at *
      generalize lenF f k i = L at *
      have e1 : decide ((i : Int) < (k : Int)) = true := decide_eq_true (by omega)
      have e2 : decide (i < k) = true := decide_eq_true (by omega)
      clear ih hi
      go_enter Tryz.func105, Tryz.ntmps105
      go_wp2_with (first | ((with_reducible refine (CH _).mono ?_); rintro e w' ⟨rfl, rfl⟩) | ((with_reducible refine CR.mono ?_); rintro e w' ⟨rfl, rfl⟩))
      go_ret
      exact ⟨by rw [HV.out]; simp [Int.add_comm], rfl⟩
    · have HV := hide (lenF_ge (f := f) hn hi)
      have CR := ih (n - halfN n) (i - halfN n) w (by omega) (by omega) (by omega) (by omega)
      have hb := lenF_le f (n - halfN n) (i - halfN n)
      rw [show ((n - halfN n : Nat) : Int) = (n : Int) - (halfN n : Int) by omega, show ((i - halfN n : Nat) : Int) = (i : Int) - (halfN n : Int) by omega] at CR
      generalize lenF f (n - halfN n) (i - halfN n) = L at *
      generalize halfN n = k at *
      have e1 : decide ((i : Int) < (k : Int)) = false := decide_eq_false (by omega)
      have e2 : decide (i < k) = false := decide_eq_false (by omega)
      clear ih
      go_enter Tryz.func105, Tryz.ntmps105
      go_wp2_with (first | ((with_reducible refine (CH _).mono ?_); rintro e w' ⟨rfl, rfl⟩) | ((with_reducible refine CR.mono ?_); rintro e w' ⟨rfl, rfl⟩))
      go_ret
      exact ⟨by rw [HV.out]; simp [Int.add_comm], rfl⟩
theorem rlen_any : ∀ f, RLenOk f
  | 0 => fun n i w h1 h2 => absurd h1 (by omega)
  | f + 1 => rlen_step f (rlen_any f)
theorem last_of {p : List (List UInt8)} {m : Nat} (h : p.length = m + 1) : ∃ q x, p = q ++ [x] ∧ q.length = m := by
  have hne : p ≠ [] := by rintro rfl; simp at h
  exact ⟨p.dropLast, p.getLast hne, (List.dropLast_concat_getLast hne).symm, by rw [List.length_dropLast, h]; rfl⟩
def RUpOk (f : Nat) : Prop := ∀ (n i : Nat) (d : List UInt8) (p : List (List UInt8)) (v : Value) (w : World), 1 ≤ n → n ≤ f → i < n → f ≤ 1000000000 → p.length = lenF f n i → d.length ≤ 1000000 → (∀ x ∈ p, x.length ≤ 1000000) → TextsAt w v p →
  Calls Tryz.prog 106 #[.int .i64 (n : Int), .int .i64 (i : Int), .string (bs d), v] w fun e w' => e = .returned (.string (bs (upG d f n i p.reverse false).1)) ∧ Below w.heap.size w w'
set_option maxRecDepth 100000 in
set_option maxHeartbeats 1000000 in
theorem rup_step (f : Nat) (ih : RUpOk f) : RUpOk (f + 1) := by
  intro n i d p v w h1 h2 h3 h4 hp hd hx hv
  by_cases hn : n = 1
  · subst hn
    rw [upG_one]
    have e0 : (((1 : Nat) : Int) == 1) = true := rfl
    clear ih hv hx hp
    go_enter Tryz.func106, Tryz.ntmps106
    go_wp2_with fail
    go_ret
    exact ⟨rfl, Below.refl _ _⟩
  · obtain ⟨a, b⟩ := half_lt (n := n) (by omega)
    have CH := fun w => rHalf_any n (by omega) w
    have e0 : ((n : Int) == 1) = false := by rw [beq_eq_false_iff_ne]; omega
    by_cases hi : i < halfN n
    · rw [lenF_lt hn hi] at hp
      obtain ⟨q, x, rfl, hq⟩ := last_of hp
      have hql : q.length ≤ f := by have := lenF_le f (halfN n) i; omega
      rw [List.reverse_append, List.reverse_singleton, List.singleton_append]
      have HV := hide (congrArg Prod.fst (upG_lt d (f := f) hn hi (x :: q.reverse) false))
      simp only [List.tail_cons, List.headD_cons] at HV
      rw [upG_fst d f (halfN n) i q.reverse _ false] at HV
      obtain ⟨A, c, rfl, hc⟩ := hv.slice
      have HT : TextsAt w (.slice A q.length c) q := by have := hv.take (k := q.length) (by simp) c (by simp at hc; omega); rwa [List.take_left'  rfl] at this
      obtain ⟨ad, rfl, ha, c0⟩ := hv.at_ (k := q.length) (x := x) (by simp)
      have CR := ih (halfN n) i d q _ w (by omega) (by omega) hi (by omega) (by omega) hd (fun y hy => hx y (by simp [hy])) HT
      have hub := upG_small hd f (halfN n) i q.reverse false
      generalize (upG d f (halfN n) i q.reverse false).1 = U at *
      have CN := fun w' => rnode_any U x (by omega) (by have := hx x (by simp); omega) w'
      generalize halfN n = k at *
      have e1 : decide ((i : Int) < (k : Int)) = true := decide_eq_true (by omega)
      have e2 : decide (i < k) = true := decide_eq_true (by omega)
      have i0 : (0 : Int) ≤ (q.length : Int) := by omega
      have i1 : (q.length : Int) ≤ (c : Int) := by simp at hc; omega
      have hlen : (q ++ [x]).length = q.length + 1 := by simp
      rw [hlen] at *
      clear ih hi hv HT hx hp hq
      go_enter Tryz.func106, Tryz.ntmps106
      go_wp2_with (first | ((with_reducible refine (CH _).mono ?_); rintro e w' ⟨rfl, rfl⟩) | ((with_reducible refine CR.mono ?_); rintro e w2 ⟨rfl, hb2⟩; have HB2 := hide hb2; clear hb2) | ((with_reducible refine (CN _).mono ?_); rintro e w3 ⟨rfl, hb3⟩; have HB3 := hide hb3; clear hb3))
      go_ret
      exact ⟨by rw [HV.out]; rfl, below_to HB2.out (Nat.le_refl _) HB3.out⟩
    · rw [lenF_ge hn hi] at hp
      obtain ⟨q, x, rfl, hq⟩ := last_of hp
      have hql : q.length ≤ f := by have := lenF_le f (n - halfN n) (i - halfN n); omega
      rw [List.reverse_append, List.reverse_singleton, List.singleton_append]
      have HV := hide (congrArg Prod.fst (upG_ge d (f := f) hn hi (x :: q.reverse) false))
      simp only [List.tail_cons, List.headD_cons] at HV
      rw [upG_fst d f (n - halfN n) (i - halfN n) q.reverse _ false] at HV
      obtain ⟨A, c, rfl, hc⟩ := hv.slice
      have HT : TextsAt w (.slice A q.length c) q := by have := hv.take (k := q.length) (by simp) c (by simp at hc; omega); rwa [List.take_left'  rfl] at this
      obtain ⟨ad, rfl, ha, c0⟩ := hv.at_ (k := q.length) (x := x) (by simp)
      have CR := ih (n - halfN n) (i - halfN n) d q _ w (by omega) (by omega) (by omega) (by omega) (by omega) hd (fun y hy => hx y (by simp [hy])) HT
      have hub := upG_small hd f (n - halfN n) (i - halfN n) q.reverse false
      rw [show ((n - halfN n : Nat) : Int) = (n : Int) - (halfN n : Int) by omega, show ((i - halfN n : Nat) : Int) = (i : Int) - (halfN n : Int) by omega] at CR
      generalize (upG d f (n - halfN n) (i - halfN n) q.reverse false).1 = U at *
      have CN := fun w' => rnode_any x U (by have := hx x (by simp); omega) (by omega) w'
      have hik : halfN n ≤ i := by omega
      generalize halfN n = k at *
      have e1 : decide ((i : Int) < (k : Int)) = false := decide_eq_false (by omega)
      have e2 : decide (i < k) = false := decide_eq_false (by omega)
      have i0 : (0 : Int) ≤ (q.length : Int) := by omega
      have i1 : (q.length : Int) ≤ (c : Int) := by simp at hc; omega
      have hlen : (q ++ [x]).length = q.length + 1 := by simp
      rw [hlen] at *
      clear ih hi hv HT hx hp hq
      go_enter Tryz.func106, Tryz.ntmps106
      go_wp2_with (first | ((with_reducible refine (CH _).mono ?_); rintro e w' ⟨rfl, rfl⟩) | ((with_reducible refine CR.mono ?_); rintro e w2 ⟨rfl, hb2⟩; have HB2 := hide hb2; clear hb2) | ((with_reducible refine (CN _).mono ?_); rintro e w3 ⟨rfl, hb3⟩; have HB3 := hide hb3; clear hb3))
      go_ret
      exact ⟨by rw [HV.out]; rfl, below_to HB2.out (Nat.le_refl _) HB3.out⟩
theorem rup_any : ∀ f, RUpOk f
  | 0 => fun n i d p v w h1 h2 => absurd h1 (by omega)
  | f + 1 => rup_step f (rup_any f)
end Go.Proofs.YtfhanbiifjiklaaGreatDoor

/- Walks of the reference of layer 2: the texts of a path, Check; Begins; Shown. -/
set_option linter.unusedVariables false
set_option linter.unusedSimpArgs false
namespace Go.Proofs.YtfhanbiifjiklaaGreatDoor
open Go.RowKit

theorem ptx_len (d : List UInt8) : ∀ (f n i : Nat) (st : List (List UInt8)), (ptxF d f n i st).length ≤ f
  | 0, _, _, _ => Nat.le_refl _
  | f + 1, n, i, st => by
    unfold ptxF
    split
    · simp
    · split
      · have := ptx_len d f (halfN n) i st.tail; simp; omega
      · have := ptx_len d f (n - halfN n) (i - halfN n) st.tail; simp; omega
theorem ptx_one (d : List UInt8) (f i : Nat) (st : List (List UInt8)) : ptxF d (f + 1) 1 i st = [] := by unfold ptxF; rw [if_pos rfl]
theorem ptx_lt (d : List UInt8) {f n i : Nat} (h : n ≠ 1) (hi : i < halfN n) (st : List (List UInt8)) : ptxF d (f + 1) n i st = ptxF d f (halfN n) i st.tail ++ [joinD [nodeT, (upG d f (halfN n) i st.tail false).1, st.headD []]] := by
  conv => lhs; unfold ptxF
  rw [if_neg h, if_pos hi]
theorem ptx_ge (d : List UInt8) {f n i : Nat} (h : n ≠ 1) (hi : ¬ i < halfN n) (st : List (List UInt8)) : ptxF d (f + 1) n i st = ptxF d f (n - halfN n) (i - halfN n) st.tail ++ [joinD [nodeT, st.headD [], (upG d f (n - halfN n) (i - halfN n) st.tail false).1]] := by
  conv => lhs; unfold ptxF
  rw [if_neg h, if_neg hi]
def RPtOk (f : Nat) : Prop := ∀ (n i : Nat) (d : List UInt8) (p : List (List UInt8)) (v : Value) (w : World), 1 ≤ n → n ≤ f → i < n → f ≤ 100000000 → p.length = lenF f n i → d.length ≤ 1000000 → (∀ x ∈ p, x.length ≤ 1000000) → TextsAt w v p →
  Calls Tryz.prog 74 #[.int .i64 (n : Int), .int .i64 (i : Int), .string (bs d), v] w (LvR (ptxF d f n i p.reverse) w)
set_option maxRecDepth 100000 in
set_option maxHeartbeats 2000000 in
theorem rpt_step (f : Nat) (ih : RPtOk f) : RPtOk (f + 1) := by
  intro n i d p v w h1 h2 h3 h4 hp hd hx hv
  by_cases hn : n = 1
  · subst hn
    rw [ptx_one]
    have e0 : (((1 : Nat) : Int) == 1) = true := rfl
    clear ih hv hx hp
    go_enter Tryz.func74, Tryz.ntmps74
    go_wp2_with fail
    go_ret
    exact ⟨_, rfl, World.ownsRow_nil _ _ _ _, Below.refl _ _⟩
  · obtain ⟨a, b⟩ := half_lt (n := n) (by omega)
    have CH := fun w => rHalf_any n (by omega) w
    have e0 : ((n : Int) == 1) = false := by rw [beq_eq_false_iff_ne]; omega
    by_cases hi : i < halfN n
    · rw [lenF_lt hn hi] at hp
      obtain ⟨q, x, rfl, hq⟩ := last_of hp
      have hql : q.length ≤ f := by have := lenF_le f (halfN n) i; omega
      rw [List.reverse_append, List.reverse_singleton, List.singleton_append]
      have HV := hide (ptx_lt d (f := f) hn hi (x :: q.reverse))
      simp only [List.tail_cons, List.headD_cons] at HV
      obtain ⟨A, c, rfl, hc⟩ := hv.slice
      have HT : TextsAt w (.slice A q.length c) q := by have := hv.take (k := q.length) (by simp) c (by simp at hc; omega); rwa [List.take_left' rfl] at this
      obtain ⟨ad, rfl, ha, c0⟩ := hv.at_ (k := q.length) (x := x) (by simp)
      have CR := ih (halfN n) i d q _ w (by omega) (by omega) hi (by omega) (by omega) hd (fun y hy => hx y (by simp [hy])) HT
      unfold LvR at CR
      have CU := fun (w' : World) (hb : Below w.heap.size w w') => rup_any f (halfN n) i d q _ w' (by omega) (by omega) hi (by omega) (by omega) hd (fun y hy => hx y (by simp [hy])) (HT.to hb)
      have hub := upG_small hd f (halfN n) i q.reverse false
      have hpl := ptx_len d f (halfN n) i q.reverse
      have hxl := hx x (by simp)
      generalize (upG d f (halfN n) i q.reverse false).1 = U at *
      generalize ptxF d f (halfN n) i q.reverse = L at *
      have CJ := fun (w' : World) (g : Nat) => join_nodeB (a := U) (b := x) (by omega) (by omega) w' g
      generalize joinD [nodeT, U, x] = J at *
      have hik : halfN n ≤ i ∨ i < halfN n := by omega
      generalize halfN n = k at *
      have e1 : decide ((i : Int) < (k : Int)) = true := decide_eq_true (by omega)
      have e2 : decide (i < k) = true := decide_eq_true (by omega)
      have i0 : (0 : Int) ≤ (q.length : Int) := by omega
      have i1 : (q.length : Int) ≤ (c : Int) := by simp at hc; omega
      have hlen : (q ++ [x]).length = q.length + 1 := by simp
      rw [hlen] at *
      clear ih hv HT hx hp hq
      go_enter Tryz.func74, Tryz.ntmps74
      go_wp2_with (first | ((with_reducible refine (CH _).mono ?_); rintro e w' ⟨rfl, rfl⟩) | ((with_reducible refine CR.mono ?_); rintro e w2 ⟨v2, rfl, ho2, hb2⟩; have CU := CU _ hb2; have HB2 := hide hb2; have HO2 := hide ho2; clear hb2 ho2) | ((with_reducible refine CU.mono ?_); rintro e w3 ⟨rfl, hb3⟩; have HB3 := hide (below_to HB2.out (Nat.le_refl _) hb3); have HO3 := hide (own_to4 HO2.out hb3); clear hb3 HB2 HO2 CU CR))
      have CJ1 := CJ (w3.alloc (.cells #[.string ⟨#[110, 111, 100, 101]⟩, .string (bs U), .string (bs x)] 9)) w3.heap.size (Blk.new _ _ _)
      refine CJ1.mono ?_
      rintro e w4 ⟨rfl, hb⟩
      have hb4 := below_to (below_one w3 (.cells #[.string ⟨#[110, 111, 100, 101]⟩, .string (bs U), .string (bs x)] 9)) (Nat.le_refl _) hb
      have HB4 := hide (below_to HB3.out (Nat.le_refl _) hb4)
      have HO4 := hide (own_to4 HO3.out hb4)
      clear hb hb4 HB3 HO3 CJ1 CJ
      go_wp2_with (at_builtin; refine wpList_append_texts rfl (.tmp 34) (.tmp 43) rfl w'.heap.size v2 L rfl (own_to4 HO4.out (below_one w4 (.cells #[.string (bs J)] 9))) (.slice (some ⟨w4.heap.size, 0, none⟩) 1 1) [J] rfl (TextsAt.of_blk (ls := [J]) (Blk.new w4 9 #[.string (bs J)]) rfl) (by simp; omega) (by have := HB4.out.size; simp; omega) ?_)
      intro v5 w5 ho5 hg5 _
      have HB5 := hide ((below_alloc HB4.out (Nat.le_refl _) (.cells #[.string (bs J)] 9)).trans (below_grown hg5 (by have := HB4.out.size; simp; omega) (fun g e => (own_blk_lt HO4.out g e).1)))
      have HO5 := hide ho5
      clear ho5 hg5
      go_wp2_with fail
      go_ret
      exact ⟨v5, rfl, by rw [HV.out]; exact HO5.out, HB5.out⟩
    · rw [lenF_ge hn hi] at hp
      obtain ⟨q, x, rfl, hq⟩ := last_of hp
      have hql : q.length ≤ f := by have := lenF_le f (n - halfN n) (i - halfN n); omega
      rw [List.reverse_append, List.reverse_singleton, List.singleton_append]
      have HV := hide (ptx_ge d (f := f) hn hi (x :: q.reverse))
      simp only [List.tail_cons, List.headD_cons] at HV
      obtain ⟨A, c, rfl, hc⟩ := hv.slice
      have HT : TextsAt w (.slice A q.length c) q := by have := hv.take (k := q.length) (by simp) c (by simp at hc; omega); rwa [List.take_left' rfl] at this
      obtain ⟨ad, rfl, ha, c0⟩ := hv.at_ (k := q.length) (x := x) (by simp)
      have CR := ih (n - halfN n) (i - halfN n) d q _ w (by omega) (by omega) (by omega) (by omega) (by omega) hd (fun y hy => hx y (by simp [hy])) HT
      unfold LvR at CR
      rw [show ((n - halfN n : Nat) : Int) = (n : Int) - (halfN n : Int) by omega, show ((i - halfN n : Nat) : Int) = (i : Int) - (halfN n : Int) by omega] at CR
      have CU := fun (w' : World) (hb : Below w.heap.size w w') => rup_any f (n - halfN n) (i - halfN n) d q _ w' (by omega) (by omega) (by omega) (by omega) (by omega) hd (fun y hy => hx y (by simp [hy])) (HT.to hb)
      simp only [show ((n - halfN n : Nat) : Int) = (n : Int) - (halfN n : Int) by omega, show ((i - halfN n : Nat) : Int) = (i : Int) - (halfN n : Int) by omega] at CU
      have hub := upG_small hd f (n - halfN n) (i - halfN n) q.reverse false
      have hpl := ptx_len d f (n - halfN n) (i - halfN n) q.reverse
      have hxl := hx x (by simp)
      generalize (upG d f (n - halfN n) (i - halfN n) q.reverse false).1 = U at *
      generalize ptxF d f (n - halfN n) (i - halfN n) q.reverse = L at *
      have CJ := fun (w' : World) (g : Nat) => join_nodeB (a := x) (b := U) (by omega) (by omega) w' g
      generalize joinD [nodeT, x, U] = J at *
      have hik : halfN n ≤ i ∨ i < halfN n := by omega
      generalize halfN n = k at *
      have e1 : decide ((i : Int) < (k : Int)) = false := decide_eq_false (by omega)
      have e2 : decide (i < k) = false := decide_eq_false (by omega)
      have i0 : (0 : Int) ≤ (q.length : Int) := by omega
      have i1 : (q.length : Int) ≤ (c : Int) := by simp at hc; omega
      have hlen : (q ++ [x]).length = q.length + 1 := by simp
      rw [hlen] at *
      clear ih hv HT hx hp hq
      go_enter Tryz.func74, Tryz.ntmps74
      go_wp2_with (first | ((with_reducible refine (CH _).mono ?_); rintro e w' ⟨rfl, rfl⟩) | ((with_reducible refine CR.mono ?_); rintro e w2 ⟨v2, rfl, ho2, hb2⟩; have CU := CU _ hb2; have HB2 := hide hb2; have HO2 := hide ho2; clear hb2 ho2) | ((with_reducible refine CU.mono ?_); rintro e w3 ⟨rfl, hb3⟩; have HB3 := hide (below_to HB2.out (Nat.le_refl _) hb3); have HO3 := hide (own_to4 HO2.out hb3); clear hb3 HB2 HO2 CU CR))
      have CJ1 := CJ (w3.alloc (.cells #[.string ⟨#[110, 111, 100, 101]⟩, .string (bs x), .string (bs U)] 9)) w3.heap.size (Blk.new _ _ _)
      refine CJ1.mono ?_
      rintro e w4 ⟨rfl, hb⟩
      have hb4 := below_to (below_one w3 (.cells #[.string ⟨#[110, 111, 100, 101]⟩, .string (bs x), .string (bs U)] 9)) (Nat.le_refl _) hb
      have HB4 := hide (below_to HB3.out (Nat.le_refl _) hb4)
      have HO4 := hide (own_to4 HO3.out hb4)
      clear hb hb4 HB3 HO3 CJ1 CJ
      go_wp2_with (at_builtin; refine wpList_append_texts rfl (.tmp 53) (.tmp 66) rfl w'.heap.size v2 L rfl (own_to4 HO4.out (below_one w4 (.cells #[.string (bs J)] 9))) (.slice (some ⟨w4.heap.size, 0, none⟩) 1 1) [J] rfl (TextsAt.of_blk (ls := [J]) (Blk.new w4 9 #[.string (bs J)]) rfl) (by simp; omega) (by have := HB4.out.size; simp; omega) ?_)
      intro v5 w5 ho5 hg5 _
      have HB5 := hide ((below_alloc HB4.out (Nat.le_refl _) (.cells #[.string (bs J)] 9)).trans (below_grown hg5 (by have := HB4.out.size; simp; omega) (fun g e => (own_blk_lt HO4.out g e).1)))
      have HO5 := hide ho5
      clear ho5 hg5
      go_wp2_with fail
      go_ret
      exact ⟨v5, rfl, by rw [HV.out]; exact HO5.out, HB5.out⟩
theorem rpt_any : ∀ f, RPtOk f
  | 0 => fun n i d p v w h1 h2 => absurd h1 (by omega)
  | f + 1 => rpt_step f (rpt_any f)
set_option maxRecDepth 100000 in
set_option maxHeartbeats 2000000 in
theorem rCheck_any (root : List UInt8) (n i : Int) (leaf : List UInt8) (p : List (List UInt8)) (hl : leaf.length ≤ 1000000) (hp : p.length ≤ 1000000000) (hx : ∀ x ∈ p, x.length ≤ 1000000) (v : Value) (w : World) (hv : TextsAt w v p) :
    Calls Tryz.prog 69 #[.string (bs root), .int .i64 n, .int .i64 i, .string (bs leaf), v] w fun e w' => e = .returned (.bool (checkV root n i leaf p)) ∧ Below w.heap.size w w' := by
  obtain ⟨A, c, rfl, hc⟩ := hv.slice
  by_cases hA : n ≤ 1000000 ∧ 0 ≤ i ∧ i < n
  · obtain ⟨N, rfl⟩ : ∃ N : Nat, n = N := ⟨n.toNat, by omega⟩
    obtain ⟨I, rfl⟩ : ∃ I : Nat, i = I := ⟨i.toNat, by omega⟩
    obtain ⟨a1, a2, a3⟩ := hA
    rw [checkV_ref root leaf N I p (by omega) (by omega)]
    have CL := fun w => rlen_any N N I w (by omega) (Nat.le_refl _) (by omega) (by omega)
    have CD := fun (w' : World) (hb : Below w.heap.size w w') => rdigests_any p (by omega) (fun x h => Nat.le_trans (hx x h) (by decide)) _ w' (hv.to hb)
    have CI := fun w => rIs_any leaf (by omega) w
    have hll := lenF_le N N I
    have c1 : decide ((1000000 : Int) < (N : Int)) = false := decide_eq_false (by omega)
    have c1' : decide (1000000 < N) = false := decide_eq_false (by omega)
    have c2 : decide ((I : Int) < 0) = false := decide_eq_false (by omega)
    have c3 : decide ((N : Int) ≤ (I : Int)) = false := decide_eq_false (by omega)
    have c3' : decide (N ≤ I) = false := decide_eq_false (by omega)
    by_cases hlen : p.length = lenF N N I
    · have CU := fun (w' : World) (hb : Below w.heap.size w w') => rup_any N N I leaf p _ w' (by omega) (Nat.le_refl _) (by omega) (by omega) hlen hl hx (hv.to hb)
      have c4 : ((p.length : Int) != ((lenF N N I : Nat) : Int)) = false := by rw [hlen]; simp
      have c4' : (p.length != lenF N N I) = false := by rw [hlen]; simp
      rw [decide_eq_true hlen]
      generalize (upG leaf N N I p.reverse false).1 = U at *
      have q : ((bs U).toList == (bs root).toList) = decide (U = root) := by rw [bs_toList, bs_toList, Bool.eq_iff_iff]; simp
      generalize decide (U = root) = r at *
      generalize lenF N N I = L at *
      have CD := CD w (Below.refl _ _)
      have CU := CU w (Below.refl _ _)
      clear hv hx hlen
      generalize properT p = b1 at *
      generalize isD leaf = b2 at *
      cases b1
      rotate_left
      cases b2
      rotate_left
      all_goals
        go_enter Tryz.func69, Tryz.ntmps69
        go_wp2_with (first | ((with_reducible refine (CL _).mono ?_); rintro e w' ⟨rfl, rfl⟩) | ((with_reducible refine CD.mono ?_); rintro e w' ⟨rfl, rfl⟩) | ((with_reducible refine (CI _).mono ?_); rintro e w' ⟨rfl, rfl⟩) | ((with_reducible refine CU.mono ?_); rintro e w2 ⟨rfl, hb2⟩))
        go_ret
        first
          | exact ⟨rfl, Below.refl _ _⟩
          | exact ⟨ret_bool (by simp [q]), hb2⟩
    · have c4 : ((p.length : Int) != ((lenF N N I : Nat) : Int)) = true := by rw [bne_iff_ne]; omega
      have c4' : (p.length != lenF N N I) = true := by rw [bne_iff_ne]; omega
      rw [decide_eq_false hlen]
      generalize lenF N N I = L at *
      clear hv hx hlen CD CI
      go_enter Tryz.func69, Tryz.ntmps69
      go_wp2_with ((with_reducible refine (CL _).mono ?_); rintro e w' ⟨rfl, rfl⟩)
      go_ret
      exact ⟨rfl, Below.refl _ _⟩
  · rw [show checkV root n i leaf p = false by unfold checkV; rw [if_neg (fun h => hA ⟨h.1, h.2.1, h.2.2.1⟩)]]
    have hh : (decide (1000000 < n) || (decide (i < 0) || decide (n ≤ i))) = true := by simp only [Bool.or_eq_true, decide_eq_true_eq]; omega
    clear hA hv hx
    generalize c1 : decide (1000000 < n) = b1 at *
    generalize c2 : decide (i < 0) = b2 at *
    generalize c3 : decide (n ≤ i) = b3 at *
    cases b1 <;> cases b2 <;> cases b3 <;> (try cases hh)
    all_goals
      go_enter Tryz.func69, Tryz.ntmps69
      go_wp2_with fail
      go_ret
      exact ⟨rfl, Below.refl _ _⟩
def beginsV (l p : List (List UInt8)) : Bool := decide (p.length ≤ l.length) && decide (l.take p.length = p)
set_option maxRecDepth 100000 in
set_option maxHeartbeats 1000000 in
theorem Begins_any (l p : List (List UInt8)) (hl : l.length ≤ 1000000000) (hp : p.length ≤ 1000000000) (v u : Value) (w : World) (hv : TextsAt w v l) (hu : TextsAt w u p) :
    Calls Tryz.prog 28 #[v, u] w fun e w' => e = .returned (.bool (beginsV l p)) ∧ Below w.heap.size w w' := by
  obtain ⟨A, c, rfl, hc⟩ := hv.slice
  obtain ⟨Ap, cp, rfl, hcp⟩ := hu.slice
  unfold beginsV
  by_cases h : p.length ≤ l.length
  · have CS := Same_any (l.take p.length) p (by rw [List.length_take]; omega) (by omega) _ _ w (hv.take h c (by omega)) hu
    rw [decide_eq_true h, Bool.true_and]
    generalize decide (l.take p.length = p) = r at *
    have e1 : decide ((p.length : Int) ≤ (l.length : Int)) = true := decide_eq_true (by omega)
    have e2 : decide (p.length ≤ l.length) = true := decide_eq_true h
    have i0 : (0 : Int) ≤ (p.length : Int) := by omega
    have i1 : (p.length : Int) ≤ (c : Int) := by omega
    clear hv hu h
    go_enter Tryz.func28, Tryz.ntmps28
    go_wp2_with ((with_reducible refine CS.mono ?_); rintro e w' ⟨rfl, hb⟩)
    go_ret
    exact ⟨ret_bool (by simp), hb⟩
  · have e1 : decide ((p.length : Int) ≤ (l.length : Int)) = false := decide_eq_false (by omega)
    have e2 : decide (p.length ≤ l.length) = false := decide_eq_false h
    rw [e2, Bool.false_and]
    clear hv hu h
    go_enter Tryz.func28, Tryz.ntmps28
    go_wp2_with fail
    go_ret
    exact ⟨rfl, Below.refl _ _⟩
end Go.Proofs.YtfhanbiifjiklaaGreatDoor

/- Walks of the reference: Formed; Shown. -/
set_option linter.unusedVariables false
set_option linter.unusedSimpArgs false
namespace Go.Proofs.YtfhanbiifjiklaaGreatDoor
open Go.RowKit

def okUp (p : Pg) (k : Nat) : Prop := ∀ (j : Nat) (h : j < p.items.length), j < k → okPart p.items[j] (p.paths.getD j []) = true
theorem okUp_step {p : Pg} {k : Nat} {x : List UInt8} {q : List (List UInt8)} (h : okUp p k) (hx : p.items[k]? = some x) (hq : p.paths[k]? = some q) (ho : okPart x q = true) : okUp p (k + 1) := fun j hj hk => by
  rcases Nat.lt_or_ge j k with h1 | h1
  · exact h j hj h1
  · obtain rfl : j = k := by omega
    rw [List.getElem?_eq_getElem hj] at hx
    rw [Option.some.inj hx, List.getD_eq_getElem?_getD, hq]; exact ho
theorem okUp_all {p : Pg} (h : headB p = true) (ho : okUp p p.items.length) : formedB p = true := by
  unfold formedB
  rw [h, Bool.true_and]
  exact List.all_eq_true.2 fun k _ => ho k k.2 k.2
theorem okUp_no {p : Pg} {k : Nat} {x : List UInt8} {q : List (List UInt8)} (hx : p.items[k]? = some x) (hq : p.paths[k]? = some q) (ho : okPart x q = false) : formedB p = false := by
  unfold formedB
  rw [Bool.and_eq_false_iff]
  right
  rw [List.all_eq_false]
  have hk := (List.getElem?_eq_some_iff.1 hx).1
  refine ⟨⟨k, hk⟩, List.mem_finRange _, ?_⟩
  unfold Pg.okAt
  rw [List.getElem?_eq_getElem hk] at hx
  show ¬ okPart p.items[k] _ = true
  rw [Option.some.inj hx, List.getD_eq_getElem?_getD, hq]
  show ¬ okPart x q = true
  rw [ho]; simp
theorem part_yes {x : List UInt8} {q : List (List UInt8)} (h1 : x.length ≤ 20000) (h2 : q.length ≤ 20) (h3 : q.all isD = true) : okPart x q = true := by
  unfold okPart pathB
  simp only [Bool.and_eq_true, Bool.not_eq_true', List.any_eq_false, decide_eq_true_eq]
  exact ⟨⟨fun y hy => by rw [List.all_eq_true.1 h3 y hy]; simp, h2⟩, h1⟩
theorem part_no {x : List UInt8} {q : List (List UInt8)} (h : 20000 < x.length ∨ 20 < q.length ∨ q.all isD = false) : okPart x q = false := by
  cases ho : okPart x q with
  | false => rfl
  | true =>
    obtain ⟨h1, h2, h3⟩ := okPart_spec ho
    rcases h with h | h | h
    · omega
    · omega
    · rw [List.all_eq_true.2 h1] at h; cases h
set_option maxRecDepth 100000 in
set_option maxHeartbeats 4000000 in
theorem rFormed_no (p : Pg) (hl : p.root.length ≤ 100000) (h : headB p = false) (vi vp : Value) (w : World) (hvi : TextsAt w vi p.items) (hvp : PathsAt w vp p.paths) :
    Calls Tryz.prog 58 #[.agg (p.cs vi vp)] w fun e w' => e = .returned (.bool false) ∧ Below w.heap.size w w' := by
  have CI := fun w' : World => rIs_any p.root (by omega) w'
  obtain ⟨Ai, ci, rfl, hci⟩ := hvi.slice
  obtain ⟨Ap, cp, rfl, hcp⟩ := hvp.slice
  rw [conds_of] at h
  unfold conds at h
  simp only [List.any_cons, List.any_nil, id, Bool.or_false, Bool.not_eq_false'] at h
  unfold Pg.cs
  clear hvi hvp
  generalize c1 : decide (p.fr < 0) = b1 at *
  generalize c2 : decide (10000 < p.fr) = b2 at *
  generalize c3 : decide (p.size < 0) = b3 at *
  generalize c4 : decide (10000 < p.size) = b4 at *
  obtain ⟨b5, c5⟩ : ∃ b, isD p.root = !b := ⟨!isD p.root, by simp⟩
  rw [c5] at CI h
  rw [Bool.not_not] at h
  generalize c6 : decide (50 < (p.items.length : Int)) = b6 at *
  obtain ⟨b7, c7⟩ : ∃ b, decide (p.paths.length = p.items.length) = !b := ⟨!decide (p.paths.length = p.items.length), by simp⟩
  rw [c7, Bool.not_not] at h
  have c8 : ((p.paths.length : Int) != (p.items.length : Int)) = b7 := by
    rw [show ((p.paths.length : Int) != (p.items.length : Int)) = !decide (p.paths.length = p.items.length) from congrArg not (decide_eq_decide.2 (by omega)), c7, Bool.not_not]
  cases b1
  cases b2
  cases b3
  cases b4
  cases b5
  cases b6
  cases b7
  · cases h
  all_goals (try simp only [Bool.not_false, Bool.not_true] at CI)
  all_goals (try simp only [Bool.not_false, Bool.not_true] at c7)
  all_goals
    go_enter Tryz.func58, Tryz.ntmps58
    go_wp2_with ((with_reducible refine (CI _).mono ?_); rintro e w2 ⟨rfl, rfl⟩)
    go_ret
    exact ⟨rfl, below_one _ _⟩
set_option maxRecDepth 100000 in
set_option maxHeartbeats 4000000 in
theorem rFormed_in (p : Pg) (hl : p.root.length ≤ 100000) (hi : ∀ x ∈ p.items, x.length ≤ 100000) (hq' : ∀ q ∈ p.paths, q.length ≤ 200000 ∧ ∀ x ∈ q, x.length ≤ 100000) (h : headB p = true) (vi vp : Value) (w : World) (hvi : TextsAt w vi p.items) (hvp : PathsAt w vp p.paths) :
    Calls Tryz.prog 58 #[.agg (p.cs vi vp)] w fun e w' => e = .returned (.bool (formedB p)) ∧ Below w.heap.size w w' := by
  have CI := fun w' : World => rIs_any p.root (by omega) w'
  have HYes := hide (okUp_all (p := p) h)
  have HI := hide hi
  have HQ := hide hq'
  have hh := h
  unfold headB at hh
  simp only [Bool.and_eq_true, decide_eq_true_eq] at hh
  obtain ⟨h1, h2, h3, h4, h5⟩ := hh
  rw [h3] at CI
  obtain ⟨Ai, ci, rfl, hci⟩ := hvi.slice
  obtain ⟨Ap, cp, rfl, hcp⟩ := hvp.slice
  have hb0 := below_one w (.cells #[.int .i64 p.fr, .int .i64 p.size, .string (bs p.root), .slice Ai p.items.length ci, .slice Ap p.paths.length cp] 25)
  have HVI := hide (hvi.to hb0)
  have HVP := hide (hvp.to hb0)
  have HB := hide hb0
  obtain ⟨x0, x1, x2, x3, x4⟩ := page_cells (Blk.new w 25 (p.cs (.slice Ai p.items.length ci) (.slice Ap p.paths.length cp)))
  unfold Pg.cs at x0 x1 x2 x3 x4 ⊢
  have c1 : decide (p.fr < 0) = false := decide_eq_false (by omega)
  have c2 : decide (10000 < p.fr) = false := decide_eq_false (by omega)
  have c3 : decide (p.size < 0) = false := decide_eq_false (by omega)
  have c4 : decide (10000 < p.size) = false := decide_eq_false (by omega)
  have c6 : decide (50 < (p.items.length : Int)) = false := decide_eq_false (by omega)
  have c6' : decide (50 < p.items.length) = false := decide_eq_false (by omega)
  have HPL : Hid (p.paths.length = p.items.length) := h5
  have c8 : ((p.paths.length : Int) != (p.items.length : Int)) = false := by rw [h5]; simp
  have c9 : (p.paths.length != p.items.length) = false := by rw [h5]; simp
  clear hvi hvp hi hq' h hb0 h1 h2 h3 h5
  go_enter Tryz.func58, Tryz.ntmps58
  go_wp2_with ((with_reducible refine (CI _).mono ?_); rintro e w2 ⟨rfl, e9⟩; subst e9)
  generalize w.alloc (.cells #[.int .i64 p.fr, .int .i64 p.size, .string (bs p.root), .slice Ai p.items.length ci, .slice Ap p.paths.length cp] 25) = w1 at *
  clear CI
  go_loopw [3] (fun i wr => ∃ k : Nat, i = .int .i64 (k : Int) ∧ k ≤ p.items.length ∧ wr = w1 ∧ Aside (okUp p k)) (fun i _ => p.items.length - (intOf i).toNat)
  case atStart => exact ⟨0, rfl, by omega, rfl, fun j _ h => absurd h (by omega)⟩
  case round =>
    obtain ⟨k, rfl, hk, rfl, hO⟩ := hrel
    have HO : Hid (okUp p k) := hO
    clear hO
    by_cases hlt : k < p.items.length
    · have e1 : decide ((k : Int) < (p.items.length : Int)) = true := decide_eq_true (by omega)
      obtain ⟨x, hx⟩ : ∃ x, p.items[k]? = some x := ⟨_, List.getElem?_eq_getElem hlt⟩
      obtain ⟨q, hq⟩ : ∃ q, p.paths[k]? = some q := ⟨_, List.getElem?_eq_getElem (by have := HPL.out; omega)⟩
      obtain ⟨a, rfl, ha, c0⟩ := HVI.out.at_ hx
      obtain ⟨b, vq, rfl, hb, d0, htq⟩ := HVP.out.at_ hq
      obtain ⟨Aq, cq, rfl, hcq⟩ := htq.slice
      have HTQ := hide htq
      have hxl := HI.out x (List.mem_of_getElem? hx)
      have hql := (HQ.out q (List.mem_of_getElem? hq)).1
      have HQX := hide (HQ.out q (List.mem_of_getElem? hq)).2
      have hsz : (bs x).size = x.length := bs_size x
      have i0 : (0 : Int) ≤ (k : Int) := by omega
      have i1 : (k : Int) < (p.items.length : Int) := by omega
      have i2 : (k : Int) < (p.paths.length : Int) := by have := HPL.out; omega
      have HST := hide (okUp_step HO.out hx hq)
      have HNO := hide (okUp_no hx hq)
      clear hx hq htq
      by_cases hx2 : x.length ≤ 20000
      · have f1 : decide ((20000 : Int) < (x.length : Int)) = false := decide_eq_false (by omega)
        have f1' : decide (20000 < x.length) = false := decide_eq_false (by omega)
        by_cases hq2 : q.length ≤ 20
        · have f2 : decide ((20 : Int) < (q.length : Int)) = false := decide_eq_false (by omega)
          have f2' : decide (20 < q.length) = false := decide_eq_false (by omega)
          go_wp2_with fail
          go_loopw [4] (fun i wq => ∃ j : Nat, i = .int .i64 (j : Int) ∧ j ≤ q.length ∧ wq = wr ∧ Aside ((q.take j).all isD = true)) (fun i _ => q.length - (intOf i).toNat)
          case atStart => exact ⟨0, rfl, by omega, rfl, rfl⟩
          case round =>
            rename_i wr0
            obtain ⟨j, rfl, hj, hww, hA⟩ := hrel
            subst hww
            have HA : Hid ((q.take j).all isD = true) := hA
            clear hA
            by_cases hjl : j < q.length
            · have g1 : decide ((j : Int) < (q.length : Int)) = true := decide_eq_true (by omega)
              obtain ⟨y, hy⟩ : ∃ y, q[j]? = some y := ⟨_, List.getElem?_eq_getElem hjl⟩
              obtain ⟨aq, rfl, haq, y0⟩ := HTQ.out.at_ hy
              have j0 : (0 : Int) ≤ (j : Int) := by omega
              have j1 : (j : Int) < (q.length : Int) := by omega
              have CY := fun w => rIs_any y (Nat.le_trans (HQX.out y (List.mem_of_getElem? hy)) (by decide)) w
              cases hd : isD y with
              | true =>
                have HN : Hid ((q.take (j + 1)).all isD = true) := by show _ = _; rw [all_step hy, HA.out, hd]; rfl
                rw [hd] at CY
                clear hy hd
                go_wp2_with ((with_reducible refine (CY _).mono ?_); rintro e w9 ⟨rfl, e9⟩; subst e9)
                refine ⟨⟨j + 1, by go_num, by omega, trivial, HN.out⟩, ?_⟩
                simp [intOf]; omega
              | false =>
                have HN : Hid (formedB p = false) := HNO.out (part_no (.inr (.inr (all_no hy hd))))
                rw [hd] at CY
                clear hy hd
                go_wp2_with ((with_reducible refine (CY _).mono ?_); rintro e w9 ⟨rfl, e9⟩; subst e9)
                go_ret
                exact ⟨ret_bool (by rw [HN.out]), HB.out⟩
            · obtain rfl : j = q.length := by omega
              have g1 : decide ((q.length : Int) < (q.length : Int)) = false := by simp
              have HN : Hid (okUp p (k + 1)) := HST.out (part_yes hx2 hq2 (by have := HA.out; rwa [List.take_length] at this))
              go_wp2_with fail
              refine ⟨⟨k + 1, by go_num, by omega, trivial, HN.out⟩, ?_⟩
              simp [intOf]; omega
        · have f2 : decide ((20 : Int) < (q.length : Int)) = true := decide_eq_true (by omega)
          have f2' : decide (20 < q.length) = true := decide_eq_true (by omega)
          have HN : Hid (formedB p = false) := HNO.out (part_no (.inr (.inl (by omega))))
          go_wp2_with fail
          go_ret
          exact ⟨ret_bool (by rw [HN.out]), HB.out⟩
      · have f1 : decide ((20000 : Int) < (x.length : Int)) = true := decide_eq_true (by omega)
        have f1' : decide (20000 < x.length) = true := decide_eq_true (by omega)
        have HN : Hid (formedB p = false) := HNO.out (part_no (.inl (by omega)))
        go_wp2_with fail
        go_ret
        exact ⟨ret_bool (by rw [HN.out]), HB.out⟩
    · obtain rfl : k = p.items.length := by omega
      have e1 : decide ((p.items.length : Int) < (p.items.length : Int)) = false := by simp
      have HN := hide (HYes.out HO.out)
      go_wp2_with fail
      go_ret
      exact ⟨ret_bool (by rw [HN.out]), HB.out⟩
theorem rFormed_any (p : Pg) (hp : p.fit) (vi vp : Value) (w : World) (hvi : TextsAt w vi p.items) (hvp : PathsAt w vp p.paths) :
    Calls Tryz.prog 58 #[.agg (p.cs vi vp)] w fun e w' => e = .returned (.bool (formedB p)) ∧ Below w.heap.size w w' := by
  cases h : headB p with
  | true => exact rFormed_in p hp.lr hp.li (fun q hq => ⟨hp.nq q hq, hp.lq q hq⟩) h vi vp w hvi hvp
  | false => rw [show formedB p = false by unfold formedB; rw [h]; rfl]; exact rFormed_no p hp.lr h vi vp w hvi hvp
end Go.Proofs.YtfhanbiifjiklaaGreatDoor

/- The walk of the reference's Shown at a list that shows it. -/
set_option linter.unusedVariables false
set_option linter.unusedSimpArgs false
namespace Go.Proofs.YtfhanbiifjiklaaGreatDoor
open Go.RowKit

/-- two different texts of the list have one digest -/
def CollIn (l : List (List UInt8)) : Prop := Coll l l
def hitAt (l : List (List UInt8)) (i k : Nat) : Prop := ∃ x y, l[i]? = some x ∧ l[k]? = some y ∧ sumD x = sumD y ∧ x ≠ y
theorem coll_hit {l : List (List UInt8)} (h : CollIn l) : ∃ i k, k < i ∧ i < l.length ∧ hitAt l i k := by
  obtain ⟨s, hs, t, ht, hne, hd⟩ := h
  obtain ⟨a, ha, rfl⟩ := List.getElem_of_mem hs
  obtain ⟨b, hb, rfl⟩ := List.getElem_of_mem ht
  rcases Nat.lt_trichotomy a b with h | h | h
  · exact ⟨b, a, h, hb, _, _, List.getElem?_eq_getElem hb, List.getElem?_eq_getElem ha, hd.symm, fun e => hne e.symm⟩
  · subst h; exact absurd rfl hne
  · exact ⟨a, b, h, ha, _, _, List.getElem?_eq_getElem ha, List.getElem?_eq_getElem hb, hd, hne⟩
def noHit (l : List (List UInt8)) (i : Nat) : Prop := ∀ i', i' < i → ∀ k, k < i' → ¬ hitAt l i' k
def noHit2 (l : List (List UInt8)) (i k : Nat) : Prop := ∀ k', k' < k → ¬ hitAt l i k'
set_option maxRecDepth 100000 in
set_option maxHeartbeats 4000000 in
theorem Shown_yes (l : List (List UInt8)) (hn : l.length ≤ 1000000) (hx : ∀ x ∈ l, x.length ≤ 1000000) (h : CollIn l) (v : Value) (w : World) (hv : TextsAt w v l) :
    Calls Tryz.prog 29 #[v] w fun e w' => e = .returned (.bool true) ∧ Below w.heap.size w w' := by
  have HH := hide (coll_hit h)
  obtain ⟨A, c, rfl, _⟩ := hv.slice
  have HS := hide hv
  have HX := hide hx
  obtain ⟨i0, hi0, hz0, hz1, hz2⟩ := info_parts info_str
  clear hv hx h
  go_enter Tryz.func29, Tryz.ntmps29
  go_wp2_with fail
  go_loopw [3, 4] (fun o i wr => ∃ k : Nat, i = .int .i64 (k : Int) ∧ k ≤ l.length ∧ Aside (OwnT wr w.heap.size o ((l.map sumD).take k)) ∧ Aside (Below w.heap.size w wr)) (fun _ i _ => l.length - (intOf i).toNat)
  case atStart => exact ⟨0, rfl, by omega, World.ownsRow_nil _ _ _ _, Below.refl _ _⟩
  case round =>
    obtain ⟨k, rfl, hk, hO, hB⟩ := hrel
    have HO : Hid (OwnT wr w.heap.size _ ((l.map sumD).take k)) := hO
    have HB : Hid (Below w.heap.size w wr) := hB
    have htl : ((l.map sumD).take k).length = k := by rw [List.length_take, List.length_map]; omega
    obtain ⟨Ao, co, rfl⟩ := own_sl4 hO
    clear hO hB
    rw [htl] at HO ⊢
    by_cases hlt : k < l.length
    · have e1 : decide ((k : Int) < (l.length : Int)) = true := decide_eq_true (by omega)
      obtain ⟨x, hx⟩ : ∃ x, l[k]? = some x := ⟨_, List.getElem?_eq_getElem hlt⟩
      obtain ⟨a, rfl, ha, c0⟩ := (HS.out.to HB.out).at_ hx
      have hxl := HX.out x (List.mem_of_getElem? hx)
      have CL := fun w => rSum_any x (by omega) w
      have HSN : Hid ((l.map sumD).take (k + 1) = (l.map sumD).take k ++ [sumD x]) := by show _ = _; rw [List.take_add_one, List.getElem?_map, hx]; rfl
      have HO1 : Hid (wr.ownsRow w.heap.size 9 1 (.slice Ao k co) k (flatS ((l.map sumD).take k))) := by
        have := HO.out
        unfold OwnT at this
        rw [htl] at this
        exact this
      have HSZ : Hid (w.heap.size ≤ wr.heap.size) := HB.out.size
      generalize sumD x = d at *
      generalize (l.map sumD).take k = L at *
      clear hx HO
      go_wp2_with (first | ((with_reducible refine (CL _).mono ?_); rintro e w4 ⟨rfl, e9⟩; subst e9) | (at_builtin; refine wpList_append_own _ rfl (.tmp 13) (.tmp 19) _ rfl w.heap.size 9 i0 (.string ⟨#[]⟩) 1 16 Tryz.underlying22 hi0 hz0 hz1 hz2 rfl (by omega) _ k (flatS L) rfl ?c0 ⟨_, 0, none⟩ 1 1 [.string (bs d)] rfl rfl ?c1 ?c2 ?c4 ?c5 ?c3 ?_))
      case c0 => exact own_to4 HO1.out (below_one _ _)
      case c1 => exact cells_new4 (xs := [.string (bs d)]) (by simp)
      case c2 => intro u hu; simp only [List.mem_cons, List.not_mem_nil, or_false] at hu; rcases hu with rfl; rfl
      case c4 => simp only [maxLen]; omega
      case c5 => omega
      case c3 => have := HSZ.out; simp; omega
      intro v' w6 hown6 hgr6 _
      have HB6 := hide ((below_alloc HB.out (Nat.le_refl _) _).grown hgr6 (by have := HSZ.out; simp; omega) (fun b hb => (HO1.out.lt b hb).1))
      have HO6 : Hid (OwnT w6 w.heap.size v' ((l.map sumD).take (k + 1))) := by
        rw [HSN.out]
        show World.ownsRow _ _ _ _ _ _ _
        rw [flatS_snoc, List.length_append, htl]
        exact hown6
      clear hown6 hgr6
      go_wp2_with fail
      refine ⟨⟨k + 1, by go_num, by omega, HO6.out, HB6.out⟩, ?_⟩
      simp [intOf]; omega
    · obtain rfl : k = l.length := by omega
      have e1 : decide ((l.length : Int) < (l.length : Int)) = false := by simp
      have HT : Hid (TextsAt wr (.slice Ao l.length co) (l.map sumD)) := by
        have := TextsAt.of_own HO.out
        rwa [List.take_of_length_le (by simp)] at this
      clear HO hlt hk htl
      go_wp2_with fail
      generalize wr = w1 at *
      go_loopw [5] (fun i wr => ∃ k : Nat, i = .int .i64 (k : Int) ∧ k ≤ l.length ∧ Aside (noHit l k) ∧ Aside (Below w1.heap.size w1 wr)) (fun i _ => l.length - (intOf i).toNat)
      case atStart => exact ⟨0, rfl, by omega, fun i' h => absurd h (by omega), Below.refl _ _⟩
      case round =>
        obtain ⟨i, rfl, hi, hN, hB⟩ := hrel
        have HN : Hid (noHit l i) := hN
        have HBi : Hid (Below w1.heap.size w1 wr) := hB
        clear hN hB
        by_cases hlt : i < l.length
        · have e2 : decide ((i : Int) < (l.length : Int)) = true := decide_eq_true (by omega)
          obtain ⟨x, hx⟩ : ∃ x, l[i]? = some x := ⟨_, List.getElem?_eq_getElem hlt⟩
          have hxs : (l.map sumD)[i]? = some (sumD x) := by rw [List.getElem?_map, hx]; rfl
          go_wp2_with fail
          generalize wr = w2 at *
          go_loopw [6] (fun k wr => ∃ m : Nat, k = .int .i64 (m : Int) ∧ m ≤ i ∧ Aside (noHit2 l i m) ∧ Aside (Below w2.heap.size w2 wr)) (fun k _ => i - (intOf k).toNat)
          case atStart => exact ⟨0, rfl, by omega, fun i' h => absurd h (by omega), Below.refl _ _⟩
          case round =>
            obtain ⟨m, rfl, hm, hN, hB⟩ := hrel
            have HN2 : Hid (noHit2 l i m) := hN
            have HBw : Hid (Below w2.heap.size w2 wr) := hB
            have HBm : Hid (Below w1.heap.size w1 wr) := below_to HBi.out (Nat.le_refl _) hB
            clear hN hB
            by_cases hmi : m < i
            · have e3 : decide ((m : Int) < (i : Int)) = true := decide_eq_true (by omega)
              have e3' : decide (m < i) = true := decide_eq_true hmi
              obtain ⟨y, hy⟩ : ∃ y, l[m]? = some y := ⟨_, List.getElem?_eq_getElem (by omega)⟩
              have hys : (l.map sumD)[m]? = some (sumD y) := by rw [List.getElem?_map, hy]; rfl
              obtain ⟨a1, e9, _, x0⟩ := (HS.out.to (below_to HB.out (Nat.le_refl _) HBm.out)).at_ hx
              obtain ⟨a2, e8, _, y0⟩ := (HS.out.to (below_to HB.out (Nat.le_refl _) HBm.out)).at_ hy
              obtain ⟨a3, e7, _, x1⟩ := (HT.out.to HBm.out).at_ hxs
              obtain ⟨a4, e6, _, y1⟩ := (HT.out.to HBm.out).at_ hys
              subst e9
              obtain rfl := Option.some.inj e8
              subst e7
              obtain rfl := Option.some.inj e6
              clear e8 e6
              have j0 : (0 : Int) ≤ (i : Int) := by omega
              have j1 : (i : Int) < (l.length : Int) := by omega
              have j2 : (0 : Int) ≤ (m : Int) := by omega
              have j3 : (m : Int) < (l.length : Int) := by omega
              by_cases hd : sumD x = sumD y
              · have q1 : ((bs (sumD x)).toList == (bs (sumD y)).toList) = true := by rw [bs_toList, bs_toList, hd]; simp
                by_cases hxy : x = y
                · have q2 : ((bs x).toList == (bs y).toList) = true := by rw [hxy]; simp
                  have HN3 : Hid (noHit2 l i (m + 1)) := fun k' hk' hh => by
                    rcases Nat.lt_or_ge k' m with h1 | h1
                    · exact HN2.out k' h1 hh
                    · obtain rfl : k' = m := by omega
                      obtain ⟨x', y', h2, h3, h4, h5⟩ := hh
                      rw [hx] at h2; rw [hy] at h3
                      exact h5 ((Option.some.inj h2).symm.trans (hxy.trans (Option.some.inj h3)))
                  clear hx hy hxs hys hd hxy
                  go_wp2_with fail
                  go_quiet (fail)
                  go_wp2_with fail
                  all_goals first
                    | exact ⟨⟨m + 1, by go_num, by omega, HN3.out, below_drewN HBw.out _⟩, by simp [intOf]; omega⟩
                    | trace_state
                · have q2 : ((bs x).toList == (bs y).toList) = false := by rw [beq_eq_false_iff_ne, bs_toList, bs_toList]; exact hxy
                  clear hx hy hxs hys hd hxy
                  go_wp2_with fail
                  go_quiet (fail)
                  go_wp2_with fail
                  go_ret
                  exact ⟨rfl, below_drewN (below_to HB.out (Nat.le_refl _) HBm.out) _⟩
              · have q1 : ((bs (sumD x)).toList == (bs (sumD y)).toList) = false := by rw [beq_eq_false_iff_ne, bs_toList, bs_toList]; exact hd
                have HN3 : Hid (noHit2 l i (m + 1)) := fun k' hk' hh => by
                  rcases Nat.lt_or_ge k' m with h1 | h1
                  · exact HN2.out k' h1 hh
                  · obtain rfl : k' = m := by omega
                    obtain ⟨x', y', h2, h3, h4, h5⟩ := hh
                    rw [hx] at h2; rw [hy] at h3
                    rw [← Option.some.inj h2, ← Option.some.inj h3] at h4
                    exact hd h4
                clear hx hy hxs hys hd
                go_wp2_with fail
                go_quiet (fail)
                go_wp2_with fail
                all_goals first
                  | exact ⟨⟨m + 1, by go_num, by omega, HN3.out, below_drewN HBw.out _⟩, by simp [intOf]; omega⟩
                  | trace_state
            · obtain rfl : m = i := by omega
              have e3 : decide ((m : Int) < (m : Int)) = false := by simp
              have HN4 : Hid (noHit l (m + 1)) := fun i' hi' k' hk' hh => by
                rcases Nat.lt_or_ge i' m with h1 | h1
                · exact HN.out i' h1 k' hk' hh
                · obtain rfl : i' = m := by omega
                  exact HN2.out k' hk' hh
              go_wp2_with fail
              refine ⟨⟨m + 1, by go_num, by omega, HN4.out, HBm.out⟩, ?_⟩
              simp [intOf]; omega
        · obtain rfl : i = l.length := by omega
          obtain ⟨i', k', h1, h2, h3⟩ := HH.out
          exact absurd h3 (HN.out i' h2 k' h1)
end Go.Proofs.YtfhanbiifjiklaaGreatDoor
