/- Walks of package privacy: mapped, at its instances; of what the function yields without a trace in older memory. -/
import Derived.Test.YtdiebacfbhjbdaaGreatDoorN7
import Derived.Shelf.GgClosure.Gives
set_option linter.unusedVariables false
set_option linter.unusedSimpArgs false
namespace Go.Proofs.YtdiebacfbhjbdaaGreatDoor
open Go.RowKit

def mapP {α β : Type} (f : α → β) (p : α → Bool) (l : List α) : List β := (l.filter p).map f
theorem mapP_snoc {α β : Type} (f : α → β) (p : α → Bool) {l : List α} {k : Nat} {x : α} (h : l[k]? = some x) : mapP f p (l.take (k + 1)) = if p x then mapP f p (l.take k) ++ [f x] else mapP f p (l.take k) := by
  unfold mapP
  rw [List.take_add_one, h]
  simp only [Option.toList_some, List.filter_append, List.map_append]
  cases hp : p x <;> simp [hp]
theorem mapP_len {α β : Type} (f : α → β) (p : α → Bool) (l : List α) : (mapP f p l).length ≤ l.length := by
  unfold mapP
  rw [List.length_map]
  exact List.length_filter_le _ _
theorem cells_new {W : World} {xs : List Value} {ty : TypeId} {b : Nat} (hb : b = W.heap.size) : ∀ (j : Nat) (u : Value), xs[j]? = some u → (W.alloc (.cells xs.toArray ty)).cell? ((⟨b, 0, none⟩ : Addr).add j) = some u := by
  subst hb
  intro j u hu
  rw [show (⟨W.heap.size, 0, none⟩ : Addr).add j = ⟨W.heap.size, j, none⟩ by unfold Addr.add; split <;> simp_all]
  refine ((Blk.new W ty xs.toArray).cell j).trans ?_
  simpa using hu
/-- an order -/
structure Od where
  i : List UInt8
  p : List UInt8
  f : List UInt8
  t : List UInt8
  a : Int
  b : Int
def odV (o : Od) : List Value := [.string (bs o.i), .string (bs o.p), .string (bs o.f), .string (bs o.t), .int .i64 o.a, .int .i64 o.b]
def OdsAt (w : World) (v : Value) (l : List Od) : Prop := RowsAt w 6 v (l.map odV)
theorem OdsAt.to {w w' : World} {v : Value} {log : List Od} (h : OdsAt w v log) (hb : Below w.heap.size w w') : OdsAt w' v log := RowsAt.to h hb
theorem OdsAt.slice {w : World} {v : Value} {log : List Od} (h : OdsAt w v log) : ∃ A c, v = .slice A log.length c := by
  obtain ⟨A, c, h1, _⟩ := h
  exact ⟨A, c, by rw [h1, List.length_map]⟩
theorem OdsAt.at_ {w : World} {A : Option Addr} {n c : Nat} {log : List Od} (h : OdsAt w (.slice A n c) log) {k : Nat} {l : Od} (hl : log[k]? = some l) : ∃ a, A = some a ∧ a.block < w.heap.size ∧
    w.cell? (a.add (k * 6)) = some (.string (bs l.i)) ∧ w.cell? ⟨(a.add (k * 6)).block, (a.add (k * 6)).off + 1, none⟩ = some (.string (bs l.p)) ∧ w.cell? ⟨(a.add (k * 6)).block, (a.add (k * 6)).off + 2, none⟩ = some (.string (bs l.f)) ∧ w.cell? ⟨(a.add (k * 6)).block, (a.add (k * 6)).off + 3, none⟩ = some (.string (bs l.t)) ∧ w.cell? ⟨(a.add (k * 6)).block, (a.add (k * 6)).off + 4, none⟩ = some (.int .i64 l.a) ∧ w.cell? ⟨(a.add (k * 6)).block, (a.add (k * 6)).off + 5, none⟩ = some (.int .i64 l.b) := by
  obtain ⟨a, c', h1, _, h3, _, h5⟩ := RowsAt.at_ h (k := k) (x := odV l) (by rw [List.getElem?_map, hl]; rfl)
  injection h1 with e1
  refine ⟨a, e1, h3, ?_, h5 1 _ rfl, h5 2 _ rfl, h5 3 _ rfl, h5 4 _ rfl, h5 5 _ rfl⟩
  have := h5 0 _ rfl
  rwa [show (a.add (k * 6)).add 0 = a.add (k * 6) by rw [add_of_add, Nat.add_zero]] at this

set_option maxRecDepth 100000 in
set_option maxHeartbeats 4000000 in
theorem mLs0_any (K : FuncId) (hE : ∀ args w, (callFunc K args).run Tryz.prog w = .ok (.enter K args) w) (f : Ln → List UInt8) (p : Ln → Bool) (log : List Ln) (hl : log.length ≤ 1000000000) (v : Value) (w : World) (hv : LnsAt w v log)
    (hF : ∀ l ∈ log, ∀ w', Below w.heap.size w w' → Calls Tryz.prog K #[.agg #[.string (bs l.p), .string (bs l.t), .string (bs l.s), .string (bs l.d)]] w' fun e w'' => e = .returned (.tuple #[.string (bs (f l)), .bool (p l)]) ∧ Below w'.heap.size w' w'') :
    Calls Tryz.prog 41 #[v, .func (.func K) #[] #[]] w fun e w' => ∃ v', e = .returned v' ∧ RowsAt w' 1 v' ((mapP f p log).map strV) ∧ Below w.heap.size w w' := by
  obtain ⟨A, c, rfl⟩ := hv.slice
  have HS := hide hv
  have HF := hide hF
  obtain ⟨i0, hi0, hz0, hz1, hz2⟩ := info_parts (show (Tryz.prog.info? 9).map (fun i => (i.zero, i.size, i.bytes)) = some (some (.string ⟨#[]⟩), 1, 16) by kernel_rfl)
  clear hv hF
  go_enter Tryz.func41, Tryz.ntmps41
  go_wp2_with fail
  go_loopw [5, 7, 8, 9, 12] (fun out _ _ _ i wr => ∃ k : Nat, i = .int .i64 (k : Int) ∧ k ≤ log.length ∧ Aside (Below w.heap.size w wr) ∧ Aside (wr.ownsRow w.heap.size 9 1 out (mapP f p (log.take k)).length ((mapP f p (log.take k)).map strV).flatten)) (fun _ _ _ _ i _ => log.length - (intOf i).toNat)
  case atStart => exact ⟨0, rfl, by omega, Below.refl _ _, World.ownsRow_nil _ _ _ _⟩
  case round =>
    obtain ⟨k, rfl, hk, hB, hO⟩ := hrel
    have HB : Hid (Below w.heap.size w wr) := hB
    have HO : Hid (wr.ownsRow w.heap.size 9 1 _ (mapP f p (log.take k)).length ((mapP f p (log.take k)).map strV).flatten) := hO
    clear hB hO
    by_cases hlt : k < log.length
    · have e1 : decide ((k : Int) < (log.length : Int)) = true := decide_eq_true (by omega)
      obtain ⟨l, hl'⟩ : ∃ l, log[k]? = some l := ⟨_, List.getElem?_eq_getElem hlt⟩
      obtain ⟨a, rfl, ha, c0, c1, c2, c3⟩ := LnsAt.at_ (HS.out.to HB.out) hl'
      have HW := hide (below_alloc HB.out (Nat.le_refl _) (.cells #[.string (bs l.p), .string (bs l.t), .string (bs l.s), .string (bs l.d)] 32))
      have CV := HF.out l (List.mem_of_getElem? hl') (wr.alloc (.cells #[.string (bs l.p), .string (bs l.t), .string (bs l.s), .string (bs l.d)] 32)) HW.out
      have HT := hide (mapP_snoc f p hl')
      have HLE : (mapP f p (log.take k)).length ≤ k := Nat.le_trans (mapP_len f p _) (List.length_take_le _ _)
      clear hl'
      cases hp : p l with
      | true =>
        rw [hp] at CV HT
        clear hp
        go_wp2_with (first | ((with_reducible refine CV.mono ?_); rintro e w4 ⟨rfl, hb4⟩) | (at_builtin; refine wpList_append_own _ rfl (.tmp 23) (.tmp 25) _ rfl w.heap.size 9 i0 (.string ⟨#[]⟩) 1 16 Tryz.underlying34 hi0 hz0 hz1 hz2 rfl (by omega) _ (mapP f p (log.take k)).length ((mapP f p (log.take k)).map strV).flatten rfl ?c0 ⟨_, 0, none⟩ 1 1 [.string (bs (f l))] rfl rfl ?c1 ?c2 ?c4 ?c5 ?c3 ?_))
        case c0 => exact own_to' (own_to' (own_to' HO.out (below_one wr _)) (by assumption)) (below_one _ _)
        case c1 => exact cells_new (by simp)
        case c2 => intro u hu; simp only [List.mem_cons, List.not_mem_nil, or_false] at hu; rcases hu with rfl <;> rfl
        case c4 => simp only [maxLen]; omega
        case c5 => omega
        case c3 => have := HW.out.size; have := (by assumption : Below _ _ w4).size; simp at *; omega
        · intro v' w6 hown6 hgr6 _
          have HB6 := hide ((below_alloc (below_to HW.out (Nat.le_refl _) (by assumption)) (Nat.le_refl _) (.cells #[.string (bs (f l))] 9)).grown hgr6 (by have := HW.out.size; have := (by assumption : Below _ _ w4).size; simp at *; omega) (fun b hb => (HO.out.lt b hb).1))
          have HO6 : Hid (w6.ownsRow w.heap.size 9 1 v' (mapP f p (log.take (k + 1))).length ((mapP f p (log.take (k + 1))).map strV).flatten) := by
            show World.ownsRow _ _ _ _ _ _ _
            rw [HT.out]
            simpa [strV] using hown6
          clear hown6 hgr6
          go_wp2_with fail
          refine ⟨⟨k + 1, by go_num, by omega, HB6.out, HO6.out⟩, ?_⟩
          simp [intOf]; omega
      | false =>
        rw [hp] at CV HT
        clear hp
        go_wp2_with ((with_reducible refine CV.mono ?_); rintro e w4 ⟨rfl, hb4⟩)
        refine ⟨⟨k + 1, by go_num, by omega, below_to HW.out (Nat.le_refl _) (by assumption), ?_⟩, ?_⟩
        · rw [HT.out]
          exact own_to' (own_to' HO.out (below_one wr _)) (by assumption)
        · simp [intOf]; omega
    · obtain rfl : k = log.length := by omega
      have e1 : decide ((log.length : Int) < (log.length : Int)) = false := by simp
      rw [List.take_length] at HO
      go_wp2_with fail
      go_ret
      exact ⟨_, rfl, RowsAt.of_own (by simp [strV]) (by rw [List.length_map]; exact HO.out), HB.out⟩

set_option maxRecDepth 100000 in
set_option maxHeartbeats 4000000 in
theorem mLs1_any (K : FuncId) (hE : ∀ args w, (callFunc K args).run Tryz.prog w = .ok (.enter K args) w) (f : Ln → List UInt8) (p : Ln → Bool) (pb : Nat) (log : List Ln) (hl : log.length ≤ 1000000000) (v : Value) (w : World) (hv : LnsAt w v log)
    (hF : ∀ l ∈ log, ∀ w', Below w.heap.size w w' → Calls Tryz.prog K #[.agg #[.string (bs l.p), .string (bs l.t), .string (bs l.s), .string (bs l.d)], .pointer (some ⟨pb, 0, none⟩)] w' fun e w'' => e = .returned (.tuple #[.string (bs (f l)), .bool (p l)]) ∧ Below w'.heap.size w' w'') :
    Calls Tryz.prog 41 #[v, .func (.func K) #[] #[.pointer (some ⟨pb, 0, none⟩)]] w fun e w' => ∃ v', e = .returned v' ∧ RowsAt w' 1 v' ((mapP f p log).map strV) ∧ Below w.heap.size w w' := by
  obtain ⟨A, c, rfl⟩ := hv.slice
  have HS := hide hv
  have HF := hide hF
  obtain ⟨i0, hi0, hz0, hz1, hz2⟩ := info_parts (show (Tryz.prog.info? 9).map (fun i => (i.zero, i.size, i.bytes)) = some (some (.string ⟨#[]⟩), 1, 16) by kernel_rfl)
  clear hv hF
  go_enter Tryz.func41, Tryz.ntmps41
  go_wp2_with fail
  go_loopw [5, 7, 8, 9, 12] (fun out _ _ _ i wr => ∃ k : Nat, i = .int .i64 (k : Int) ∧ k ≤ log.length ∧ Aside (Below w.heap.size w wr) ∧ Aside (wr.ownsRow w.heap.size 9 1 out (mapP f p (log.take k)).length ((mapP f p (log.take k)).map strV).flatten)) (fun _ _ _ _ i _ => log.length - (intOf i).toNat)
  case atStart => exact ⟨0, rfl, by omega, Below.refl _ _, World.ownsRow_nil _ _ _ _⟩
  case round =>
    obtain ⟨k, rfl, hk, hB, hO⟩ := hrel
    have HB : Hid (Below w.heap.size w wr) := hB
    have HO : Hid (wr.ownsRow w.heap.size 9 1 _ (mapP f p (log.take k)).length ((mapP f p (log.take k)).map strV).flatten) := hO
    clear hB hO
    by_cases hlt : k < log.length
    · have e1 : decide ((k : Int) < (log.length : Int)) = true := decide_eq_true (by omega)
      obtain ⟨l, hl'⟩ : ∃ l, log[k]? = some l := ⟨_, List.getElem?_eq_getElem hlt⟩
      obtain ⟨a, rfl, ha, c0, c1, c2, c3⟩ := LnsAt.at_ (HS.out.to HB.out) hl'
      have HW := hide (below_alloc HB.out (Nat.le_refl _) (.cells #[.string (bs l.p), .string (bs l.t), .string (bs l.s), .string (bs l.d)] 32))
      have CV := HF.out l (List.mem_of_getElem? hl') (wr.alloc (.cells #[.string (bs l.p), .string (bs l.t), .string (bs l.s), .string (bs l.d)] 32)) HW.out
      have HT := hide (mapP_snoc f p hl')
      have HLE : (mapP f p (log.take k)).length ≤ k := Nat.le_trans (mapP_len f p _) (List.length_take_le _ _)
      clear hl'
      cases hp : p l with
      | true =>
        rw [hp] at CV HT
        clear hp
        go_wp2_with (first | ((with_reducible refine CV.mono ?_); rintro e w4 ⟨rfl, hb4⟩) | (at_builtin; refine wpList_append_own _ rfl (.tmp 23) (.tmp 25) _ rfl w.heap.size 9 i0 (.string ⟨#[]⟩) 1 16 Tryz.underlying34 hi0 hz0 hz1 hz2 rfl (by omega) _ (mapP f p (log.take k)).length ((mapP f p (log.take k)).map strV).flatten rfl ?c0 ⟨_, 0, none⟩ 1 1 [.string (bs (f l))] rfl rfl ?c1 ?c2 ?c4 ?c5 ?c3 ?_))
        case c0 => exact own_to' (own_to' (own_to' HO.out (below_one wr _)) (by assumption)) (below_one _ _)
        case c1 => exact cells_new (by simp)
        case c2 => intro u hu; simp only [List.mem_cons, List.not_mem_nil, or_false] at hu; rcases hu with rfl <;> rfl
        case c4 => simp only [maxLen]; omega
        case c5 => omega
        case c3 => have := HW.out.size; have := (by assumption : Below _ _ w4).size; simp at *; omega
        · intro v' w6 hown6 hgr6 _
          have HB6 := hide ((below_alloc (below_to HW.out (Nat.le_refl _) (by assumption)) (Nat.le_refl _) (.cells #[.string (bs (f l))] 9)).grown hgr6 (by have := HW.out.size; have := (by assumption : Below _ _ w4).size; simp at *; omega) (fun b hb => (HO.out.lt b hb).1))
          have HO6 : Hid (w6.ownsRow w.heap.size 9 1 v' (mapP f p (log.take (k + 1))).length ((mapP f p (log.take (k + 1))).map strV).flatten) := by
            show World.ownsRow _ _ _ _ _ _ _
            rw [HT.out]
            simpa [strV] using hown6
          clear hown6 hgr6
          go_wp2_with fail
          refine ⟨⟨k + 1, by go_num, by omega, HB6.out, HO6.out⟩, ?_⟩
          simp [intOf]; omega
      | false =>
        rw [hp] at CV HT
        clear hp
        go_wp2_with ((with_reducible refine CV.mono ?_); rintro e w4 ⟨rfl, hb4⟩)
        refine ⟨⟨k + 1, by go_num, by omega, below_to HW.out (Nat.le_refl _) (by assumption), ?_⟩, ?_⟩
        · rw [HT.out]
          exact own_to' (own_to' HO.out (below_one wr _)) (by assumption)
        · simp [intOf]; omega
    · obtain rfl : k = log.length := by omega
      have e1 : decide ((log.length : Int) < (log.length : Int)) = false := by simp
      rw [List.take_length] at HO
      go_wp2_with fail
      go_ret
      exact ⟨_, rfl, RowsAt.of_own (by simp [strV]) (by rw [List.length_map]; exact HO.out), HB.out⟩

set_option maxRecDepth 100000 in
set_option maxHeartbeats 4000000 in
theorem mOO_any (K : FuncId) (hE : ∀ args w, (callFunc K args).run Tryz.prog w = .ok (.enter K args) w) (f : Od → Od) (p : Od → Bool) (pb : Nat) (log : List Od) (hl : log.length ≤ 1000000000) (v : Value) (w : World) (hv : OdsAt w v log)
    (hF : ∀ l ∈ log, ∀ w', Below w.heap.size w w' → Calls Tryz.prog K #[.agg #[.string (bs l.i), .string (bs l.p), .string (bs l.f), .string (bs l.t), .int .i64 l.a, .int .i64 l.b], .pointer (some ⟨pb, 0, none⟩)] w' fun e w'' => e = .returned (.tuple #[.agg #[.string (bs (f l).i), .string (bs (f l).p), .string (bs (f l).f), .string (bs (f l).t), .int .i64 (f l).a, .int .i64 (f l).b], .bool (p l)]) ∧ Below w'.heap.size w' w'') :
    Calls Tryz.prog 59 #[v, .func (.func K) #[] #[.pointer (some ⟨pb, 0, none⟩)]] w fun e w' => ∃ v', e = .returned v' ∧ RowsAt w' 6 v' ((mapP f p log).map odV) ∧ Below w.heap.size w w' := by
  obtain ⟨A, c, rfl⟩ := hv.slice
  have HS := hide hv
  have HF := hide hF
  obtain ⟨i0, hi0, hz0, hz1, hz2⟩ := info_parts (show (Tryz.prog.info? 53).map (fun i => (i.zero, i.size, i.bytes)) = some (some (.agg #[.string ⟨#[]⟩, .string ⟨#[]⟩, .string ⟨#[]⟩, .string ⟨#[]⟩, .int .i64 0, .int .i64 0]), 6, 80) by kernel_rfl)
  clear hv hF
  go_enter Tryz.func59, Tryz.ntmps59
  go_wp2_with fail
  go_loopw [5, 7, 8, 9, 12] (fun out _ _ _ i wr => ∃ k : Nat, i = .int .i64 (k : Int) ∧ k ≤ log.length ∧ Aside (Below w.heap.size w wr) ∧ Aside (wr.ownsRow w.heap.size 53 6 out (mapP f p (log.take k)).length ((mapP f p (log.take k)).map odV).flatten)) (fun _ _ _ _ i _ => log.length - (intOf i).toNat)
  case atStart => exact ⟨0, rfl, by omega, Below.refl _ _, World.ownsRow_nil _ _ _ _⟩
  case round =>
    obtain ⟨k, rfl, hk, hB, hO⟩ := hrel
    have HB : Hid (Below w.heap.size w wr) := hB
    have HO : Hid (wr.ownsRow w.heap.size 53 6 _ (mapP f p (log.take k)).length ((mapP f p (log.take k)).map odV).flatten) := hO
    clear hB hO
    by_cases hlt : k < log.length
    · have e1 : decide ((k : Int) < (log.length : Int)) = true := decide_eq_true (by omega)
      obtain ⟨l, hl'⟩ : ∃ l, log[k]? = some l := ⟨_, List.getElem?_eq_getElem hlt⟩
      obtain ⟨a, rfl, ha, c0, c1, c2, c3, c4, c5⟩ := OdsAt.at_ (HS.out.to HB.out) hl'
      have HW := hide (below_alloc HB.out (Nat.le_refl _) (.cells #[.string (bs l.i), .string (bs l.p), .string (bs l.f), .string (bs l.t), .int .i64 l.a, .int .i64 l.b] 53))
      have CV := HF.out l (List.mem_of_getElem? hl') (wr.alloc (.cells #[.string (bs l.i), .string (bs l.p), .string (bs l.f), .string (bs l.t), .int .i64 l.a, .int .i64 l.b] 53)) HW.out
      have HT := hide (mapP_snoc f p hl')
      have HLE : (mapP f p (log.take k)).length ≤ k := Nat.le_trans (mapP_len f p _) (List.length_take_le _ _)
      clear hl'
      cases hp : p l with
      | true =>
        rw [hp] at CV HT
        clear hp
        go_wp2_with (first | ((with_reducible refine CV.mono ?_); rintro e w4 ⟨rfl, hb4⟩) | (at_builtin; refine wpList_append_own _ rfl (.tmp 23) (.tmp 25) _ rfl w.heap.size 53 i0 (.agg #[.string ⟨#[]⟩, .string ⟨#[]⟩, .string ⟨#[]⟩, .string ⟨#[]⟩, .int .i64 0, .int .i64 0]) 6 80 Tryz.underlying46 hi0 hz0 hz1 hz2 rfl (by omega) _ (mapP f p (log.take k)).length ((mapP f p (log.take k)).map odV).flatten rfl ?c0 ⟨_, 0, none⟩ 1 1 [.string (bs (f l).i), .string (bs (f l).p), .string (bs (f l).f), .string (bs (f l).t), .int .i64 (f l).a, .int .i64 (f l).b] rfl rfl ?c1 ?c2 ?c4 ?c5 ?c3 ?_))
        case c0 => exact own_to' (own_to' (own_to' (own_to' HO.out (below_one wr _)) (by assumption)) (below_one _ _)) (below_one _ _)
        case c1 => exact cells_new (by simp)
        case c2 => intro u hu; simp only [List.mem_cons, List.not_mem_nil, or_false] at hu; rcases hu with rfl | rfl | rfl | rfl | rfl | rfl <;> rfl
        case c4 => simp only [maxLen]; omega
        case c5 => omega
        case c3 => have := HW.out.size; have := (by assumption : Below _ _ w4).size; simp at *; omega
        · intro v' w6 hown6 hgr6 _
          have HB6 := hide ((below_alloc (below_alloc (below_to HW.out (Nat.le_refl _) (by assumption)) (Nat.le_refl _) (.cells #[.string (bs (f l).i), .string (bs (f l).p), .string (bs (f l).f), .string (bs (f l).t), .int .i64 (f l).a, .int .i64 (f l).b] 53)) (Nat.le_refl _) (.cells #[.string (bs (f l).i), .string (bs (f l).p), .string (bs (f l).f), .string (bs (f l).t), .int .i64 (f l).a, .int .i64 (f l).b] 53)).grown hgr6 (by have := HW.out.size; have := (by assumption : Below _ _ w4).size; simp at *; omega) (fun b hb => (HO.out.lt b hb).1))
          have HO6 : Hid (w6.ownsRow w.heap.size 53 6 v' (mapP f p (log.take (k + 1))).length ((mapP f p (log.take (k + 1))).map odV).flatten) := by
            show World.ownsRow _ _ _ _ _ _ _
            rw [HT.out]
            simpa [odV] using hown6
          clear hown6 hgr6
          go_wp2_with fail
          refine ⟨⟨k + 1, by go_num, by omega, HB6.out, HO6.out⟩, ?_⟩
          simp [intOf]; omega
      | false =>
        rw [hp] at CV HT
        clear hp
        go_wp2_with ((with_reducible refine CV.mono ?_); rintro e w4 ⟨rfl, hb4⟩)
        refine ⟨⟨k + 1, by go_num, by omega, below_alloc (below_to HW.out (Nat.le_refl _) (by assumption)) (Nat.le_refl _) _, ?_⟩, ?_⟩
        · rw [HT.out]
          exact own_to' (own_to' (own_to' HO.out (below_one wr _)) (by assumption)) (below_one _ _)
        · simp [intOf]; omega
    · obtain rfl : k = log.length := by omega
      have e1 : decide ((log.length : Int) < (log.length : Int)) = false := by simp
      rw [List.take_length] at HO
      go_wp2_with fail
      go_ret
      exact ⟨_, rfl, RowsAt.of_own (by simp [odV]) (by rw [List.length_map]; exact HO.out), HB.out⟩
end Go.Proofs.YtdiebacfbhjbdaaGreatDoor
