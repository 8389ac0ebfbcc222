/- Walks of package tree: the sum of a list of digests. -/
import Derived.Test.YtfhanbiifjiklaaGreatDoorT1
set_option linter.unusedVariables false
set_option linter.unusedSimpArgs false
namespace Go.Proofs.YtfhanbiifjiklaaGreatDoor
open Go.RowKit

theorem TextsAt.slice {w : World} {v : Value} {ls : List (List UInt8)} (h : TextsAt w v ls) : ∃ A c, v = .slice A ls.length c ∧ ls.length ≤ c := by
  obtain ⟨A, c, h1, h2, _⟩ := h
  exact ⟨A, c, by rw [h1, List.length_map], by simpa using h2⟩
theorem TextsAt.at_ {w : World} {A : Option Addr} {n c : Nat} {ls : List (List UInt8)} (h : TextsAt w (.slice A n c) ls) {k : Nat} {x : List UInt8} (hx : ls[k]? = some x) : ∃ a, A = some a ∧ a.block < w.heap.size ∧ w.cell? (a.add k) = some (.string (bs x)) := by
  obtain ⟨a, c', h1, _, h3, _, h5⟩ := RowsAt.at_ h (k := k) (x := strV x) (by rw [List.getElem?_map, hx]; rfl)
  injection h1 with e1
  refine ⟨a, e1, h3, ?_⟩
  have := h5 0 _ rfl
  rwa [add_of_add, Nat.add_zero, Nat.mul_one] at this
theorem TextsAt.take {w : World} {A : Option Addr} {n c : Nat} {ls : List (List UInt8)} (h : TextsAt w (.slice A n c) ls) {k : Nat} (hk : k ≤ ls.length) (c' : Nat) (hc : k ≤ c') : TextsAt w (.slice A k c') (ls.take k) := by
  have := RowsAt.take h (k := k) (by simpa using hk) c' hc
  unfold TextsAt; rw [List.map_take]; exact this
theorem TextsAt.drop {w : World} {a : Addr} {n c : Nat} {ls : List (List UInt8)} (h : TextsAt w (.slice (some a) n c) ls) {k : Nat} (hk : k ≤ ls.length) (c' : Nat) (hc : ls.length - k ≤ c') : TextsAt w (.slice (some (a.add k)) (ls.length - k) c') (ls.drop k) := by
  have := RowsAt.drop h (k := k) (by simpa using hk) c' (by simpa using hc)
  unfold TextsAt; rw [List.map_drop]; simpa using this
theorem ent_sum : ∀ args w, (callFunc 114 args).run Tryz.prog w = .ok (.enter 114 args) w := enters_fn Tryz.func114 (by kernel_rfl) rfl
theorem isD_len {d : List UInt8} (h : isD d = true) : d.length = 16 := ((isD_iff d).1 h).1
theorem sumT_len {f : Nat} {l : List (List UInt8)} (h : ∀ x ∈ l, x.length ≤ 100000000000) : (sumT f l).length ≤ 100000000000 := by
  cases f with
  | zero => simp [sumT]
  | succ f =>
    by_cases h1 : l.length = 1
    · rw [sumT_one f h1]
      match l, h1 with
      | [x], _ => exact h x (by simp)
    · rw [sumT_two f h1]
      have := isD_len (listD_isD [nodeT, sumT f (l.take (halfN l.length)), sumT f (l.drop (halfN l.length))])
      unfold nodeD
      omega
def sumF (b : Nat) : Value := .func (.func 114) #[] #[.pointer (some ⟨b, 0, none⟩)]
def SumOk (f : Nat) (b : Nat) : Prop := ∀ (ls : List (List UInt8)) (v : Value) (w : World), TextsAt w v ls → 1 ≤ ls.length → ls.length ≤ f → ls.length ≤ 140737488355328 → (∀ x ∈ ls, x.length ≤ 100000000000) → Glob w → w.cell? ⟨b, 0, none⟩ = some (.func (.func 114) #[] #[.pointer (some ⟨b, 0, none⟩)]) →
  Calls Tryz.prog 114 #[v, .pointer (some ⟨b, 0, none⟩)] w fun e w' => e = .returned (.string (bs (sumT f ls))) ∧ Below w.heap.size w w'
set_option maxRecDepth 100000 in
set_option maxHeartbeats 4000000 in
theorem sum_step (f b : Nat) (ih : SumOk f b) : SumOk (f + 1) b := by
  intro ls v w hv h1 hf hn hx hg hb
  obtain ⟨A, c, rfl, hc⟩ := hv.slice
  have hE := ent_sum
  by_cases hl1 : ls.length = 1
  · obtain ⟨x, rfl⟩ : ∃ x, ls = [x] := by
      match ls, hl1 with
      | [x], _ => exact ⟨x, rfl⟩
    obtain ⟨a, rfl, ha, c0⟩ := hv.at_ (k := 0) (x := x) rfl
    have HV : Hid (sumT (f + 1) [x] = x) := sumT_one f rfl
    rw [show a.add 0 = a from rfl] at c0
    clear hv hx hg hb ih hE
    go_enter Tryz.func114, Tryz.ntmps114
    go_wp2_with fail
    go_ret
    exact ⟨by rw [HV.out]; rfl, Below.refl _ _⟩
  · have hh := half_lt (n := ls.length) (by omega)
    have HV : Hid (sumT (f + 1) ls = nodeD (sumT f (ls.take (halfN ls.length))) (sumT f (ls.drop (halfN ls.length)))) := sumT_two f hl1
    have CH := fun w => half_any ls.length hn w
    obtain ⟨x0, hx0⟩ : ∃ x, ls[0]? = some x := ⟨_, List.getElem?_eq_getElem (by omega)⟩
    obtain ⟨a, rfl, ha, _⟩ := hv.at_ hx0
    clear hx0
    obtain ⟨U, hU, g, u0, rfl, hgu, hi⟩ := cls w
    have e1 : ((ls.length : Int) == 1) = false := by rw [beq_eq_false_iff_ne]; omega
    have hbk := World.block_lt_of_cell? (g u0) _ hb
    have hbu : ∀ u, (g u).cell? ⟨b, 0, none⟩ = some (.func (.func 114) #[] #[.pointer (some ⟨b, 0, none⟩)]) := fun u => ((hgu u).cell (p := ⟨b, 0, none⟩) hbk).trans hb
    generalize hk : halfN ls.length = k at *
    have CS1 := cls_call hgu hi (fun w hw => ih (ls.take k) _ w ((hv.take (k := k) (by omega) c (by omega)).to hw) (by rw [List.length_take]; omega) (by rw [List.length_take]; omega) (by rw [List.length_take]; omega) (fun x h => hx x (List.mem_of_mem_take h)) (hg.to hw) ((hw.cell (p := ⟨b, 0, none⟩) hbk).trans hb))
    have CS2 := cls_call hgu hi (fun w hw => ih (ls.drop k) _ w ((hv.drop (k := k) (by omega) (c - k) (by omega)).to hw) (by rw [List.length_drop]; omega) (by rw [List.length_drop]; omega) (by rw [List.length_drop]; omega) (fun x h => hx x (List.mem_of_mem_drop h)) (hg.to hw) ((hw.cell (p := ⟨b, 0, none⟩) hbk).trans hb))
    have CN := cls_call hgu hi (fun w hw => node_any (sumT f (ls.take k)) (sumT f (ls.drop k)) (sumT_len (fun x h => hx x (List.mem_of_mem_take h))) (sumT_len (fun x h => hx x (List.mem_of_mem_drop h))) w (hg.to hw))
    have HGU := hide hgu
    have HHI := hide hi
    have k1 : (k : Int) ≤ (c : Int) := by omega
    have k0 : (0 : Int) ≤ (k : Int) := by omega
    have k2 : (k : Int) ≤ (ls.length : Int) := by omega
    have k3 : ((k : Int) == (c : Int)) = false := by rw [beq_eq_false_iff_ne]; omega
    have k4 : k ≠ c := by omega
    clear hgu hi hx hg hb hv ih
    go_enter Tryz.func114, Tryz.ntmps114
    go_wp2_with ((with_reducible refine (CH _).mono ?_); rintro e w' ⟨rfl, rfl⟩)
    refine wp_region_class g (by kernel_rfl) (by kernel_rfl) (HHI.out _ (HGU.out _).drew) ?_
    repeat (go_big_quiet_step (first | with_reducible exact CS1 _ | with_reducible exact CS2 _ | with_reducible exact CN _))
    refine wpQuiet_nil ?_
    intro w5 hw5
    obtain ⟨u, rfl⟩ := hw5
    go_wp2_with fail
    go_ret
    exact ⟨by rw [HV.out]; rfl, HGU.out _⟩
theorem sum_any (b : Nat) : ∀ f, SumOk f b
  | 0 => fun ls v w _ h1 h2 => by omega
  | f + 1 => sum_step f b (sum_any b f)
set_option maxRecDepth 100000 in
set_option maxHeartbeats 4000000 in
theorem total_any (ls : List (List UInt8)) (hn : ls.length ≤ 140737488355328) (hx : ∀ x ∈ ls, x.length ≤ 100000000000) (v : Value) (w : World) (hv : TextsAt w v ls) (hg : Glob w) :
    Calls Tryz.prog 84 #[v] w fun e w' => e = .returned (.string (bs (totalT ls))) ∧ Below w.heap.size w w' := by
  obtain ⟨A, c, rfl, hc⟩ := hv.slice
  have hE := ent_sum
  have HB := hide (below_one w (.cells #[.func (.func 114) #[] #[.pointer (some ⟨w.heap.size, 0, none⟩)]] 41))
  have HX := hide (Blk.new w 41 #[.func (.func 114) #[] #[.pointer (some ⟨w.heap.size, 0, none⟩)]])
  by_cases h0 : ls.length = 0
  · obtain rfl : ls = [] := List.eq_nil_of_length_eq_zero h0
    have CL := fun w (hg : Glob w) => List_any [emptyT] _ 9 _ (Blk.new w 9 #[.string ⟨#[101, 109, 112, 116, 121]⟩]) (by simp) (by decide +kernel) (hg.alloc _)
    have CL' := CL _ (hg.alloc (.cells #[.func (.func 114) #[] #[.pointer (some ⟨w.heap.size, 0, none⟩)]] 41))
    rw [show (w.alloc (.cells #[.func (.func 114) #[] #[.pointer (some ⟨w.heap.size, 0, none⟩)]] 41)).heap.size = w.heap.size + 1 by simp] at CL'
    have HB2 := hide (below_alloc HB.out (Nat.le_refl _) (.cells #[.string ⟨#[101, 109, 112, 116, 121]⟩] 9))
    clear hv hx hg CL
    go_enter Tryz.func84, Tryz.ntmps84
    go_wp2_with fail
    refine CL'.mono ?_
    rintro e w3 ⟨rfl, hb⟩
    have HB3 := hide (below_to HB2.out (Nat.le_refl _) hb)
    clear hb
    go_wp2_with fail
    go_ret
    exact ⟨rfl, HB3.out⟩
  · have HV : Hid (totalT ls = sumT ls.length ls) := by show _ = _; unfold totalT; rw [if_neg h0]
    have e1 : ((ls.length : Int) == 0) = false := by rw [beq_eq_false_iff_ne]; omega
    have CS := sum_any w.heap.size ls.length ls _ (w.alloc (.cells #[.func (.func 114) #[] #[.pointer (some ⟨w.heap.size, 0, none⟩)]] 41)) (hv.to HB.out) (by omega) (Nat.le_refl _) hn hx (hg.alloc _) (HX.out.cell 0)
    clear hv hx hg h0
    go_enter Tryz.func84, Tryz.ntmps84
    go_wp2_with fail
    refine CS.mono ?_
    rintro e w3 ⟨rfl, hb⟩
    have HB3 := hide (below_to HB.out (Nat.le_refl _) hb)
    clear hb
    go_wp2_with fail
    go_ret
    exact ⟨by rw [HV.out]; rfl, HB3.out⟩
end Go.Proofs.YtfhanbiifjiklaaGreatDoor
