/- Several texts as one, in build order. -/
import Derived.Test.YtdiebacfbhjbdaaGreatDoorP2
import Derived.Test.YtdiebacfbhjbdaaGreatDoorSl
import Derived.Test.YtdiebacfbhjbdaaGreatDoorDig5
import Derived.IntWalk
import Derived.Test.YtdiebacfbhjbdaaGreatDoorShelf2
import Derived.Laws.AppendOwnNone
import Derived.Test.YtdiebacfbhjbdaaGreatDoorRd
import Derived.Test.YtdiebacfbhjbdaaGreatDoorDig2
import Derived.Lib.AppendStr
import Derived.OwnWalk
import Derived.Test.YtdiebacfbhjbdaaGreatDoorY6
import Derived.Shelf.GgClosure.Gives
import Derived.Test.YtdiebacfbhjbdaaGreatDoorP3
/- Walks of package tree: half, node, Leaf. -/
set_option linter.unusedVariables false
set_option linter.unusedSimpArgs false
namespace Go.Proofs.YtdiebacfbhjbdaaGreatDoor
open Go.RowKit

theorem enters_fn {P : Program} {F : FuncId} {fn : Func} {c : Code} (hf : P.funcs[F]? = some fn) (hn : (fn.name == "runtime.NumGoroutine") = false) (hb : fn.body = some c) (args : Array Value) (w : World) : (callFunc F args).run P w = .ok (.enter F args) w := by
  have h1 : fn.name ≠ "runtime.NumGoroutine" := by simpa using hn
  simp [callFunc, hf, h1, hb, mark]
theorem dec_len9 : ∀ (n u : Nat), u < 10 ^ (n + 1) → (Lib.decDigits u).length ≤ n + 1 := by
  intro n
  induction n with
  | zero => intro u hu; rw [Lib.decDigits, dif_pos (show u < 10 by omega)]; simp
  | succ n ih =>
    intro u hu
    rw [Lib.decDigits]
    split
    · simp
    · rw [List.length_append]
      have := ih (u / 10) (by rw [Nat.pow_succ] at hu; omega)
      simp; omega
theorem join_len : ∀ (ls : List (List UInt8)), (∀ l ∈ ls, l.length < 100000000000000000000) → (joinD ls).length ≤ (ls.map List.length).sum + 21 * ls.length
  | [], _ => by simp [joinD]
  | l :: ls, h => by
    have h1 := join_len ls (fun x hx => h x (by simp [hx]))
    have h2 : (Lib.itoa (l.length : Int)).length ≤ 20 := by unfold Lib.itoa; rw [if_neg (by omega)]; exact dec_len9 19 _ (h l (by simp))
    have e : joinD (l :: ls) = (Lib.itoa l.length ++ [58] ++ l) ++ joinD ls := by simp [joinD]
    rw [e]
    simp only [List.length_append, List.map_cons, List.sum_cons, List.length_cons, List.length_nil] at *
    omega
theorem join2 {a b : List UInt8} (ha : a.length ≤ 100000000000) (hb : b.length ≤ 100000000000) : (joinD [a, b]).length ≤ 140737488355328 := by
  have := join_len [a, b] (fun l hl => by
    simp only [List.mem_cons, List.not_mem_nil, or_false] at hl
    rcases hl with rfl | rfl <;> omega)
  simp only [List.map_cons, List.map_nil, List.sum_cons, List.sum_nil, List.length_cons, List.length_nil] at this
  omega
theorem join3 {a b c : List UInt8} (ha : a.length ≤ 100000000000) (hb : b.length ≤ 100000000000) (hc : c.length ≤ 100000000000) : (joinD [a, b, c]).length ≤ 140737488355328 := by
  have := join_len [a, b, c] (fun l hl => by
    simp only [List.mem_cons, List.not_mem_nil, or_false] at hl
    rcases hl with rfl | rfl | rfl <;> omega)
  simp only [List.map_cons, List.map_nil, List.sum_cons, List.sum_nil, List.length_cons, List.length_nil] at this
  omega
theorem halfF_stop {f k n : Nat} (h : n ≤ k * 2) : halfF f k n = k := by
  cases f with
  | zero => rfl
  | succ f => unfold halfF; rw [if_neg (by omega)]
theorem halfF_go {f k n : Nat} (h : k * 2 < n) : halfF (f + 1) k n = halfF f (k * 2) n := by
  conv => lhs; unfold halfF
  rw [if_pos h]
set_option maxRecDepth 100000 in
set_option maxHeartbeats 1000000 in
theorem half_any (n : Nat) (hn : n ≤ 140737488355328) (w : World) : Calls Tryz.prog 62 #[.int .i64 (n : Int)] w fun e w' => e = .returned (.int .i64 ((halfN n : Nat) : Int)) ∧ w' = w := by
  go_enter Tryz.func62, Tryz.ntmps62
  go_wp2_with fail
  go_loopw [3] (fun k wr => ∃ u f : Nat, k = .int .i64 (u : Int) ∧ (1 ≤ u ∧ u ≤ n + 1 ∧ n ≤ u + f ∧ halfF f u n = halfN n) ∧ wr = w) (fun k _ => n - (intOf k).toNat)
  case atStart => exact ⟨1, n, rfl, ⟨Nat.le_refl _, by omega, by omega, rfl⟩, rfl⟩
  case round =>
    obtain ⟨u, f, rfl, ⟨h1, h1', h2, h3⟩, rfl⟩ := hrel
    have H3 := hide h3
    clear h3
    have e0 : IntKind.i64.wrap ((u : Int) * 2) = ((u * 2 : Nat) : Int) := by rw [IntWalk.i64_in _ (by omega)]; omega
    by_cases hlt : u * 2 < n
    · have e1 : decide (((u * 2 : Nat) : Int) < (n : Int)) = true := decide_eq_true (by omega)
      obtain ⟨f', rfl⟩ : ∃ f', f = f' + 1 := ⟨f - 1, by omega⟩
      have H4 := hide (halfF_go (f := f') hlt)
      go_wp2_with fail
      refine ⟨⟨u * 2, f', by go_num, ⟨by omega, by omega, by omega, H4.out.symm.trans H3.out⟩, trivial⟩, ?_⟩
      simp [intOf]; omega
    · have e1 : decide (((u * 2 : Nat) : Int) < (n : Int)) = false := decide_eq_false (by omega)
      have H4 : Hid (halfN n = u) := H3.out.symm.trans (halfF_stop (by omega))
      go_wp2_with fail
      go_ret
      exact ⟨ret_int (by rw [H4.out]), rfl⟩
set_option maxHeartbeats 1000000 in
theorem node_any (a b : List UInt8) (ha : a.length ≤ 100000000000) (hb : b.length ≤ 100000000000) (w : World) (hg : Glob w) : Calls Tryz.prog 68 #[.string (bs a), .string (bs b)] w fun e w' => e = .returned (.string (bs (nodeD a b))) ∧ Below w.heap.size w w' := by
  have CL : Calls Tryz.prog 20 #[.slice (some ⟨w.heap.size, 0, none⟩) 3 3] (w.alloc (.cells #[.string ⟨#[110, 111, 100, 101]⟩, .string (bs a), .string (bs b)] 9)) fun e w' => e = .returned (.string (bs (nodeD a b))) ∧ Below (w.alloc (.cells #[.string ⟨#[110, 111, 100, 101]⟩, .string (bs a), .string (bs b)] 9)).heap.size (w.alloc (.cells #[.string ⟨#[110, 111, 100, 101]⟩, .string (bs a), .string (bs b)] 9)) w' :=
    List_any [nodeT, a, b] _ 9 _ (Blk.new w 9 #[.string ⟨#[110, 111, 100, 101]⟩, .string (bs a), .string (bs b)]) (by simp) (join3 (by decide) ha hb) (hg.alloc _)
  have HB := hide (below_one w (.cells #[.string ⟨#[110, 111, 100, 101]⟩, .string (bs a), .string (bs b)] 9))
  clear hg ha hb
  go_enter Tryz.func68, Tryz.ntmps68
  go_wp2_with ((with_reducible refine CL.mono ?_); rintro e w' ⟨rfl, hb⟩)
  go_ret
  exact ⟨rfl, below_to HB.out (Nat.le_refl _) (by assumption)⟩
set_option maxHeartbeats 1000000 in
theorem Leaf_any (a : List UInt8) (ha : a.length ≤ 100000000000) (w : World) (hg : Glob w) : Calls Tryz.prog 32 #[.string (bs a)] w fun e w' => e = .returned (.string (bs (leafD a))) ∧ Below w.heap.size w w' := by
  have CL : Calls Tryz.prog 20 #[.slice (some ⟨w.heap.size, 0, none⟩) 2 2] (w.alloc (.cells #[.string ⟨#[108, 101, 97, 102]⟩, .string (bs a)] 9)) fun e w' => e = .returned (.string (bs (leafD a))) ∧ Below (w.alloc (.cells #[.string ⟨#[108, 101, 97, 102]⟩, .string (bs a)] 9)).heap.size (w.alloc (.cells #[.string ⟨#[108, 101, 97, 102]⟩, .string (bs a)] 9)) w' :=
    List_any [leafT, a] _ 9 _ (Blk.new w 9 #[.string ⟨#[108, 101, 97, 102]⟩, .string (bs a)]) (by simp) (join2 (by decide) ha) (hg.alloc _)
  have HB := hide (below_one w (.cells #[.string ⟨#[108, 101, 97, 102]⟩, .string (bs a)] 9))
  clear hg ha
  go_enter Tryz.func32, Tryz.ntmps32
  go_wp2_with ((with_reducible refine CL.mono ?_); rintro e w' ⟨rfl, hb⟩)
  go_ret
  exact ⟨rfl, below_to HB.out (Nat.le_refl _) (by assumption)⟩
end Go.Proofs.YtdiebacfbhjbdaaGreatDoor

/- Walks of package tree: the sum of a list of digests. -/
set_option linter.unusedVariables false
set_option linter.unusedSimpArgs false
namespace Go.Proofs.YtdiebacfbhjbdaaGreatDoor
open Go.RowKit

theorem TextsAt.slice {w : World} {v : Value} {ls : List (List UInt8)} (h : TextsAt w v ls) : ∃ A c, v = .slice A ls.length c ∧ ls.length ≤ c := by
  obtain ⟨A, c, h1, h2, _⟩ := h
  exact ⟨A, c, by rw [h1, List.length_map], by simpa using h2⟩
theorem TextsAt.at_ {w : World} {A : Option Addr} {n c : Nat} {ls : List (List UInt8)} (h : TextsAt w (.slice A n c) ls) {k : Nat} {x : List UInt8} (hx : ls[k]? = some x) : ∃ a, A = some a ∧ a.block < w.heap.size ∧ w.cell? (a.add k) = some (.string (bs x)) := by
  obtain ⟨a, c', h1, _, h3, _, h5⟩ := RowsAt.at_ h (k := k) (x := strV x) (by rw [List.getElem?_map, hx]; rfl)
  injection h1 with e1
  refine ⟨a, e1, h3, ?_⟩
  have := h5 0 _ rfl
  rwa [add_of_add, Nat.add_zero, Nat.mul_one] at this
theorem TextsAt.take {w : World} {A : Option Addr} {n c : Nat} {ls : List (List UInt8)} (h : TextsAt w (.slice A n c) ls) {k : Nat} (hk : k ≤ ls.length) (c' : Nat) (hc : k ≤ c') : TextsAt w (.slice A k c') (ls.take k) := by
  have := RowsAt.take h (k := k) (by simpa using hk) c' hc
  unfold TextsAt; rw [List.map_take]; exact this
theorem TextsAt.drop {w : World} {a : Addr} {n c : Nat} {ls : List (List UInt8)} (h : TextsAt w (.slice (some a) n c) ls) {k : Nat} (hk : k ≤ ls.length) (c' : Nat) (hc : ls.length - k ≤ c') : TextsAt w (.slice (some (a.add k)) (ls.length - k) c') (ls.drop k) := by
  have := RowsAt.drop h (k := k) (by simpa using hk) c' (by simpa using hc)
  unfold TextsAt; rw [List.map_drop]; simpa using this
theorem ent_sum : ∀ args w, (callFunc 89 args).run Tryz.prog w = .ok (.enter 89 args) w := enters_fn Tryz.func89 (by kernel_rfl) rfl
theorem isD_len {d : List UInt8} (h : isD d = true) : d.length = 16 := ((isD_iff d).1 h).1
theorem sumT_len {f : Nat} {l : List (List UInt8)} (h : ∀ x ∈ l, x.length ≤ 100000000000) : (sumT f l).length ≤ 100000000000 := by
  cases f with
  | zero => simp [sumT]
  | succ f =>
    by_cases h1 : l.length = 1
    · rw [sumT_one f h1]
      match l, h1 with
      | [x], _ => exact h x (by simp)
    · rw [sumT_two f h1]
      have := isD_len (listD_isD [nodeT, sumT f (l.take (halfN l.length)), sumT f (l.drop (halfN l.length))])
      unfold nodeD
      omega
def sumF (b : Nat) : Value := .func (.func 89) #[] #[.pointer (some ⟨b, 0, none⟩)]
def SumOk (f : Nat) (b : Nat) : Prop := ∀ (ls : List (List UInt8)) (v : Value) (w : World), TextsAt w v ls → 1 ≤ ls.length → ls.length ≤ f → ls.length ≤ 140737488355328 → (∀ x ∈ ls, x.length ≤ 100000000000) → Glob w → w.cell? ⟨b, 0, none⟩ = some (.func (.func 89) #[] #[.pointer (some ⟨b, 0, none⟩)]) →
  Calls Tryz.prog 89 #[v, .pointer (some ⟨b, 0, none⟩)] w fun e w' => e = .returned (.string (bs (sumT f ls))) ∧ Below w.heap.size w w'
set_option maxRecDepth 100000 in
set_option maxHeartbeats 4000000 in
theorem sum_step (f b : Nat) (ih : SumOk f b) : SumOk (f + 1) b := by
  intro ls v w hv h1 hf hn hx hg hb
  obtain ⟨A, c, rfl, hc⟩ := hv.slice
  have hE := ent_sum
  by_cases hl1 : ls.length = 1
  · obtain ⟨x, rfl⟩ : ∃ x, ls = [x] := by
      match ls, hl1 with
      | [x], _ => exact ⟨x, rfl⟩
    obtain ⟨a, rfl, ha, c0⟩ := hv.at_ (k := 0) (x := x) rfl
    have HV : Hid (sumT (f + 1) [x] = x) := sumT_one f rfl
    rw [show a.add 0 = a from rfl] at c0
    clear hv hx hg hb ih hE
    go_enter Tryz.func89, Tryz.ntmps89
    go_wp2_with fail
    go_ret
    exact ⟨by rw [HV.out]; rfl, Below.refl _ _⟩
  · have hh := half_lt (n := ls.length) (by omega)
    have HV : Hid (sumT (f + 1) ls = nodeD (sumT f (ls.take (halfN ls.length))) (sumT f (ls.drop (halfN ls.length)))) := sumT_two f hl1
    have CH := fun w => half_any ls.length hn w
    obtain ⟨x0, hx0⟩ : ∃ x, ls[0]? = some x := ⟨_, List.getElem?_eq_getElem (by omega)⟩
    obtain ⟨a, rfl, ha, _⟩ := hv.at_ hx0
    clear hx0
    obtain ⟨U, hU, g, u0, rfl, hgu, hi⟩ := cls w
    have e1 : ((ls.length : Int) == 1) = false := by rw [beq_eq_false_iff_ne]; omega
    have hbk := World.block_lt_of_cell? (g u0) _ hb
    have hbu : ∀ u, (g u).cell? ⟨b, 0, none⟩ = some (.func (.func 89) #[] #[.pointer (some ⟨b, 0, none⟩)]) := fun u => ((hgu u).cell (p := ⟨b, 0, none⟩) hbk).trans hb
    generalize hk : halfN ls.length = k at *
    have CS1 := cls_call hgu hi (fun w hw => ih (ls.take k) _ w ((hv.take (k := k) (by omega) c (by omega)).to hw) (by rw [List.length_take]; omega) (by rw [List.length_take]; omega) (by rw [List.length_take]; omega) (fun x h => hx x (List.mem_of_mem_take h)) (hg.to hw) ((hw.cell (p := ⟨b, 0, none⟩) hbk).trans hb))
    have CS2 := cls_call hgu hi (fun w hw => ih (ls.drop k) _ w ((hv.drop (k := k) (by omega) (c - k) (by omega)).to hw) (by rw [List.length_drop]; omega) (by rw [List.length_drop]; omega) (by rw [List.length_drop]; omega) (fun x h => hx x (List.mem_of_mem_drop h)) (hg.to hw) ((hw.cell (p := ⟨b, 0, none⟩) hbk).trans hb))
    have CN := cls_call hgu hi (fun w hw => node_any (sumT f (ls.take k)) (sumT f (ls.drop k)) (sumT_len (fun x h => hx x (List.mem_of_mem_take h))) (sumT_len (fun x h => hx x (List.mem_of_mem_drop h))) w (hg.to hw))
    have HGU := hide hgu
    have HHI := hide hi
    have k1 : (k : Int) ≤ (c : Int) := by omega
    have k0 : (0 : Int) ≤ (k : Int) := by omega
    have k2 : (k : Int) ≤ (ls.length : Int) := by omega
    have k3 : ((k : Int) == (c : Int)) = false := by rw [beq_eq_false_iff_ne]; omega
    have k4 : k ≠ c := by omega
    clear hgu hi hx hg hb hv ih
    go_enter Tryz.func89, Tryz.ntmps89
    go_wp2_with ((with_reducible refine (CH _).mono ?_); rintro e w' ⟨rfl, rfl⟩)
    refine wp_region_class g (by kernel_rfl) (by kernel_rfl) (HHI.out _ (HGU.out _).drew) ?_
    repeat (go_big_quiet_step (first | with_reducible exact CS1 _ | with_reducible exact CS2 _ | with_reducible exact CN _))
    refine wpQuiet_nil ?_
    intro w5 hw5
    obtain ⟨u, rfl⟩ := hw5
    go_wp2_with fail
    go_ret
    exact ⟨by rw [HV.out]; rfl, HGU.out _⟩
theorem sum_any (b : Nat) : ∀ f, SumOk f b
  | 0 => fun ls v w _ h1 h2 => by omega
  | f + 1 => sum_step f b (sum_any b f)
set_option maxRecDepth 100000 in
set_option maxHeartbeats 4000000 in
theorem total_any (ls : List (List UInt8)) (hn : ls.length ≤ 140737488355328) (hx : ∀ x ∈ ls, x.length ≤ 100000000000) (v : Value) (w : World) (hv : TextsAt w v ls) (hg : Glob w) :
    Calls Tryz.prog 63 #[v] w fun e w' => e = .returned (.string (bs (totalT ls))) ∧ Below w.heap.size w w' := by
  obtain ⟨A, c, rfl, hc⟩ := hv.slice
  have hE := ent_sum
  have HB := hide (below_one w (.cells #[.func (.func 89) #[] #[.pointer (some ⟨w.heap.size, 0, none⟩)]] 44))
  have HX := hide (Blk.new w 44 #[.func (.func 89) #[] #[.pointer (some ⟨w.heap.size, 0, none⟩)]])
  by_cases h0 : ls.length = 0
  · obtain rfl : ls = [] := List.eq_nil_of_length_eq_zero h0
    have CL := fun w (hg : Glob w) => List_any [emptyT] _ 9 _ (Blk.new w 9 #[.string ⟨#[101, 109, 112, 116, 121]⟩]) (by simp) (by decide +kernel) (hg.alloc _)
    have CL' := CL _ (hg.alloc (.cells #[.func (.func 89) #[] #[.pointer (some ⟨w.heap.size, 0, none⟩)]] 44))
    rw [show (w.alloc (.cells #[.func (.func 89) #[] #[.pointer (some ⟨w.heap.size, 0, none⟩)]] 44)).heap.size = w.heap.size + 1 by simp] at CL'
    have HB2 := hide (below_alloc HB.out (Nat.le_refl _) (.cells #[.string ⟨#[101, 109, 112, 116, 121]⟩] 9))
    clear hv hx hg CL
    go_enter Tryz.func63, Tryz.ntmps63
    go_wp2_with fail
    refine CL'.mono ?_
    rintro e w3 ⟨rfl, hb⟩
    have HB3 := hide (below_to HB2.out (Nat.le_refl _) hb)
    clear hb
    go_wp2_with fail
    go_ret
    exact ⟨rfl, HB3.out⟩
  · have HV : Hid (totalT ls = sumT ls.length ls) := by show _ = _; unfold totalT; rw [if_neg h0]
    have e1 : ((ls.length : Int) == 0) = false := by rw [beq_eq_false_iff_ne]; omega
    have CS := sum_any w.heap.size ls.length ls _ (w.alloc (.cells #[.func (.func 89) #[] #[.pointer (some ⟨w.heap.size, 0, none⟩)]] 44)) (hv.to HB.out) (by omega) (Nat.le_refl _) hn hx (hg.alloc _) (HX.out.cell 0)
    clear hv hx hg h0
    go_enter Tryz.func63, Tryz.ntmps63
    go_wp2_with fail
    refine CS.mono ?_
    rintro e w3 ⟨rfl, hb⟩
    have HB3 := hide (below_to HB.out (Nat.le_refl _) hb)
    clear hb
    go_wp2_with fail
    go_ret
    exact ⟨by rw [HV.out]; rfl, HB3.out⟩
end Go.Proofs.YtdiebacfbhjbdaaGreatDoor

/- Walks of package tree: proper, Root. -/
set_option linter.unusedVariables false
set_option linter.unusedSimpArgs false
namespace Go.Proofs.YtdiebacfbhjbdaaGreatDoor
open Go.RowKit

theorem drop_at' {α : Type} {l : List α} {k : Nat} {x : α} (h : l[k]? = some x) : l.drop k = x :: l.drop (k + 1) := by
  obtain ⟨hlt, e⟩ := List.getElem?_eq_some_iff.1 h
  rw [List.drop_eq_getElem_cons hlt, e]
def IdxR (b : Bool) (w : World) (e : Ending) (w' : World) : Prop := ∃ i : Int, e = .returned (.int .i64 i) ∧ decide (0 ≤ i) = b ∧ Below w.heap.size w w'
set_option maxRecDepth 100000 in
set_option maxHeartbeats 4000000 in
theorem IndexFunc_dig (K : FuncId) (hE : ∀ args w, (callFunc K args).run Tryz.prog w = .ok (.enter K args) w) (p : List UInt8 → Bool) (ls : List (List UInt8)) (hn : ls.length ≤ 140737488355328) (v : Value) (w : World) (hv : TextsAt w v ls)
    (hF : ∀ x ∈ ls, ∀ w', Below w.heap.size w w' → Calls Tryz.prog K #[.string (bs x)] w' fun e w'' => e = .returned (.bool (p x)) ∧ Below w'.heap.size w' w'') :
    Calls Tryz.prog 115 #[v, .func (.func K) #[] #[]] w (IdxR (ls.any p) w) := by
  obtain ⟨A, c, rfl, hc⟩ := hv.slice
  have HS := hide hv
  have HF := hide hF
  clear hv hF
  go_enter Tryz.func115, Tryz.ntmps115
  go_wp2_with fail
  go_loopw [5, 8] (fun _ i wr => ∃ k : Nat, i = .int .i64 (k : Int) ∧ k ≤ ls.length ∧ Aside (Below w.heap.size w wr) ∧ Aside (ls.any p = (ls.drop k).any p)) (fun _ i _ => ls.length - (intOf i).toNat)
  case atStart => exact ⟨0, rfl, by omega, Below.refl _ _, rfl⟩
  case round =>
    obtain ⟨k, rfl, hk, hB, hA⟩ := hrel
    have HB : Hid (Below w.heap.size w wr) := hB
    have HA : Hid (ls.any p = (ls.drop k).any p) := hA
    clear hB hA
    by_cases hlt : k < ls.length
    · have e1 : decide ((k : Int) < (ls.length : Int)) = true := decide_eq_true (by omega)
      obtain ⟨x, hx⟩ : ∃ x, ls[k]? = some x := ⟨_, List.getElem?_eq_getElem hlt⟩
      obtain ⟨a, rfl, ha, c0⟩ := (HS.out.to HB.out).at_ hx
      have CV := HF.out x (List.mem_of_getElem? hx) wr HB.out
      have HD := hide (drop_at' hx)
      clear hx
      cases hp : p x with
      | true =>
        rw [hp] at CV
        have HV : Hid (ls.any p = true) := by show _ = _; rw [HA.out, HD.out, List.any_cons, hp]; rfl
        clear hp
        go_wp2_with ((with_reducible refine CV.mono ?_); rintro e w4 ⟨rfl, hb4⟩)
        go_ret
        exact ⟨_, rfl, by rw [HV.out]; exact decide_eq_true (by omega), below_to HB.out (Nat.le_refl _) (by assumption)⟩
      | false =>
        rw [hp] at CV
        have HV : Hid (ls.any p = (ls.drop (k + 1)).any p) := by show _ = _; rw [HA.out, HD.out, List.any_cons, hp]; rfl
        clear hp
        go_wp2_with ((with_reducible refine CV.mono ?_); rintro e w4 ⟨rfl, hb4⟩)
        refine ⟨⟨k + 1, by go_num, by omega, below_to HB.out (Nat.le_refl _) (by assumption), HV.out⟩, ?_⟩
        simp [intOf]; omega
    · obtain rfl : k = ls.length := by omega
      have e1 : decide ((ls.length : Int) < (ls.length : Int)) = false := by simp
      have HV : Hid (ls.any p = false) := by show _ = _; rw [HA.out, List.drop_length]; rfl
      go_wp2_with fail
      go_ret
      exact ⟨-1, rfl, by rw [HV.out]; rfl, HB.out⟩
set_option maxHeartbeats 1000000 in
theorem ContainsFunc_dig (K : FuncId) (hE : ∀ args w, (callFunc K args).run Tryz.prog w = .ok (.enter K args) w) (p : List UInt8 → Bool) (ls : List (List UInt8)) (hn : ls.length ≤ 140737488355328) (v : Value) (w : World) (hv : TextsAt w v ls)
    (hF : ∀ x ∈ ls, ∀ w', Below w.heap.size w w' → Calls Tryz.prog K #[.string (bs x)] w' fun e w'' => e = .returned (.bool (p x)) ∧ Below w'.heap.size w' w'') :
    Calls Tryz.prog 87 #[v, .func (.func K) #[] #[]] w fun e w' => e = .returned (.bool (ls.any p)) ∧ Below w.heap.size w w' := by
  have CI := IndexFunc_dig K hE p ls hn v w hv hF
  clear hv hF
  go_enter Tryz.func87, Tryz.ntmps87
  go_wp2_with fail
  refine CI.mono ?_
  rintro e w2 ⟨i, rfl, hi, hb⟩
  have HI := hide hi
  have HB := hide hb
  clear hi hb
  go_wp2_with fail
  go_ret
  exact ⟨ret_bool HI.out, HB.out⟩
theorem ent_proper1 : ∀ args w, (callFunc 88 args).run Tryz.prog w = .ok (.enter 88 args) w := enters_fn Tryz.func88 (by kernel_rfl) rfl
set_option maxHeartbeats 1000000 in
theorem proper1_any (x : List UInt8) (hx : x.length ≤ 100000000000) (w : World) : Calls Tryz.prog 88 #[.string (bs x)] w fun e w' => e = .returned (.bool (!isD x)) ∧ Below w.heap.size w w' := by
  have CI := Is_any x (by omega) w
  go_enter Tryz.func88, Tryz.ntmps88
  go_wp2_with ((with_reducible refine CI.mono ?_); rintro e w' ⟨rfl, hb⟩)
  go_ret
  exact ⟨rfl, by assumption⟩
set_option maxHeartbeats 1000000 in
theorem tproper_any (ls : List (List UInt8)) (hn : ls.length ≤ 140737488355328) (hx : ∀ x ∈ ls, x.length ≤ 100000000000) (v : Value) (w : World) (hv : TextsAt w v ls) :
    Calls Tryz.prog 61 #[v] w fun e w' => e = .returned (.bool (properT ls)) ∧ Below w.heap.size w w' := by
  have CI := ContainsFunc_dig 88 ent_proper1 (fun x => !isD x) ls hn v w hv (fun x h w' _ => proper1_any x (hx x h) w')
  have HV : Hid (properT ls = !(ls.any fun x => !isD x)) := by show _ = _; unfold properT; rw [List.not_any_eq_all_not]; simp
  clear hv hx
  go_enter Tryz.func61, Tryz.ntmps61
  go_wp2_with ((with_reducible refine CI.mono ?_); rintro e w' ⟨rfl, hb⟩)
  go_ret
  exact ⟨ret_bool (by rw [HV.out]), by assumption⟩
set_option maxHeartbeats 2000000 in
theorem tRoot_any (ls : List (List UInt8)) (hn : ls.length ≤ 140737488355328) (hx : ∀ x ∈ ls, x.length ≤ 100000000000) (v : Value) (w : World) (hv : TextsAt w v ls) (hg : Glob w) :
    Calls Tryz.prog 40 #[v] w fun e w' => e = .returned (.tuple #[.string (bs (rootV ls)), .int .i64 (rootE ls)]) ∧ Below w.heap.size w w' := by
  have CP := tproper_any ls hn hx v w hv
  have CT := fun (w' : World) (hb : Below w.heap.size w w') => total_any ls hn hx v w' (hv.to hb) (hg.to hb)
  unfold rootV rootE
  clear hv hg hx
  cases hp : properT ls with
  | false =>
    rw [hp] at CP
    rw [if_neg (by simp), if_neg (by simp)]
    clear hp
    go_enter Tryz.func40, Tryz.ntmps40
    go_wp2_with ((with_reducible refine CP.mono ?_); rintro e w' ⟨rfl, hb⟩)
    go_ret2
    exact ⟨rfl, by assumption⟩
  | true =>
    rw [hp] at CP
    rw [if_pos rfl, if_pos rfl]
    clear hp
    go_enter Tryz.func40, Tryz.ntmps40
    go_wp2_with fail
    refine CP.mono ?_
    rintro e w2 ⟨rfl, hb⟩
    have HB := hide hb
    have CT' := CT _ hb
    clear hb CP CT
    go_wp2_with ((with_reducible refine CT'.mono ?_); rintro e w3 ⟨rfl, hb3⟩)
    go_ret2
    exact ⟨rfl, below_to HB.out (Nat.le_refl _) (by assumption)⟩
end Go.Proofs.YtdiebacfbhjbdaaGreatDoor

/- Walks of slices.Clone and tree.Path. -/
set_option linter.unusedVariables false
set_option linter.unusedSimpArgs false
namespace Go.Proofs.YtdiebacfbhjbdaaGreatDoor
open Go.RowKit

theorem own_to4 {w w' : World} {base : Nat} {e : TypeId} {size n : Nat} {v : Value} {xs : List Value} (h : w.ownsRow base e size v n xs) (hb : Below w.heap.size w w') : w'.ownsRow base e size v n xs :=
  h.kept (show w.grownBy w' none from ⟨hb.os, hb.tape, hb.output, hb.size, fun i hi _ => hb.block i hi⟩) (by cases v.ownBlock <;> simp)
theorem cells_new4 {W : World} {xs : List Value} {ty : TypeId} {b : Nat} (hb : b = W.heap.size) : ∀ (j : Nat) (u : Value), xs[j]? = some u → (W.alloc (.cells xs.toArray ty)).cell? ((⟨b, 0, none⟩ : Addr).add j) = some u := by
  subst hb
  intro j u hu
  rw [show (⟨W.heap.size, 0, none⟩ : Addr).add j = ⟨W.heap.size, j, none⟩ by unfold Addr.add; split <;> simp_all]
  refine ((Blk.new W ty xs.toArray).cell j).trans ?_
  simpa using hu
theorem TextsAt.none_nil {w : World} {n c : Nat} {ls : List (List UInt8)} (h : TextsAt w (.slice none n c) ls) : ls = [] := by
  cases ls with
  | nil => rfl
  | cons x r =>
    obtain ⟨a, h1, _⟩ := h.at_ (k := 0) (x := x) rfl
    cases h1
def flatS (ls : List (List UInt8)) : List Value := ls.map fun x => .string (bs x)
theorem flatS_eq : ∀ ls : List (List UInt8), (ls.map strV).flatten = flatS ls
  | [] => rfl
  | x :: l => by simp [flatS, strV, flatS_eq l]
theorem flatS_at {ls : List (List UInt8)} {j : Nat} {u : Value} (h : (flatS ls)[j]? = some u) : ∃ x, ls[j]? = some x ∧ u = .string (bs x) := by
  unfold flatS at h
  rw [List.getElem?_map, Option.map_eq_some_iff] at h
  obtain ⟨x, h1, h2⟩ := h
  exact ⟨x, h1, h2.symm⟩
theorem TextsAt.cells {w : World} {a : Addr} {n c : Nat} {ls : List (List UInt8)} (h : TextsAt w (.slice (some a) n c) ls) : ∀ (j : Nat) u, (flatS ls)[j]? = some u → w.cell? (a.add j) = some u := fun j u hu => by
  obtain ⟨x, hx, rfl⟩ := flatS_at hu
  obtain ⟨a', e, _, hc⟩ := h.at_ hx
  rw [Option.some.inj e]
  exact hc
theorem TextsAt.of_own {w : World} {B : Nat} {v : Value} {ls : List (List UInt8)} (h : w.ownsRow B 9 1 v ls.length (flatS ls)) : TextsAt w v ls := RowsAt.of_own (by simp [strV]) (by rw [List.length_map, flatS_eq]; exact h)
theorem flatS_len (ls : List (List UInt8)) : (flatS ls).length = ls.length := by simp [flatS]
def OwnT (w : World) (B : Nat) (v : Value) (ls : List (List UInt8)) : Prop := w.ownsRow B 9 1 v ls.length (flatS ls)
def CloneR (ls : List (List UInt8)) (w : World) (e : Ending) (w' : World) : Prop := ∃ v', e = .returned v' ∧ OwnT w' w.heap.size v' ls ∧ Below w.heap.size w w'
set_option maxRecDepth 100000 in
set_option maxHeartbeats 2000000 in
theorem Clone_any (ls : List (List UInt8)) (hl : ls.length ≤ 1000000000) (v : Value) (w : World) (hv : TextsAt w v ls) : Calls Tryz.prog 65 #[v] w (CloneR ls w) := by
  obtain ⟨A, c, rfl, hc⟩ := hv.slice
  have q22 : ∀ (w : World) (a : Option Addr) (n c n' c' : Nat), (binOp .eql 34 (.slice a n c) (.slice none n' c')).run Tryz.prog w = .ok (.bool a.isNone) w := fun w a n c n' c' => Lib.run_eql_slice_nil w _ _ a n c n' c' Tryz.underlying34
  cases A with
  | none =>
    have HL := hide hv.none_nil
    clear hv
    go_enter Tryz.func65, Tryz.ntmps65
    go_wp2_with fail
    go_ret
    exact ⟨_, rfl, by rw [HL.out]; exact World.ownsRow_nil _ _ _ _, Below.refl _ _⟩
  | some a =>
    obtain ⟨i0, hi0, hz0, hz1, hz2⟩ := info_parts (show (Tryz.prog.info? 9).map (fun i => (i.zero, i.size, i.bytes)) = some (some (.string ⟨#[]⟩), 1, 16) by kernel_rfl)
    have HE := hide (below_one w (.cells #[] 9))
    have o0 : Hid (World.ownsRow (w.alloc (.cells #[] 9)) w.heap.size 9 1 (.slice (some ⟨w.heap.size, 0, none⟩) 0 0) 0 []) := ⟨rfl, .inr ⟨w.heap.size, 0, #[], rfl, Nat.le_refl _, heap_alloc_new w _, Nat.le_refl _, by omega, rfl, rfl⟩⟩
    have hcell := hide (hv.to HE.out).cells
    have HFL := hide (show (flatS ls).length = ls.length * 1 by rw [flatS_len, Nat.mul_one])
    clear hv
    go_enter Tryz.func65, Tryz.ntmps65
    go_wp2_with (at_builtin; refine wpList_append_own _ rfl (.tmp 5) (.tmp 6) _ rfl w.heap.size 9 i0 (.string ⟨#[]⟩) 1 16 Tryz.underlying34 hi0 hz0 hz1 hz2 rfl (by omega) _ 0 [] rfl o0.out a ls.length c (flatS ls) rfl HFL.out hcell.out ?c2 ?c4 ?c5 ?c3 ?_)
    case c2 =>
      intro u hu
      obtain ⟨x, _, rfl⟩ := List.mem_map.1 hu
      rfl
    case c4 => simp only [maxLen]; omega
    case c5 => omega
    case c3 => exact HE.out.size
    intro v' w6 hown6 hgr6 _
    have HB : Hid (Below w.heap.size w w6) := HE.out.grown hgr6 HE.out.size (fun b hb => (o0.out.lt b hb).1)
    have HO : Hid (OwnT w6 w.heap.size v' ls) := by
      show World.ownsRow _ _ _ _ _ _ _
      simpa using hown6
    clear hown6 hgr6
    go_wp2_with fail
    go_ret
    exact ⟨v', rfl, HO.out, HB.out⟩
end Go.Proofs.YtdiebacfbhjbdaaGreatDoor

/- Walks of package tree: Path. -/
set_option linter.unusedVariables false
set_option linter.unusedSimpArgs false
namespace Go.Proofs.YtdiebacfbhjbdaaGreatDoor
open Go.RowKit

def lenOf : Value → Nat
  | .slice _ n _ => n
  | _ => 0
theorem TextsAt.cap {w : World} {A : Option Addr} {n c : Nat} {ls : List (List UInt8)} (h : TextsAt w (.slice A n c) ls) : ls.length ≤ c := by
  obtain ⟨A', c', h1, h2, _⟩ := h
  injection h1 with _ _ h3
  subst h3
  simpa using h2
theorem pathF_one {f : Nat} {l : List (List UInt8)} {i : Nat} (h : l.length ≤ 1) : pathF f l i = [] := by
  cases f with
  | zero => rfl
  | succ f => unfold pathF; rw [if_pos h]
theorem pathF_lt {f : Nat} {l : List (List UInt8)} {i : Nat} (h : 2 ≤ l.length) (hi : i < halfN l.length) : pathF (f + 1) l i = totalT (l.drop (halfN l.length)) :: pathF f (l.take (halfN l.length)) i := by
  conv => lhs; unfold pathF
  rw [if_neg (by omega), if_pos hi]
theorem pathF_ge {f : Nat} {l : List (List UInt8)} {i : Nat} (h : 2 ≤ l.length) (hi : ¬ i < halfN l.length) : pathF (f + 1) l i = totalT (l.take (halfN l.length)) :: pathF f (l.drop (halfN l.length)) (i - halfN l.length) := by
  conv => lhs; unfold pathF
  rw [if_neg (by omega), if_neg hi]
theorem own_sl4 {w : World} {B : Nat} {e : TypeId} {s n : Nat} {v : Value} {xs : List Value} (h : w.ownsRow B e s v n xs) : ∃ A c, v = .slice A n c := by
  obtain ⟨_, h⟩ := h
  rcases h with ⟨hv, h0⟩ | ⟨g, cap, cur, hv, _⟩
  · exact ⟨none, 0, by rw [hv, h0]⟩
  · exact ⟨_, _, hv⟩
theorem own_blk4 {w : World} {B : Nat} {A : Option Addr} {n c : Nat} {xs : List Value} {e : TypeId} {s : Nat} (h : w.ownsRow B e s (.slice A n c) n xs) (hn : 0 < n) : ∃ g, A = some ⟨g, 0, none⟩ ∧ B ≤ g ∧ ∃ cur, Blk w g e cur ∧ n * s ≤ cur.size ∧ cur.toList.take (n * s) = xs := by
  obtain ⟨_, h⟩ := h
  rcases h with ⟨_, h0⟩ | ⟨g, cap, cur, hv, hB, hg, h1, h2, h3, h4⟩
  · omega
  · injection hv with e1 e2 e3
    exact ⟨g, e1, hB, cur, hg, by rw [h3]; exact Nat.mul_le_mul_right _ h1, h4⟩
theorem own_cell4 {w : World} {B g n c : Nat} {acc : List (List UInt8)} (h : OwnT w B (.slice (some ⟨g, 0, none⟩) n c) acc) {j : Nat} {x : List UInt8} (hx : acc[j]? = some x) : w.cell? ⟨g, j, none⟩ = some (.string (bs x)) := by
  obtain ⟨a, e, _, hc⟩ := (TextsAt.of_own h).at_ hx
  obtain rfl := Option.some.inj e
  rwa [show (⟨g, 0, none⟩ : Addr).add j = ⟨g, j, none⟩ by unfold Addr.add; split <;> simp_all] at hc
theorem below_setCells {B g : Nat} {w : World} (hg : B ≤ g) (q o : Nat) (vs : List Value) : Below B w ((w.drewN q).setCells g o vs) := by
  have : ∀ (vs : List Value) (o : Nat) (w' : World), Below B w w' → Below B w (w'.setCells g o vs) := by
    intro vs
    induction vs with
    | nil => intro o w' h; exact h
    | cons u r ih => intro o w' h; exact ih _ _ (h.setCell (p := ⟨g, o, none⟩) hg u)
  exact this vs o _ (below_drewN (Below.refl _ _) q)
theorem rev_texts {w : World} {B g n c : Nat} {acc : List (List UInt8)} (h : OwnT w B (.slice (some ⟨g, 0, none⟩) n c) acc) (q : Nat) : TextsAt ((w.drewN q).setCells g 0 ((Lib.strsOf (fun j => bs (acc.getD j [])) acc.length).reverse.map encStr)) (.slice (some ⟨g, 0, none⟩) n c) acc.reverse := by
  have hs : Lib.strsOf (fun j => bs (acc.getD j [])) acc.length = acc := by
    unfold Lib.strsOf
    apply List.ext_getElem
    · simp
    · intro i h1 h2
      simp [List.getD_eq_getElem?_getD, List.getElem?_eq_getElem h2, bs]
  have hm : (Lib.strsOf (fun j => bs (acc.getD j [])) acc.length).reverse.map encStr = flatS acc.reverse := by
    rw [hs]
    rfl
  rw [hm]
  have hn : n = acc.length := by
    obtain ⟨_, h⟩ := h
    rcases h with ⟨h0, _⟩ | ⟨g', cap, cur, hv, _⟩
    · cases h0
    · injection hv
  obtain ⟨A, c', h1, hcap, _, _⟩ := TextsAt.of_own h
  injection h1 with _ _ h1c
  subst h1c
  have hold : ∀ j, j < (flatS acc.reverse).length → ((w.drewN q).cell? ⟨g, 0 + j, none⟩).isSome = true := fun j hj => by
    rw [flatS_len, List.length_reverse] at hj
    rw [Nat.zero_add]
    have := own_cell4 h (List.getElem?_eq_getElem hj)
    rw [World.cell?_drewN, this]
    rfl
  refine ⟨some ⟨g, 0, none⟩, c, by rw [List.length_map, List.length_reverse, hn], by rw [List.length_map, List.length_reverse]; simpa using hcap, by simp [strV], fun k x hx => ?_⟩
  rw [List.getElem?_map, Option.map_eq_some_iff] at hx
  obtain ⟨y, hy, rfl⟩ := hx
  have hk : k < acc.reverse.length := (List.getElem?_eq_some_iff.1 hy).1
  have hk' : k < (flatS acc.reverse).length := by rw [flatS_len]; exact hk
  have hc := World.cell?_setCells_in g (flatS acc.reverse) 0 (w.drewN q) hold k hk'
  rw [Nat.zero_add] at hc
  have he : (flatS acc.reverse)[k] = .string (bs y) := by
    have h5 : (flatS acc.reverse)[k]? = some (.string (bs y)) := by unfold flatS; rw [List.getElem?_map, hy]; rfl
    rw [List.getElem?_eq_getElem hk'] at h5
    exact Option.some.inj h5
  rw [he] at hc
  have hlt : g < ((w.drewN q).setCells g 0 (flatS acc.reverse)).heap.size := World.block_lt_of_cell? _ ⟨g, k, none⟩ hc
  refine ⟨⟨g, 0, none⟩, rfl, hlt, fun j u hu => ?_⟩
  have hj : j = 0 := by
    rcases Nat.eq_zero_or_pos j with hz | hz
    · exact hz
    · rw [List.getElem?_eq_none (by simp only [strV, List.length_cons, List.length_nil]; omega)] at hu; cases hu
  subst hj
  simp only [strV, List.getElem?_cons_zero, Option.some.injEq] at hu
  subst hu
  rw [show ((⟨g, 0, none⟩ : Addr).add (k * 1)).add 0 = ⟨g, k, none⟩ by rw [add_of_add, Nat.add_zero, Nat.mul_one]; unfold Addr.add; split <;> simp_all]
  exact hc
theorem flatS_snoc (l : List (List UInt8)) (x : List UInt8) : flatS (l ++ [x]) = flatS l ++ [.string (bs x)] := by simp [flatS]
structure PaI (ls : List (List UInt8)) (i : Nat) (w : World) (t0 t6 : Value) (ik : Nat) (wr : World) (lk : List (List UInt8)) (f : Nat) (acc : List (List UInt8)) : Prop where
  at_ : TextsAt w t0 lk
  fit : ∀ x ∈ lk, x.length ≤ 100000000000
  path : acc ++ pathF f lk ik = pathF ls.length ls i
  own : OwnT wr w.heap.size t6 acc
  below : Below w.heap.size w wr
def PathR (ls : List (List UInt8)) (i : Nat) (w : World) (e : Ending) (w' : World) : Prop := ∃ v', e = .returned (.tuple #[v', .int .i64 0]) ∧ TextsAt w' v' (pathV ls i) ∧ Below w.heap.size w w'
set_option maxRecDepth 100000 in
set_option maxHeartbeats 600000 in
theorem Path_any (ls : List (List UInt8)) (hl : ls.length ≤ 1000000000) (hp : properT ls = true) (hx : ∀ x ∈ ls, x.length ≤ 100000000000) (i : Nat) (hi : i < ls.length) (v : Value) (w : World) (hv : TextsAt w v ls) (hg : Glob w) :
    Calls Tryz.prog 29 #[v, .int .i64 (i : Int)] w (PathR ls i w) := by
  have CP := tproper_any ls (by omega) hx v w hv
  rw [hp] at CP
  obtain ⟨i0, hi0, hz0, hz1, hz2⟩ := info_parts (show (Tryz.prog.info? 9).map (fun i => (i.zero, i.size, i.bytes)) = some (some (.string ⟨#[]⟩), 1, 16) by kernel_rfl)
  have HS0 := hide hv
  have HX0 := hide hx
  have HG := hide hg
  obtain ⟨A0, c0, rfl, _⟩ := hv.slice
  have q0 : decide ((i : Int) < 0) = false := decide_eq_false (by omega)
  have q1 : decide (ls.length ≤ i) = false := decide_eq_false (by omega)
  have q2 : ¬ ls.length ≤ i := by omega
  clear hv hx hg hp
  go_enter Tryz.func29, Tryz.ntmps29
  go_wp2_with fail
  refine CP.mono ?_
  rintro e w1 ⟨rfl, hb⟩
  have HB1 := hide hb
  have HS1 := hide (HS0.out.to hb)
  clear hb CP HS0
  go_wp2_with fail
  go_loopw [0, 1, 6, 7] (fun t0 t1 t6 _ wr => ∃ (lk : List (List UInt8)) (ik f : Nat) (acc : List (List UInt8)), t1 = .int .i64 (ik : Int) ∧ (∃ A c, t0 = .slice A lk.length c) ∧ (ik < lk.length ∧ lk.length ≤ ls.length ∧ lk.length ≤ f ∧ acc.length + lk.length ≤ ls.length) ∧ Aside (PaI ls i w1 t0 t6 ik wr lk f acc)) (fun t0 _ _ _ _ => lenOf t0)
  case atStart => exact ⟨ls, i, ls.length, [], rfl, ⟨_, _, rfl⟩, ⟨hi, Nat.le_refl _, Nat.le_refl _, by simp⟩, ⟨HS1.out, HX0.out, rfl, World.ownsRow_nil _ _ _ _, Below.refl _ _⟩⟩
  case round =>
    obtain ⟨lk, ik, f, acc, rfl, ⟨A, c, rfl⟩, ⟨h1, h2, h3, h4⟩, hI⟩ := hrel
    have HI : Hid (PaI ls i w1 (.slice A lk.length c) _ ik wr lk f acc) := hI
    clear hI
    by_cases hlt : 2 ≤ lk.length
    · have e1 : decide ((1 : Int) < (lk.length : Int)) = true := decide_eq_true (by omega)
      obtain ⟨f', rfl⟩ : ∃ f', f = f' + 1 := ⟨f - 1, by omega⟩
      have hh := half_lt hlt
      have CH := fun w => half_any lk.length (by omega) w
      obtain ⟨x0, hx0⟩ : ∃ x, lk[0]? = some x := ⟨_, List.getElem?_eq_getElem (by omega)⟩
      obtain ⟨a, rfl, ha, _⟩ := HI.out.at_.at_ hx0
      have hcap := HI.out.at_.cap
      have HPL := fun h : ik < halfN lk.length => pathF_lt (f := f') hlt h
      have HPG := fun h : ¬ ik < halfN lk.length => pathF_ge (f := f') hlt h
      clear hx0
      generalize hk : halfN lk.length = k at *
      clear hk
      have CT1 := total_any (lk.drop k) (by rw [List.length_drop]; omega) (fun x h => HI.out.fit x (List.mem_of_mem_drop h)) _ wr ((HI.out.at_.drop (k := k) (by omega) (c - k) (by omega)).to HI.out.below) (HG.out.to HB1.out |>.to HI.out.below)
      have CT2 := total_any (lk.take k) (by rw [List.length_take]; omega) (fun x h => HI.out.fit x (List.mem_of_mem_take h)) _ wr ((HI.out.at_.take (k := k) (by omega) c (by omega)).to HI.out.below) (HG.out.to HB1.out |>.to HI.out.below)
      have k1 : (k : Int) ≤ (c : Int) := by omega
      have k0 : (0 : Int) ≤ (k : Int) := by omega
      have k2 : (k : Int) ≤ (lk.length : Int) := by omega
      have k3 : ((k : Int) == (c : Int)) = false := by rw [beq_eq_false_iff_ne]; omega
      have k4 : k ≠ c := by omega
      have k5 : k ≤ lk.length := by omega
      have k6 : k ≤ c := by omega
      by_cases hik : ik < k
      · have e2 : decide ((ik : Int) < (k : Int)) = true := decide_eq_true (by omega)
        have HP := hide (HPL hik)
        clear HPL HPG CT2
        generalize totalT (lk.drop k) = d at *
        go_wp2_with ((with_reducible refine (CH _).mono ?_); rintro e w' ⟨rfl, rfl⟩)
        refine CT1.mono ?_
        rintro e w4 ⟨rfl, hb4⟩
        have HB4 := hide (below_to HI.out.below (Nat.le_refl _) hb4)
        have HO4 := hide (own_to4 HI.out.own hb4)
        have HSZ : Hid (w1.heap.size ≤ w4.heap.size) := HB4.out.size
        have HACC : acc.length ≤ 1000000000 := by omega
        clear hb4 CT1
        go_wp2_with (at_builtin; refine wpList_append_own _ rfl (.tmp 30) (.tmp 35) _ rfl w1.heap.size 9 i0 (.string ⟨#[]⟩) 1 16 Tryz.underlying34 hi0 hz0 hz1 hz2 rfl (by omega) _ acc.length (flatS acc) rfl ?c0 ⟨_, 0, none⟩ 1 1 [.string (bs d)] rfl rfl ?c1 ?c2 ?c4 ?c5 ?c3 ?_)
        case c0 => exact own_to4 HO4.out (below_one _ _)
        case c1 => exact cells_new4 (xs := [.string (bs d)]) (by simp)
        case c2 => intro u hu; simp only [List.mem_cons, List.not_mem_nil, or_false] at hu; rcases hu with rfl; rfl
        case c4 => simp only [maxLen]; omega
        case c5 => omega
        case c3 => have := HSZ.out; simp; omega
        intro v' w6 hown6 hgr6 _
        have HB6 := hide ((below_alloc HB4.out (Nat.le_refl _) _).grown hgr6 (by have := HSZ.out; simp; omega) (fun b hb => (HO4.out.lt b hb).1))
        have HO6 : Hid (OwnT w6 w1.heap.size v' (acc ++ [d])) := by
          show World.ownsRow _ _ _ _ _ _ _
          rw [flatS_snoc, List.length_append]
          exact hown6
        have HS6 : Hid (TextsAt w1 (.slice (some a) k c) (lk.take k)) := HI.out.at_.take k5 c k6
        clear hown6 hgr6
        go_wp2_with fail
        refine ⟨⟨lk.take k, ik, f', acc ++ [d], rfl, ⟨_, _, by rw [List.length_take, Nat.min_eq_left k5]⟩, ⟨by rw [List.length_take]; omega, by rw [List.length_take]; omega, by rw [List.length_take]; omega, by rw [List.length_append, List.length_take, List.length_cons, List.length_nil]; omega⟩, ⟨HS6.out, fun x h => HI.out.fit x (List.mem_of_mem_take h), by rw [List.append_assoc, List.singleton_append, ← HP.out]; exact HI.out.path, HO6.out, HB6.out⟩⟩, ?_⟩
        show k < lk.length
        omega
      · have e2 : decide ((ik : Int) < (k : Int)) = false := decide_eq_false (by omega)
        have HP := hide (HPG hik)
        clear HPL HPG CT1
        generalize totalT (lk.take k) = d at *
        go_wp2_with ((with_reducible refine (CH _).mono ?_); rintro e w' ⟨rfl, rfl⟩)
        refine CT2.mono ?_
        rintro e w4 ⟨rfl, hb4⟩
        have HB4 := hide (below_to HI.out.below (Nat.le_refl _) hb4)
        have HO4 := hide (own_to4 HI.out.own hb4)
        have HSZ : Hid (w1.heap.size ≤ w4.heap.size) := HB4.out.size
        have HACC : acc.length ≤ 1000000000 := by omega
        clear hb4 CT2
        go_wp2_with (at_builtin; refine wpList_append_own _ rfl (.tmp 40) (.tmp 45) _ rfl w1.heap.size 9 i0 (.string ⟨#[]⟩) 1 16 Tryz.underlying34 hi0 hz0 hz1 hz2 rfl (by omega) _ acc.length (flatS acc) rfl ?c0 ⟨_, 0, none⟩ 1 1 [.string (bs d)] rfl rfl ?c1 ?c2 ?c4 ?c5 ?c3 ?_)
        case c0 => exact own_to4 HO4.out (below_one _ _)
        case c1 => exact cells_new4 (xs := [.string (bs d)]) (by simp)
        case c2 => intro u hu; simp only [List.mem_cons, List.not_mem_nil, or_false] at hu; rcases hu with rfl; rfl
        case c4 => simp only [maxLen]; omega
        case c5 => omega
        case c3 => have := HSZ.out; simp; omega
        intro v' w6 hown6 hgr6 _
        have HB6 := hide ((below_alloc HB4.out (Nat.le_refl _) _).grown hgr6 (by have := HSZ.out; simp; omega) (fun b hb => (HO4.out.lt b hb).1))
        have HO6 : Hid (OwnT w6 w1.heap.size v' (acc ++ [d])) := by
          show World.ownsRow _ _ _ _ _ _ _
          rw [flatS_snoc, List.length_append]
          exact hown6
        have HS6 : Hid (TextsAt w1 (.slice (some (a.add k)) (lk.length - k) (c - k)) (lk.drop k)) := HI.out.at_.drop k5 (c - k) (by omega)
        clear hown6 hgr6
        go_wp2_with fail
        refine ⟨⟨lk.drop k, ik - k, f', acc ++ [d], by rw [show ((ik - k : Nat) : Int) = (ik : Int) - (k : Int) by omega], ⟨_, _, by rw [List.length_drop]⟩, ⟨by rw [List.length_drop]; omega, by rw [List.length_drop]; omega, by rw [List.length_drop]; omega, by rw [List.length_append, List.length_drop, List.length_cons, List.length_nil]; omega⟩, ⟨HS6.out, fun x h => HI.out.fit x (List.mem_of_mem_drop h), by rw [List.append_assoc, List.singleton_append, ← HP.out]; exact HI.out.path, HO6.out, HB6.out⟩⟩, ?_⟩
        show lk.length - k < lk.length
        omega
    · have e1 : decide ((1 : Int) < (lk.length : Int)) = false := decide_eq_false (by omega)
      have HPN : Hid (acc = pathF ls.length ls i) := by
        have := HI.out.path
        rw [pathF_one (by omega), List.append_nil] at this
        exact this
      have HO := hide HI.out.own
      obtain ⟨A2, c2, rfl⟩ := own_sl4 HI.out.own
      go_wp2_with fail
      cases hacc : acc with
      | nil =>
        rw [hacc] at HO HPN
        have CR : Calls Tryz.prog 64 #[.slice A2 ([] : List (List UInt8)).length c2] wr fun e w' => e = .returned (.tuple #[]) ∧ w' = wr := Tryz.slices_Reverse_string_empty A2 c2 wr
        refine CR.mono ?_
        rintro e w8 ⟨rfl, rfl⟩
        go_wp2_with fail
        go_ret2
        exact ⟨_, rfl, TextsAt.of_own (B := w1.heap.size) (by unfold pathV; rw [← HPN.out]; exact HO.out), below_to HB1.out (Nat.le_refl _) HI.out.below⟩
      | cons x r =>
        rw [← hacc]
        have hne : 0 < acc.length := by rw [hacc]; simp
        clear hacc
        obtain ⟨g, rfl, hgB, cur, hblk, hcap2, htake⟩ := own_blk4 HO.out hne
        have hal : acc.length ≤ 1000000000 := by omega
        have CR := Tryz.slices_Reverse_string_cells g 0 acc.length c2 (fun j => bs (acc.getD j [])) wr (by omega) (fun j hj => by
          rw [Nat.zero_add]
          exact own_cell4 HO.out (by rw [List.getD_eq_getElem?_getD, List.getElem?_eq_getElem hj]; rfl)) (fun j hj => hblk.frozen _)
        refine CR.mono ?_
        rintro e w8 ⟨rfl, q, rfl⟩
        have HRV := hide (rev_texts HO.out q)
        have HBR : Hid (Below w1.heap.size wr ((wr.drewN q).setCells g 0 ((Lib.strsOf (fun j => bs (acc.getD j [])) acc.length).reverse.map encStr))) := below_setCells hgB _ _ _
        clear CR
        generalize (wr.drewN q).setCells g 0 ((Lib.strsOf (fun j => bs (acc.getD j [])) acc.length).reverse.map encStr) = w9 at *
        go_wp2_with fail
        go_ret2
        exact ⟨_, rfl, by unfold pathV; rw [← HPN.out]; exact HRV.out, below_to HB1.out (Nat.le_refl _) (HI.out.below.trans HBR.out)⟩
end Go.Proofs.YtdiebacfbhjbdaaGreatDoor

/- Walks of the reference of layer 1: mix, Sum. -/
set_option linter.unusedVariables false
set_option linter.unusedSimpArgs false
namespace Go.Proofs.YtdiebacfbhjbdaaGreatDoor
open Go.RowKit

set_option maxHeartbeats 1000000 in
theorem rmix_any (X : Nat) (hX : X < 18446744073709551616) (w : World) : Calls Tryz.prog 110 #[.int .u64 (X : Int)] w fun e w' => e = .returned (.int .u64 ((mixN X : Nat) : Int)) ∧ w' = w := by
  have HM := hide (mix_val X hX)
  have hx := hX
  clear hX
  go_enter Tryz.func110, Tryz.ntmps110
  go_wp2_with fail
  go_ret
  exact ⟨congrArg (fun z => Ending.returned (Value.int .u64 z)) HM.out, rfl⟩
def hexS : List UInt8 := [48, 49, 50, 51, 52, 53, 54, 55, 56, 57, 97, 98, 99, 100, 101, 102]
theorem hexS_cut : ∀ m, m < 16 → (hexS.drop m).take (m + 1 - m) = [hexC m] := by decide
theorem hexS_ext (m : Nat) (h : m < 16) : (⟨#[48, 49, 50, 51, 52, 53, 54, 55, 56, 57, 97, 98, 99, 100, 101, 102]⟩ : ByteArray).extract m (m + 1) = bs [hexC m] := by
  have := bs_cut hexS m (m + 1)
  rw [hexS_cut m h] at this
  exact this
theorem pad8_at (l : List UInt8) (j : Nat) (hj : j < 8) : (pad8 l)[j]? = some (l.getD j 0) := by
  unfold pad8
  rcases Nat.lt_or_ge j l.length with h | h
  · rw [List.getElem?_append_left (by rw [List.length_take]; omega), List.getElem?_take_of_lt hj, List.getD_eq_getElem?_getD, List.getElem?_eq_getElem h]; rfl
  · rw [List.getElem?_append_right (by rw [List.length_take]; omega), List.getElem?_replicate, if_pos (by rw [List.length_take]; omega), List.getD_eq_getElem?_getD, List.getElem?_eq_none h]; rfl
def InI (P : List UInt8) (a : Nat) (w wr : World) (b i : Value) : Prop := ∃ j : Nat, j ≤ 8 ∧ i = .int .i64 ((a : Int) + (j : Int)) ∧ b = .int .u64 ((packN (P.take j) : Nat) : Int) ∧ wr = w
def OutI (l : List UInt8) (w wr : World) (st fr : Value) : Prop := ∃ k a : Nat, (k ≤ l.length / 8 + 1 ∧ a ≤ l.length + 8) ∧ Hid (8 * k = a) ∧ fr = .int .i64 (a : Int) ∧ st = .int .u64 ((stN l k : Nat) : Int) ∧ wr = w
def HexI (N : Nat) (w wr : World) (st s i : Value) : Prop := ∃ (j u : Nat) (S : List UInt8), j ≤ 16 ∧ i = .int .i64 (j : Int) ∧ st = .int .u64 (u : Int) ∧ u < 18446744073709551616 ∧ s = .string (bs S) ∧ S.length ≤ 16 ∧ Hid (S.length = j) ∧ Hid (hexN (16 - j) u ++ S = hexN 16 N) ∧ wr = w
set_option maxRecDepth 100000 in
set_option maxHeartbeats 1000000 in
theorem rSum_any (l : List UInt8) (hl : l.length ≤ 140737488355328) (w : World) : Calls Tryz.prog 82 #[.string (bs l)] w fun e w' => e = .returned (.string (bs (sumD l))) ∧ w' = w := by
  have hsz : (bs l).size = l.length := bs_size l
  have HX := hide (u64_xor_nat 7640891576956012809 l.length (by decide) (by omega))
  have z0 : IntKind.u64.wrap (l.length : Int) = (l.length : Int) := by rw [IntKind.wrap_u64]; omega
  go_enter Tryz.func82, Tryz.ntmps82
  go_wp2_with fail
  go_loopw [3, 4, 5, 6] (fun st fr _ _ wr => OutI l w wr st fr) (fun _ fr _ _ _ => l.length + 9 - (intOf fr).toNat)
  case atStart => exact ⟨0, 0, ⟨by omega, by omega⟩, rfl, rfl, congrArg (fun z => Value.int .u64 z) HX.out, rfl⟩
  case round =>
    obtain ⟨k, a, ⟨hk, ha⟩, HK, rfl, rfl, rfl⟩ := hrel
    have hst := stN_lt (l := l) (by omega) k
    clear HX
    by_cases hlt : a ≤ l.length
    · have e1 : decide ((a : Int) ≤ (l.length : Int)) = true := decide_eq_true (by omega)
      have HKs : Hid (stN l (k + 1) = mixN (stN l k ^^^ packN (pad8 (l.drop a)))) := by show _ = _; rw [← HK.out]; rfl
      have HPl := hide (pad8_len (l.drop a))
      have HPa : Hid (∀ j, j < 8 → (pad8 (l.drop a))[j]? = some (l.getD (a + j) 0)) := fun j hj => by rw [pad8_at _ j hj, List.getD_eq_getElem?_getD, List.getElem?_drop, ← List.getD_eq_getElem?_getD]
      generalize pad8 (l.drop a) = P at *
      generalize stN l k = s at *
      go_wp2_with fail
      go_loopw [5, 6] (fun b i wr2 => InI P a wr wr2 b i) (fun _ i _ => a + 8 - (intOf i).toNat)
      case atStart => exact ⟨0, by omega, by simp, rfl, rfl⟩
      case round =>
        obtain ⟨j, hj, rfl, rfl, rfl⟩ := hrel
        by_cases hj8 : j < 8
        · have e2 : decide ((a : Int) + (j : Int) < (a : Int) + 8) = true := decide_eq_true (by omega)
          have hN : packN (P.take j) < 72057594037927936 := by
            have h1 := packN_lt (P.take j)
            have h2 : 256 ^ (P.take j).length ≤ 256 ^ 7 := Nat.pow_le_pow_right (by decide) (by rw [List.length_take]; omega)
            omega
          have HN : Hid (packN (P.take (j + 1)) = packN (P.take j) * 256 + (l.getD (a + j) 0).toNat) := by
            show _ = _
            rw [List.take_add_one, HPa.out j hj8]
            exact packN_snoc _ _
          generalize packN (P.take j) = N at *
          by_cases hin : a + j < l.length
          · have e3 : decide ((a : Int) + (j : Int) < (l.length : Int)) = true := decide_eq_true (by omega)
            obtain ⟨c, hc⟩ : ∃ c, l[a + j]? = some c := ⟨_, List.getElem?_eq_getElem hin⟩
            have ci0 := index_bs l (a + j) c hc
            have ci : ∀ w, (Instr.index 9 (.string (bs l)) (.int .i64 ((a : Int) + (j : Int)))).run Tryz.prog w = .ok (.int .u8 (c.toNat : Int)) w := by
              rw [show (a : Int) + (j : Int) = ((a + j : Nat) : Int) by omega]
              exact ci0 
            clear ci0
            have c8 := c.toNat_lt
            rw [show l.getD (a + j) 0 = c by rw [List.getD_eq_getElem?_getD, hc]; rfl] at HN
            clear hc
            go_wp2_with fail
            refine ⟨⟨j + 1, by omega, by go_num, by rw [HN.out]; go_num, rfl⟩, ?_⟩
            simp [intOf]; omega
          · have e3 : decide ((a : Int) + (j : Int) < (l.length : Int)) = false := decide_eq_false (by omega)
            rw [show l.getD (a + j) 0 = 0 by rw [List.getD_eq_getElem?_getD, List.getElem?_eq_none (by omega)]; rfl] at HN
            go_wp2_with fail
            refine ⟨⟨j + 1, by omega, by go_num, by rw [HN.out]; simp, rfl⟩, ?_⟩
            simp [intOf]; omega
        · obtain rfl : j = 8 := by omega
          have e2 : decide ((a : Int) + (8 : Int) < (a : Int) + 8) = false := decide_eq_false (by omega)
          have HP8 : Hid (packN (P.take 8) = packN P) := by show _ = _; rw [List.take_of_length_le (by have := HPl.out; omega)]
          rw [HP8.out]
          have hN : packN P < 18446744073709551616 := packN_lt64 (by have := HPl.out; omega)
          generalize packN P = N at *
          have hx := u64_xor_nat s N hst hN
          have CM := fun w => rmix_any (s ^^^ N) (xor_lt64 hst hN) w
          generalize s ^^^ N = X at *
          go_wp2_with ((with_reducible refine (CM _).mono ?_); rintro e w' ⟨rfl, rfl⟩)
          refine ⟨⟨k + 1, a + 8, ⟨by have := HK.out; omega, by omega⟩, by have := HK.out; show _ = _; omega, by go_num, by rw [HKs.out], rfl⟩, ?_⟩
          simp [intOf]; omega
    · have e1 : decide ((a : Int) ≤ (l.length : Int)) = false := decide_eq_false (by omega)
      have HS : Hid (stN l k = sumN l) := by
        show _ = _
        have := HK.out
        rw [sumN_st, show k = l.length / 8 + 1 by omega]
      have hs : sumN l < 18446744073709551616 := by rw [← HS.out]; exact hst
      rw [HS.out]
      have HD : Hid (sumD l = hexN 16 (sumN l)) := rfl
      generalize sumN l = N at *
      clear HS hst
      go_wp2_with fail
      go_loopw [3, 7, 8] (fun st s i wr2 => HexI N wr wr2 st s i) (fun _ _ i _ => 16 - (intOf i).toNat)
      case atStart => exact ⟨0, N, [], by omega, rfl, rfl, hs, rfl, by simp, rfl, by show _ = _; simp, rfl⟩
      case round =>
        obtain ⟨j, u, S, hj, rfl, rfl, hu, rfl, hS, HSl, HE, rfl⟩ := hrel
        have hz : (bs S).size = S.length := bs_size S
        by_cases hj16 : j < 16
        · have e2 : decide ((j : Int) < 16) = true := decide_eq_true (by omega)
          obtain ⟨m, hm, hm16⟩ : ∃ m, u % 16 = m ∧ m < 16 := ⟨_, rfl, by omega⟩
          have h1 : (u : Int).tmod 16 = (m : Int) := by rw [Int.tmod_eq_emod_of_nonneg (by omega), ← hm, Int.natCast_emod]; rfl
          have hx := hexS_ext m hm16
          have hz1 : (bs [hexC m]).size = 1 := rfl
          have H2 : Hid ((u : Int) / 16 = ((u / 16 : Nat) : Int)) := by show _ = _; rw [Int.natCast_ediv]; rfl
          have HN : Hid (hexN (16 - (j + 1)) (u / 16) ++ ([hexC m] ++ S) = hexN 16 N) := by
            show _ = _
            rw [← HE.out, show 16 - j = (16 - (j + 1)) + 1 by omega, hexN, hm, List.append_assoc]
          clear hm
          go_wp2_with fail
          refine ⟨⟨j + 1, u / 16, [hexC m] ++ S, by omega, by go_num, by rw [H2.out], by omega, by rw [← bs_app], by have := HSl.out; rw [List.length_append, List.length_cons, List.length_nil]; omega, by show _ = _; have := HSl.out; rw [List.length_append, List.length_cons, List.length_nil]; omega, HN.out, rfl⟩, ?_⟩
          simp [intOf]; omega
        · obtain rfl : j = 16 := by omega
          have e2 : decide (((16 : Nat) : Int) < 16) = false := by decide
          have HF : Hid (S = sumD l) := by show _ = _; rw [HD.out, ← HE.out]; rfl
          go_wp2_with fail
          go_ret
          exact ⟨ret_str' (by rw [HF.out]), rfl⟩
end Go.Proofs.YtdiebacfbhjbdaaGreatDoor

/- Walks of the reference of layer 1: Joined, List, Digit, Is. -/
set_option linter.unusedVariables false
set_option linter.unusedSimpArgs false
namespace Go.Proofs.YtdiebacfbhjbdaaGreatDoor
open Go.RowKit

def lenS (ls : List (List UInt8)) : Nat := (ls.map List.length).sum
theorem lenS_snoc {ls : List (List UInt8)} {k : Nat} {x : List UInt8} (h : ls[k]? = some x) : lenS (ls.take (k + 1)) = lenS (ls.take k) + x.length := by unfold lenS; rw [List.take_add_one, h]; simp
theorem lenS_le (ls : List (List UInt8)) (k : Nat) : lenS (ls.take k) ≤ lenS ls := by
  have : lenS ls = lenS (ls.take k) + lenS (ls.drop k) := by unfold lenS; rw [← List.sum_append_nat, ← List.map_append, List.take_append_drop]
  omega
def JoB (w : World) (B : Nat) (v : Value) (J : List UInt8) : Prop := w.ownsRow B 5 1 v J.length (Lib.byteCells J)
set_option maxRecDepth 100000 in
set_option maxHeartbeats 300000 in
theorem rJoined_any (ls : List (List UInt8)) (hn : ls.length ≤ 1000) (hs : lenS ls ≤ 100000000000) (hl : (joinD ls).length ≤ 140737488355328) (v : Value) (w : World) (hv : TextsAt w v ls) :
    Calls Tryz.prog 83 #[v] w fun e w' => e = .returned (.string (bs (joinD ls))) ∧ Below w.heap.size w w' := by
  obtain ⟨A, c, rfl, _⟩ := hv.slice
  obtain ⟨i0, hi0, hz0, hz1, hz2⟩ := info_parts (show (Tryz.prog.info? 5).map (fun i => (i.zero, i.size, i.bytes)) = some (some (.int .u8 0), 1, 1) by kernel_rfl)
  have HS := hide hv
  have HT := hide hl
  clear hv hl
  go_enter Tryz.func83, Tryz.ntmps83
  go_wp2_with fail
  go_loopw [3, 4] (fun n i wr => ∃ k m : Nat, i = .int .i64 (k : Int) ∧ n = .int .i64 (m : Int) ∧ (k ≤ ls.length ∧ m ≤ 100000021000) ∧ Hid (m = lenS (ls.take k) + 21 * k) ∧ wr = w) (fun _ i _ => ls.length - (intOf i).toNat)
  case atStart => exact ⟨0, 0, rfl, rfl, ⟨by omega, by omega⟩, rfl, rfl⟩
  case round =>
    obtain ⟨k, m, rfl, rfl, ⟨hk, hm⟩, HM, hw⟩ := hrel
    obtain rfl : w = wr := hw.symm
    clear hw
    by_cases hlt : k < ls.length
    · have e1 : decide ((k : Int) < (ls.length : Int)) = true := decide_eq_true (by omega)
      obtain ⟨x, hx⟩ : ∃ x, ls[k]? = some x := ⟨_, List.getElem?_eq_getElem hlt⟩
      obtain ⟨a, rfl, ha, c0⟩ := HS.out.at_ hx
      have hz : (bs x).size = x.length := bs_size _
      have HL := hide (lenS_snoc hx)
      have HLE := hide (lenS_le ls (k + 1))
      have hxl : x.length ≤ 100000000000 := by have h1 := HL.out; have h2 := HLE.out; omega
      clear hx
      go_wp2_with fail
      refine ⟨⟨k + 1, m + (x.length + 21), by go_num, by go_num, ⟨by omega, ?_⟩, ?_, trivial⟩, ?_⟩
      · have h1 := HL.out; have h2 := HLE.out; have h3 := HM.out; omega
      · show _ = _
        have h1 := HL.out; have h3 := HM.out; omega
      · simp [intOf]; omega
    · obtain rfl : k = ls.length := by omega
      have e1 : decide ((ls.length : Int) < (ls.length : Int)) = false := by simp
      go_wp2_with (refine wpList_make_own _ rfl (.const (.int .i64 0)) (.tmp 21) 73 rfl w.heap.size 5 i0 (.int .u8 0) 1 Tryz.underlying73 hi0 hz0 hz1 .i64 .i64 (m : Int) m rfl rfl rfl (by rw [hz2]; omega) (by simp only [maxLen]; omega) (Nat.le_refl _) ?_; intro w2 hown2 hgr2)
      have HO2 := hide hown2
      have HB2 : Hid (Below w.heap.size w w2) := (Below.refl _ _).grown hgr2 (Nat.le_refl _) (fun k h => by cases h)
      clear hown2 hgr2
      have hne0 : Value.slice (some ⟨w.heap.size, 0, none⟩) 0 m ≠ .slice none 0 0 := by intro h; injection h with h; cases h
      generalize Value.slice (some ⟨w.heap.size, 0, none⟩) 0 m = out0 at *
      go_loopw [5, 6] (fun out i w3 => ∃ k : Nat, i = .int .i64 (k : Int) ∧ k ≤ ls.length ∧ Aside (Below w.heap.size w w3) ∧ Aside (JoB w3 w.heap.size out (joinD (ls.take k))) ∧ Aside (out ≠ .slice none 0 0)) (fun _ i _ => ls.length - (intOf i).toNat)
      case atStart => exact ⟨0, rfl, by omega, HB2.out, HO2.out, hne0⟩
      case round =>
        obtain ⟨k, rfl, hk2, hB, hO, hne⟩ := hrel
        have HB : Hid (Below w.heap.size w wr) := hB
        have HO : Hid (wr.ownsRow w.heap.size 5 1 _ (joinD (ls.take k)).length (Lib.byteCells (joinD (ls.take k)))) := hO
        have HNE : Hid (_ ≠ Value.slice none 0 0) := hne
        clear hB hO hne hne0 HO2 HB2
        by_cases hlt : k < ls.length
        · have e1 : decide ((k : Int) < (ls.length : Int)) = true := decide_eq_true (by omega)
          obtain ⟨x, hx⟩ : ∃ x, ls[k]? = some x := ⟨_, List.getElem?_eq_getElem hlt⟩
          obtain ⟨a, rfl, ha, c0⟩ := (TextsAt.to HS.out HB.out).at_ hx
          have hz : (bs x).size = x.length := bs_size _
          have HJ : Hid (joinD (ls.take (k + 1)) = joinD (ls.take k) ++ (Lib.decDigits x.length ++ [58] ++ x)) := by
            show _ = _
            rw [List.take_add_one, hx]
            have h := joinD_snoc (ls.take k) x
            rw [show Lib.itoa (x.length : Int) = Lib.decDigits x.length by unfold Lib.itoa; rw [if_neg (by omega)]; simp] at h
            exact h
          have HLN : Hid ((joinD (ls.take k)).length + ((Lib.decDigits x.length).length + 1 + x.length) ≤ 140737488355328) := by
            have h1 : joinD ls = joinD (ls.take (k + 1)) ++ joinD (ls.drop (k + 1)) := by unfold joinD; rw [← List.flatMap_append, List.take_append_drop]
            have h2 := HT.out
            rw [h1, HJ.out] at h2
            simp only [List.length_append, List.length_cons, List.length_nil] at h2
            show _ ≤ _
            omega
          have hxl : x.length ≤ 9223372036854775807 := by have := HLN.out; omega
          have CD := fun w => rDecimal_any x.length hxl w
          have hz2' : (bs (Lib.decDigits x.length)).size = (Lib.decDigits x.length).length := bs_size _
          have HXx := hide hx
          clear hx
          generalize joinD (ls.take k) = J at *
          generalize Lib.decDigits x.length = D at *
          have b0 : J.length + (bs D).size ≤ 140737488355328 := by have := HLN.out; rw [hz2']; omega
          have b1 : J.length + (bs D).size + 1 ≤ 140737488355328 := by have := HLN.out; rw [hz2']; omega
          have b2 : J.length + (bs D).size + 1 + (bs x).size ≤ 140737488355328 := by have := HLN.out; rw [hz2', hz]; omega
          have b3 : w.heap.size ≤ wr.heap.size := HB.out.size
          have HB0 := hide b0
          have HB1 := hide b1
          have HB2 := hide b2
          have HB3 := hide b3
          clear b0 b1 b2 b3 hz2'
          go_wp2_with (first | ((with_reducible refine (CD _).mono ?_); rintro e w' ⟨rfl, rfl⟩) | (at_builtin; (refine Lib.wpList_append_own_string _ rfl (.tmp 29) (.tmp 35) 73 9 rfl w.heap.size 5 i0 Tryz.underlying73 Tryz.underlying9 hi0 hz0 hz1 hz2 _ J.length (Lib.byteCells J) rfl HO.out (bs D) rfl (by have := HB0.out; simp only [maxLen]; omega) (by have := HB0.out; omega) HB3.out ?_); intro v1 w11 hown1 hgr1 hiff1) | (at_builtin; (refine wpList_append_own _ rfl (.tmp 37) (.tmp 38) _ rfl w.heap.size 5 i0 (.int .u8 0) 1 1 Tryz.underlying73 hi0 hz0 hz1 hz2 rfl (by omega) _ (J.length + (bs D).size) (Lib.byteCells J ++ Lib.strCells (bs D)) rfl (own_to4 hown1 (below_one _ _)) ⟨_, 0, none⟩ 1 1 [.int .u8 58] rfl rfl (cells_new4 (xs := [.int .u8 58]) rfl) (by intro u hu; rw [List.mem_singleton.1 hu]; rfl) (by have := HB1.out; simp only [maxLen]; omega) (by have := HB1.out; omega) (Nat.le_trans HB3.out (Nat.le_trans hgr1.size (below_one _ _).size)) ?_); intro v2 w12 hown2 hgr2 hiff2; have HB11 := hide (HB.out.grown hgr1 HB3.out (fun k h => (HO.out.lt k h).1)); have HB12 := hide ((below_alloc HB11.out (Nat.le_refl _) (.cells #[.int .u8 58] 5)).grown hgr2 (Nat.le_trans HB11.out.size (below_one _ _).size) (fun k h => (hown1.lt k h).1)); obtain ⟨a2, ea2, _, hcx⟩ := (TextsAt.to HS.out HB12.out).at_ HXx.out; obtain rfl := Option.some.inj ea2) | (at_builtin; (refine Lib.wpList_append_own_string _ rfl (.tmp 40) (.tmp 44) 73 9 rfl w.heap.size 5 i0 Tryz.underlying73 Tryz.underlying9 hi0 hz0 hz1 hz2 _ (J.length + (bs D).size + 1) (Lib.byteCells J ++ Lib.strCells (bs D) ++ [Value.int IntKind.u8 58]) rfl hown2 (bs x) rfl (by have := HB2.out; simp only [maxLen]; omega) (by have := HB2.out; omega) HB12.out.size ?_); intro v3 w13 hown3 hgr3 hiff3; have HB13 := hide (HB12.out.grown hgr3 HB12.out.size (fun k h => (hown2.lt k h).1)); have HO13 := hide hown3; have HN13 : Hid (v3 ≠ Value.slice none 0 0) := fun h => by (have h2 := (hiff3.1 h).1; have h3 := (hiff2.1 h2).2; omega)))
          have HF13 : Hid (JoB w13 w.heap.size v3 (joinD (ls.take (k + 1)))) := by
            have h := HO13.out
            rw [strCells_bs, strCells_bs, bs_size, bs_size, ← byteCells_app, show [Value.int IntKind.u8 58] = Lib.byteCells [58] from rfl, ← byteCells_app, ← byteCells_app] at h
            show JoB _ _ _ _
            rw [HJ.out]
            unfold JoB
            have e5 : J ++ (D ++ ([58] : List UInt8) ++ x) = J ++ D ++ [58] ++ x := by simp
            have e6 : (J ++ D ++ ([58] : List UInt8) ++ x).length = J.length + D.length + 1 + x.length := by simp only [List.length_append, List.length_cons, List.length_nil]
            rw [e5, e6]
            exact h
          refine ⟨⟨k + 1, by go_num, by omega, HB13.out, HF13.out, HN13.out⟩, ?_⟩
          simp [intOf]; omega
        · obtain rfl : k = ls.length := by omega
          rw [List.take_length] at HO
          have e1 : decide ((ls.length : Int) < (ls.length : Int)) = false := by simp
          obtain ⟨A2, c2, rfl⟩ := own_sl4 HO.out
          have hcv : (convert 73 9 (.slice A2 (joinD ls).length c2)).run Tryz.prog wr = .ok (.string (bs (joinD ls))) wr := by
            have h := HO.out
            obtain ⟨_, h⟩ := h
            rcases h with ⟨hv, _⟩ | ⟨g, cap, cur, hv, hgB, hg, h1, h2, h3, h4⟩
            · exact absurd hv HNE.out
            · injection hv with e1 e2 e3
              subst e1
              refine conv_bytes (P := Tryz.prog) wr 73 5 9 Tryz.underlying73 Tryz.underlying5 Tryz.underlying9 g 0 (joinD ls) _ _ rfl (fun i c hc => ?_)
              rw [Nat.zero_add]
              refine (Blk.cell (cs := cur) hg i).trans ?_
              have hi : i < (joinD ls).length := (List.getElem?_eq_some_iff.1 hc).1
              have h5 : (cur.toList.take ((joinD ls).length * 1))[i]? = some (.int .u8 (c.toNat : Int)) := by rw [h4]; simp [Lib.byteCells, hc]
              rw [List.getElem?_take, if_pos (by omega)] at h5
              simpa using h5
          go_wp2_with fail
          go_ret
          exact ⟨rfl, HB.out⟩
set_option maxHeartbeats 400000 in
theorem rList_any (ls : List (List UInt8)) (hn : ls.length ≤ 1000) (hs : lenS ls ≤ 100000000000) (hl : (joinD ls).length ≤ 140737488355328) (v : Value) (w : World) (hv : TextsAt w v ls) :
    Calls Tryz.prog 54 #[v] w fun e w' => e = .returned (.string (bs (listD ls))) ∧ Below w.heap.size w w' := by
  have CJ := rJoined_any ls hn hs hl v w hv
  have CS := fun w => rSum_any (joinD ls) hl w
  clear hv
  go_enter Tryz.func54, Tryz.ntmps54
  go_wp2_with (first | ((with_reducible refine CJ.mono ?_); rintro e w1 ⟨rfl, hb⟩) | ((with_reducible refine (CS _).mono ?_); rintro e w' ⟨rfl, rfl⟩))
  go_ret
  exact ⟨rfl, by assumption⟩
def digV (c : UInt8) : Int := if 48 ≤ c.toNat ∧ c.toNat ≤ 57 then (c.toNat : Int) - 48 else if 97 ≤ c.toNat ∧ c.toNat ≤ 102 then (c.toNat : Int) - 87 else -1
set_option maxHeartbeats 1000000 in
theorem rDigit_any (c : UInt8) (w : World) : Calls Tryz.prog 81 #[.int .u8 (c.toNat : Int)] w fun e w' => e = .returned (.int .i64 (digV c)) ∧ w' = w := by
  have hc := c.toNat_lt
  have HV : Hid (digV c = if 48 ≤ c.toNat ∧ c.toNat ≤ 57 then (c.toNat : Int) - 48 else if 97 ≤ c.toNat ∧ c.toNat ≤ 102 then (c.toNat : Int) - 87 else -1) := rfl
  generalize c.toNat = n at *
  have hc' : n < 256 := hc
  by_cases h1 : 48 ≤ n ∧ n ≤ 57
  · rw [if_pos h1] at HV
    have a1 : (48 : Int) ≤ (n : Int) := by omega
    have a2 : (n : Int) ≤ 57 := by omega
    clear h1 hc
    go_enter Tryz.func81, Tryz.ntmps81
    go_wp2_with fail
    go_ret
    exact ⟨ret_int HV.out.symm, rfl⟩
  · rw [if_neg h1] at HV
    by_cases h2 : 97 ≤ n ∧ n ≤ 102
    · rw [if_pos h2] at HV
      have a1 : (97 : Int) ≤ (n : Int) := by omega
      have a2 : (n : Int) ≤ 102 := by omega
      clear h1 h2 hc
      go_enter Tryz.func81, Tryz.ntmps81
      go_wp2_with fail
      go_ret
      exact ⟨ret_int (by rw [HV.out]; omega), rfl⟩
    · rw [if_neg h2] at HV
      clear hc
      go_enter Tryz.func81, Tryz.ntmps81
      go_wp2_with fail
      all_goals first
        | omega
        | (go_ret; exact ⟨ret_int (by rw [HV.out]), rfl⟩)
theorem digV_hex (c : UInt8) : decide (digV c < 0) = !isHex c := by
  have hc := c.toNat_lt
  unfold digV isHex
  generalize c.toNat = n at *
  by_cases h1 : 48 ≤ n ∧ n ≤ 57
  · rw [if_pos h1, decide_eq_false (by omega), decide_eq_true h1.1, decide_eq_true h1.2]; rfl
  · rw [if_neg h1]
    by_cases h2 : 97 ≤ n ∧ n ≤ 102
    · rw [if_pos h2, decide_eq_false (by omega), decide_eq_true h2.1, decide_eq_true h2.2]; simp
    · rw [if_neg h2]
      have e1 : (decide (48 ≤ n) && decide (n ≤ 57)) = false := by rw [← Bool.not_eq_true]; simpa using h1
      have e2 : (decide (97 ≤ n) && decide (n ≤ 102)) = false := by rw [← Bool.not_eq_true]; simpa using h2
      rw [e1, e2]; rfl
set_option maxRecDepth 100000 in
set_option maxHeartbeats 1000000 in
theorem rIs_any (l : List UInt8) (hl : l.length ≤ 140737488355328) (w : World) : Calls Tryz.prog 53 #[.string (bs l)] w fun e w' => e = .returned (.bool (isD l)) ∧ w' = w := by
  have hsz : (bs l).size = l.length := bs_size l
  have HV : Hid (isD l = (decide (l.length = 16) && l.all isHex)) := rfl
  go_enter Tryz.func53, Tryz.ntmps53
  go_wp2_with fail
  go_loopw [3] (fun i wr => ∃ k : Nat, i = .int .i64 (k : Int) ∧ (k ≤ l.length ∧ k ≤ 16) ∧ Hid (l.all isHex = (l.drop k).all isHex) ∧ wr = w) (fun i _ => l.length - (intOf i).toNat)
  case atStart => exact ⟨0, rfl, ⟨by omega, by omega⟩, rfl, rfl⟩
  case round =>
    obtain ⟨k, rfl, ⟨hk, hk16⟩, HA, rfl⟩ := hrel
    by_cases hlt : k < l.length ∧ k < 16
    · obtain ⟨h1, h2⟩ := hlt
      have e1 : decide ((k : Int) < (l.length : Int)) = true := decide_eq_true (by omega)
      have e2 : decide ((k : Int) < 16) = true := decide_eq_true (by omega)
      obtain ⟨c, hc⟩ : ∃ c, l[k]? = some c := ⟨_, List.getElem?_eq_getElem h1⟩
      have ci := index_bs l k c hc
      have CD := fun w => rDigit_any c w
      have HD := hide (drop_at' hc)
      have HX := hide (digV_hex c)
      clear hc
      generalize digV c = d at *
      cases hx : isHex c with
      | true =>
        have e3 : decide (d < 0) = false := by rw [HX.out, hx]; rfl
        have HN : Hid (l.all isHex = (l.drop (k + 1)).all isHex) := by show _ = _; rw [HA.out, HD.out, List.all_cons, hx]; rfl
        clear hx
        go_wp2_with ((with_reducible refine (CD _).mono ?_); rintro e w' ⟨rfl, rfl⟩)
        refine ⟨⟨k + 1, by go_num, ⟨by omega, by omega⟩, HN.out, trivial⟩, ?_⟩
        simp [intOf]; omega
      | false =>
        have e3 : decide (d < 0) = true := by rw [HX.out, hx]; rfl
        have HN : Hid (isD l = false) := by show _ = _; rw [HV.out, HA.out, HD.out, List.all_cons, hx]; simp
        clear hx
        go_wp2_with ((with_reducible refine (CD _).mono ?_); rintro e w' ⟨rfl, rfl⟩)
        go_ret
        exact ⟨ret_bool (by rw [HN.out]), rfl⟩
    · have HN : Hid (isD l = ((l.length : Int) == 16)) := by
        show _ = _
        by_cases h16 : l.length = 16
        · rw [HV.out, HA.out, List.drop_of_length_le (by omega), decide_eq_true h16, h16]; rfl
        · rw [HV.out, decide_eq_false h16]
          symm
          rw [Bool.false_and, beq_eq_false_iff_ne]; omega
      by_cases h1 : k < l.length
      · have e1 : decide ((k : Int) < (l.length : Int)) = true := decide_eq_true (by omega)
        have e2 : decide ((k : Int) < 16) = false := decide_eq_false (by omega)
        clear hlt
        go_wp2_with fail
        go_ret
        exact ⟨ret_bool (by rw [HN.out]), rfl⟩
      · have e1 : decide ((k : Int) < (l.length : Int)) = false := decide_eq_false (by omega)
        clear hlt
        go_wp2_with fail
        go_ret
        exact ⟨ret_bool (by rw [HN.out]), rfl⟩
end Go.Proofs.YtdiebacfbhjbdaaGreatDoor

/- Walks of the reference of layer 2: Half, Leaf, node, Empty, root, digests, Root. -/
set_option linter.unusedVariables false
set_option linter.unusedSimpArgs false
namespace Go.Proofs.YtdiebacfbhjbdaaGreatDoor
open Go.RowKit

theorem rows_newS (w : World) (t : TypeId) (ls : List (List UInt8)) (cs : Array Value) (hcs : cs.toList = (ls.map strV).flatten) (n : Nat) (hn : n = ls.length) : TextsAt (w.alloc (.cells cs t)) (.slice (some ⟨w.heap.size, 0, none⟩) n n) ls := by
  refine RowsAt.of_blk (Blk.new w t cs) (by rw [List.length_map]; exact hn) (Nat.le_refl _) (by simp [strV]) fun k x hx j u hu => ?_
  have := flat_at (size := 1) (ls.map strV) (by simp [strV]) k x j u hx hu
  rw [← hcs] at this
  simpa using this
set_option maxRecDepth 100000 in
set_option maxHeartbeats 400000 in
theorem rHalf_any (n : Nat) (hn : n ≤ 140737488355328) (w : World) : Calls Tryz.prog 113 #[.int .i64 (n : Int)] w fun e w' => e = .returned (.int .i64 ((halfN n : Nat) : Int)) ∧ w' = w := by
  go_enter Tryz.func113, Tryz.ntmps113
  go_wp2_with fail
  go_loopw [3] (fun k wr => ∃ u f : Nat, k = .int .i64 (u : Int) ∧ (1 ≤ u ∧ u ≤ n + 1 ∧ n ≤ u + f ∧ halfF f u n = halfN n) ∧ wr = w) (fun k _ => n - (intOf k).toNat)
  case atStart => exact ⟨1, n, rfl, ⟨Nat.le_refl _, by omega, by omega, rfl⟩, rfl⟩
  case round =>
    obtain ⟨u, f, rfl, ⟨h1, h1', h2, h3⟩, rfl⟩ := hrel
    have H3 := hide h3
    clear h3
    by_cases hlt : u * 2 < n
    · have e1 : decide (2 * (u : Int) < (n : Int)) = true := decide_eq_true (by omega)
      obtain ⟨f', rfl⟩ : ∃ f', f = f' + 1 := ⟨f - 1, by omega⟩
      have H4 := hide (halfF_go (f := f') hlt)
      go_wp2_with fail
      refine ⟨⟨u * 2, f', by go_num, ⟨by omega, by omega, by omega, H4.out.symm.trans H3.out⟩, trivial⟩, ?_⟩
      simp [intOf]; omega
    · have e1 : decide (2 * (u : Int) < (n : Int)) = false := decide_eq_false (by omega)
      have H4 : Hid (halfN n = u) := H3.out.symm.trans (halfF_stop (by omega))
      go_wp2_with fail
      go_ret
      exact ⟨ret_int (by rw [H4.out]), rfl⟩
theorem lenS2 (a b : List UInt8) : lenS [a, b] = a.length + b.length := by simp [lenS]
theorem lenS3 (a b c : List UInt8) : lenS [a, b, c] = a.length + b.length + c.length := by simp [lenS]; omega
set_option maxHeartbeats 400000 in
theorem rnode_any (a b : List UInt8) (ha : a.length ≤ 1000000000) (hb : b.length ≤ 1000000000) (w : World) : Calls Tryz.prog 114 #[.string (bs a), .string (bs b)] w fun e w' => e = .returned (.string (bs (nodeD a b))) ∧ Below w.heap.size w w' := by
  have CL : Calls Tryz.prog 54 #[.slice (some ⟨w.heap.size, 0, none⟩) 3 3] (w.alloc (.cells #[.string ⟨#[110, 111, 100, 101]⟩, .string (bs a), .string (bs b)] 9)) fun e w' => e = .returned (.string (bs (nodeD a b))) ∧ Below (w.alloc (.cells #[.string ⟨#[110, 111, 100, 101]⟩, .string (bs a), .string (bs b)] 9)).heap.size (w.alloc (.cells #[.string ⟨#[110, 111, 100, 101]⟩, .string (bs a), .string (bs b)] 9)) w' :=
    rList_any [nodeT, a, b] (by simp) (by rw [lenS3]; have : nodeT.length = 4 := rfl; omega) (join3 (by decide) (by omega) (by omega)) _ _ (rows_newS w 9 [nodeT, a, b] _ rfl 3 rfl)
  have HB := hide (below_one w (.cells #[.string ⟨#[110, 111, 100, 101]⟩, .string (bs a), .string (bs b)] 9))
  clear ha hb
  go_enter Tryz.func114, Tryz.ntmps114
  go_wp2_with ((with_reducible refine CL.mono ?_); rintro e w' ⟨rfl, hb⟩)
  go_ret
  exact ⟨rfl, below_to HB.out (Nat.le_refl _) (by assumption)⟩
set_option maxHeartbeats 400000 in
theorem rLeaf_any (a : List UInt8) (ha : a.length ≤ 1000000000) (w : World) : Calls Tryz.prog 86 #[.string (bs a)] w fun e w' => e = .returned (.string (bs (leafD a))) ∧ Below w.heap.size w w' := by
  have CL : Calls Tryz.prog 54 #[.slice (some ⟨w.heap.size, 0, none⟩) 2 2] (w.alloc (.cells #[.string ⟨#[108, 101, 97, 102]⟩, .string (bs a)] 9)) fun e w' => e = .returned (.string (bs (leafD a))) ∧ Below (w.alloc (.cells #[.string ⟨#[108, 101, 97, 102]⟩, .string (bs a)] 9)).heap.size (w.alloc (.cells #[.string ⟨#[108, 101, 97, 102]⟩, .string (bs a)] 9)) w' :=
    rList_any [leafT, a] (by simp) (by rw [lenS2]; have : leafT.length = 4 := rfl; omega) (join2 (by decide) (by omega)) _ _ (rows_newS w 9 [leafT, a] _ rfl 2 rfl)
  have HB := hide (below_one w (.cells #[.string ⟨#[108, 101, 97, 102]⟩, .string (bs a)] 9))
  clear ha
  go_enter Tryz.func86, Tryz.ntmps86
  go_wp2_with ((with_reducible refine CL.mono ?_); rintro e w' ⟨rfl, hb⟩)
  go_ret
  exact ⟨rfl, below_to HB.out (Nat.le_refl _) (by assumption)⟩
set_option maxHeartbeats 400000 in
theorem rEmpty_any (w : World) : Calls Tryz.prog 112 #[] w fun e w' => e = .returned (.string (bs (listD [emptyT]))) ∧ Below w.heap.size w w' := by
  have CL : Calls Tryz.prog 54 #[.slice (some ⟨w.heap.size, 0, none⟩) 1 1] (w.alloc (.cells #[.string ⟨#[101, 109, 112, 116, 121]⟩] 9)) fun e w' => e = .returned (.string (bs (listD [emptyT]))) ∧ Below (w.alloc (.cells #[.string ⟨#[101, 109, 112, 116, 121]⟩] 9)).heap.size (w.alloc (.cells #[.string ⟨#[101, 109, 112, 116, 121]⟩] 9)) w' :=
    rList_any [emptyT] (by simp) (by decide) (by decide +kernel) _ _ (rows_newS w 9 [emptyT] _ rfl 1 rfl)
  have HB := hide (below_one w (.cells #[.string ⟨#[101, 109, 112, 116, 121]⟩] 9))
  go_enter Tryz.func112, Tryz.ntmps112
  go_wp2_with fail
  refine CL.mono ?_
  rintro e w2 ⟨rfl, hb⟩
  have HB2 := hide (below_to HB.out (Nat.le_refl _) hb)
  clear hb CL
  go_wp2_with fail
  go_ret
  exact ⟨rfl, HB2.out⟩
def RRootOk (f : Nat) : Prop := ∀ (ls : List (List UInt8)) (v : Value) (w : World), TextsAt w v ls → ls.length ≤ f → ls.length ≤ 140737488355328 → (∀ x ∈ ls, x.length ≤ 1000000000) → Calls Tryz.prog 85 #[v] w fun e w' => e = .returned (.string (bs (totalT ls))) ∧ Below w.heap.size w w'
theorem total_le {ls : List (List UInt8)} (hx : ∀ x ∈ ls, x.length ≤ 1000000000) : (totalT ls).length ≤ 1000000000 := by
  unfold totalT
  split
  · rw [isD_len (listD_isD _)]; decide
  · cases hl : ls.length with
    | zero => simp [sumT]
    | succ f =>
      by_cases h1 : ls.length = 1
      · rw [sumT_one f h1]
        match ls, h1 with
        | [x], _ => exact hx x (by simp)
      · rw [sumT_two f h1]
        unfold nodeD
        rw [isD_len (listD_isD _)]; decide
set_option maxHeartbeats 1000000 in
theorem rroot_nil (v : Value) (w : World) (hv : TextsAt w v []) : Calls Tryz.prog 85 #[v] w fun e w' => e = .returned (.string (bs (totalT []))) ∧ Below w.heap.size w w' := by
  obtain ⟨A, c, rfl, hc⟩ := hv.slice
  have CE := rEmpty_any w
  have HV : Hid (totalT [] = listD [emptyT]) := rfl
  clear hv
  go_enter Tryz.func85, Tryz.ntmps85
  go_wp2_with ((with_reducible refine CE.mono ?_); rintro e w' ⟨rfl, hb⟩)
  go_ret
  exact ⟨by rw [HV.out]; rfl, by assumption⟩
set_option maxRecDepth 100000 in
set_option maxHeartbeats 1000000 in
theorem rroot_step (f : Nat) (ih : RRootOk f) : RRootOk (f + 1) := by
  intro ls v w hv hf hn hx
  obtain ⟨A, c, rfl, hc⟩ := hv.slice
  by_cases hl0 : ls.length = 0
  · obtain rfl : ls = [] := List.eq_nil_of_length_eq_zero hl0
    exact rroot_nil _ w hv
  by_cases hl1 : ls.length = 1
  · obtain ⟨x, rfl⟩ : ∃ x, ls = [x] := by
      match ls, hl1 with
      | [x], _ => exact ⟨x, rfl⟩
    obtain ⟨a, rfl, ha, c0⟩ := hv.at_ (k := 0) (x := x) rfl
    have HV : Hid (totalT [x] = x) := by show _ = _; unfold totalT; rw [if_neg (by simp)]; exact sumT_one 0 rfl
    rw [show a.add 0 = a from rfl] at c0
    clear hv hx ih
    go_enter Tryz.func85, Tryz.ntmps85
    go_wp2_with fail
    go_ret
    exact ⟨by rw [HV.out]; rfl, Below.refl _ _⟩
  · have hh := half_lt (n := ls.length) (by omega)
    have HV := hide (total_two (l := ls) (by omega))
    have CH := fun w => rHalf_any ls.length hn w
    obtain ⟨x0, hx0⟩ : ∃ x, ls[0]? = some x := ⟨_, List.getElem?_eq_getElem (by omega)⟩
    obtain ⟨a, rfl, ha, _⟩ := hv.at_ hx0
    clear hx0
    obtain ⟨U, hU, g, u0, rfl, hgu, hi⟩ := cls w
    have e0 : ((ls.length : Int) == 0) = false := by rw [beq_eq_false_iff_ne]; omega
    have e1 : ((ls.length : Int) == 1) = false := by rw [beq_eq_false_iff_ne]; omega
    generalize hk : halfN ls.length = k at *
    have CS1 := cls_call hgu hi (fun w hw => ih (ls.take k) _ w ((hv.take (k := k) (by omega) c (by omega)).to hw) (by rw [List.length_take]; omega) (by rw [List.length_take]; omega) (fun x h => hx x (List.mem_of_mem_take h)))
    have CS2 := cls_call hgu hi (fun w hw => ih (ls.drop k) _ w ((hv.drop (k := k) (by omega) (c - k) (by omega)).to hw) (by rw [List.length_drop]; omega) (by rw [List.length_drop]; omega) (fun x h => hx x (List.mem_of_mem_drop h)))
    have CN := cls_call hgu hi (fun w hw => rnode_any (totalT (ls.take k)) (totalT (ls.drop k)) (total_le (fun x h => hx x (List.mem_of_mem_take h))) (total_le (fun x h => hx x (List.mem_of_mem_drop h))) w)
    have HGU := hide hgu
    have HHI := hide hi
    have k1 : (k : Int) ≤ (c : Int) := by omega
    have k0 : (0 : Int) ≤ (k : Int) := by omega
    have k2 : (k : Int) ≤ (ls.length : Int) := by omega
    have k3 : ((k : Int) == (c : Int)) = false := by rw [beq_eq_false_iff_ne]; omega
    have k4 : k ≠ c := by omega
    clear hgu hi hx hv ih
    go_enter Tryz.func85, Tryz.ntmps85
    go_wp2_with ((with_reducible refine (CH _).mono ?_); rintro e w' ⟨rfl, rfl⟩)
    refine wp_region_class g (by kernel_rfl) (by kernel_rfl) (HHI.out _ (HGU.out _).drew) ?_
    repeat (go_big_quiet_step (first | with_reducible exact CS1 _ | with_reducible exact CS2 _ | with_reducible exact CN _))
    refine wpQuiet_nil ?_
    intro w5 hw5
    obtain ⟨u, rfl⟩ := hw5
    go_wp2_with fail
    go_ret
    exact ⟨by rw [HV.out]; rfl, HGU.out _⟩
theorem rroot_any : ∀ f, RRootOk f
  | 0 => fun ls v w hv hf hn hx => by
    obtain rfl : ls = [] := List.eq_nil_of_length_eq_zero (by omega)
    exact rroot_nil v w hv
  | f + 1 => rroot_step f (rroot_any f)
set_option maxRecDepth 100000 in
set_option maxHeartbeats 1000000 in
theorem rdigests_any (ls : List (List UInt8)) (hn : ls.length ≤ 140737488355328) (hx : ∀ x ∈ ls, x.length ≤ 140737488355328) (v : Value) (w : World) (hv : TextsAt w v ls) : Calls Tryz.prog 84 #[v] w fun e w' => e = .returned (.bool (properT ls)) ∧ w' = w := by
  obtain ⟨A, c, rfl, hc⟩ := hv.slice
  have HS := hide hv
  have HX := hide hx
  have HV : Hid (properT ls = ls.all isD) := rfl
  clear hv hx
  go_enter Tryz.func84, Tryz.ntmps84
  go_wp2_with fail
  go_loopw [3] (fun i wr => ∃ k : Nat, i = .int .i64 (k : Int) ∧ k ≤ ls.length ∧ Hid (ls.all isD = (ls.drop k).all isD) ∧ wr = w) (fun i _ => ls.length - (intOf i).toNat)
  case atStart => exact ⟨0, rfl, by omega, rfl, rfl⟩
  case round =>
    obtain ⟨k, rfl, hk, HA, rfl⟩ := hrel
    by_cases hlt : k < ls.length
    · have e1 : decide ((k : Int) < (ls.length : Int)) = true := decide_eq_true (by omega)
      obtain ⟨x, hx⟩ : ∃ x, ls[k]? = some x := ⟨_, List.getElem?_eq_getElem hlt⟩
      obtain ⟨a, rfl, ha, c0⟩ := HS.out.at_ hx
      have CI := fun w => rIs_any x (HX.out x (List.mem_of_getElem? hx)) w
      have HD := hide (drop_at' hx)
      clear hx
      cases hd : isD x with
      | true =>
        have HN : Hid (ls.all isD = (ls.drop (k + 1)).all isD) := by show _ = _; rw [HA.out, HD.out, List.all_cons, hd]; rfl
        rw [hd] at CI
        clear hd
        go_wp2_with ((with_reducible refine (CI _).mono ?_); rintro e w' ⟨rfl, rfl⟩)
        refine ⟨⟨k + 1, by go_num, by omega, HN.out, trivial⟩, ?_⟩
        simp [intOf]; omega
      | false =>
        have HN : Hid (properT ls = false) := by show _ = _; rw [HV.out, HA.out, HD.out, List.all_cons, hd]; rfl
        rw [hd] at CI
        clear hd
        go_wp2_with ((with_reducible refine (CI _).mono ?_); rintro e w' ⟨rfl, rfl⟩)
        go_ret
        exact ⟨ret_bool (by rw [HN.out]), rfl⟩
    · obtain rfl : k = ls.length := by omega
      have e1 : decide ((ls.length : Int) < (ls.length : Int)) = false := by simp
      have HN : Hid (properT ls = true) := by show _ = _; rw [HV.out, HA.out, List.drop_length]; rfl
      go_wp2_with fail
      go_ret
      exact ⟨ret_bool (by rw [HN.out]), rfl⟩
set_option maxHeartbeats 1000000 in
theorem rRoot_any (ls : List (List UInt8)) (hn : ls.length ≤ 140737488355328) (hx : ∀ x ∈ ls, x.length ≤ 1000000000) (v : Value) (w : World) (hv : TextsAt w v ls) :
    Calls Tryz.prog 56 #[v] w fun e w' => e = .returned (.tuple #[.string (bs (rootV ls)), .int .i64 (rootE ls)]) ∧ Below w.heap.size w w' := by
  have CP := rdigests_any ls hn (fun x h => Nat.le_trans (hx x h) (by decide)) v w hv
  have CT := rroot_any ls.length ls v w hv (Nat.le_refl _) hn hx
  unfold rootV rootE
  clear hv hx
  cases hp : properT ls with
  | false =>
    rw [hp] at CP
    rw [if_neg (by simp), if_neg (by simp)]
    clear hp CT
    go_enter Tryz.func56, Tryz.ntmps56
    go_wp2_with ((with_reducible refine CP.mono ?_); rintro e w' ⟨rfl, rfl⟩)
    go_ret2
    exact ⟨rfl, Below.refl _ _⟩
  | true =>
    rw [hp] at CP
    rw [if_pos rfl, if_pos rfl]
    clear hp
    go_enter Tryz.func56, Tryz.ntmps56
    go_wp2_with (first | ((with_reducible refine CP.mono ?_); rintro e w' ⟨rfl, rfl⟩) | ((with_reducible refine CT.mono ?_); rintro e w3 ⟨rfl, hb3⟩))
    go_ret2
    exact ⟨rfl, by assumption⟩
end Go.Proofs.YtdiebacfbhjbdaaGreatDoor

/- Walks of package privacy: named. -/
set_option linter.unusedVariables false
set_option linter.unusedSimpArgs false
namespace Go.Proofs.YtdiebacfbhjbdaaGreatDoor
open Go.RowKit

set_option maxRecDepth 100000 in
set_option maxHeartbeats 4000000 in
theorem named_any (d : List UInt8) (hl : d.length ≤ 140737488355328) (w : World) : Calls Tryz.prog 45 #[.string (bs d)] w fun e w' => e = .returned (.bool (isNm d)) ∧ Below w.heap.size w w' := by
  have CL := fun w => Lex_any d hl w
  by_cases hE : (lexP d).2.1 ≠ 0
  · have HV : Hid (isNm d = false) := by
      show _ = _
      rw [← Bool.not_eq_true]; intro h; rw [lex_of_nm h] at hE; exact hE rfl
    have e1 : ((lexP d).2.1 == 0) = false := by rw [beq_eq_false_iff_ne]; exact hE
    clear hE
    generalize (lexP d).2.1 = E at *
    go_enter Tryz.func45, Tryz.ntmps45
    go_wp2_with fail
    refine (CL _).mono ?_
    rintro e w2 ⟨v, rfl, hv, hb⟩
    have HB := hide hb
    clear hv hb CL
    go_wp2_with fail
    go_ret
    exact ⟨ret_bool (by rw [HV.out]), HB.out⟩
  have hE0 : (lexP d).2.1 = 0 := Classical.byContradiction hE
  rw [hE0] at CL
  by_cases hn : (lexP d).1.length ≠ 1
  · have HV : Hid (isNm d = false) := by
      show _ = _
      rw [← Bool.not_eq_true]; intro h; rw [lex_of_nm h] at hn; exact hn rfl
    clear hE hE0
    go_enter Tryz.func45, Tryz.ntmps45
    go_wp2_with fail
    refine (CL _).mono ?_
    rintro e w2 ⟨v, rfl, hv, hb⟩
    have HB := hide hb
    obtain ⟨A, c, rfl⟩ : ∃ A c, v = .slice A (lexP d).1.length c := by
      rcases hv with ⟨h1, A, c, h2⟩ | ⟨b, c, h1, _⟩
      · rw [h1]; exact ⟨A, c, h2⟩
      · exact ⟨_, _, h1⟩
    have e1 : (((lexP d).1.length : Int) == 1) = false := by rw [beq_eq_false_iff_ne]; omega
    clear hv hb CL hn
    generalize (lexP d).1.length = n at *
    go_wp2_with fail
    go_ret
    exact ⟨ret_bool (by rw [HV.out]), HB.out⟩
  obtain ⟨⟨xk, xa, xn, xs⟩, hx⟩ : ∃ x, (lexP d).1 = [x] := by
    match hl : (lexP d).1, (Classical.byContradiction hn : (lexP d).1.length = 1) with
    | [x], _ => exact ⟨x, rfl⟩
  rw [hx] at CL
  have hone : ∀ {w2 : World} {v : Value}, TokRow w2 v [⟨xk, xa, xn, xs⟩] → ∃ tb tc, v = .slice (some ⟨tb, 0, none⟩) 1 tc ∧ w2.cell? ⟨tb, 0, none⟩ = some (.int .i64 xk) ∧ w2.cell? ⟨tb, 3, none⟩ = some (.string (bs xs)) := fun {w2 v} hv => by
    rcases hv with ⟨h1, _⟩ | ⟨b, c, h1, h2, h3⟩
    · cases h1
    · exact ⟨b, c, h1, h3 0 _ rfl 0 _ rfl, h3 0 _ rfl 3 _ rfl⟩
  by_cases hk : xk = 1
  · by_cases ht : xs = d
    · have HV : Hid (isNm d = true) := by
        show _ = _
        subst hk; subst ht
        exact nm_of_lex hE0 hx
      have e1 : ((bs xs).toList == (bs d).toList) = true := by rw [ht]; simp
      clear hE hE0 hn hx ht
      subst hk
      go_enter Tryz.func45, Tryz.ntmps45
      go_wp2_with fail
      refine (CL _).mono ?_
      rintro e w2 ⟨v, rfl, hv, hb⟩
      have HB := hide hb
      obtain ⟨tb, tc, rfl, t0, t3⟩ := hone hv
      clear hv hb CL hone
      go_wp2_with fail
      go_ret
      exact ⟨ret_bool (by rw [HV.out]), HB.out⟩
    · have HV : Hid (isNm d = false) := by
        show _ = _
        rw [← Bool.not_eq_true]; intro h; rw [lex_of_nm h] at hx
        simp at hx; exact ht hx.2.2.2.symm
      have e1 : ((bs xs).toList == (bs d).toList) = false := by rw [beq_eq_false_iff_ne, bs_toList, bs_toList]; exact ht
      clear hE hE0 hn hx ht
      subst hk
      go_enter Tryz.func45, Tryz.ntmps45
      go_wp2_with fail
      refine (CL _).mono ?_
      rintro e w2 ⟨v, rfl, hv, hb⟩
      have HB := hide hb
      obtain ⟨tb, tc, rfl, t0, t3⟩ := hone hv
      clear hv hb CL hone
      go_wp2_with fail
      go_ret
      exact ⟨ret_bool (by rw [HV.out]), HB.out⟩
  · have HV : Hid (isNm d = false) := by
      show _ = _
      rw [← Bool.not_eq_true]; intro h; rw [lex_of_nm h] at hx
      simp at hx; exact hk hx.1.symm
    have e1 : (xk == 1) = false := by rw [beq_eq_false_iff_ne]; exact hk
    clear hE hE0 hn hx hk
    go_enter Tryz.func45, Tryz.ntmps45
    go_wp2_with fail
    refine (CL _).mono ?_
    rintro e w2 ⟨v, rfl, hv, hb⟩
    have HB := hide hb
    obtain ⟨tb, tc, rfl, t0, t3⟩ := hone hv
    clear hv hb CL hone
    go_wp2_with fail
    go_ret
    exact ⟨ret_bool (by rw [HV.out]), HB.out⟩
end Go.Proofs.YtdiebacfbhjbdaaGreatDoor

/- Walks of package privacy: Make. -/
set_option linter.unusedVariables false
set_option linter.unusedSimpArgs false
namespace Go.Proofs.YtdiebacfbhjbdaaGreatDoor
open Go.RowKit

def lnC (l : Ln) : Array Value := #[.string (bs l.p), .string (bs l.t), .string (bs l.s), .string (bs l.d)]
theorem Contains_10 (t : List UInt8) (w : World) : Calls Tryz.prog 46 #[.string (bs t), .string ⟨#[10]⟩] w fun e w' => e = .returned (.bool (t.contains 10)) ∧ w' = w := by
  have h := Tryz.strings_Contains_one (bs t) 10 w
  rw [bs_list, ← Lib.contains_iff_indexByte] at h
  exact h
set_option maxRecDepth 100000 in
set_option maxHeartbeats 8000000 in
theorem Make_any (p t s : List UInt8) (hp : p.length ≤ 140737488355328) (ht : t.length ≤ 140737488355328) (hs : s.length ≤ 140737488355328) (w : World) (hg : Glob w) :
    Calls Tryz.prog 19 #[.string (bs p), .string (bs t), .string (bs s)] w fun e w' => e = .returned (.tuple #[.agg (lnC (makeV p t s)), .int .i64 (makeE p t s)]) ∧ Below w.heap.size w w' := by
  have HB := hide (below_one w (.cells #[.string ⟨#[]⟩, .string ⟨#[]⟩, .string ⟨#[]⟩, .string ⟨#[]⟩] 32))
  have HR := hide (Blk.new w 32 #[.string ⟨#[]⟩, .string ⟨#[]⟩, .string ⟨#[]⟩, .string ⟨#[]⟩])
  have HG := hide (hg.alloc (.cells #[.string ⟨#[]⟩, .string ⟨#[]⟩, .string ⟨#[]⟩, .string ⟨#[]⟩] 32))
  have hzt : (bs t).size = t.length := bs_size t
  have hte : (bs t).toList.isEmpty = t.isEmpty := by rw [bs_toList]
  clear hg
  go_enter Tryz.func19, Tryz.ntmps19
  go_wp2_with fail
  generalize w.alloc (.cells #[.string ⟨#[]⟩, .string ⟨#[]⟩, .string ⟨#[]⟩, .string ⟨#[]⟩] 32) = w1 at *
  obtain ⟨br, hbr⟩ : ∃ b, Hid (w.heap.size = b) := ⟨_, rfl⟩
  rw [hbr.out] at HR ⊢
  obtain ⟨U, hU, g, u0, rfl, hgu, hi⟩ := cls w1
  have CN := cls_call hgu hi (fun w _ => named_any p hp w)
  have CC := cls_call hgu hi (fun w _ => (Contains_10 t w).mono fun e w' ⟨he, hw⟩ => (⟨he, hw ▸ Below.refl _ _⟩ : e = .returned (.bool (t.contains 10)) ∧ Below w.heap.size w w'))
  have CI := cls_call hgu hi (fun w _ => Is_any s (by omega) w)
  have r0 := blk_all hgu HR.out 0 rfl
  have r1 := blk_all hgu HR.out 1 rfl
  have r2 := blk_all hgu HR.out 2 rfl
  have r3 := blk_all hgu HR.out 3 rfl
  have f0 : ∀ u i, (g u).frozen? ⟨br, i, none⟩ = false := fun u i => (HR.out.to (hgu u)).frozen i
  have HGU := hide hgu
  have HHI := hide hi
  have HM : Hid (canM p t s = (isNm p && !t.isEmpty && decide (t.length ≤ 400) && !t.contains 10 && isD s)) := rfl
  have HV0 : Hid (canM p t s = false → makeV p t s = noL ∧ makeE p t s = 1) := fun h => by unfold makeV makeE; rw [h]; exact ⟨rfl, rfl⟩
  have HV1 : Hid (canM p t s = true → makeV p t s = mkL p t s ∧ makeE p t s = 0) := fun h => by unfold makeV makeE; rw [h]; exact ⟨rfl, rfl⟩
  clear hgu hi
  cases h1 : isNm p with
  | false =>
    rw [h1] at CN
    have HV := hide (HV0.out (by rw [HM.out, h1]; simp))
    clear HV0 HV1 HM
    go_wp2_with (first | ((with_reducible refine (CN _).mono ?_); rintro e' w' ⟨rfl, uz, rfl⟩) | ((with_reducible refine (CC _).mono ?_); rintro e' w' ⟨rfl, uz, rfl⟩) | ((with_reducible refine (CI _).mono ?_); rintro e' w' ⟨rfl, uz, rfl⟩))
    have hbk := (((((HR.out.to (HGU.out uz)).set_ 0 (.string ⟨#[]⟩)).set_ 1 (.string ⟨#[]⟩)).set_ 2 (.string ⟨#[]⟩)).set_ 3 (.string ⟨#[]⟩))
    refine bodyPost_ret (results_c1 (p := 6) (u := 7) rfl _ _ br 32 _ _ rfl hbk Tryz.underlying32 rfl (by kernel_rfl)) rfl ⟨by rw [HV.out.1, HV.out.2]; rfl, ?_⟩
    exact (((((below_to HB.out (Nat.le_refl _) (HGU.out uz)).setCell (p := ⟨br, 0, none⟩) (Nat.le_of_eq hbr.out) _).setCell (p := ⟨br, 1, none⟩) (Nat.le_of_eq hbr.out) _).setCell (p := ⟨br, 2, none⟩) (Nat.le_of_eq hbr.out) _).setCell (p := ⟨br, 3, none⟩) (Nat.le_of_eq hbr.out) _)
  | true =>
    rw [h1] at CN
    cases h2 : t.isEmpty with
    | true =>
      rw [h2] at hte
      have HV := hide (HV0.out (by rw [HM.out, h2]; simp))
      clear HV0 HV1 HM
      go_wp2_with (first | ((with_reducible refine (CN _).mono ?_); rintro e' w' ⟨rfl, uz, rfl⟩) | ((with_reducible refine (CC _).mono ?_); rintro e' w' ⟨rfl, uz, rfl⟩) | ((with_reducible refine (CI _).mono ?_); rintro e' w' ⟨rfl, uz, rfl⟩))
      have hbk := (((((HR.out.to (HGU.out uz)).set_ 0 (.string ⟨#[]⟩)).set_ 1 (.string ⟨#[]⟩)).set_ 2 (.string ⟨#[]⟩)).set_ 3 (.string ⟨#[]⟩))
      refine bodyPost_ret (results_c1 (p := 6) (u := 7) rfl _ _ br 32 _ _ rfl hbk Tryz.underlying32 rfl (by kernel_rfl)) rfl ⟨by rw [HV.out.1, HV.out.2]; rfl, ?_⟩
      exact (((((below_to HB.out (Nat.le_refl _) (HGU.out uz)).setCell (p := ⟨br, 0, none⟩) (Nat.le_of_eq hbr.out) _).setCell (p := ⟨br, 1, none⟩) (Nat.le_of_eq hbr.out) _).setCell (p := ⟨br, 2, none⟩) (Nat.le_of_eq hbr.out) _).setCell (p := ⟨br, 3, none⟩) (Nat.le_of_eq hbr.out) _)
    | false =>
      rw [h2] at hte
      by_cases h3 : t.length ≤ 400
      · have e3 : decide ((400 : Int) < (t.length : Int)) = false := decide_eq_false (by omega)
        cases h4 : t.contains 10 with
        | true =>
          rw [h4] at CC
          have HV := hide (HV0.out (by rw [HM.out, h4]; simp))
          clear HV0 HV1 HM
          go_wp2_with (first | ((with_reducible refine (CN _).mono ?_); rintro e' w' ⟨rfl, uz, rfl⟩) | ((with_reducible refine (CC _).mono ?_); rintro e' w' ⟨rfl, uz, rfl⟩) | ((with_reducible refine (CI _).mono ?_); rintro e' w' ⟨rfl, uz, rfl⟩))
          have hbk := (((((HR.out.to (HGU.out uz)).set_ 0 (.string ⟨#[]⟩)).set_ 1 (.string ⟨#[]⟩)).set_ 2 (.string ⟨#[]⟩)).set_ 3 (.string ⟨#[]⟩))
          refine bodyPost_ret (results_c1 (p := 6) (u := 7) rfl _ _ br 32 _ _ rfl hbk Tryz.underlying32 rfl (by kernel_rfl)) rfl ⟨by rw [HV.out.1, HV.out.2]; rfl, ?_⟩
          exact (((((below_to HB.out (Nat.le_refl _) (HGU.out uz)).setCell (p := ⟨br, 0, none⟩) (Nat.le_of_eq hbr.out) _).setCell (p := ⟨br, 1, none⟩) (Nat.le_of_eq hbr.out) _).setCell (p := ⟨br, 2, none⟩) (Nat.le_of_eq hbr.out) _).setCell (p := ⟨br, 3, none⟩) (Nat.le_of_eq hbr.out) _)
        | false =>
          rw [h4] at CC
          cases h5 : isD s with
          | false =>
            rw [h5] at CI
            have HV := hide (HV0.out (by rw [HM.out, h5]; simp))
            clear HV0 HV1 HM
            go_wp2_with (first | ((with_reducible refine (CN _).mono ?_); rintro e' w' ⟨rfl, uz, rfl⟩) | ((with_reducible refine (CC _).mono ?_); rintro e' w' ⟨rfl, uz, rfl⟩) | ((with_reducible refine (CI _).mono ?_); rintro e' w' ⟨rfl, uz, rfl⟩))
            have hbk := (((((HR.out.to (HGU.out uz)).set_ 0 (.string ⟨#[]⟩)).set_ 1 (.string ⟨#[]⟩)).set_ 2 (.string ⟨#[]⟩)).set_ 3 (.string ⟨#[]⟩))
            refine bodyPost_ret (results_c1 (p := 6) (u := 7) rfl _ _ br 32 _ _ rfl hbk Tryz.underlying32 rfl (by kernel_rfl)) rfl ⟨by rw [HV.out.1, HV.out.2]; rfl, ?_⟩
            exact (((((below_to HB.out (Nat.le_refl _) (HGU.out uz)).setCell (p := ⟨br, 0, none⟩) (Nat.le_of_eq hbr.out) _).setCell (p := ⟨br, 1, none⟩) (Nat.le_of_eq hbr.out) _).setCell (p := ⟨br, 2, none⟩) (Nat.le_of_eq hbr.out) _).setCell (p := ⟨br, 3, none⟩) (Nat.le_of_eq hbr.out) _)
          | true =>
            rw [h5] at CI
            have HV := hide (HV1.out (by rw [HM.out, h1, h2, h4, h5, decide_eq_true h3]; rfl))
            clear HV0 HV1 HM
            have hp24 := (nm_facts h1).2.2.1
            have hs16 := ((isD_iff s).1 h5).1
            have CLi : ∀ u, Calls Tryz.prog 20 #[.slice (some ⟨(g u).heap.size, 0, none⟩) 4 4] ((g u).alloc (.cells #[.string ⟨#[108, 105, 110, 101]⟩, .string (bs p), .string (bs t), .string (bs s)] 9)) fun e w' => e = .returned (.string (bs (listD [lineT, p, t, s]))) ∧ ∃ u', w' = g u' := fun u => by
              have hb := below_alloc (HGU.out u) (Nat.le_refl _) (.cells #[.string ⟨#[108, 105, 110, 101]⟩, .string (bs p), .string (bs t), .string (bs s)] 9)
              refine (List_any [lineT, p, t, s] _ 9 _ (Blk.new (g u) 9 #[.string ⟨#[108, 105, 110, 101]⟩, .string (bs p), .string (bs t), .string (bs s)]) (by simp) ?_ ((HG.out.to (HGU.out u)).alloc _)).mono fun e w' ⟨he, hb2⟩ => ⟨he, HHI.out _ (below_to hb (Nat.le_refl _) hb2)⟩
              refine Nat.le_trans (join_len _ ?_) ?_
              · intro l hl
                simp only [List.mem_cons, List.not_mem_nil, or_false] at hl
                rcases hl with rfl | rfl | rfl | rfl <;> first | omega | (show (4 : Nat) < _; omega)
              · simp only [List.map_cons, List.map_nil, List.sum_cons, List.sum_nil, List.length_cons, List.length_nil]
                have : lineT.length = 4 := rfl
                omega
            clear hp24 hs16 h1 h2 h4 h5
            go_wp2_with (first | ((with_reducible refine (CN _).mono ?_); rintro e' w' ⟨rfl, uz, rfl⟩) | ((with_reducible refine (CC _).mono ?_); rintro e' w' ⟨rfl, uz, rfl⟩) | ((with_reducible refine (CI _).mono ?_); rintro e' w' ⟨rfl, uz, rfl⟩) | ((with_reducible refine (CLi _).mono ?_); rintro e' w' ⟨rfl, uz, rfl⟩))
            have hbk := (((((HR.out.to (HGU.out uz)).set_ 0 (.string (bs p))).set_ 1 (.string (bs t))).set_ 2 (.string (bs s))).set_ 3 (.string (bs (listD [lineT, p, t, s]))))
            refine bodyPost_ret (results_c1 (p := 6) (u := 7) rfl _ _ br 32 _ _ rfl hbk Tryz.underlying32 rfl (by kernel_rfl)) rfl ⟨by rw [HV.out.1, HV.out.2]; rfl, ?_⟩
            exact (((((below_to HB.out (Nat.le_refl _) (HGU.out uz)).setCell (p := ⟨br, 0, none⟩) (Nat.le_of_eq hbr.out) _).setCell (p := ⟨br, 1, none⟩) (Nat.le_of_eq hbr.out) _).setCell (p := ⟨br, 2, none⟩) (Nat.le_of_eq hbr.out) _).setCell (p := ⟨br, 3, none⟩) (Nat.le_of_eq hbr.out) _)
      · have e3 : decide ((400 : Int) < (t.length : Int)) = true := decide_eq_true (by omega)
        have HV := hide (HV0.out (by rw [HM.out, decide_eq_false h3]; simp))
        clear HV0 HV1 HM
        go_wp2_with (first | ((with_reducible refine (CN _).mono ?_); rintro e' w' ⟨rfl, uz, rfl⟩) | ((with_reducible refine (CC _).mono ?_); rintro e' w' ⟨rfl, uz, rfl⟩) | ((with_reducible refine (CI _).mono ?_); rintro e' w' ⟨rfl, uz, rfl⟩))
        have hbk := (((((HR.out.to (HGU.out uz)).set_ 0 (.string ⟨#[]⟩)).set_ 1 (.string ⟨#[]⟩)).set_ 2 (.string ⟨#[]⟩)).set_ 3 (.string ⟨#[]⟩))
        refine bodyPost_ret (results_c1 (p := 6) (u := 7) rfl _ _ br 32 _ _ rfl hbk Tryz.underlying32 rfl (by kernel_rfl)) rfl ⟨by rw [HV.out.1, HV.out.2]; rfl, ?_⟩
        exact (((((below_to HB.out (Nat.le_refl _) (HGU.out uz)).setCell (p := ⟨br, 0, none⟩) (Nat.le_of_eq hbr.out) _).setCell (p := ⟨br, 1, none⟩) (Nat.le_of_eq hbr.out) _).setCell (p := ⟨br, 2, none⟩) (Nat.le_of_eq hbr.out) _).setCell (p := ⟨br, 3, none⟩) (Nat.le_of_eq hbr.out) _)
end Go.Proofs.YtdiebacfbhjbdaaGreatDoor

/- Walks of package privacy: erased; lines compared. -/
set_option linter.unusedVariables false
set_option linter.unusedSimpArgs false
namespace Go.Proofs.YtdiebacfbhjbdaaGreatDoor
open Go.RowKit

theorem lnv_yes (l : Ln) (w : World) : (binOp .eql 32 (.agg #[.string (bs l.p), .string (bs l.t), .string (bs l.s), .string (bs l.d)]) (.agg #[.string (bs l.p), .string (bs l.t), .string (bs l.s), .string (bs l.d)])).run Tryz.prog w = .ok (.bool true) w := by
  rw [run_eql_struct]
  go_simp
theorem lnv_no {l m : Ln} (h : l ≠ m) (w : World) : (binOp .eql 32 (.agg #[.string (bs l.p), .string (bs l.t), .string (bs l.s), .string (bs l.d)]) (.agg #[.string (bs m.p), .string (bs m.t), .string (bs m.s), .string (bs m.d)])).run Tryz.prog w = .ok (.bool false) w := by
  rw [run_eql_struct]
  go_simp
  intro h1 h2 h3 h4
  rw [bs_toList, bs_toList] at h1 h2 h3 h4
  exact h ((Ln.eq_iff l m).2 ⟨h1, h2, h3, h4⟩)
set_option maxHeartbeats 2000000 in
theorem erased_any (l : Ln) (w : World) : Calls Tryz.prog 39 #[.agg (lnC l)] w fun e w' => e = .returned (.agg (lnC (er l))) ∧ Below w.heap.size w w' := by
  unfold lnC
  have HB := hide (below_two w (.cells #[.string (bs l.p), .string (bs l.t), .string (bs l.s), .string (bs l.d)] 32) (.cells #[.string ⟨#[]⟩, .string ⟨#[]⟩, .string ⟨#[]⟩, .string ⟨#[]⟩] 32))
  go_enter Tryz.func39, Tryz.ntmps39
  go_wp2_with fail
  have hb : Blk ((w.alloc (.cells #[.string (bs l.p), .string (bs l.t), .string (bs l.s), .string (bs l.d)] 32)).alloc (.cells #[.string ⟨#[]⟩, .string ⟨#[]⟩, .string ⟨#[]⟩, .string (bs l.d)] 32)) (w.heap.size + 1) 32 #[.string ⟨#[]⟩, .string ⟨#[]⟩, .string ⟨#[]⟩, .string (bs l.d)] := by
    have := Blk.new (w.alloc (.cells #[.string (bs l.p), .string (bs l.t), .string (bs l.s), .string (bs l.d)] 32)) 32 #[.string ⟨#[]⟩, .string ⟨#[]⟩, .string ⟨#[]⟩, .string (bs l.d)]
    show Blk _ _ _ _
    simpa using this
  refine bodyPost_ret (results_cell_blk rfl _ _ (w.heap.size + 1) 32 _ _ rfl hb Tryz.underlying32 rfl (by kernel_rfl)) rfl ⟨rfl, ?_⟩
  exact below_two w _ _
end Go.Proofs.YtdiebacfbhjbdaaGreatDoor

/- Walks of package privacy: Valid. -/
set_option linter.unusedVariables false
set_option linter.unusedSimpArgs false
namespace Go.Proofs.YtdiebacfbhjbdaaGreatDoor
open Go.RowKit

structure Ln.fit (l : Ln) : Prop where
  p : l.p.length ≤ 140737488355328
  t : l.t.length ≤ 140737488355328
  s : l.s.length ≤ 140737488355328
  d : l.d.length ≤ 140737488355328
set_option maxRecDepth 100000 in
set_option maxHeartbeats 4000000 in
theorem Valid_any (l : Ln) (hf : l.fit) (w : World) (hg : Glob w) : Calls Tryz.prog 15 #[.agg (lnC l)] w fun e w' => e = .returned (.bool (validL l)) ∧ Below w.heap.size w w' := by
  have HB := hide (below_one w (.cells #[.string (bs l.p), .string (bs l.t), .string (bs l.s), .string (bs l.d)] 32))
  have HG := hide (hg.alloc (.cells #[.string (bs l.p), .string (bs l.t), .string (bs l.s), .string (bs l.d)] 32))
  have HR := hide (Blk.new w 32 #[.string (bs l.p), .string (bs l.t), .string (bs l.s), .string (bs l.d)])
  have CE := fun w => erased_any l w
  unfold lnC at CE ⊢
  clear hg
  go_enter Tryz.func15, Tryz.ntmps15
  go_wp2_with fail
  generalize w.alloc (.cells #[.string (bs l.p), .string (bs l.t), .string (bs l.s), .string (bs l.d)] 32) = w1 at *
  obtain ⟨b1, hb1⟩ : ∃ b, Hid (w.heap.size = b) := ⟨_, rfl⟩
  rw [hb1.out] at HR ⊢
  obtain ⟨U, hU, g, u0, rfl, hgu, hi⟩ := cls w1
  have CEg := cls_call hgu hi (fun w _ => CE w)
  have r0 := blk_all hgu HR.out 0 rfl
  have r1 := blk_all hgu HR.out 1 rfl
  have r2 := blk_all hgu HR.out 2 rfl
  have r3 := blk_all hgu HR.out 3 rfl
  have lu : ∀ u, b1 < (g u).heap.size := fun u => (HR.out.to (hgu u)).lt
  have nu : ∀ u, b1 ≠ (g u).heap.size := fun u => Nat.ne_of_lt (lu u)
  have HGU := hide hgu
  have HHI := hide hi
  have CI := cls_call hgu hi (fun w _ => Is_any l.d (by have := hf.d; omega) w)
  have CM := cls_call hgu hi (fun w hb => Make_any l.p l.t l.s hf.p hf.t hf.s w (HG.out.to hb))
  by_cases he : l = er l
  · have HV : Hid (validL l = isD l.d) := by show _ = _; unfold validL; rw [if_pos he]
    have q := lnv_yes l
    rw [← he] at CEg
    clear he hgu hi CM
    refine wp_region_class g (by kernel_rfl) (by kernel_rfl) (HHI.out _ (HGU.out _).drew) ?_
    repeat (go_big_quiet_step (with_reducible exact CEg _))
    refine wpQuiet_nil ?_
    intro w5 hw5
    obtain ⟨u, rfl⟩ := hw5
    go_wp2_with ((with_reducible refine (CI _).mono ?_); rintro e w' ⟨rfl, uz, rfl⟩)
    go_ret
    exact ⟨ret_bool (by rw [HV.out]), below_to HB.out (Nat.le_refl _) (HGU.out _)⟩
  · have q := lnv_no he
    have HV0 : Hid (validL l = (canM l.p l.t l.s && decide (mkL l.p l.t l.s = l))) := by show _ = _; unfold validL; rw [if_neg he]
    unfold lnC at CM
    cases hc : canM l.p l.t l.s with
    | false =>
      have eV : makeV l.p l.t l.s = noL := by unfold makeV; rw [hc]; rfl
      have eE : makeE l.p l.t l.s = 1 := by unfold makeE; rw [hc]; rfl
      rw [eV, eE] at CM
      have HV : Hid (validL l = false) := by show _ = _; rw [HV0.out, hc]; rfl
      clear eV eE hc HV0 he hgu hi CI
      refine wp_region_class g (by kernel_rfl) (by kernel_rfl) (HHI.out _ (HGU.out _).drew) ?_
      repeat (go_big_quiet_step (with_reducible exact CEg _))
      refine wpQuiet_nil ?_
      intro w5 hw5
      obtain ⟨u, rfl⟩ := hw5
      go_wp2_with ((with_reducible refine (CM _).mono ?_); rintro e w' ⟨rfl, uz, rfl⟩)
      go_ret
      exact ⟨ret_bool (by rw [HV.out]), below_alloc (below_to HB.out (Nat.le_refl _) (HGU.out _)) (Nat.le_refl _) _⟩
    | true =>
      have eV : makeV l.p l.t l.s = mkL l.p l.t l.s := by unfold makeV; rw [hc]; rfl
      have eE : makeE l.p l.t l.s = 0 := by unfold makeE; rw [hc]; rfl
      rw [eV, eE] at CM
      by_cases hm : mkL l.p l.t l.s = l
      · have HV : Hid (validL l = true) := by show _ = _; rw [HV0.out, hc, decide_eq_true hm]; rfl
        rw [hm] at CM
        have q2 := lnv_yes l
        clear eV eE hc HV0 he hgu hi CI hm
        refine wp_region_class g (by kernel_rfl) (by kernel_rfl) (HHI.out _ (HGU.out _).drew) ?_
        repeat (go_big_quiet_step (with_reducible exact CEg _))
        refine wpQuiet_nil ?_
        intro w5 hw5
        obtain ⟨u, rfl⟩ := hw5
        go_wp2_with ((with_reducible refine (CM _).mono ?_); rintro e w' ⟨rfl, uz, rfl⟩)
        go_ret
        exact ⟨ret_bool (by rw [HV.out]), below_alloc (below_to HB.out (Nat.le_refl _) (HGU.out _)) (Nat.le_refl _) _⟩
      · have HV : Hid (validL l = false) := by show _ = _; rw [HV0.out, hc, decide_eq_false hm]; rfl
        have q2 := lnv_no hm
        clear eV eE hc HV0 he hgu hi CI hm
        generalize mkL l.p l.t l.s = m at *
        refine wp_region_class g (by kernel_rfl) (by kernel_rfl) (HHI.out _ (HGU.out _).drew) ?_
        repeat (go_big_quiet_step (with_reducible exact CEg _))
        refine wpQuiet_nil ?_
        intro w5 hw5
        obtain ⟨u, rfl⟩ := hw5
        go_wp2_with ((with_reducible refine (CM _).mono ?_); rintro e w' ⟨rfl, uz, rfl⟩)
        go_ret
        exact ⟨ret_bool (by rw [HV.out]), below_alloc (below_to HB.out (Nat.le_refl _) (HGU.out _)) (Nat.le_refl _) _⟩
end Go.Proofs.YtdiebacfbhjbdaaGreatDoor

/- Walks of package privacy: record.valid. -/
set_option linter.unusedVariables false
set_option linter.unusedSimpArgs false
namespace Go.Proofs.YtdiebacfbhjbdaaGreatDoor
open Go.RowKit

def lnV (l : Ln) : List Value := [.string (bs l.p), .string (bs l.t), .string (bs l.s), .string (bs l.d)]
def LnsAt (w : World) (v : Value) (log : List Ln) : Prop := RowsAt w 4 v (log.map lnV)
theorem LnsAt.to {w w' : World} {v : Value} {log : List Ln} (h : LnsAt w v log) (hb : Below w.heap.size w w') : LnsAt w' v log := RowsAt.to h hb
theorem LnsAt.slice {w : World} {v : Value} {log : List Ln} (h : LnsAt w v log) : ∃ A c, v = .slice A log.length c := by
  obtain ⟨A, c, h1, _⟩ := h
  exact ⟨A, c, by rw [h1, List.length_map]⟩
theorem LnsAt.at_ {w : World} {A : Option Addr} {n c : Nat} {log : List Ln} (h : LnsAt w (.slice A n c) log) {k : Nat} {l : Ln} (hl : log[k]? = some l) : ∃ a, A = some a ∧ a.block < w.heap.size ∧
    w.cell? (a.add (k * 4)) = some (.string (bs l.p)) ∧ w.cell? ⟨(a.add (k * 4)).block, (a.add (k * 4)).off + 1, none⟩ = some (.string (bs l.t)) ∧ w.cell? ⟨(a.add (k * 4)).block, (a.add (k * 4)).off + 2, none⟩ = some (.string (bs l.s)) ∧ w.cell? ⟨(a.add (k * 4)).block, (a.add (k * 4)).off + 3, none⟩ = some (.string (bs l.d)) := by
  obtain ⟨a, c', h1, _, h3, _, h5⟩ := RowsAt.at_ h (k := k) (x := lnV l) (by rw [List.getElem?_map, hl]; rfl)
  injection h1 with e1
  refine ⟨a, e1, h3, ?_, h5 1 _ rfl, h5 2 _ rfl, h5 3 _ rfl⟩
  have := h5 0 _ rfl
  rwa [show (a.add (k * 4)).add 0 = a.add (k * 4) by rw [add_of_add, Nat.add_zero]] at this
end Go.Proofs.YtdiebacfbhjbdaaGreatDoor

/- Walks of package privacy: record.valid. -/
set_option linter.unusedVariables false
set_option linter.unusedSimpArgs false
namespace Go.Proofs.YtdiebacfbhjbdaaGreatDoor
open Go.RowKit

set_option maxRecDepth 100000 in
set_option maxHeartbeats 4000000 in
theorem rvalid_any (log : List Ln) (hf : ∀ l ∈ log, l.fit) (hl : log.length ≤ 1000000000) (v : Value) (w : World) (hv : LnsAt w v log) (hg : Glob w) : Calls Tryz.prog 36 #[v] w fun e w' => e = .returned (.bool (validG log)) ∧ Below w.heap.size w w' := by
  obtain ⟨A, c, rfl⟩ := hv.slice
  have HS := hide hv
  have HG := hide hg
  have HV : Hid (validG log = (log.all validL && decide (log.length ≤ 10000))) := rfl
  clear hv hg
  go_enter Tryz.func36, Tryz.ntmps36
  go_wp2_with fail
  go_loopw [4, 7] (fun _ i wr => ∃ k : Nat, i = .int .i64 (k : Int) ∧ (k ≤ log.length ∧ log.all validL = (log.drop k).all validL) ∧ Below w.heap.size w wr) (fun _ i _ => log.length - (intOf i).toNat)
  case atStart => exact ⟨0, rfl, ⟨by omega, rfl⟩, Below.refl _ _⟩
  case round =>
    obtain ⟨k, rfl, ⟨hk, hall⟩, hB⟩ := hrel
    have HA := hide hall
    have HB := hide hB
    clear hall hB
    by_cases hlt : k < log.length
    · have e1 : decide ((k : Int) < (log.length : Int)) = true := decide_eq_true (by omega)
      obtain ⟨l, hl'⟩ : ∃ l, log[k]? = some l := ⟨_, List.getElem?_eq_getElem hlt⟩
      obtain ⟨a, rfl, ha, c0, c1, c2, c3⟩ := LnsAt.at_ (HS.out.to HB.out) hl'
      have HW := hide (below_alloc HB.out (Nat.le_refl _) (.cells #[.string (bs l.p), .string (bs l.t), .string (bs l.s), .string (bs l.d)] 32))
      have CV : Calls Tryz.prog 15 #[.agg #[.string (bs l.p), .string (bs l.t), .string (bs l.s), .string (bs l.d)]] (wr.alloc (.cells #[.string (bs l.p), .string (bs l.t), .string (bs l.s), .string (bs l.d)] 32)) fun e w' => e = .returned (.bool (validL l)) ∧ Below (wr.alloc (.cells #[.string (bs l.p), .string (bs l.t), .string (bs l.s), .string (bs l.d)] 32)).heap.size (wr.alloc (.cells #[.string (bs l.p), .string (bs l.t), .string (bs l.s), .string (bs l.d)] 32)) w' := Valid_any l (hf l (List.mem_of_getElem? hl')) _ (HG.out.to HW.out)
      have HD : Hid (log.drop k = l :: log.drop (k + 1)) := by
        show _ = _
        rw [List.drop_eq_getElem_cons hlt]
        rw [List.getElem?_eq_getElem hlt] at hl'
        rw [Option.some.inj hl']
      clear hl' hf
      cases hvl : validL l with
      | true =>
        rw [hvl] at CV
        have HN : Hid (log.all validL = (log.drop (k + 1)).all validL) := by show _ = _; rw [HA.out, HD.out, List.all_cons, hvl]; rfl
        clear hvl
        go_wp2_with ((with_reducible refine CV.mono ?_); rintro e w' ⟨rfl, hb⟩)
        refine ⟨⟨k + 1, by go_num, ⟨by omega, HN.out⟩, below_to HW.out (Nat.le_refl _) (by assumption)⟩, ?_⟩
        simp [intOf]; omega
      | false =>
        rw [hvl] at CV
        have HN : Hid (validG log = false) := by show _ = _; rw [HV.out, HA.out, HD.out, List.all_cons, hvl]; rfl
        clear hvl
        go_wp2_with ((with_reducible refine CV.mono ?_); rintro e w' ⟨rfl, hb⟩)
        go_ret
        exact ⟨ret_bool (by rw [HN.out]), below_to HW.out (Nat.le_refl _) (by assumption)⟩
    · obtain rfl : k = log.length := by omega
      have e1 : decide ((log.length : Int) < (log.length : Int)) = false := by simp
      have HN : Hid (validG log = decide ((log.length : Int) ≤ 10000)) := by
        show _ = _
        rw [HV.out, HA.out, List.drop_length, List.all_nil, Bool.true_and]
        exact decide_eq_decide.2 (by omega)
      go_wp2_with fail
      go_ret
      exact ⟨ret_bool (by rw [HN.out]), HB.out⟩
end Go.Proofs.YtdiebacfbhjbdaaGreatDoor

/- Walks of package privacy: proper. -/
set_option linter.unusedVariables false
set_option linter.unusedSimpArgs false
namespace Go.Proofs.YtdiebacfbhjbdaaGreatDoor
open Go.RowKit

theorem ent_rvalid : ∀ args w, (callFunc 36 args).run Tryz.prog w = .ok (.enter 36 args) w := enters_fn Tryz.func36 (by kernel_rfl) rfl
def rvalidF : Value := .func (.func 36) #[] #[]
set_option maxHeartbeats 2000000 in
theorem proper_any (v : Value) (log : List Ln) (hf : ∀ l ∈ log, l.fit) (hl : log.length ≤ 1000000000) (q : List UInt8) (hq : q.length ≤ 140737488355328) (w : World) (hv : LnsAt w v log) (hg : Glob w) :
    Calls Tryz.prog 35 #[.func (.func 36) #[] #[], v, .string (bs q)] w fun e w' => e = .returned (.bool (validG log && isNm q)) ∧ Below w.heap.size w w' := by
  have CV := rvalid_any log hf hl v w hv hg
  have CN := fun w => named_any q hq w
  have hE := ent_rvalid
  cases hvg : validG log with
  | false =>
    rw [hvg] at CV
    clear hv hg hvg
    go_enter Tryz.func35, Tryz.ntmps35
    go_wp2_with ((with_reducible refine CV.mono ?_); rintro e w' ⟨rfl, hb⟩)
    go_ret
    exact ⟨ret_bool (by simp), by assumption⟩
  | true =>
    rw [hvg] at CV
    clear hv hg hvg
    go_enter Tryz.func35, Tryz.ntmps35
    go_wp2_with (first | ((with_reducible refine CV.mono ?_); rintro e w1 ⟨rfl, hb⟩) | ((with_reducible refine (CN _).mono ?_); rintro e w2 ⟨rfl, hb2⟩))
    go_ret
    exact ⟨ret_bool (by simp), below_to (by assumption) (Nat.le_refl _) (by assumption)⟩
end Go.Proofs.YtdiebacfbhjbdaaGreatDoor

/- Walks of package privacy: mapped, at its instances; of what the function yields without a trace in older memory. -/
set_option linter.unusedVariables false
set_option linter.unusedSimpArgs false
namespace Go.Proofs.YtdiebacfbhjbdaaGreatDoor
open Go.RowKit

def mapP {α β : Type} (f : α → β) (p : α → Bool) (l : List α) : List β := (l.filter p).map f
theorem mapP_snoc {α β : Type} (f : α → β) (p : α → Bool) {l : List α} {k : Nat} {x : α} (h : l[k]? = some x) : mapP f p (l.take (k + 1)) = if p x then mapP f p (l.take k) ++ [f x] else mapP f p (l.take k) := by
  unfold mapP
  rw [List.take_add_one, h]
  simp only [Option.toList_some, List.filter_append, List.map_append]
  cases hp : p x <;> simp [hp]
theorem mapP_len {α β : Type} (f : α → β) (p : α → Bool) (l : List α) : (mapP f p l).length ≤ l.length := by
  unfold mapP
  rw [List.length_map]
  exact List.length_filter_le _ _
theorem cells_new {W : World} {xs : List Value} {ty : TypeId} {b : Nat} (hb : b = W.heap.size) : ∀ (j : Nat) (u : Value), xs[j]? = some u → (W.alloc (.cells xs.toArray ty)).cell? ((⟨b, 0, none⟩ : Addr).add j) = some u := by
  subst hb
  intro j u hu
  rw [show (⟨W.heap.size, 0, none⟩ : Addr).add j = ⟨W.heap.size, j, none⟩ by unfold Addr.add; split <;> simp_all]
  refine ((Blk.new W ty xs.toArray).cell j).trans ?_
  simpa using hu
/-- an order -/
structure Od where
  i : List UInt8
  p : List UInt8
  f : List UInt8
  t : List UInt8
  a : Int
  b : Int
def odV (o : Od) : List Value := [.string (bs o.i), .string (bs o.p), .string (bs o.f), .string (bs o.t), .int .i64 o.a, .int .i64 o.b]
def OdsAt (w : World) (v : Value) (l : List Od) : Prop := RowsAt w 6 v (l.map odV)
theorem OdsAt.to {w w' : World} {v : Value} {log : List Od} (h : OdsAt w v log) (hb : Below w.heap.size w w') : OdsAt w' v log := RowsAt.to h hb
theorem OdsAt.slice {w : World} {v : Value} {log : List Od} (h : OdsAt w v log) : ∃ A c, v = .slice A log.length c := by
  obtain ⟨A, c, h1, _⟩ := h
  exact ⟨A, c, by rw [h1, List.length_map]⟩
theorem OdsAt.at_ {w : World} {A : Option Addr} {n c : Nat} {log : List Od} (h : OdsAt w (.slice A n c) log) {k : Nat} {l : Od} (hl : log[k]? = some l) : ∃ a, A = some a ∧ a.block < w.heap.size ∧
    w.cell? (a.add (k * 6)) = some (.string (bs l.i)) ∧ w.cell? ⟨(a.add (k * 6)).block, (a.add (k * 6)).off + 1, none⟩ = some (.string (bs l.p)) ∧ w.cell? ⟨(a.add (k * 6)).block, (a.add (k * 6)).off + 2, none⟩ = some (.string (bs l.f)) ∧ w.cell? ⟨(a.add (k * 6)).block, (a.add (k * 6)).off + 3, none⟩ = some (.string (bs l.t)) ∧ w.cell? ⟨(a.add (k * 6)).block, (a.add (k * 6)).off + 4, none⟩ = some (.int .i64 l.a) ∧ w.cell? ⟨(a.add (k * 6)).block, (a.add (k * 6)).off + 5, none⟩ = some (.int .i64 l.b) := by
  obtain ⟨a, c', h1, _, h3, _, h5⟩ := RowsAt.at_ h (k := k) (x := odV l) (by rw [List.getElem?_map, hl]; rfl)
  injection h1 with e1
  refine ⟨a, e1, h3, ?_, h5 1 _ rfl, h5 2 _ rfl, h5 3 _ rfl, h5 4 _ rfl, h5 5 _ rfl⟩
  have := h5 0 _ rfl
  rwa [show (a.add (k * 6)).add 0 = a.add (k * 6) by rw [add_of_add, Nat.add_zero]] at this

set_option maxRecDepth 100000 in
set_option maxHeartbeats 4000000 in
theorem mLs0_any (K : FuncId) (hE : ∀ args w, (callFunc K args).run Tryz.prog w = .ok (.enter K args) w) (f : Ln → List UInt8) (p : Ln → Bool) (log : List Ln) (hl : log.length ≤ 1000000000) (v : Value) (w : World) (hv : LnsAt w v log)
    (hF : ∀ l ∈ log, ∀ w', Below w.heap.size w w' → Calls Tryz.prog K #[.agg #[.string (bs l.p), .string (bs l.t), .string (bs l.s), .string (bs l.d)]] w' fun e w'' => e = .returned (.tuple #[.string (bs (f l)), .bool (p l)]) ∧ Below w'.heap.size w' w'') :
    Calls Tryz.prog 41 #[v, .func (.func K) #[] #[]] w fun e w' => ∃ v', e = .returned v' ∧ RowsAt w' 1 v' ((mapP f p log).map strV) ∧ Below w.heap.size w w' := by
  obtain ⟨A, c, rfl⟩ := hv.slice
  have HS := hide hv
  have HF := hide hF
  obtain ⟨i0, hi0, hz0, hz1, hz2⟩ := info_parts (show (Tryz.prog.info? 9).map (fun i => (i.zero, i.size, i.bytes)) = some (some (.string ⟨#[]⟩), 1, 16) by kernel_rfl)
  clear hv hF
  go_enter Tryz.func41, Tryz.ntmps41
  go_wp2_with fail
  go_loopw [5, 7, 8, 9, 12] (fun out _ _ _ i wr => ∃ k : Nat, i = .int .i64 (k : Int) ∧ k ≤ log.length ∧ Aside (Below w.heap.size w wr) ∧ Aside (wr.ownsRow w.heap.size 9 1 out (mapP f p (log.take k)).length ((mapP f p (log.take k)).map strV).flatten)) (fun _ _ _ _ i _ => log.length - (intOf i).toNat)
  case atStart => exact ⟨0, rfl, by omega, Below.refl _ _, World.ownsRow_nil _ _ _ _⟩
  case round =>
    obtain ⟨k, rfl, hk, hB, hO⟩ := hrel
    have HB : Hid (Below w.heap.size w wr) := hB
    have HO : Hid (wr.ownsRow w.heap.size 9 1 _ (mapP f p (log.take k)).length ((mapP f p (log.take k)).map strV).flatten) := hO
    clear hB hO
    by_cases hlt : k < log.length
    · have e1 : decide ((k : Int) < (log.length : Int)) = true := decide_eq_true (by omega)
      obtain ⟨l, hl'⟩ : ∃ l, log[k]? = some l := ⟨_, List.getElem?_eq_getElem hlt⟩
      obtain ⟨a, rfl, ha, c0, c1, c2, c3⟩ := LnsAt.at_ (HS.out.to HB.out) hl'
      have HW := hide (below_alloc HB.out (Nat.le_refl _) (.cells #[.string (bs l.p), .string (bs l.t), .string (bs l.s), .string (bs l.d)] 32))
      have CV := HF.out l (List.mem_of_getElem? hl') (wr.alloc (.cells #[.string (bs l.p), .string (bs l.t), .string (bs l.s), .string (bs l.d)] 32)) HW.out
      have HT := hide (mapP_snoc f p hl')
      have HLE : (mapP f p (log.take k)).length ≤ k := Nat.le_trans (mapP_len f p _) (List.length_take_le _ _)
      clear hl'
      cases hp : p l with
      | true =>
        rw [hp] at CV HT
        clear hp
        go_wp2_with (first | ((with_reducible refine CV.mono ?_); rintro e w4 ⟨rfl, hb4⟩) | (at_builtin; refine wpList_append_own _ rfl (.tmp 23) (.tmp 25) _ rfl w.heap.size 9 i0 (.string ⟨#[]⟩) 1 16 Tryz.underlying34 hi0 hz0 hz1 hz2 rfl (by omega) _ (mapP f p (log.take k)).length ((mapP f p (log.take k)).map strV).flatten rfl ?c0 ⟨_, 0, none⟩ 1 1 [.string (bs (f l))] rfl rfl ?c1 ?c2 ?c4 ?c5 ?c3 ?_))
        case c0 => exact own_to' (own_to' (own_to' HO.out (below_one wr _)) (by assumption)) (below_one _ _)
        case c1 => exact cells_new (by simp)
        case c2 => intro u hu; simp only [List.mem_cons, List.not_mem_nil, or_false] at hu; rcases hu with rfl <;> rfl
        case c4 => simp only [maxLen]; omega
        case c5 => omega
        case c3 => have := HW.out.size; have := (by assumption : Below _ _ w4).size; simp at *; omega
        · intro v' w6 hown6 hgr6 _
          have HB6 := hide ((below_alloc (below_to HW.out (Nat.le_refl _) (by assumption)) (Nat.le_refl _) (.cells #[.string (bs (f l))] 9)).grown hgr6 (by have := HW.out.size; have := (by assumption : Below _ _ w4).size; simp at *; omega) (fun b hb => (HO.out.lt b hb).1))
          have HO6 : Hid (w6.ownsRow w.heap.size 9 1 v' (mapP f p (log.take (k + 1))).length ((mapP f p (log.take (k + 1))).map strV).flatten) := by
            show World.ownsRow _ _ _ _ _ _ _
            rw [HT.out]
            simpa [strV] using hown6
          clear hown6 hgr6
          go_wp2_with fail
          refine ⟨⟨k + 1, by go_num, by omega, HB6.out, HO6.out⟩, ?_⟩
          simp [intOf]; omega
      | false =>
        rw [hp] at CV HT
        clear hp
        go_wp2_with ((with_reducible refine CV.mono ?_); rintro e w4 ⟨rfl, hb4⟩)
        refine ⟨⟨k + 1, by go_num, by omega, below_to HW.out (Nat.le_refl _) (by assumption), ?_⟩, ?_⟩
        · rw [HT.out]
          exact own_to' (own_to' HO.out (below_one wr _)) (by assumption)
        · simp [intOf]; omega
    · obtain rfl : k = log.length := by omega
      have e1 : decide ((log.length : Int) < (log.length : Int)) = false := by simp
      rw [List.take_length] at HO
      go_wp2_with fail
      go_ret
      exact ⟨_, rfl, RowsAt.of_own (by simp [strV]) (by rw [List.length_map]; exact HO.out), HB.out⟩

set_option maxRecDepth 100000 in
set_option maxHeartbeats 4000000 in
theorem mLs1_any (K : FuncId) (hE : ∀ args w, (callFunc K args).run Tryz.prog w = .ok (.enter K args) w) (f : Ln → List UInt8) (p : Ln → Bool) (pb : Nat) (log : List Ln) (hl : log.length ≤ 1000000000) (v : Value) (w : World) (hv : LnsAt w v log)
    (hF : ∀ l ∈ log, ∀ w', Below w.heap.size w w' → Calls Tryz.prog K #[.agg #[.string (bs l.p), .string (bs l.t), .string (bs l.s), .string (bs l.d)], .pointer (some ⟨pb, 0, none⟩)] w' fun e w'' => e = .returned (.tuple #[.string (bs (f l)), .bool (p l)]) ∧ Below w'.heap.size w' w'') :
    Calls Tryz.prog 41 #[v, .func (.func K) #[] #[.pointer (some ⟨pb, 0, none⟩)]] w fun e w' => ∃ v', e = .returned v' ∧ RowsAt w' 1 v' ((mapP f p log).map strV) ∧ Below w.heap.size w w' := by
  obtain ⟨A, c, rfl⟩ := hv.slice
  have HS := hide hv
  have HF := hide hF
  obtain ⟨i0, hi0, hz0, hz1, hz2⟩ := info_parts (show (Tryz.prog.info? 9).map (fun i => (i.zero, i.size, i.bytes)) = some (some (.string ⟨#[]⟩), 1, 16) by kernel_rfl)
  clear hv hF
  go_enter Tryz.func41, Tryz.ntmps41
  go_wp2_with fail
  go_loopw [5, 7, 8, 9, 12] (fun out _ _ _ i wr => ∃ k : Nat, i = .int .i64 (k : Int) ∧ k ≤ log.length ∧ Aside (Below w.heap.size w wr) ∧ Aside (wr.ownsRow w.heap.size 9 1 out (mapP f p (log.take k)).length ((mapP f p (log.take k)).map strV).flatten)) (fun _ _ _ _ i _ => log.length - (intOf i).toNat)
  case atStart => exact ⟨0, rfl, by omega, Below.refl _ _, World.ownsRow_nil _ _ _ _⟩
  case round =>
    obtain ⟨k, rfl, hk, hB, hO⟩ := hrel
    have HB : Hid (Below w.heap.size w wr) := hB
    have HO : Hid (wr.ownsRow w.heap.size 9 1 _ (mapP f p (log.take k)).length ((mapP f p (log.take k)).map strV).flatten) := hO
    clear hB hO
    by_cases hlt : k < log.length
    · have e1 : decide ((k : Int) < (log.length : Int)) = true := decide_eq_true (by omega)
      obtain ⟨l, hl'⟩ : ∃ l, log[k]? = some l := ⟨_, List.getElem?_eq_getElem hlt⟩
      obtain ⟨a, rfl, ha, c0, c1, c2, c3⟩ := LnsAt.at_ (HS.out.to HB.out) hl'
      have HW := hide (below_alloc HB.out (Nat.le_refl _) (.cells #[.string (bs l.p), .string (bs l.t), .string (bs l.s), .string (bs l.d)] 32))
      have CV := HF.out l (List.mem_of_getElem? hl') (wr.alloc (.cells #[.string (bs l.p), .string (bs l.t), .string (bs l.s), .string (bs l.d)] 32)) HW.out
      have HT := hide (mapP_snoc f p hl')
      have HLE : (mapP f p (log.take k)).length ≤ k := Nat.le_trans (mapP_len f p _) (List.length_take_le _ _)
      clear hl'
      cases hp : p l with
      | true =>
        rw [hp] at CV HT
        clear hp
        go_wp2_with (first | ((with_reducible refine CV.mono ?_); rintro e w4 ⟨rfl, hb4⟩) | (at_builtin; refine wpList_append_own _ rfl (.tmp 23) (.tmp 25) _ rfl w.heap.size 9 i0 (.string ⟨#[]⟩) 1 16 Tryz.underlying34 hi0 hz0 hz1 hz2 rfl (by omega) _ (mapP f p (log.take k)).length ((mapP f p (log.take k)).map strV).flatten rfl ?c0 ⟨_, 0, none⟩ 1 1 [.string (bs (f l))] rfl rfl ?c1 ?c2 ?c4 ?c5 ?c3 ?_))
        case c0 => exact own_to' (own_to' (own_to' HO.out (below_one wr _)) (by assumption)) (below_one _ _)
        case c1 => exact cells_new (by simp)
        case c2 => intro u hu; simp only [List.mem_cons, List.not_mem_nil, or_false] at hu; rcases hu with rfl <;> rfl
        case c4 => simp only [maxLen]; omega
        case c5 => omega
        case c3 => have := HW.out.size; have := (by assumption : Below _ _ w4).size; simp at *; omega
        · intro v' w6 hown6 hgr6 _
          have HB6 := hide ((below_alloc (below_to HW.out (Nat.le_refl _) (by assumption)) (Nat.le_refl _) (.cells #[.string (bs (f l))] 9)).grown hgr6 (by have := HW.out.size; have := (by assumption : Below _ _ w4).size; simp at *; omega) (fun b hb => (HO.out.lt b hb).1))
          have HO6 : Hid (w6.ownsRow w.heap.size 9 1 v' (mapP f p (log.take (k + 1))).length ((mapP f p (log.take (k + 1))).map strV).flatten) := by
            show World.ownsRow _ _ _ _ _ _ _
            rw [HT.out]
            simpa [strV] using hown6
          clear hown6 hgr6
          go_wp2_with fail
          refine ⟨⟨k + 1, by go_num, by omega, HB6.out, HO6.out⟩, ?_⟩
          simp [intOf]; omega
      | false =>
        rw [hp] at CV HT
        clear hp
        go_wp2_with ((with_reducible refine CV.mono ?_); rintro e w4 ⟨rfl, hb4⟩)
        refine ⟨⟨k + 1, by go_num, by omega, below_to HW.out (Nat.le_refl _) (by assumption), ?_⟩, ?_⟩
        · rw [HT.out]
          exact own_to' (own_to' HO.out (below_one wr _)) (by assumption)
        · simp [intOf]; omega
    · obtain rfl : k = log.length := by omega
      have e1 : decide ((log.length : Int) < (log.length : Int)) = false := by simp
      rw [List.take_length] at HO
      go_wp2_with fail
      go_ret
      exact ⟨_, rfl, RowsAt.of_own (by simp [strV]) (by rw [List.length_map]; exact HO.out), HB.out⟩

set_option maxRecDepth 100000 in
set_option maxHeartbeats 4000000 in
theorem mOO_any (K : FuncId) (hE : ∀ args w, (callFunc K args).run Tryz.prog w = .ok (.enter K args) w) (f : Od → Od) (p : Od → Bool) (pb : Nat) (log : List Od) (hl : log.length ≤ 1000000000) (v : Value) (w : World) (hv : OdsAt w v log)
    (hF : ∀ l ∈ log, ∀ w', Below w.heap.size w w' → Calls Tryz.prog K #[.agg #[.string (bs l.i), .string (bs l.p), .string (bs l.f), .string (bs l.t), .int .i64 l.a, .int .i64 l.b], .pointer (some ⟨pb, 0, none⟩)] w' fun e w'' => e = .returned (.tuple #[.agg #[.string (bs (f l).i), .string (bs (f l).p), .string (bs (f l).f), .string (bs (f l).t), .int .i64 (f l).a, .int .i64 (f l).b], .bool (p l)]) ∧ Below w'.heap.size w' w'') :
    Calls Tryz.prog 59 #[v, .func (.func K) #[] #[.pointer (some ⟨pb, 0, none⟩)]] w fun e w' => ∃ v', e = .returned v' ∧ RowsAt w' 6 v' ((mapP f p log).map odV) ∧ Below w.heap.size w w' := by
  obtain ⟨A, c, rfl⟩ := hv.slice
  have HS := hide hv
  have HF := hide hF
  obtain ⟨i0, hi0, hz0, hz1, hz2⟩ := info_parts (show (Tryz.prog.info? 53).map (fun i => (i.zero, i.size, i.bytes)) = some (some (.agg #[.string ⟨#[]⟩, .string ⟨#[]⟩, .string ⟨#[]⟩, .string ⟨#[]⟩, .int .i64 0, .int .i64 0]), 6, 80) by kernel_rfl)
  clear hv hF
  go_enter Tryz.func59, Tryz.ntmps59
  go_wp2_with fail
  go_loopw [5, 7, 8, 9, 12] (fun out _ _ _ i wr => ∃ k : Nat, i = .int .i64 (k : Int) ∧ k ≤ log.length ∧ Aside (Below w.heap.size w wr) ∧ Aside (wr.ownsRow w.heap.size 53 6 out (mapP f p (log.take k)).length ((mapP f p (log.take k)).map odV).flatten)) (fun _ _ _ _ i _ => log.length - (intOf i).toNat)
  case atStart => exact ⟨0, rfl, by omega, Below.refl _ _, World.ownsRow_nil _ _ _ _⟩
  case round =>
    obtain ⟨k, rfl, hk, hB, hO⟩ := hrel
    have HB : Hid (Below w.heap.size w wr) := hB
    have HO : Hid (wr.ownsRow w.heap.size 53 6 _ (mapP f p (log.take k)).length ((mapP f p (log.take k)).map odV).flatten) := hO
    clear hB hO
    by_cases hlt : k < log.length
    · have e1 : decide ((k : Int) < (log.length : Int)) = true := decide_eq_true (by omega)
      obtain ⟨l, hl'⟩ : ∃ l, log[k]? = some l := ⟨_, List.getElem?_eq_getElem hlt⟩
      obtain ⟨a, rfl, ha, c0, c1, c2, c3, c4, c5⟩ := OdsAt.at_ (HS.out.to HB.out) hl'
      have HW := hide (below_alloc HB.out (Nat.le_refl _) (.cells #[.string (bs l.i), .string (bs l.p), .string (bs l.f), .string (bs l.t), .int .i64 l.a, .int .i64 l.b] 53))
      have CV := HF.out l (List.mem_of_getElem? hl') (wr.alloc (.cells #[.string (bs l.i), .string (bs l.p), .string (bs l.f), .string (bs l.t), .int .i64 l.a, .int .i64 l.b] 53)) HW.out
      have HT := hide (mapP_snoc f p hl')
      have HLE : (mapP f p (log.take k)).length ≤ k := Nat.le_trans (mapP_len f p _) (List.length_take_le _ _)
      clear hl'
      cases hp : p l with
      | true =>
        rw [hp] at CV HT
        clear hp
        go_wp2_with (first | ((with_reducible refine CV.mono ?_); rintro e w4 ⟨rfl, hb4⟩) | (at_builtin; refine wpList_append_own _ rfl (.tmp 23) (.tmp 25) _ rfl w.heap.size 53 i0 (.agg #[.string ⟨#[]⟩, .string ⟨#[]⟩, .string ⟨#[]⟩, .string ⟨#[]⟩, .int .i64 0, .int .i64 0]) 6 80 Tryz.underlying46 hi0 hz0 hz1 hz2 rfl (by omega) _ (mapP f p (log.take k)).length ((mapP f p (log.take k)).map odV).flatten rfl ?c0 ⟨_, 0, none⟩ 1 1 [.string (bs (f l).i), .string (bs (f l).p), .string (bs (f l).f), .string (bs (f l).t), .int .i64 (f l).a, .int .i64 (f l).b] rfl rfl ?c1 ?c2 ?c4 ?c5 ?c3 ?_))
        case c0 => exact own_to' (own_to' (own_to' (own_to' HO.out (below_one wr _)) (by assumption)) (below_one _ _)) (below_one _ _)
        case c1 => exact cells_new (by simp)
        case c2 => intro u hu; simp only [List.mem_cons, List.not_mem_nil, or_false] at hu; rcases hu with rfl | rfl | rfl | rfl | rfl | rfl <;> rfl
        case c4 => simp only [maxLen]; omega
        case c5 => omega
        case c3 => have := HW.out.size; have := (by assumption : Below _ _ w4).size; simp at *; omega
        · intro v' w6 hown6 hgr6 _
          have HB6 := hide ((below_alloc (below_alloc (below_to HW.out (Nat.le_refl _) (by assumption)) (Nat.le_refl _) (.cells #[.string (bs (f l).i), .string (bs (f l).p), .string (bs (f l).f), .string (bs (f l).t), .int .i64 (f l).a, .int .i64 (f l).b] 53)) (Nat.le_refl _) (.cells #[.string (bs (f l).i), .string (bs (f l).p), .string (bs (f l).f), .string (bs (f l).t), .int .i64 (f l).a, .int .i64 (f l).b] 53)).grown hgr6 (by have := HW.out.size; have := (by assumption : Below _ _ w4).size; simp at *; omega) (fun b hb => (HO.out.lt b hb).1))
          have HO6 : Hid (w6.ownsRow w.heap.size 53 6 v' (mapP f p (log.take (k + 1))).length ((mapP f p (log.take (k + 1))).map odV).flatten) := by
            show World.ownsRow _ _ _ _ _ _ _
            rw [HT.out]
            simpa [odV] using hown6
          clear hown6 hgr6
          go_wp2_with fail
          refine ⟨⟨k + 1, by go_num, by omega, HB6.out, HO6.out⟩, ?_⟩
          simp [intOf]; omega
      | false =>
        rw [hp] at CV HT
        clear hp
        go_wp2_with ((with_reducible refine CV.mono ?_); rintro e w4 ⟨rfl, hb4⟩)
        refine ⟨⟨k + 1, by go_num, by omega, below_alloc (below_to HW.out (Nat.le_refl _) (by assumption)) (Nat.le_refl _) _, ?_⟩, ?_⟩
        · rw [HT.out]
          exact own_to' (own_to' (own_to' HO.out (below_one wr _)) (by assumption)) (below_one _ _)
        · simp [intOf]; omega
    · obtain rfl : k = log.length := by omega
      have e1 : decide ((log.length : Int) < (log.length : Int)) = false := by simp
      rw [List.take_length] at HO
      go_wp2_with fail
      go_ret
      exact ⟨_, rfl, RowsAt.of_own (by simp [odV]) (by rw [List.length_map]; exact HO.out), HB.out⟩
end Go.Proofs.YtdiebacfbhjbdaaGreatDoor

/- Walks of package privacy: Root, About, Orders and their function values. -/
set_option linter.unusedVariables false
set_option linter.unusedSimpArgs false
namespace Go.Proofs.YtdiebacfbhjbdaaGreatDoor
open Go.RowKit

theorem ent_cRoot : ∀ args w, (callFunc 42 args).run Tryz.prog w = .ok (.enter 42 args) w := enters_fn Tryz.func42 (by kernel_rfl) rfl
theorem ent_cAbout : ∀ args w, (callFunc 44 args).run Tryz.prog w = .ok (.enter 44 args) w := enters_fn Tryz.func44 (by kernel_rfl) rfl
theorem ent_cOrders : ∀ args w, (callFunc 60 args).run Tryz.prog w = .ok (.enter 60 args) w := enters_fn Tryz.func60 (by kernel_rfl) rfl
set_option maxHeartbeats 2000000 in
theorem cRoot_any (l : Ln) (hf : l.d.length ≤ 100000000000) (w : World) (hg : Glob w) : Calls Tryz.prog 42 #[.agg #[.string (bs l.p), .string (bs l.t), .string (bs l.s), .string (bs l.d)]] w fun e w' => e = .returned (.tuple #[.string (bs (leafD l.d)), .bool true]) ∧ Below w.heap.size w w' := by
  have HB := hide (below_one w (.cells #[.string (bs l.p), .string (bs l.t), .string (bs l.s), .string (bs l.d)] 32))
  have CL := Leaf_any l.d hf (w.alloc (.cells #[.string (bs l.p), .string (bs l.t), .string (bs l.s), .string (bs l.d)] 32)) (hg.alloc _)
  clear hg
  go_enter Tryz.func42, Tryz.ntmps42
  go_wp2_with ((with_reducible refine CL.mono ?_); rintro e w' ⟨rfl, hb⟩)
  go_ret2
  exact ⟨rfl, below_to HB.out (Nat.le_refl _) (by assumption)⟩
set_option maxHeartbeats 2000000 in
theorem cAbout_any (l : Ln) (q : List UInt8) (pb : Nat) (w : World) (hp : w.cell? ⟨pb, 0, none⟩ = some (.string (bs q))) : Calls Tryz.prog 44 #[.agg #[.string (bs l.p), .string (bs l.t), .string (bs l.s), .string (bs l.d)], .pointer (some ⟨pb, 0, none⟩)] w fun e w' => e = .returned (.tuple #[.string (bs l.t), .bool (decide (l.p = q))]) ∧ Below w.heap.size w w' := by
  have HB := hide (below_one w (.cells #[.string (bs l.p), .string (bs l.t), .string (bs l.s), .string (bs l.d)] 32))
  have hlt := World.block_lt_of_cell? w _ hp
  have hp2 : (w.alloc (.cells #[.string (bs l.p), .string (bs l.t), .string (bs l.s), .string (bs l.d)] 32)).cell? ⟨pb, 0, none⟩ = some (.string (bs q)) := (HB.out.cell (p := ⟨pb, 0, none⟩) hlt).trans hp
  have HV : Hid (((bs l.p).toList == (bs q).toList) = decide (l.p = q)) := by
    show _ = _
    rw [bs_toList, bs_toList]
    by_cases h : l.p = q
    · rw [decide_eq_true h, h]; simp
    · rw [decide_eq_false h, beq_eq_false_iff_ne]; exact h
  clear hp
  go_enter Tryz.func44, Tryz.ntmps44
  go_wp2_with fail
  go_quiet (fail)
  go_wp2_with fail
  go_ret2
  exact ⟨by rw [← HV.out]; rfl, below_drewN HB.out _⟩
def odC (o : Od) : Array Value := #[.string (bs o.i), .string (bs o.p), .string (bs o.f), .string (bs o.t), .int .i64 o.a, .int .i64 o.b]
set_option maxHeartbeats 2000000 in
theorem cOrders_any (l : Od) (q : List UInt8) (pb : Nat) (w : World) (hp : w.cell? ⟨pb, 0, none⟩ = some (.string (bs q))) : Calls Tryz.prog 60 #[.agg #[.string (bs l.i), .string (bs l.p), .string (bs l.f), .string (bs l.t), .int .i64 l.a, .int .i64 l.b], .pointer (some ⟨pb, 0, none⟩)] w fun e w' => e = .returned (.tuple #[.agg #[.string (bs l.i), .string (bs l.p), .string (bs l.f), .string (bs l.t), .int .i64 l.a, .int .i64 l.b], .bool (!decide (l.p = q))]) ∧ Below w.heap.size w w' := by
  have HB := hide (below_two w (.cells #[.string (bs l.i), .string (bs l.p), .string (bs l.f), .string (bs l.t), .int .i64 l.a, .int .i64 l.b] 53) (.cells #[.string ⟨#[]⟩, .string ⟨#[]⟩, .string ⟨#[]⟩, .string ⟨#[]⟩, .int .i64 0, .int .i64 0] 53))
  have hlt := World.block_lt_of_cell? w _ hp
  have hp2 : ((w.alloc (.cells #[.string (bs l.i), .string (bs l.p), .string (bs l.f), .string (bs l.t), .int .i64 l.a, .int .i64 l.b] 53)).alloc (.cells #[.string ⟨#[]⟩, .string ⟨#[]⟩, .string ⟨#[]⟩, .string ⟨#[]⟩, .int .i64 0, .int .i64 0] 53)).cell? ⟨pb, 0, none⟩ = some (.string (bs q)) := (HB.out.cell (p := ⟨pb, 0, none⟩) hlt).trans hp
  have HV : Hid ((!((bs l.p).toList == (bs q).toList)) = !decide (l.p = q)) := by
    show _ = _
    rw [bs_toList, bs_toList]
    by_cases h : l.p = q
    · rw [decide_eq_true h, h]; simp
    · rw [decide_eq_false h]; simp [h]
  have hlt' : pb < w.heap.size := hlt
  have hn1 : pb ≠ w.heap.size := by omega
  have hn2 : pb ≠ w.heap.size + 1 := by omega
  clear hlt'
  clear hp2
  go_enter Tryz.func60, Tryz.ntmps60
  go_wp2_with fail
  go_region
  all_goals go_wp2_with fail
  have hb : Blk ((w.alloc (.cells #[.string (bs l.i), .string (bs l.p), .string (bs l.f), .string (bs l.t), .int .i64 l.a, .int .i64 l.b] 53)).alloc (.cells #[.string (bs l.i), .string (bs l.p), .string (bs l.f), .string (bs l.t), .int .i64 l.a, .int .i64 l.b] 53)).drew (w.heap.size + 1) 53 (odC l) := by
    have := Blk.new (w.alloc (.cells #[.string (bs l.i), .string (bs l.p), .string (bs l.f), .string (bs l.t), .int .i64 l.a, .int .i64 l.b] 53)) 53 (odC l)
    exact Blk.drew (by simpa [odC] using this)
  refine bodyPost_ret (results_c1 (p := 3) (u := 4) rfl _ _ (w.heap.size + 1) 53 _ _ rfl hb Tryz.underlying53 rfl (by kernel_rfl)) rfl ⟨by rw [← HV.out]; rfl, (below_two w _ _).drew⟩
/-- what came out of a log: an error or a list of texts -/
def okA (log : List Ln) (q : List UInt8) : Bool := validG log && isNm q
def aboutV (log : List Ln) (q : List UInt8) : List (List UInt8) := if okA log q then aboutP log q else []
def errE (b : Bool) : Int := if b then 0 else 1
def AboutR (log : List Ln) (q : List UInt8) (w : World) (e : Ending) (w' : World) : Prop := ∃ v', e = .returned (.tuple #[v', .int .i64 (errE (okA log q))]) ∧ TextsAt w' v' (aboutV log q) ∧ Below w.heap.size w w'
set_option maxRecDepth 100000 in
set_option maxHeartbeats 4000000 in
theorem About_any (log : List Ln) (hf : ∀ l ∈ log, l.fit) (hl : log.length ≤ 1000000000) (q : List UInt8) (hq : q.length ≤ 140737488355328) (v : Value) (w : World) (hv : LnsAt w v log) (hg : Glob w) :
    Calls Tryz.prog 16 #[v, .string (bs q)] w (AboutR log q w) := by
  have HB := hide (below_one w (.cells #[.string (bs q)] 9))
  have HX := hide (Blk.new w 9 #[.string (bs q)])
  have CP := proper_any v log hf hl q hq (w.alloc (.cells #[.string (bs q)] 9)) (hv.to HB.out) (hg.alloc _)
  have CM := fun (w' : World) (hb : Below (w.alloc (.cells #[.string (bs q)] 9)).heap.size (w.alloc (.cells #[.string (bs q)] 9)) w') => mLs1_any 44 ent_cAbout (fun l => l.t) (fun l => decide (l.p = q)) w.heap.size log hl v w' ((hv.to HB.out).to hb) (fun l hl w2 hb2 => cAbout_any l q w.heap.size w2 (((HX.out.to hb).to hb2).cell 0))
  have HO : Hid (okA log q = (validG log && isNm q)) := rfl
  clear hv hg hf
  cases hp : validG log && isNm q with
  | false =>
    rw [hp] at CP HO
    clear hp CM
    go_enter Tryz.func16, Tryz.ntmps16
    go_wp2_with ((with_reducible refine CP.mono ?_); rintro e w' ⟨rfl, hb⟩)
    go_ret2
    exact ⟨.slice none 0 0, by rw [HO.out]; rfl, by unfold aboutV; rw [HO.out]; exact RowsAt.nil _ _, below_to HB.out (Nat.le_refl _) (by assumption)⟩
  | true =>
    rw [hp] at CP HO
    clear hp
    go_enter Tryz.func16, Tryz.ntmps16
    go_wp2_with fail
    refine CP.mono ?_
    rintro e w2 ⟨rfl, hb⟩
    have HB2 := hide (below_to HB.out (Nat.le_refl _) hb)
    have CM2 := CM _ hb
    clear CM CP hb
    go_wp2_with fail
    refine CM2.mono ?_
    rintro e w3 ⟨v', rfl, hr, hb⟩
    have HB3 := hide (below_to HB2.out (Nat.le_refl _) hb)
    have HR := hide hr
    clear hr hb CM2
    go_wp2_with fail
    go_ret2
    exact ⟨v', by rw [HO.out]; rfl, by unfold aboutV; rw [HO.out]; exact HR.out, HB3.out⟩
set_option maxRecDepth 100000 in
set_option maxHeartbeats 4000000 in
theorem Root_any (log : List Ln) (hf : ∀ l ∈ log, l.fit) (hd : ∀ l ∈ log, l.d.length ≤ 100000000000) (hl : log.length ≤ 1000000000) (v : Value) (w : World) (hv : LnsAt w v log) (hg : Glob w) :
    Calls Tryz.prog 14 #[v] w fun e w' => e = .returned (.tuple #[.string (bs (if validG log then totalT (leavesP log) else [])), .int .i64 (errE (validG log))]) ∧ Below w.heap.size w w' := by
  have CP := rvalid_any log hf hl v w hv hg
  have CM := fun (w' : World) (hb : Below w.heap.size w w') => mLs0_any 42 ent_cRoot (fun l => leafD l.d) (fun l => true) log hl v w' (hv.to hb) (fun l hl w2 hb2 => cRoot_any l (hd l hl) w2 ((hg.to hb).to hb2))
  have CR := fun (w' : World) (hb : Below w.heap.size w w') (u : Value) (hu : TextsAt w' u (leavesP log)) => tRoot_any (leavesP log) (by unfold leavesP; rw [List.length_map]; omega) (fun x hx => by
    unfold leavesP at hx
    obtain ⟨l, _, rfl⟩ := List.mem_map.1 hx
    have := isD_len (leaf_isD l.d)
    omega) u w' hu (hg.to hb)
  have HM : Hid (mapP (fun l : Ln => leafD l.d) (fun _ => true) log = leavesP log) := by show _ = _; unfold mapP leavesP; rw [List.filter_eq_self.2 (by simp)]
  have HRV : Hid (rootV (leavesP log) = totalT (leavesP log) ∧ rootE (leavesP log) = 0) := ⟨by unfold rootV; rw [if_pos (leaves_proper log)], by unfold rootE; rw [if_pos (leaves_proper log)]⟩
  clear hv hg hf hd
  cases hp : validG log with
  | false =>
    rw [hp] at CP
    rw [if_neg (by simp)]
    clear hp CM CR
    go_enter Tryz.func14, Tryz.ntmps14
    go_wp2_with ((with_reducible refine CP.mono ?_); rintro e w' ⟨rfl, hb⟩)
    go_ret2
    exact ⟨rfl, by assumption⟩
  | true =>
    rw [hp] at CP
    rw [if_pos rfl]
    clear hp
    go_enter Tryz.func14, Tryz.ntmps14
    go_wp2_with fail
    refine CP.mono ?_
    rintro e w2 ⟨rfl, hb⟩
    have HB2 := hide hb
    have CM2 := CM _ hb
    clear CM CP hb
    go_wp2_with fail
    refine CM2.mono ?_
    rintro e w3 ⟨v', rfl, hr, hb⟩
    have HB3 := hide (below_to HB2.out (Nat.le_refl _) hb)
    rw [HM.out] at hr
    have CR2 := CR _ HB3.out v' hr
    rw [HRV.out.1, HRV.out.2] at CR2
    clear hr hb CM2 CR
    go_wp2_with ((with_reducible refine CR2.mono ?_); rintro e w' ⟨rfl, hb⟩)
    go_ret2
    exact ⟨rfl, below_to HB3.out (Nat.le_refl _) (by assumption)⟩
def ordersP (l : List Od) (q : List UInt8) : List Od := l.filter fun o => !decide (o.p = q)
def OrdersR (l : List Od) (q : List UInt8) (w : World) (e : Ending) (w' : World) : Prop := ∃ v', e = .returned v' ∧ OdsAt w' v' (ordersP l q) ∧ Below w.heap.size w w'
set_option maxRecDepth 100000 in
set_option maxHeartbeats 4000000 in
theorem Orders_any (l : List Od) (hl : l.length ≤ 1000000000) (q : List UInt8) (v : Value) (w : World) (hv : OdsAt w v l) :
    Calls Tryz.prog 27 #[v, .string (bs q)] w (OrdersR l q w) := by
  have HB := hide (below_one w (.cells #[.string (bs q)] 9))
  have HX := hide (Blk.new w 9 #[.string (bs q)])
  have CM := mOO_any 60 ent_cOrders id (fun l => !decide (l.p = q)) w.heap.size l hl v (w.alloc (.cells #[.string (bs q)] 9)) (hv.to HB.out) (fun l hl w2 hb2 => cOrders_any l q w.heap.size w2 ((HX.out.to hb2).cell 0))
  have HM : Hid (mapP id (fun l : Od => !decide (l.p = q)) l = ordersP l q) := by show _ = _; unfold mapP ordersP; rw [List.map_id]
  rw [HM.out] at CM
  clear hv HX HM
  go_enter Tryz.func27, Tryz.ntmps27
  go_wp2_with fail
  refine CM.mono ?_
  rintro e w3 ⟨v', rfl, hr, hb⟩
  have HB3 := hide (below_to HB.out (Nat.le_refl _) hb)
  have HR := hide hr
  clear hr hb CM
  go_wp2_with fail
  go_ret
  exact ⟨v', rfl, HR.out, HB3.out⟩
end Go.Proofs.YtdiebacfbhjbdaaGreatDoor

/- Walks of package privacy: Erase, its function value that counts, mapped with it. -/
set_option linter.unusedVariables false
set_option linter.unusedSimpArgs false
namespace Go.Proofs.YtdiebacfbhjbdaaGreatDoor
open Go.RowKit

/-- below B all is as it was but for block nb -/
structure But (nb B : Nat) (w w' : World) : Prop where
  os : w'.os = w.os
  tape : w'.tape = w.tape
  output : w'.output = w.output
  size : w.heap.size ≤ w'.heap.size
  block : ∀ k, k < B → k ≠ nb → w'.heap[k]? = w.heap[k]?
section
variable {nb B : Nat} {a w w' : World}
theorem But.refl (nb B : Nat) (w : World) : But nb B w w := ⟨rfl, rfl, rfl, Nat.le_refl _, fun _ _ _ => rfl⟩
theorem But.trans {b c : World} (h : But nb B a b) (k : But nb B b c) : But nb B a c := ⟨k.os.trans h.os, k.tape.trans h.tape, k.output.trans h.output, Nat.le_trans h.size k.size, fun i hi hn => (k.block i hi hn).trans (h.block i hi hn)⟩
theorem But.mono {B' : Nat} (h : But nb B w w') (hB : B' ≤ B) : But nb B' w w' := ⟨h.os, h.tape, h.output, h.size, fun k hk => h.block k (Nat.lt_of_lt_of_le hk hB)⟩
theorem But.of (h : Below B w w') : But nb B w w' := ⟨h.os, h.tape, h.output, h.size, fun k hk _ => h.block k hk⟩
theorem But.to {w2 : World} (h : But nb B w w') (hB : B ≤ w.heap.size) (h' : Below w'.heap.size w' w2) : But nb B w w2 := h.trans (But.of (h'.mono (Nat.le_trans hB h.size)))
theorem But.to' {w2 : World} (h : But nb B w w') (hB : B ≤ w.heap.size) (h' : But nb w'.heap.size w' w2) : But nb B w w2 := h.trans (h'.mono (Nat.le_trans hB h.size))
theorem But.alloc (h : But nb B a w) (hB : B ≤ a.heap.size) (o : Obj) : But nb B a (w.alloc o) := h.to hB (below_one w o)
theorem But.set_ (h : But nb B a w) (u : Value) : But nb B a (w.setCell ⟨nb, 0, none⟩ u) := h.trans ⟨rfl, rfl, rfl, by simp [World.setCell], fun k hk hn => Below.heap_setCell _ _ _ _ hn⟩
theorem But.far (h : But nb B a w) {p : Addr} (hp : B ≤ p.block) (u : Value) : But nb B a (w.setCell p u) := h.trans ⟨rfl, rfl, rfl, by simp [World.setCell], fun k hk hn => Below.heap_setCell _ _ _ _ (by omega)⟩
theorem But.below {B' : Nat} (h : But nb B w w') (h1 : B' ≤ B) (h2 : B' ≤ nb) : Below B' w w' := ⟨h.os, h.tape, h.output, h.size, fun k hk => h.block k (by omega) (by omega)⟩
theorem But.grown {row : Option Nat} (h : But nb B a w) (hg : w.grownBy w' row) (hB : B ≤ w.heap.size) (hr : ∀ k, row = some k → B ≤ k) : But nb B a w' :=
  h.trans ⟨hg.os, hg.tape, hg.output, hg.size, fun k hk _ => hg.block k (by omega) (fun e => by have := hr k e.symm; omega)⟩
theorem But.own {base : Nat} {e : TypeId} {size n : Nat} {v : Value} {xs : List Value} (h : w.ownsRow base e size v n xs) (hb : But nb w.heap.size w w') (hn : nb < base) : w'.ownsRow base e size v n xs := by
  obtain ⟨h1, h2⟩ := h
  refine ⟨h1, ?_⟩
  rcases h2 with h2 | ⟨g, cap, cur, hv, hB, hg, h3⟩
  · exact .inl h2
  · refine .inr ⟨g, cap, cur, hv, hB, ?_, h3⟩
    rw [hb.block g ?_ (by omega)]
    · exact hg
    · rcases Nat.lt_or_ge g w.heap.size with h | h
      · exact h
      · rw [Array.getElem?_eq_none h] at hg; cases hg
theorem But.blk {g : Nat} {t : TypeId} {cs : Array Value} (H : Blk w g t cs) (hb : But nb w.heap.size w w') (hn : g ≠ nb) : Blk w' g t cs := (hb.block g H.lt hn).trans H
end
theorem ent_cErase : ∀ args w, (callFunc 38 args).run Tryz.prog w = .ok (.enter 38 args) w := enters_fn Tryz.func38 (by kernel_rfl) rfl
/-- a line when q is erased -/
def erQ (q : List UInt8) (l : Ln) : Ln := if l.p = q then er l else l
def hit (q : List UInt8) (l : Ln) : Nat := if l.p = q then 1 else 0
def EraC (q : List UInt8) (l : Ln) (nb : Nat) (c : Nat) (w : World) (e : Ending) (w' : World) : Prop := e = .returned (.tuple #[.agg #[.string (bs (erQ q l).p), .string (bs (erQ q l).t), .string (bs (erQ q l).s), .string (bs (erQ q l).d)], .bool true]) ∧ But nb w.heap.size w w' ∧ Blk w' nb 3 #[.int .i64 ((c + hit q l : Nat) : Int)]
set_option maxHeartbeats 2000000 in
theorem cErase_any (l : Ln) (q : List UInt8) (pb nb c : Nat) (hc : c ≤ 1000000000) (w : World) (hp : w.cell? ⟨pb, 0, none⟩ = some (.string (bs q))) (hn : Blk w nb 3 #[.int .i64 (c : Int)]) :
    Calls Tryz.prog 38 #[.agg #[.string (bs l.p), .string (bs l.t), .string (bs l.s), .string (bs l.d)], .pointer (some ⟨pb, 0, none⟩), .pointer (some ⟨nb, 0, none⟩)] w (EraC q l nb c w) := by
  have hlt0 := World.block_lt_of_cell? w _ hp
  have hlt : pb < w.heap.size := hlt0
  have hnlt := hn.lt
  have n1 : pb ≠ w.heap.size := by omega
  have n2 : pb ≠ w.heap.size + 1 := by omega
  have n3 : nb ≠ w.heap.size := by omega
  have n4 : nb ≠ w.heap.size + 1 := by omega
  have n5 : w.heap.size ≠ nb := by omega
  have n6 : w.heap.size + 1 ≠ nb := by omega
  have hc0 := hn.cell 0
  have hf0 := hn.frozen 0
  simp only [List.getElem?_toArray, List.getElem?_cons_zero] at hc0
  have HN := hide hn
  clear hlt0 hn
  by_cases h : l.p = q
  · have HV : Hid (erQ q l = er l ∧ hit q l = 1) := ⟨by unfold erQ; rw [if_pos h], by unfold hit; rw [if_pos h]⟩
    have e1 : ((bs l.p).toList == (bs q).toList) = true := by rw [h]; simp
    have CE := fun w => erased_any l w
    unfold lnC er at CE
    clear h
    go_enter Tryz.func38, Tryz.ntmps38
    go_wp2_with fail
    have HX : Hid (Blk (((w.setCell ⟨nb, 0, none⟩ (.int .i64 ((c : Int) + 1))).alloc (.cells #[.string (bs l.p), .string (bs l.t), .string (bs l.s), .string (bs l.d)] 32)).alloc (.cells #[.string ⟨#[]⟩, .string ⟨#[]⟩, .string ⟨#[]⟩, .string ⟨#[]⟩] 32)) (w.heap.size + 1) 32 #[.string ⟨#[]⟩, .string ⟨#[]⟩, .string ⟨#[]⟩, .string ⟨#[]⟩]) := by
      have := Blk.new ((w.setCell ⟨nb, 0, none⟩ (.int .i64 ((c : Int) + 1))).alloc (.cells #[.string (bs l.p), .string (bs l.t), .string (bs l.s), .string (bs l.d)] 32)) 32 #[.string ⟨#[]⟩, .string ⟨#[]⟩, .string ⟨#[]⟩, .string ⟨#[]⟩]
      show Blk _ _ _ _
      simpa using this
    have HB : Hid (But nb w.heap.size w (((w.setCell ⟨nb, 0, none⟩ (.int .i64 ((c : Int) + 1))).alloc (.cells #[.string (bs l.p), .string (bs l.t), .string (bs l.s), .string (bs l.d)] 32)).alloc (.cells #[.string ⟨#[]⟩, .string ⟨#[]⟩, .string ⟨#[]⟩, .string ⟨#[]⟩] 32))) := (((But.refl nb _ w).set_ _).alloc (Nat.le_refl _) _).alloc (Nat.le_refl _) _
    have HC : Hid (Blk (((w.setCell ⟨nb, 0, none⟩ (.int .i64 ((c : Int) + 1))).alloc (.cells #[.string (bs l.p), .string (bs l.t), .string (bs l.s), .string (bs l.d)] 32)).alloc (.cells #[.string ⟨#[]⟩, .string ⟨#[]⟩, .string ⟨#[]⟩, .string ⟨#[]⟩] 32)) nb 3 #[.int .i64 ((c + 1 : Nat) : Int)]) := ((HN.out.set_ 0 (.int .i64 ((c : Int) + 1))).alloc _).alloc _
    refine (CE _).mono ?_
    rintro e w2 ⟨rfl, hb⟩
    have HX2 := hide (HX.out.to hb)
    have HB2 := hide (HB.out.to (Nat.le_refl _) hb)
    have HC2 := hide (HC.out.to hb)
    have r0 := (HX2.out.cell 0).trans rfl
    have r1 := (HX2.out.cell 1).trans rfl
    have r2 := (HX2.out.cell 2).trans rfl
    have r3 := (HX2.out.cell 3).trans rfl
    have f0 : ∀ i, w2.frozen? ⟨w.heap.size + 1, i, none⟩ = false := fun i => HX2.out.frozen i
    clear hb HX HB HC CE hp hc0 hf0
    go_wp2_with fail
    have hbk := (((((HX2.out.set_ 0 (.string (bs []))).set_ 1 (.string (bs []))).set_ 2 (.string (bs []))).set_ 3 (.string (bs l.d))))
    refine bodyPost_ret (results_c1 (p := 4) (u := 5) rfl _ _ (w.heap.size + 1) 32 _ _ rfl hbk Tryz.underlying32 rfl (by kernel_rfl)) rfl ⟨by rw [HV.out.1]; rfl, ?_, ?_⟩
    · exact (((HB2.out.far (p := ⟨w.heap.size + 1, 0, none⟩) (Nat.le_succ _) _).far (p := ⟨w.heap.size + 1, 1, none⟩) (Nat.le_succ _) _).far (p := ⟨w.heap.size + 1, 2, none⟩) (Nat.le_succ _) _).far (p := ⟨w.heap.size + 1, 3, none⟩) (Nat.le_succ _) _
    · rw [HV.out.2]
      exact (((HC2.out.far n4 _).far n4 _).far n4 _).far n4 _
  · have HV : Hid (erQ q l = l ∧ hit q l = 0) := ⟨by unfold erQ; rw [if_neg h], by unfold hit; rw [if_neg h]⟩
    have e1 : ((bs l.p).toList == (bs q).toList) = false := by rw [beq_eq_false_iff_ne, bs_toList, bs_toList]; exact h
    clear h
    go_enter Tryz.func38, Tryz.ntmps38
    go_wp2_with fail
    have hbk : Blk ((w.alloc (.cells #[.string (bs l.p), .string (bs l.t), .string (bs l.s), .string (bs l.d)] 32)).alloc (.cells #[.string (bs l.p), .string (bs l.t), .string (bs l.s), .string (bs l.d)] 32)) (w.heap.size + 1) 32 #[.string (bs l.p), .string (bs l.t), .string (bs l.s), .string (bs l.d)] := by
      have := Blk.new (w.alloc (.cells #[.string (bs l.p), .string (bs l.t), .string (bs l.s), .string (bs l.d)] 32)) 32 #[.string (bs l.p), .string (bs l.t), .string (bs l.s), .string (bs l.d)]
      show Blk _ _ _ _
      simpa using this
    refine bodyPost_ret (results_c1 (p := 4) (u := 5) rfl _ _ (w.heap.size + 1) 32 _ _ rfl hbk Tryz.underlying32 rfl (by kernel_rfl)) rfl ⟨by rw [HV.out.1]; rfl, But.of (below_two w _ _), ?_⟩
    rw [HV.out.2]
    exact (HN.out.alloc _).alloc _
theorem era_take (q : List UInt8) {log : List Ln} {k : Nat} {l : Ln} (h : log[k]? = some l) : (log.take (k + 1)).map (erQ q) = (log.take k).map (erQ q) ++ [erQ q l] ∧ hitsP (log.take (k + 1)) q = hitsP (log.take k) q + hit q l := by
  unfold hitsP hit
  rw [List.take_add_one, h]
  refine ⟨by simp, ?_⟩
  simp only [Option.toList_some, List.filter_append, List.length_append]
  by_cases hp : l.p = q <;> simp [hp]
theorem hits_le (log : List Ln) (q : List UInt8) : hitsP log q ≤ log.length := List.length_filter_le _ _
def EraM (log : List Ln) (q : List UInt8) (nb : Nat) (w : World) (e : Ending) (w' : World) : Prop := ∃ v', e = .returned v' ∧ LnsAt w' v' (eraseP log q) ∧ But nb w.heap.size w w' ∧ Blk w' nb 3 #[.int .i64 ((hitsP log q : Nat) : Int)]
set_option maxRecDepth 100000 in
set_option maxHeartbeats 4000000 in
theorem mLLe_any (log : List Ln) (hl : log.length ≤ 1000000000) (q : List UInt8) (pb nb : Nat) (hpn : pb ≠ nb) (v : Value) (w : World) (hv : ∀ w', But nb w.heap.size w w' → LnsAt w' v log) (hp : Blk w pb 9 #[.string (bs q)]) (hn : Blk w nb 3 #[.int .i64 0]) :
    Calls Tryz.prog 37 #[v, .func (.func 38) #[] #[.pointer (some ⟨pb, 0, none⟩), .pointer (some ⟨nb, 0, none⟩)]] w (EraM log q nb w) := by
  obtain ⟨A, c, rfl⟩ := (hv w (But.refl _ _ _)).slice
  have HS := hide hv
  have HP := hide hp
  have HN := hide hn
  have hE := ent_cErase
  have hnlt := hn.lt
  obtain ⟨i0, hi0, hz0, hz1, hz2⟩ := info_parts (show (Tryz.prog.info? 32).map (fun i => (i.zero, i.size, i.bytes)) = some (some (.agg #[.string ⟨#[]⟩, .string ⟨#[]⟩, .string ⟨#[]⟩, .string ⟨#[]⟩]), 4, 64) by kernel_rfl)
  clear hv hp hn
  go_enter Tryz.func37, Tryz.ntmps37
  go_wp2_with fail
  go_loopw [5, 7, 8, 9, 12] (fun out _ _ _ i wr => ∃ k : Nat, i = .int .i64 (k : Int) ∧ k ≤ log.length ∧ Aside (But nb w.heap.size w wr) ∧ Aside (Blk wr nb 3 #[.int .i64 ((hitsP (log.take k) q : Nat) : Int)]) ∧ Aside (wr.ownsRow w.heap.size 32 4 out ((log.take k).map (erQ q)).length (((log.take k).map (erQ q)).map lnV).flatten)) (fun _ _ _ _ i _ => log.length - (intOf i).toNat)
  case atStart => exact ⟨0, rfl, by omega, But.refl _ _ _, HN.out, World.ownsRow_nil _ _ _ _⟩
  case round =>
    obtain ⟨k, rfl, hk, hB, hC, hO⟩ := hrel
    have HB : Hid (But nb w.heap.size w wr) := hB
    have HC : Hid (Blk wr nb 3 #[.int .i64 ((hitsP (log.take k) q : Nat) : Int)]) := hC
    have HO : Hid (wr.ownsRow w.heap.size 32 4 _ ((log.take k).map (erQ q)).length (((log.take k).map (erQ q)).map lnV).flatten) := hO
    clear hB hC hO
    by_cases hlt : k < log.length
    · have e1 : decide ((k : Int) < (log.length : Int)) = true := decide_eq_true (by omega)
      obtain ⟨l, hl'⟩ : ∃ l, log[k]? = some l := ⟨_, List.getElem?_eq_getElem hlt⟩
      obtain ⟨a, rfl, ha, c0, c1, c2, c3⟩ := (HS.out wr HB.out).at_ hl'
      have HT := hide (era_take q hl')
      have hcnt : hitsP (log.take k) q ≤ 1000000000 := Nat.le_trans (hits_le _ _) (Nat.le_trans (List.length_take_le _ _) (by omega))
      have HLEN : ((log.take k).map (erQ q)).length ≤ k := by rw [List.length_map]; exact List.length_take_le _ _
      have CV := cErase_any l q pb nb (hitsP (log.take k) q) hcnt (wr.alloc (.cells #[.string (bs l.p), .string (bs l.t), .string (bs l.s), .string (bs l.d)] 32)) (((But.blk HP.out HB.out hpn).alloc _).cell 0) (HC.out.alloc _)
      clear hl' hcnt
      generalize (log.take k).map (erQ q) = xs at *
      go_wp2_with fail
      refine CV.mono ?_
      rintro e w4 ⟨rfl, hb4, hc4⟩
      have HB4 := hide ((HB.out.alloc (Nat.le_refl _) (.cells #[.string (bs l.p), .string (bs l.t), .string (bs l.s), .string (bs l.d)] 32)).to' (Nat.le_refl _) hb4)
      have HO4 := hide (But.own (own_to' HO.out (below_one wr (.cells #[.string (bs l.p), .string (bs l.t), .string (bs l.s), .string (bs l.d)] 32))) hb4 hnlt)
      have HC4 := hide hc4
      have HSZ : Hid (w.heap.size ≤ w4.heap.size) := HB4.out.size
      clear hb4 hc4 CV HC HO
      generalize hm : erQ q l = m at *
      go_wp2_with (at_builtin; refine wpList_append_own _ rfl (.tmp 23) (.tmp 25) _ rfl w.heap.size 32 i0 (.agg #[.string ⟨#[]⟩, .string ⟨#[]⟩, .string ⟨#[]⟩, .string ⟨#[]⟩]) 4 64 Tryz.underlying22 hi0 hz0 hz1 hz2 rfl (by omega) _ xs.length (xs.map lnV).flatten rfl ?c0 ⟨_, 0, none⟩ 1 1 (lnV m) rfl rfl ?c1 ?c2 ?c4 ?c5 ?c3 ?_)
      case c0 => exact own_to' (own_to' HO4.out (below_one _ _)) (below_one _ _)
      case c1 => exact cells_new (xs := lnV m) (by simp)
      case c2 => intro u hu; simp only [lnV, List.mem_cons, List.not_mem_nil, or_false] at hu; rcases hu with rfl | rfl | rfl | rfl <;> rfl
      case c4 => simp only [maxLen]; omega
      case c5 => omega
      case c3 => have := HSZ.out; simp; omega
      · intro v' w6 hown6 hgr6 _
        have HB6 := hide (((HB4.out.alloc (Nat.le_refl _) _).alloc (Nat.le_refl _) _).grown hgr6 (by have := HSZ.out; simp; omega) (fun b hb => (HO4.out.lt b hb).1))
        have HO6 : Hid (w6.ownsRow w.heap.size 32 4 v' ((log.take (k + 1)).map (erQ q)).length (((log.take (k + 1)).map (erQ q)).map lnV).flatten) := by
          show World.ownsRow _ _ _ _ _ _ _
          rw [HT.out.1]
          simp only [List.length_append, List.length_cons, List.length_nil, Nat.zero_add, List.map_append, List.map_cons, List.map_nil, List.flatten_append, List.flatten_cons, List.flatten_nil, List.append_nil]
          exact hown6
        have HC6 : Hid (Blk w6 nb 3 #[.int .i64 ((hitsP (log.take (k + 1)) q : Nat) : Int)]) := by
          show Blk _ _ _ _
          rw [HT.out.2]
          exact ((hgr6.block nb (by have := HSZ.out; simp; omega) (fun e => by have := (HO4.out.lt nb e.symm).1; omega)).trans ((HC4.out.alloc _).alloc _) : _)
        clear hown6 hgr6
        go_wp2_with fail
        refine ⟨⟨k + 1, by go_num, by omega, HB6.out, HC6.out, HO6.out⟩, ?_⟩
        simp [intOf]; omega
    · obtain rfl : k = log.length := by omega
      have e1 : decide ((log.length : Int) < (log.length : Int)) = false := by simp
      rw [List.take_length] at HO HC
      go_wp2_with fail
      go_ret
      exact ⟨_, rfl, RowsAt.of_own (by simp [lnV]) (by rw [List.length_map]; exact HO.out), HB.out, HC.out⟩
def eraseV (log : List Ln) (q : List UInt8) : List Ln := if okA log q then eraseP log q else []
def hitsV (log : List Ln) (q : List UInt8) : Nat := if okA log q then hitsP log q else 0
def EraseR (log : List Ln) (q : List UInt8) (w : World) (e : Ending) (w' : World) : Prop := ∃ v', e = .returned (.tuple #[v', .int .i64 ((hitsV log q : Nat) : Int), .int .i64 (errE (okA log q))]) ∧ LnsAt w' v' (eraseV log q) ∧ Below w.heap.size w w'
set_option maxRecDepth 100000 in
set_option maxHeartbeats 4000000 in
theorem Erase_any (log : List Ln) (hf : ∀ l ∈ log, l.fit) (hl : log.length ≤ 1000000000) (q : List UInt8) (hq : q.length ≤ 140737488355328) (v : Value) (w : World) (hv : LnsAt w v log) (hg : Glob w) :
    Calls Tryz.prog 13 #[v, .string (bs q)] w (EraseR log q w) := by
  have HB := hide (below_one w (.cells #[.string (bs q)] 9))
  have HX := hide (Blk.new w 9 #[.string (bs q)])
  have CP := proper_any v log hf hl q hq (w.alloc (.cells #[.string (bs q)] 9)) (hv.to HB.out) (hg.alloc _)
  have HO : Hid (okA log q = (validG log && isNm q)) := rfl
  have HS := hide hv
  clear hv hg hf
  cases hp : validG log && isNm q with
  | false =>
    rw [hp] at CP HO
    clear hp
    go_enter Tryz.func13, Tryz.ntmps13
    go_wp2_with ((with_reducible refine CP.mono ?_); rintro e w' ⟨rfl, hb⟩)
    go_ret3
    exact ⟨.slice none 0 0, by unfold hitsV; rw [HO.out]; rfl, by unfold eraseV; rw [HO.out]; exact RowsAt.nil _ _, below_to HB.out (Nat.le_refl _) (by assumption)⟩
  | true =>
    rw [hp] at CP HO
    clear hp
    go_enter Tryz.func13, Tryz.ntmps13
    go_wp2_with fail
    refine CP.mono ?_
    rintro e w2 ⟨rfl, hb⟩
    have HB2 := hide (below_to HB.out (Nat.le_refl _) hb)
    have HX2 := hide (HX.out.to hb)
    have HW2 : Hid (w.heap.size < w2.heap.size) := HX2.out.lt
    have HB3 := hide (below_alloc HB2.out (Nat.le_refl _) (.cells #[.int .i64 0] 3))
    have CM := mLLe_any log hl q w.heap.size w2.heap.size (Nat.ne_of_lt HW2.out) v (w2.alloc (.cells #[.int .i64 0] 3)) (fun w' hb' => HS.out.to (HB3.out.trans (hb'.below (by have := HW2.out; simp; omega) (by have := HW2.out; omega)))) (HX2.out.alloc _) (Blk.new _ _ _)
    clear CP hb
    go_wp2_with fail
    refine CM.mono ?_
    rintro e w3 ⟨v', rfl, hr, hb, hc⟩
    have HB4 := hide (HB3.out.trans (hb.below (by have := HW2.out; simp; omega) (by have := HW2.out; omega)))
    have HR := hide hr
    have hn := (hc.cell 0).trans rfl
    clear hr hb CM hc
    generalize hN : hitsP log q = N at *
    have HN := hide hN
    clear hN
    go_wp2_with fail
    go_quiet (fail)
    go_wp2_with fail
    go_ret3
    exact ⟨v', by unfold hitsV; rw [HO.out, if_pos rfl, HN.out]; rfl, by unfold eraseV; rw [HO.out]; exact HR.out, below_drewN HB4.out _⟩
end Go.Proofs.YtdiebacfbhjbdaaGreatDoor

/- Walks of the statements' own helpers: lists compared, sizes, leaves. -/
set_option linter.unusedVariables false
set_option linter.unusedSimpArgs false
namespace Go.Proofs.YtdiebacfbhjbdaaGreatDoor
open Go.RowKit

theorem Od.eq_iff (a b : Od) : a = b ↔ a.i = b.i ∧ a.p = b.p ∧ a.f = b.f ∧ a.t = b.t ∧ a.a = b.a ∧ a.b = b.b := by
  constructor
  · rintro rfl; exact ⟨rfl, rfl, rfl, rfl, rfl, rfl⟩
  · rintro ⟨h1, h2, h3, h4, h5, h6⟩; cases a; cases b; simp_all
instance : DecidableEq Od := fun a b => decidable_of_iff _ (Od.eq_iff a b).symm
instance : DecidableEq Ln := fun a b => inferInstance
theorem lnq_no (x : Ln) (w : World) : (binOp .neq 32 (.agg #[.string (bs x.p), .string (bs x.t), .string (bs x.s), .string (bs x.d)]) (.agg #[.string (bs x.p), .string (bs x.t), .string (bs x.s), .string (bs x.d)])).run Tryz.prog w = .ok (.bool false) w := by
  rw [run_neq_struct]
  go_simp
theorem lnq_yes {x y : Ln} (h : x ≠ y) (w : World) : (binOp .neq 32 (.agg #[.string (bs x.p), .string (bs x.t), .string (bs x.s), .string (bs x.d)]) (.agg #[.string (bs y.p), .string (bs y.t), .string (bs y.s), .string (bs y.d)])).run Tryz.prog w = .ok (.bool true) w := by
  rw [run_neq_struct]
  go_simp
  intro h1 h2 h3 h4
  rw [bs_toList, bs_toList] at h1 h2 h3 h4
  exact h ((Ln.eq_iff x y).2 ⟨h1, h2, h3, h4⟩)
theorem odq_no (x : Od) (w : World) : (binOp .neq 53 (.agg #[.string (bs x.i), .string (bs x.p), .string (bs x.f), .string (bs x.t), .int .i64 x.a, .int .i64 x.b]) (.agg #[.string (bs x.i), .string (bs x.p), .string (bs x.f), .string (bs x.t), .int .i64 x.a, .int .i64 x.b])).run Tryz.prog w = .ok (.bool false) w := by
  rw [run_neq_struct]
  go_simp
theorem odq_yes {x y : Od} (h : x ≠ y) (w : World) : (binOp .neq 53 (.agg #[.string (bs x.i), .string (bs x.p), .string (bs x.f), .string (bs x.t), .int .i64 x.a, .int .i64 x.b]) (.agg #[.string (bs y.i), .string (bs y.p), .string (bs y.f), .string (bs y.t), .int .i64 y.a, .int .i64 y.b])).run Tryz.prog w = .ok (.bool true) w := by
  rw [run_neq_struct]
  go_simp
  intro h1 h2 h3 h4 h5
  rw [bs_toList, bs_toList] at h1 h2 h3 h4
  intro h6
  exact h ((Od.eq_iff x y).2 ⟨h1, h2, h3, h4, h5, h6⟩)
set_option maxRecDepth 100000 in
set_option maxHeartbeats 4000000 in
theorem Texts_any (a b : List (List UInt8)) (ha : a.length ≤ 1000000000) (hb : b.length ≤ 1000000000) (v u : Value) (w : World) (hv : TextsAt w v a) (hu : TextsAt w u b) : Calls Tryz.prog 17 #[v, u] w fun e w' => e = .returned (.bool (decide (a = b))) ∧ Below w.heap.size w w' := by
  obtain ⟨A, c, rfl, _⟩ := hv.slice
  obtain ⟨B, d, rfl, _⟩ := hu.slice
  have HS := hide hv
  have HU := hide hu
  clear hv hu
  by_cases hab : a.length = b.length
  · have HAB := hide hab
    rw [← hab] at HU hb ⊢
    clear hab
    go_enter Tryz.func17, Tryz.ntmps17
    go_wp2_with fail
    go_loopw [5] (fun i wr => ∃ k : Nat, i = .int .i64 (k : Int) ∧ k ≤ a.length ∧ Aside (Below w.heap.size w wr) ∧ Aside (a.take k = b.take k)) (fun i _ => a.length - (intOf i).toNat)
    case atStart => exact ⟨0, rfl, by omega, Below.refl _ _, rfl⟩
    case round =>
      obtain ⟨k, rfl, hk, hB, hT⟩ := hrel
      have HB : Hid (Below w.heap.size w wr) := hB
      have HT : Hid (a.take k = b.take k) := hT
      clear hB hT
      by_cases hlt : k < a.length
      · have e1 : decide ((k : Int) < (a.length : Int)) = true := decide_eq_true (by omega)
        obtain ⟨x, hx⟩ : ∃ x, a[k]? = some x := ⟨_, List.getElem?_eq_getElem hlt⟩
        obtain ⟨y, hy⟩ : ∃ y, b[k]? = some y := ⟨_, List.getElem?_eq_getElem (by have := HAB.out; omega)⟩
        obtain ⟨aa, rfl, ha0, c0⟩ := (HS.out.to HB.out).at_ hx
        obtain ⟨ba, rfl, hb0, d0⟩ := (HU.out.to HB.out).at_ hy
        have i0 : (0 : Int) ≤ (k : Int) := by omega
        have i1 : (k : Int) < (a.length : Int) := by omega
        by_cases hxy : x = y
        · have HN : Hid (a.take (k + 1) = b.take (k + 1)) := by show _ = _; rw [List.take_add_one, List.take_add_one, hx, hy, HT.out, hxy]
          subst hxy
          have q : ((bs x).toList == (bs x).toList) = true := by simp
          clear hx hy
          go_wp2_with fail
          go_quiet (fail)
          go_wp2_with fail
          refine ⟨⟨k + 1, by go_num, by omega, below_drewN HB.out _, HN.out⟩, ?_⟩
          simp [intOf]; omega
        · have HN : Hid (decide (a = b) = false) := by
            show _ = _
            apply decide_eq_false
            rintro rfl
            exact hxy (Option.some.inj (hx.symm.trans hy))
          have q : ((bs x).toList == (bs y).toList) = false := by rw [beq_eq_false_iff_ne, bs_toList, bs_toList]; exact hxy
          clear hx hy hxy
          go_wp2_with fail
          go_quiet (fail)
          go_wp2_with fail
          go_ret
          exact ⟨ret_bool (by rw [HN.out]), below_drewN HB.out _⟩
      · obtain rfl : k = a.length := by omega
        have e1 : decide ((a.length : Int) < (a.length : Int)) = false := by simp
        have HN : Hid (decide (a = b) = true) := by
          show _ = _
          apply decide_eq_true
          have := HT.out
          rwa [List.take_length, HAB.out, List.take_length] at this
        go_wp2_with fail
        go_ret
        exact ⟨ret_bool (by rw [HN.out]), HB.out⟩
  · have HN : Hid (decide (a = b) = false) := by
      show _ = _
      apply decide_eq_false
      rintro rfl
      exact hab rfl
    have e1 : ((a.length : Int) == (b.length : Int)) = false := by rw [beq_eq_false_iff_ne]; omega
    have e2 : (a.length == b.length) = false := by rw [beq_eq_false_iff_ne]; exact hab
    clear hab
    go_enter Tryz.func17, Tryz.ntmps17
    go_wp2_with fail
    go_ret
    exact ⟨ret_bool (by rw [HN.out]), Below.refl _ _⟩
set_option maxRecDepth 100000 in
set_option maxHeartbeats 4000000 in
theorem Same_any (a b : List Ln) (ha : a.length ≤ 1000000000) (hb : b.length ≤ 1000000000) (v u : Value) (w : World) (hv : LnsAt w v a) (hu : LnsAt w u b) : Calls Tryz.prog 18 #[v, u] w fun e w' => e = .returned (.bool (decide (a = b))) ∧ Below w.heap.size w w' := by
  obtain ⟨A, c, rfl⟩ := hv.slice
  obtain ⟨B, d, rfl⟩ := hu.slice
  have HS := hide hv
  have HU := hide hu
  clear hv hu
  by_cases hab : a.length = b.length
  · have HAB := hide hab
    rw [← hab] at HU hb ⊢
    clear hab
    go_enter Tryz.func18, Tryz.ntmps18
    go_wp2_with fail
    go_loopw [5] (fun i wr => ∃ k : Nat, i = .int .i64 (k : Int) ∧ k ≤ a.length ∧ Aside (Below w.heap.size w wr) ∧ Aside (a.take k = b.take k)) (fun i _ => a.length - (intOf i).toNat)
    case atStart => exact ⟨0, rfl, by omega, Below.refl _ _, rfl⟩
    case round =>
      obtain ⟨k, rfl, hk, hB, hT⟩ := hrel
      have HB : Hid (Below w.heap.size w wr) := hB
      have HT : Hid (a.take k = b.take k) := hT
      clear hB hT
      by_cases hlt : k < a.length
      · have e1 : decide ((k : Int) < (a.length : Int)) = true := decide_eq_true (by omega)
        obtain ⟨x, hx⟩ : ∃ x, a[k]? = some x := ⟨_, List.getElem?_eq_getElem hlt⟩
        obtain ⟨y, hy⟩ : ∃ y, b[k]? = some y := ⟨_, List.getElem?_eq_getElem (by have := HAB.out; omega)⟩
        obtain ⟨aa, rfl, ha0, c0, c1, c2, c3⟩ := (HS.out.to HB.out).at_ hx
        obtain ⟨ba, rfl, hb0, d0, d1, d2, d3⟩ := (HU.out.to HB.out).at_ hy
        have i0 : (0 : Int) ≤ (k : Int) := by omega
        have i1 : (k : Int) < (a.length : Int) := by omega
        by_cases hxy : x = y
        · have HN : Hid (a.take (k + 1) = b.take (k + 1)) := by show _ = _; rw [List.take_add_one, List.take_add_one, hx, hy, HT.out, hxy]
          subst hxy
          have q := lnq_no x
          clear hx hy
          go_wp2_with fail
          go_quiet (fail)
          go_wp2_with fail
          refine ⟨⟨k + 1, by go_num, by omega, below_drewN HB.out _, HN.out⟩, ?_⟩
          simp [intOf]; omega
        · have HN : Hid (decide (a = b) = false) := by
            show _ = _
            apply decide_eq_false
            rintro rfl
            exact hxy (Option.some.inj (hx.symm.trans hy))
          have q := lnq_yes hxy
          clear hx hy hxy
          go_wp2_with fail
          go_quiet (fail)
          go_wp2_with fail
          go_ret
          exact ⟨ret_bool (by rw [HN.out]), below_drewN HB.out _⟩
      · obtain rfl : k = a.length := by omega
        have e1 : decide ((a.length : Int) < (a.length : Int)) = false := by simp
        have HN : Hid (decide (a = b) = true) := by
          show _ = _
          apply decide_eq_true
          have := HT.out
          rwa [List.take_length, HAB.out, List.take_length] at this
        go_wp2_with fail
        go_ret
        exact ⟨ret_bool (by rw [HN.out]), HB.out⟩
  · have HN : Hid (decide (a = b) = false) := by
      show _ = _
      apply decide_eq_false
      rintro rfl
      exact hab rfl
    have e1 : ((a.length : Int) == (b.length : Int)) = false := by rw [beq_eq_false_iff_ne]; omega
    have e2 : (a.length == b.length) = false := by rw [beq_eq_false_iff_ne]; exact hab
    clear hab
    go_enter Tryz.func18, Tryz.ntmps18
    go_wp2_with fail
    go_ret
    exact ⟨ret_bool (by rw [HN.out]), Below.refl _ _⟩
set_option maxRecDepth 100000 in
set_option maxHeartbeats 4000000 in
theorem SameO_any (a b : List Od) (ha : a.length ≤ 1000000000) (hb : b.length ≤ 1000000000) (v u : Value) (w : World) (hv : OdsAt w v a) (hu : OdsAt w u b) : Calls Tryz.prog 26 #[v, u] w fun e w' => e = .returned (.bool (decide (a = b))) ∧ Below w.heap.size w w' := by
  obtain ⟨A, c, rfl⟩ := hv.slice
  obtain ⟨B, d, rfl⟩ := hu.slice
  have HS := hide hv
  have HU := hide hu
  clear hv hu
  by_cases hab : a.length = b.length
  · have HAB := hide hab
    rw [← hab] at HU hb ⊢
    clear hab
    go_enter Tryz.func26, Tryz.ntmps26
    go_wp2_with fail
    go_loopw [5] (fun i wr => ∃ k : Nat, i = .int .i64 (k : Int) ∧ k ≤ a.length ∧ Aside (Below w.heap.size w wr) ∧ Aside (a.take k = b.take k)) (fun i _ => a.length - (intOf i).toNat)
    case atStart => exact ⟨0, rfl, by omega, Below.refl _ _, rfl⟩
    case round =>
      obtain ⟨k, rfl, hk, hB, hT⟩ := hrel
      have HB : Hid (Below w.heap.size w wr) := hB
      have HT : Hid (a.take k = b.take k) := hT
      clear hB hT
      by_cases hlt : k < a.length
      · have e1 : decide ((k : Int) < (a.length : Int)) = true := decide_eq_true (by omega)
        obtain ⟨x, hx⟩ : ∃ x, a[k]? = some x := ⟨_, List.getElem?_eq_getElem hlt⟩
        obtain ⟨y, hy⟩ : ∃ y, b[k]? = some y := ⟨_, List.getElem?_eq_getElem (by have := HAB.out; omega)⟩
        obtain ⟨aa, rfl, ha0, c0, c1, c2, c3, c4, c5⟩ := (HS.out.to HB.out).at_ hx
        obtain ⟨ba, rfl, hb0, d0, d1, d2, d3, d4, d5⟩ := (HU.out.to HB.out).at_ hy
        have i0 : (0 : Int) ≤ (k : Int) := by omega
        have i1 : (k : Int) < (a.length : Int) := by omega
        by_cases hxy : x = y
        · have HN : Hid (a.take (k + 1) = b.take (k + 1)) := by show _ = _; rw [List.take_add_one, List.take_add_one, hx, hy, HT.out, hxy]
          subst hxy
          have q := odq_no x
          clear hx hy
          go_wp2_with fail
          go_quiet (fail)
          go_wp2_with fail
          refine ⟨⟨k + 1, by go_num, by omega, below_drewN HB.out _, HN.out⟩, ?_⟩
          simp [intOf]; omega
        · have HN : Hid (decide (a = b) = false) := by
            show _ = _
            apply decide_eq_false
            rintro rfl
            exact hxy (Option.some.inj (hx.symm.trans hy))
          have q := odq_yes hxy
          clear hx hy hxy
          go_wp2_with fail
          go_quiet (fail)
          go_wp2_with fail
          go_ret
          exact ⟨ret_bool (by rw [HN.out]), below_drewN HB.out _⟩
      · obtain rfl : k = a.length := by omega
        have e1 : decide ((a.length : Int) < (a.length : Int)) = false := by simp
        have HN : Hid (decide (a = b) = true) := by
          show _ = _
          apply decide_eq_true
          have := HT.out
          rwa [List.take_length, HAB.out, List.take_length] at this
        go_wp2_with fail
        go_ret
        exact ⟨ret_bool (by rw [HN.out]), HB.out⟩
  · have HN : Hid (decide (a = b) = false) := by
      show _ = _
      apply decide_eq_false
      rintro rfl
      exact hab rfl
    have e1 : ((a.length : Int) == (b.length : Int)) = false := by rw [beq_eq_false_iff_ne]; omega
    have e2 : (a.length == b.length) = false := by rw [beq_eq_false_iff_ne]; exact hab
    clear hab
    go_enter Tryz.func26, Tryz.ntmps26
    go_wp2_with fail
    go_ret
    exact ⟨ret_bool (by rw [HN.out]), Below.refl _ _⟩
def smL (l : Ln) : Bool := decide (l.p.length ≤ 500) && decide (l.t.length ≤ 500) && decide (l.s.length ≤ 500) && decide (l.d.length ≤ 500)
def fewG (log : List Ln) : Bool := (log.take 30).all smL && decide (log.length ≤ 30)
set_option maxRecDepth 100000 in
set_option maxHeartbeats 8000000 in
theorem Few_any (log : List Ln) (hl : log.length ≤ 140737488355328) (v : Value) (w : World) (hv : LnsAt w v log) : Calls Tryz.prog 34 #[v] w fun e w' => e = .returned (.bool (fewG log)) ∧ Below w.heap.size w w' := by
  obtain ⟨A, c, rfl⟩ := hv.slice
  have HS := hide hv
  have HV : Hid (fewG log = ((log.take 30).all smL && decide (log.length ≤ 30))) := rfl
  clear hv
  go_enter Tryz.func34, Tryz.ntmps34
  go_wp2_with fail
  go_loopw [3, 4] (fun i _ wr => ∃ k : Nat, i = .int .i64 (k : Int) ∧ (k ≤ log.length ∧ k ≤ 30) ∧ Aside (Below w.heap.size w wr) ∧ Aside ((log.take 30).all smL = ((log.take 30).drop k).all smL)) (fun i _ _ => log.length - (intOf i).toNat)
  case atStart => exact ⟨0, rfl, ⟨by omega, by omega⟩, Below.refl _ _, rfl⟩
  case round =>
    obtain ⟨k, rfl, ⟨hk, hk30⟩, hB, hA⟩ := hrel
    have HB : Hid (Below w.heap.size w wr) := hB
    have HA : Hid ((log.take 30).all smL = ((log.take 30).drop k).all smL) := hA
    clear hB hA
    by_cases hlt : k < log.length ∧ k < 30
    · obtain ⟨h', h30⟩ := hlt
      have e1 : decide ((k : Int) < (log.length : Int)) = true := decide_eq_true (by omega)
      have e2 : decide ((k : Int) < 30) = true := decide_eq_true (by omega)
      obtain ⟨l, hl'⟩ : ∃ l, log[k]? = some l := ⟨_, List.getElem?_eq_getElem h'⟩
      obtain ⟨a, rfl, ha, c0, c1, c2, c3⟩ := (HS.out.to HB.out).at_ hl'
      have HX : Hid ((log.take 30).drop k = l :: (log.take 30).drop (k + 1)) := drop_at' (by rw [List.getElem?_take_of_lt h30]; exact hl')
      have HD : Hid (smL l = true → ((log.take 30).drop k).all smL = ((log.take 30).drop (k + 1)).all smL) := fun h => by rw [HX.out, List.all_cons, h]; rfl
      have HW := hide (below_alloc HB.out (Nat.le_refl _) (.cells #[.string (bs l.p), .string (bs l.t), .string (bs l.s), .string (bs l.d)] 32))
      have z0 : (bs l.p).size = l.p.length := bs_size _
      have z1 : (bs l.t).size = l.t.length := bs_size _
      have z2 : (bs l.s).size = l.s.length := bs_size _
      have z3 : (bs l.d).size = l.d.length := bs_size _
      clear hl'
      by_cases h0 : l.p.length ≤ 500
      · have q0 : decide ((500 : Int) < (l.p.length : Int)) = false := decide_eq_false (by omega)
        by_cases h1 : l.t.length ≤ 500
        · have q1 : decide ((500 : Int) < (l.t.length : Int)) = false := decide_eq_false (by omega)
          by_cases h2 : l.s.length ≤ 500
          · have q2 : decide ((500 : Int) < (l.s.length : Int)) = false := decide_eq_false (by omega)
            by_cases h3 : l.d.length ≤ 500
            · have q3 : decide ((500 : Int) < (l.d.length : Int)) = false := decide_eq_false (by omega)
              have HN : Hid (smL l = true) := by show _ = _; unfold smL; rw [decide_eq_true h0, decide_eq_true h1, decide_eq_true h2, decide_eq_true h3]; rfl
              go_wp2_with fail
              refine ⟨⟨k + 1, by go_num, by omega, HW.out, HA.out.trans (HD.out HN.out)⟩, ?_⟩
              simp [intOf]; omega
            · have q3 : decide ((500 : Int) < (l.d.length : Int)) = true := decide_eq_true (by omega)
              have HN : Hid (fewG log = false) := by show _ = _; rw [HV.out, HA.out, HX.out, List.all_cons, show smL l = false by unfold smL; rw [decide_eq_false h3]; simp]; rfl
              go_wp2_with fail
              go_ret
              exact ⟨ret_bool (by rw [HN.out]), HW.out⟩
          · have q2 : decide ((500 : Int) < (l.s.length : Int)) = true := decide_eq_true (by omega)
            have HN : Hid (fewG log = false) := by show _ = _; rw [HV.out, HA.out, HX.out, List.all_cons, show smL l = false by unfold smL; rw [decide_eq_false h2]; simp]; rfl
            go_wp2_with fail
            go_ret
            exact ⟨ret_bool (by rw [HN.out]), HW.out⟩
        · have q1 : decide ((500 : Int) < (l.t.length : Int)) = true := decide_eq_true (by omega)
          have HN : Hid (fewG log = false) := by show _ = _; rw [HV.out, HA.out, HX.out, List.all_cons, show smL l = false by unfold smL; rw [decide_eq_false h1]; simp]; rfl
          go_wp2_with fail
          go_ret
          exact ⟨ret_bool (by rw [HN.out]), HW.out⟩
      · have q0 : decide ((500 : Int) < (l.p.length : Int)) = true := decide_eq_true (by omega)
        have HN : Hid (fewG log = false) := by show _ = _; rw [HV.out, HA.out, HX.out, List.all_cons, show smL l = false by unfold smL; rw [decide_eq_false h0]; simp]; rfl
        go_wp2_with fail
        go_ret
        exact ⟨ret_bool (by rw [HN.out]), HW.out⟩
    · have HN : Hid (fewG log = decide ((log.length : Int) ≤ 30)) := by
        show _ = _
        rw [HV.out, HA.out, List.drop_of_length_le (by rw [List.length_take]; omega), List.all_nil, Bool.true_and]
        exact decide_eq_decide.2 (by omega)
      by_cases h' : k < log.length
      · have e1 : decide ((k : Int) < (log.length : Int)) = true := decide_eq_true (by omega)
        have e2 : decide ((k : Int) < 30) = false := decide_eq_false (by omega)
        clear hlt
        go_wp2_with fail
        go_ret
        exact ⟨ret_bool (by rw [HN.out]), HB.out⟩
      · have e1 : decide ((k : Int) < (log.length : Int)) = false := decide_eq_false (by omega)
        clear hlt
        go_wp2_with fail
        go_ret
        exact ⟨ret_bool (by rw [HN.out]), HB.out⟩
def shT (ts : List (List UInt8)) : Bool := ts.all fun t => decide (t.length ≤ 500)
set_option maxRecDepth 100000 in
set_option maxHeartbeats 4000000 in
theorem few_any (log : List Ln) (hl : log.length ≤ 140737488355328) (ts : List (List UInt8)) (ht : ts.length ≤ 100) (v u : Value) (w : World) (hv : LnsAt w v log) (hu : TextsAt w u ts) : Calls Tryz.prog 12 #[v, u] w fun e w' => e = .returned (.bool (shT ts && fewG log)) ∧ Below w.heap.size w w' := by
  obtain ⟨A, c, rfl, _⟩ := hu.slice
  have HU := hide hu
  have CF := Few_any log hl v w hv
  have HV : Hid (shT ts = ts.all fun t => decide (t.length ≤ 500)) := rfl
  clear hu hv
  go_enter Tryz.func12, Tryz.ntmps12
  go_wp2_with fail
  go_loopw [5] (fun i wr => ∃ k : Nat, i = .int .i64 (k : Int) ∧ k ≤ ts.length ∧ wr = w ∧ Aside (shT ts = (ts.drop k).all fun t => decide (t.length ≤ 500))) (fun i _ => ts.length - (intOf i).toNat)
  case atStart => exact ⟨0, rfl, by omega, rfl, rfl⟩
  case round =>
    obtain ⟨k, rfl, hk, rfl, hA⟩ := hrel
    have HA : Hid (shT ts = (ts.drop k).all fun t => decide (t.length ≤ 500)) := hA
    clear hA
    by_cases hlt : k < ts.length
    · have e1 : decide ((k : Int) < (ts.length : Int)) = true := decide_eq_true (by omega)
      obtain ⟨x, hx⟩ : ∃ x, ts[k]? = some x := ⟨_, List.getElem?_eq_getElem hlt⟩
      obtain ⟨a, rfl, ha, c0⟩ := HU.out.at_ hx
      have HX := hide (drop_at' hx)
      have z0 : (bs x).size = x.length := bs_size _
      clear hx
      by_cases h0 : x.length ≤ 500
      · have q0 : decide ((500 : Int) < (x.length : Int)) = false := decide_eq_false (by omega)
        have HN : Hid (shT ts = (ts.drop (k + 1)).all fun t => decide (t.length ≤ 500)) := by show _ = _; rw [HA.out, HX.out, List.all_cons, decide_eq_true h0]; rfl
        clear CF
        go_wp2_with fail
        refine ⟨⟨k + 1, by go_num, by omega, trivial, HN.out⟩, ?_⟩
        simp [intOf]; omega
      · have q0 : decide ((500 : Int) < (x.length : Int)) = true := decide_eq_true (by omega)
        have HN : Hid (shT ts = false) := by show _ = _; rw [HA.out, HX.out, List.all_cons, decide_eq_false h0]; rfl
        clear CF
        go_wp2_with fail
        go_ret
        exact ⟨ret_bool (by rw [HN.out]; rfl), Below.refl _ _⟩
    · obtain rfl : k = ts.length := by omega
      have e1 : decide ((ts.length : Int) < (ts.length : Int)) = false := by simp
      have HN : Hid (shT ts = true) := by show _ = _; rw [HA.out, List.drop_length]; rfl
      go_wp2_with ((with_reducible refine CF.mono ?_); rintro e w' ⟨rfl, hb⟩)
      go_ret
      exact ⟨ret_bool (by rw [HN.out]; rfl), by assumption⟩
def LvR (log : List Ln) (w : World) (e : Ending) (w' : World) : Prop := ∃ v', e = .returned v' ∧ TextsAt w' v' (leavesP log) ∧ Below w.heap.size w w'
set_option maxRecDepth 100000 in
set_option maxHeartbeats 4000000 in
theorem leaves_any (log : List Ln) (hl : log.length ≤ 1000000000) (hd : ∀ l ∈ log, l.d.length ≤ 100000000000) (v : Value) (w : World) (hv : LnsAt w v log) (hg : Glob w) : Calls Tryz.prog 30 #[v] w (LvR log w) := by
  obtain ⟨A, c, rfl⟩ := hv.slice
  have HS := hide hv
  have HG := hide hg
  have HDl := hide hd
  obtain ⟨i0, hi0, hz0, hz1, hz2⟩ := info_parts (show (Tryz.prog.info? 9).map (fun i => (i.zero, i.size, i.bytes)) = some (some (.string ⟨#[]⟩), 1, 16) by kernel_rfl)
  clear hv hg hd
  go_enter Tryz.func30, Tryz.ntmps30
  go_wp2_with fail
  go_loopw [3, 4] (fun out i wr => ∃ k : Nat, i = .int .i64 (k : Int) ∧ k ≤ log.length ∧ Aside (Below w.heap.size w wr) ∧ Aside (wr.ownsRow w.heap.size 9 1 out (leavesP (log.take k)).length ((leavesP (log.take k)).map strV).flatten)) (fun _ i _ => log.length - (intOf i).toNat)
  case atStart => exact ⟨0, rfl, by omega, Below.refl _ _, World.ownsRow_nil _ _ _ _⟩
  case round =>
    obtain ⟨k, rfl, hk, hB, hO⟩ := hrel
    have HB : Hid (Below w.heap.size w wr) := hB
    have HO : Hid (wr.ownsRow w.heap.size 9 1 _ (leavesP (log.take k)).length ((leavesP (log.take k)).map strV).flatten) := hO
    clear hB hO
    by_cases hlt : k < log.length
    · have e1 : decide ((k : Int) < (log.length : Int)) = true := decide_eq_true (by omega)
      obtain ⟨l, hl'⟩ : ∃ l, log[k]? = some l := ⟨_, List.getElem?_eq_getElem hlt⟩
      obtain ⟨a, rfl, ha, c0, c1, c2, c3⟩ := (HS.out.to HB.out).at_ hl'
      have CV := Leaf_any l.d (HDl.out l (List.mem_of_getElem? hl')) wr (HG.out.to HB.out)
      have HT : Hid (leavesP (log.take (k + 1)) = leavesP (log.take k) ++ [leafD l.d]) := by show _ = _; unfold leavesP; rw [List.take_add_one, hl']; simp
      have HLEN : (leavesP (log.take k)).length ≤ k := by unfold leavesP; rw [List.length_map]; exact List.length_take_le _ _
      have HDR := hide (drop_at' hl')
      clear hl'
      generalize leavesP (log.take k) = xs at *
      generalize leafD l.d = m at *
      go_wp2_with fail
      refine CV.mono ?_
      rintro e w4 ⟨rfl, hb4⟩
      have HB4 := hide (below_to HB.out (Nat.le_refl _) hb4)
      have HO4 := hide (own_to' HO.out hb4)
      have HSZ : Hid (w.heap.size ≤ w4.heap.size) := HB4.out.size
      clear hb4 CV HO
      go_wp2_with (at_builtin; refine wpList_append_own _ rfl (.tmp 11) (.tmp 18) _ rfl w.heap.size 9 i0 (.string ⟨#[]⟩) 1 16 Tryz.underlying34 hi0 hz0 hz1 hz2 rfl (by omega) _ xs.length (xs.map strV).flatten rfl ?c0 ⟨_, 0, none⟩ 1 1 [.string (bs m)] rfl rfl ?c1 ?c2 ?c4 ?c5 ?c3 ?_)
      case c0 => exact own_to' HO4.out (below_one _ _)
      case c1 => exact cells_new (xs := [.string (bs m)]) (by simp)
      case c2 => intro u hu; simp only [List.mem_cons, List.not_mem_nil, or_false] at hu; rcases hu with rfl; rfl
      case c4 => simp only [maxLen]; omega
      case c5 => omega
      case c3 => have := HSZ.out; simp; omega
      · intro v' w6 hown6 hgr6 _
        have HB6 := hide ((below_alloc HB4.out (Nat.le_refl _) _).grown hgr6 (by have := HSZ.out; simp; omega) (fun b hb => (HO4.out.lt b hb).1))
        have HO6 : Hid (w6.ownsRow w.heap.size 9 1 v' (leavesP (log.take (k + 1))).length ((leavesP (log.take (k + 1))).map strV).flatten) := by
          show World.ownsRow _ _ _ _ _ _ _
          rw [HT.out]
          simp only [List.length_append, List.length_cons, List.length_nil, Nat.zero_add, List.map_append, List.map_cons, List.map_nil, List.flatten_append, List.flatten_cons, List.flatten_nil, List.append_nil]
          exact hown6
        clear hown6 hgr6
        go_wp2_with fail
        refine ⟨⟨k + 1, by go_num, by omega, HB6.out, HO6.out⟩, ?_⟩
        simp [intOf]; omega
    · obtain rfl : k = log.length := by omega
      have e1 : decide ((log.length : Int) < (log.length : Int)) = false := by simp
      rw [List.take_length] at HO
      go_wp2_with fail
      go_ret
      exact ⟨_, rfl, RowsAt.of_own (by simp [strV]) (by rw [List.length_map]; exact HO.out), HB.out⟩
end Go.Proofs.YtdiebacfbhjbdaaGreatDoor

/- The walk of the statements' examples: head. -/
set_option linter.unusedVariables false
set_option linter.unusedSimpArgs false
namespace Go.Proofs.YtdiebacfbhjbdaaGreatDoor
open Go.RowKit

theorem make_yes {p t s : List UInt8} (h : canM p t s = true) (hs : s.length ≤ 140737488355328) (ht : t.length ≤ 140737488355328) (hp : p.length ≤ 140737488355328) (w : World) (hg : Glob w) {l : Ln} (hl : mkL p t s = l) :
    Calls Tryz.prog 19 #[.string (bs p), .string (bs t), .string (bs s)] w fun e w' => e = .returned (.tuple #[.agg #[.string (bs l.p), .string (bs l.t), .string (bs l.s), .string (bs l.d)], .int .i64 0]) ∧ Below w.heap.size w w' := by
  have := Make_any p t s hp ht hs w hg
  rw [show makeV p t s = l by unfold makeV; rw [h]; exact hl, show makeE p t s = 0 by unfold makeE; rw [h]; rfl] at this
  exact this
theorem make_no {p t s : List UInt8} (h : canM p t s = false) (hs : s.length ≤ 140737488355328) (ht : t.length ≤ 140737488355328) (hp : p.length ≤ 140737488355328) (w : World) (hg : Glob w) :
    Calls Tryz.prog 19 #[.string (bs p), .string (bs t), .string (bs s)] w fun e w' => e = .returned (.tuple #[.agg #[.string ⟨#[]⟩, .string ⟨#[]⟩, .string ⟨#[]⟩, .string ⟨#[]⟩], .int .i64 1]) ∧ Below w.heap.size w w' := by
  have := Make_any p t s hp ht hs w hg
  rw [show makeV p t s = noL by unfold makeV; rw [h]; rfl, show makeE p t s = 1 by unfold makeE; rw [h]; rfl] at this
  exact this
theorem rows_new (w : World) (size : Nat) (t : TypeId) (ls : List (List Value)) (hs : ∀ x ∈ ls, x.length = size) (cs : Array Value) (hcs : cs.toList = ls.flatten) (n : Nat) (hn : n = ls.length) : RowsAt (w.alloc (.cells cs t)) size (.slice (some ⟨w.heap.size, 0, none⟩) n n) ls := by
  refine RowsAt.of_blk (Blk.new w t cs) hn (Nat.le_refl _) hs fun k x hx j u hu => ?_
  have := flat_at ls hs k x j u hx hu
  rw [← hcs] at this
  simpa using this
theorem okA_of (log : List Ln) (q : List UInt8) (h1 : validG log = true) (h2 : isNm q = true) : okA log q = true := by unfold okA; rw [h1, h2]; rfl
def SomeTx (ls : List (List UInt8)) (k : Int) (w : World) (e : Ending) (w' : World) : Prop := ∃ v', e = .returned (.tuple #[v', .int .i64 k]) ∧ TextsAt w' v' ls ∧ Below w.heap.size w w'
theorem about_yes {log : List Ln} (hf : ∀ l ∈ log, l.fit) (hl : log.length ≤ 1000000000) {q : List UInt8} (hok : okA log q = true) (hq : q.length ≤ 140737488355328) (v : Value) (w : World) (hv : LnsAt w v log) (hg : Glob w) {ls : List (List UInt8)} (he : aboutP log q = ls) :
    Calls Tryz.prog 16 #[v, .string (bs q)] w (SomeTx ls 0 w) :=
  (About_any log hf hl q hq v w hv hg).mono fun e w' ⟨v', h1, h2, h3⟩ => ⟨v', by rw [h1, hok]; rfl, by rw [← he]; unfold aboutV at h2; rw [hok] at h2; exact h2, h3⟩
def SomeLn (ls : List Ln) (k m : Int) (w : World) (e : Ending) (w' : World) : Prop := ∃ v', e = .returned (.tuple #[v', .int .i64 k, .int .i64 m]) ∧ LnsAt w' v' ls ∧ Below w.heap.size w w'
theorem erase_yes {log : List Ln} (hf : ∀ l ∈ log, l.fit) (hl : log.length ≤ 1000000000) {q : List UInt8} (hok : okA log q = true) (hq : q.length ≤ 140737488355328) (v : Value) (w : World) (hv : LnsAt w v log) (hg : Glob w) {ls : List Ln} (he : eraseP log q = ls) {k : Int} (hk : ((hitsP log q : Nat) : Int) = k) :
    Calls Tryz.prog 13 #[v, .string (bs q)] w (SomeLn ls k 0 w) :=
  (Erase_any log hf hl q hq v w hv hg).mono fun e w' ⟨v', h1, h2, h3⟩ => ⟨v', by rw [h1, hok, ← hk]; unfold hitsV; rw [hok]; rfl, by rw [← he]; unfold eraseV at h2; rw [hok] at h2; exact h2, h3⟩
theorem root_yes {log : List Ln} (hf : ∀ l ∈ log, l.fit) (hd : ∀ l ∈ log, l.d.length ≤ 100000000000) (hl : log.length ≤ 1000000000) (hok : validG log = true) (v : Value) (w : World) (hv : LnsAt w v log) (hg : Glob w) {R : List UInt8} (hR : totalT (leavesP log) = R) :
    Calls Tryz.prog 14 #[v] w fun e w' => e = .returned (.tuple #[.string (bs R), .int .i64 0]) ∧ Below w.heap.size w w' := by
  have := Root_any log hf hd hl v w hv hg
  rw [hok, if_pos rfl, hR] at this
  exact this
set_option maxRecDepth 100000 in
set_option maxHeartbeats 16000000 in
theorem head_any (w : World) (hg : Glob w) : Calls Tryz.prog 11 #[] w fun e w' => e = .returned (.bool true) ∧ Below w.heap.size w w' := by
  have CS : Calls Tryz.prog 33 #[.string ⟨#[115, 97, 108, 116]⟩] w fun e w' => e = .returned (.string (bs (sumD [115, 97, 108, 116]))) ∧ Below w.heap.size w w' := Sum_any [115, 97, 108, 116] (by decide) w hg
  have HS := hide (sumD_isD [115, 97, 108, 116])
  generalize sumD [115, 97, 108, 116] = S at *
  have HSl : Hid (S.length ≤ 140737488355328) := by have := isD_len HS.out; show _ ≤ _; omega
  have HG := hide hg
  clear hg
  obtain ⟨la, HLA⟩ : ∃ l, Hid (mkL annaT inT S = l) := ⟨_, rfl⟩
  obtain ⟨lb, HLB⟩ : ∃ l, Hid (mkL bobT parT S = l) := ⟨_, rfl⟩
  obtain ⟨lc, HLC⟩ : ∃ l, Hid (mkL annaT outT S = l) := ⟨_, rfl⟩
  have HVL : Hid (validG [la, lb, lc] = true) := by show _ = _; rw [← HLA.out, ← HLB.out, ← HLC.out]; exact head_valid HS.out
  have HAB : Hid (aboutP [la, lb, lc] annaT = [inT, outT]) := by show _ = _; rw [← HLA.out, ← HLB.out, ← HLC.out]; exact head_about S
  have HHI : Hid (hitsP [la, lb, lc] annaT = 2) := by show _ = _; rw [← HLA.out, ← HLB.out, ← HLC.out]; exact head_hits S
  have HBO : Hid (aboutP [la, lb, lc] bobT = [parT]) := by show _ = _; rw [← HLA.out, ← HLB.out, ← HLC.out]; exact head_bob S
  have HFI : Hid (∀ l ∈ [la, lb, lc], l.fit ∧ l.d.length ≤ 100000000000) := fun l hl => by
    simp only [List.mem_cons, List.not_mem_nil, or_false] at hl
    have h1 := HSl.out
    have h2 : ∀ x, (listD x).length = 16 := fun x => isD_len (listD_isD x)
    rcases hl with rfl | rfl | rfl
    · rw [← HLA.out]; exact ⟨⟨by show annaT.length ≤ _; decide, by show inT.length ≤ _; decide, h1, by show (listD _).length ≤ _; rw [h2]; decide⟩, by show (listD _).length ≤ _; rw [h2]; decide⟩
    · rw [← HLB.out]; exact ⟨⟨by show bobT.length ≤ _; decide, by show parT.length ≤ _; decide, h1, by show (listD _).length ≤ _; rw [h2]; decide⟩, by show (listD _).length ≤ _; rw [h2]; decide⟩
    · rw [← HLC.out]; exact ⟨⟨by show annaT.length ≤ _; decide, by show outT.length ≤ _; decide, h1, by show (listD _).length ≤ _; rw [h2]; decide⟩, by show (listD _).length ≤ _; rw [h2]; decide⟩
  go_enter Tryz.func11, Tryz.ntmps11
  go_wp2_with fail
  refine CS.mono ?_
  rintro e w1 ⟨rfl, hb⟩
  have HB1 := hide hb
  clear hb CS
  have C2 : Calls Tryz.prog 19 #[.string ⟨#[97, 110, 110, 97]⟩, .string ⟨#[109, 111, 118, 101, 100, 32, 105, 110]⟩, .string (bs S)] w1 fun e w' => e = .returned (.tuple #[.agg #[.string (bs la.p), .string (bs la.t), .string (bs la.s), .string (bs la.d)], .int .i64 0]) ∧ Below w1.heap.size w1 w' := make_yes (can_in HS.out) (by first | exact HSl.out | decide) (by first | exact HSl.out | decide) (by first | exact HSl.out | decide) w1 (HG.out.to HB1.out) HLA.out
  go_wp2_with fail
  refine C2.mono ?_
  rintro e v2 ⟨rfl, hb⟩
  have HB2 := hide (below_alloc (below_to HB1.out (Nat.le_refl _) hb) (Nat.le_refl _) (.cells #[.string (bs la.p), .string (bs la.t), .string (bs la.s), .string (bs la.d)] 32))
  clear hb C2 HB1
  go_wp2_with fail
  have HX2 := hide (Blk.new v2 32 #[.string (bs la.p), .string (bs la.t), .string (bs la.s), .string (bs la.d)])
  generalize v2.alloc (.cells #[.string (bs la.p), .string (bs la.t), .string (bs la.s), .string (bs la.d)] 32) = w2 at *
  have C3 : Calls Tryz.prog 19 #[.string ⟨#[98, 111, 98]⟩, .string ⟨#[112, 97, 114, 99, 101, 108]⟩, .string (bs S)] w2 fun e w' => e = .returned (.tuple #[.agg #[.string (bs lb.p), .string (bs lb.t), .string (bs lb.s), .string (bs lb.d)], .int .i64 0]) ∧ Below w2.heap.size w2 w' := make_yes (can_par HS.out) (by first | exact HSl.out | decide) (by first | exact HSl.out | decide) (by first | exact HSl.out | decide) w2 (HG.out.to HB2.out) HLB.out
  go_wp2_with fail
  refine C3.mono ?_
  rintro e v3 ⟨rfl, hb⟩
  have HB3 := hide (below_alloc (below_to HB2.out (Nat.le_refl _) hb) (Nat.le_refl _) (.cells #[.string (bs lb.p), .string (bs lb.t), .string (bs lb.s), .string (bs lb.d)] 32))
  have HY2 := hide (HX2.out.to hb)
  clear hb C3 HB2
  go_wp2_with fail
  replace HX2 := hide (HY2.out.alloc (.cells #[.string (bs lb.p), .string (bs lb.t), .string (bs lb.s), .string (bs lb.d)] 32))
  clear HY2
  have HX3 := hide (Blk.new v3 32 #[.string (bs lb.p), .string (bs lb.t), .string (bs lb.s), .string (bs lb.d)])
  generalize v3.alloc (.cells #[.string (bs lb.p), .string (bs lb.t), .string (bs lb.s), .string (bs lb.d)] 32) = w3 at *
  have C4 : Calls Tryz.prog 19 #[.string ⟨#[97, 110, 110, 97]⟩, .string ⟨#[109, 111, 118, 101, 100, 32, 111, 117, 116]⟩, .string (bs S)] w3 fun e w' => e = .returned (.tuple #[.agg #[.string (bs lc.p), .string (bs lc.t), .string (bs lc.s), .string (bs lc.d)], .int .i64 0]) ∧ Below w3.heap.size w3 w' := make_yes (can_out HS.out) (by first | exact HSl.out | decide) (by first | exact HSl.out | decide) (by first | exact HSl.out | decide) w3 (HG.out.to HB3.out) HLC.out
  go_wp2_with fail
  refine C4.mono ?_
  rintro e v4 ⟨rfl, hb⟩
  have HB4 := hide (below_alloc (below_to HB3.out (Nat.le_refl _) hb) (Nat.le_refl _) (.cells #[.string (bs lc.p), .string (bs lc.t), .string (bs lc.s), .string (bs lc.d)] 32))
  have HY2 := hide (HX2.out.to hb)
  have HY3 := hide (HX3.out.to hb)
  clear hb C4 HB3
  go_wp2_with fail
  replace HX2 := hide (HY2.out.alloc (.cells #[.string (bs lc.p), .string (bs lc.t), .string (bs lc.s), .string (bs lc.d)] 32))
  clear HY2
  replace HX3 := hide (HY3.out.alloc (.cells #[.string (bs lc.p), .string (bs lc.t), .string (bs lc.s), .string (bs lc.d)] 32))
  clear HY3
  have HX4 := hide (Blk.new v4 32 #[.string (bs lc.p), .string (bs lc.t), .string (bs lc.s), .string (bs lc.d)])
  generalize v4.alloc (.cells #[.string (bs lc.p), .string (bs lc.t), .string (bs lc.s), .string (bs lc.d)] 32) = w4 at *
  have C5 : Calls Tryz.prog 19 #[.string ⟨#[49]⟩, .string ⟨#[109, 111, 118, 101, 100, 32, 105, 110]⟩, .string (bs S)] w4 fun e w' => e = .returned (.tuple #[.agg #[.string ⟨#[]⟩, .string ⟨#[]⟩, .string ⟨#[]⟩, .string ⟨#[]⟩], .int .i64 1]) ∧ Below w4.heap.size w4 w' := make_no (can_1 inT S) (by first | exact HSl.out | decide) (by first | exact HSl.out | decide) (by first | exact HSl.out | decide) w4 (HG.out.to HB4.out)
  go_wp2_with fail
  refine C5.mono ?_
  rintro e v5 ⟨rfl, hb⟩
  have HB5 := hide (below_alloc (below_to HB4.out (Nat.le_refl _) hb) (Nat.le_refl _) (.cells #[.string ⟨#[]⟩, .string ⟨#[]⟩, .string ⟨#[]⟩, .string ⟨#[]⟩] 32))
  have HY2 := hide (HX2.out.to hb)
  have HY3 := hide (HX3.out.to hb)
  have HY4 := hide (HX4.out.to hb)
  clear hb C5 HB4
  go_wp2_with fail
  replace HX2 := hide (HY2.out.alloc (.cells #[.string ⟨#[]⟩, .string ⟨#[]⟩, .string ⟨#[]⟩, .string ⟨#[]⟩] 32))
  clear HY2
  replace HX3 := hide (HY3.out.alloc (.cells #[.string ⟨#[]⟩, .string ⟨#[]⟩, .string ⟨#[]⟩, .string ⟨#[]⟩] 32))
  clear HY3
  replace HX4 := hide (HY4.out.alloc (.cells #[.string ⟨#[]⟩, .string ⟨#[]⟩, .string ⟨#[]⟩, .string ⟨#[]⟩] 32))
  clear HY4
  generalize v5.alloc (.cells #[.string ⟨#[]⟩, .string ⟨#[]⟩, .string ⟨#[]⟩, .string ⟨#[]⟩] 32) = w5 at *
  have C6 : Calls Tryz.prog 19 #[.string ⟨#[97, 110, 110, 97]⟩, .string ⟨#[]⟩, .string (bs S)] w5 fun e w' => e = .returned (.tuple #[.agg #[.string ⟨#[]⟩, .string ⟨#[]⟩, .string ⟨#[]⟩, .string ⟨#[]⟩], .int .i64 1]) ∧ Below w5.heap.size w5 w' := make_no (can_0 annaT S) (by first | exact HSl.out | decide) (by first | exact HSl.out | decide) (by first | exact HSl.out | decide) w5 (HG.out.to HB5.out)
  go_wp2_with fail
  refine C6.mono ?_
  rintro e v6 ⟨rfl, hb⟩
  have HB6 := hide (below_alloc (below_to HB5.out (Nat.le_refl _) hb) (Nat.le_refl _) (.cells #[.string ⟨#[]⟩, .string ⟨#[]⟩, .string ⟨#[]⟩, .string ⟨#[]⟩] 32))
  have HY2 := hide (HX2.out.to hb)
  have HY3 := hide (HX3.out.to hb)
  have HY4 := hide (HX4.out.to hb)
  clear hb C6 HB5
  go_wp2_with fail
  replace HX2 := hide (HY2.out.alloc (.cells #[.string ⟨#[]⟩, .string ⟨#[]⟩, .string ⟨#[]⟩, .string ⟨#[]⟩] 32))
  clear HY2
  replace HX3 := hide (HY3.out.alloc (.cells #[.string ⟨#[]⟩, .string ⟨#[]⟩, .string ⟨#[]⟩, .string ⟨#[]⟩] 32))
  clear HY3
  replace HX4 := hide (HY4.out.alloc (.cells #[.string ⟨#[]⟩, .string ⟨#[]⟩, .string ⟨#[]⟩, .string ⟨#[]⟩] 32))
  clear HY4
  generalize v6.alloc (.cells #[.string ⟨#[]⟩, .string ⟨#[]⟩, .string ⟨#[]⟩, .string ⟨#[]⟩] 32) = w6 at *
  have C7 : Calls Tryz.prog 19 #[.string ⟨#[97, 110, 110, 97]⟩, .string ⟨#[109, 111, 118, 101, 100, 32, 105, 110]⟩, .string ⟨#[120]⟩] w6 fun e w' => e = .returned (.tuple #[.agg #[.string ⟨#[]⟩, .string ⟨#[]⟩, .string ⟨#[]⟩, .string ⟨#[]⟩], .int .i64 1]) ∧ Below w6.heap.size w6 w' := make_no (can_x annaT inT) (by first | exact HSl.out | decide) (by first | exact HSl.out | decide) (by first | exact HSl.out | decide) w6 (HG.out.to HB6.out)
  go_wp2_with fail
  refine C7.mono ?_
  rintro e v7 ⟨rfl, hb⟩
  have HB7 := hide (below_alloc (below_to HB6.out (Nat.le_refl _) hb) (Nat.le_refl _) (.cells #[.string ⟨#[]⟩, .string ⟨#[]⟩, .string ⟨#[]⟩, .string ⟨#[]⟩] 32))
  have HY2 := hide (HX2.out.to hb)
  have x2_0 := (HY2.out.cell 0).trans rfl
  have x2_1 := (HY2.out.cell 1).trans rfl
  have x2_2 := (HY2.out.cell 2).trans rfl
  have x2_3 := (HY2.out.cell 3).trans rfl
  have lt2 : v2.heap.size < v7.heap.size := HY2.out.lt
  have ne2 : v2.heap.size ≠ v7.heap.size := Nat.ne_of_lt lt2
  have HY3 := hide (HX3.out.to hb)
  have x3_0 := (HY3.out.cell 0).trans rfl
  have x3_1 := (HY3.out.cell 1).trans rfl
  have x3_2 := (HY3.out.cell 2).trans rfl
  have x3_3 := (HY3.out.cell 3).trans rfl
  have lt3 : v3.heap.size < v7.heap.size := HY3.out.lt
  have ne3 : v3.heap.size ≠ v7.heap.size := Nat.ne_of_lt lt3
  have HY4 := hide (HX4.out.to hb)
  have x4_0 := (HY4.out.cell 0).trans rfl
  have x4_1 := (HY4.out.cell 1).trans rfl
  have x4_2 := (HY4.out.cell 2).trans rfl
  have x4_3 := (HY4.out.cell 3).trans rfl
  have lt4 : v4.heap.size < v7.heap.size := HY4.out.lt
  have ne4 : v4.heap.size ≠ v7.heap.size := Nat.ne_of_lt lt4
  clear hb C7 HB6
  go_wp2_with fail
  have HL8 : Hid (LnsAt ((v7.alloc (.cells #[.string ⟨#[]⟩, .string ⟨#[]⟩, .string ⟨#[]⟩, .string ⟨#[]⟩] 32)).alloc (.cells #[.string (bs la.p), .string (bs la.t), .string (bs la.s), .string (bs la.d), .string (bs lb.p), .string (bs lb.t), .string (bs lb.s), .string (bs lb.d), .string (bs lc.p), .string (bs lc.t), .string (bs lc.s), .string (bs lc.d)] 32)) (.slice (some ⟨v7.heap.size + 1, 0, none⟩) 3 3) [la, lb, lc]) := by
    have := rows_new (v7.alloc (.cells #[.string ⟨#[]⟩, .string ⟨#[]⟩, .string ⟨#[]⟩, .string ⟨#[]⟩] 32)) 4 32 ([la, lb, lc].map lnV) (by simp [lnV]) #[.string (bs la.p), .string (bs la.t), .string (bs la.s), .string (bs la.d), .string (bs lb.p), .string (bs lb.t), .string (bs lb.s), .string (bs lb.d), .string (bs lc.p), .string (bs lc.t), .string (bs lc.s), .string (bs lc.d)] rfl 3 rfl
    rw [show (v7.alloc (.cells #[.string ⟨#[]⟩, .string ⟨#[]⟩, .string ⟨#[]⟩, .string ⟨#[]⟩] 32)).heap.size = v7.heap.size + 1 by simp] at this
    exact this
  have HB8 := hide (below_alloc HB7.out (Nat.le_refl _) (.cells #[.string (bs la.p), .string (bs la.t), .string (bs la.s), .string (bs la.d), .string (bs lb.p), .string (bs lb.t), .string (bs lb.s), .string (bs lb.d), .string (bs lc.p), .string (bs lc.t), .string (bs lc.s), .string (bs lc.d)] 32))
  generalize (v7.alloc (.cells #[.string ⟨#[]⟩, .string ⟨#[]⟩, .string ⟨#[]⟩, .string ⟨#[]⟩] 32)).alloc (.cells #[.string (bs la.p), .string (bs la.t), .string (bs la.s), .string (bs la.d), .string (bs lb.p), .string (bs lb.t), .string (bs lb.s), .string (bs lb.d), .string (bs lc.p), .string (bs lc.t), .string (bs lc.s), .string (bs lc.d)] 32) = w8 at *
  generalize Value.slice (some ⟨v7.heap.size + 1, 0, none⟩) 3 3 = lv at *
  clear x2_0 x2_1 x2_2 x2_3 x3_0 x3_1 x3_2 x3_3 x4_0 x4_1 x4_2 x4_3 lt2 lt3 lt4 ne2 ne3 ne4 HX2 HX3 HX4 HY2 HY3 HY4 HB7
  obtain ⟨R, HR⟩ : ∃ R, Hid (totalT (leavesP [la, lb, lc]) = R) := ⟨_, rfl⟩
  obtain ⟨le, HLE⟩ : ∃ l, Hid (eraseP [la, lb, lc] annaT = l) := ⟨_, rfl⟩
  have HV2 : Hid (validG le = true) := by show _ = _; rw [← HLE.out]; exact valid_erase HVL.out
  have HR2 : Hid (totalT (leavesP le) = R) := by show _ = _; rw [← HLE.out, leaves_erase]; exact HR.out
  have HA2 : Hid (aboutP le annaT = []) := by show _ = _; rw [← HLE.out]; exact about_none anna_nm _
  have HB2 : Hid (aboutP le bobT = [parT]) := by show _ = _; rw [← HLE.out, about_other bob_nm (by decide)]; exact HBO.out
  have HF2 : Hid (∀ l ∈ le, l.fit ∧ l.d.length ≤ 100000000000) := fun l hl => by
    rw [← HLE.out] at hl
    obtain ⟨x, hx, rfl⟩ := List.mem_map.1 hl
    obtain ⟨h1, h2⟩ := HFI.out x hx
    split
    · exact ⟨⟨Nat.zero_le _, Nat.zero_le _, Nat.zero_le _, h1.d⟩, h2⟩
    · exact ⟨h1, h2⟩
  have HL2 : Hid (le.length ≤ 1000000000) := by show _ ≤ _; rw [← HLE.out, erase_len]; show 3 ≤ _; decide
  have HL3 : Hid ([la, lb, lc].length ≤ 1000000000) := by show 3 ≤ _; decide
  have HRE : Hid (R ≠ []) := by rw [← HR.out]; exact total_ne (leaves_proper _)
  have hre : (bs R).toList.isEmpty = false := by
    rw [bs_toList]
    have := HRE.out
    cases R with
    | nil => exact absurd rfl this
    | cons _ _ => rfl
  have hrs : ((bs R).toList == (bs R).toList) = true := by simp
  have C9 := root_yes (fun l hl => (HFI.out l hl).1) (fun l hl => (HFI.out l hl).2) HL3.out HVL.out lv w8 HL8.out (HG.out.to HB8.out) HR.out
  refine C9.mono ?_
  rintro e w9 ⟨rfl, hb⟩
  have HB9 := hide (below_to HB8.out (Nat.le_refl _) hb)
  have HL9 := hide (HL8.out.to hb)
  clear hb C9 HL8 HB8
  go_wp2_with fail
  have C10 : Calls Tryz.prog 16 #[lv, .string ⟨#[97, 110, 110, 97]⟩] w9 (SomeTx [inT, outT] 0 w9) := about_yes (fun l hl => (HFI.out l hl).1) HL3.out (okA_of _ _ HVL.out anna_nm) (by decide) lv w9 HL9.out (HG.out.to HB9.out) HAB.out
  refine C10.mono ?_
  rintro e w10 ⟨va, rfl, ha, hb⟩
  have HB10 := hide (below_to HB9.out (Nat.le_refl _) hb)
  have HL10 := hide (HL9.out.to hb)
  have HA10 := hide ha
  clear hb C10 HL9 HB9 ha
  go_wp2_with fail
  have C11 : Calls Tryz.prog 13 #[lv, .string ⟨#[97, 110, 110, 97]⟩] w10 (SomeLn le 2 0 w10) := erase_yes (fun l hl => (HFI.out l hl).1) HL3.out (okA_of _ _ HVL.out anna_nm) (by decide) lv w10 HL10.out (HG.out.to HB10.out) HLE.out (by rw [HHI.out]; rfl)
  refine C11.mono ?_
  rintro e w11 ⟨lx, rfl, hx, hb⟩
  have HB11 := hide (below_to HB10.out (Nat.le_refl _) hb)
  have HL11 := hide hx
  have HA11 := hide (HA10.out.to hb)
  clear hb C11 HL10 HB10 HA10 hx
  go_wp2_with fail
  have C12 := root_yes (fun l hl => (HF2.out l hl).1) (fun l hl => (HF2.out l hl).2) HL2.out HV2.out lx w11 HL11.out (HG.out.to HB11.out) HR2.out
  refine C12.mono ?_
  rintro e w12 ⟨rfl, hb⟩
  have HB12 := hide (below_to HB11.out (Nat.le_refl _) hb)
  have HL12 := hide (HL11.out.to hb)
  have HA12 := hide (HA11.out.to hb)
  clear hb C12 HL11 HB11 HA11
  go_wp2_with fail
  have C13 : Calls Tryz.prog 16 #[lx, .string ⟨#[97, 110, 110, 97]⟩] w12 (SomeTx [] 0 w12) := about_yes (fun l hl => (HF2.out l hl).1) HL2.out (okA_of _ _ HV2.out anna_nm) (by decide) lx w12 HL12.out (HG.out.to HB12.out) HA2.out
  refine C13.mono ?_
  rintro e w13 ⟨vn, rfl, hn, hb⟩
  obtain ⟨An, cn, rfl, _⟩ := hn.slice
  have HB13 := hide (below_to HB12.out (Nat.le_refl _) hb)
  have HL13 := hide (HL12.out.to hb)
  have HA13 := hide (HA12.out.to hb)
  clear hb C13 HL12 HB12 HA12 hn
  go_wp2_with fail
  have C14 : Calls Tryz.prog 16 #[lx, .string ⟨#[98, 111, 98]⟩] w13 (SomeTx [parT] 0 w13) := about_yes (fun l hl => (HF2.out l hl).1) HL2.out (okA_of _ _ HV2.out bob_nm) (by decide) lx w13 HL13.out (HG.out.to HB13.out) HB2.out
  refine C14.mono ?_
  rintro e w14 ⟨vr, rfl, hr, hb⟩
  have HB14 := hide (below_to HB13.out (Nat.le_refl _) hb)
  have HA14 := hide (HA13.out.to hb)
  have HR14 := hide hr
  clear hb C14 HL13 HB13 HA13 hr
  go_wp2_with fail
  have C15 : Calls Tryz.prog 17 #[va, .slice (some ⟨w14.heap.size, 0, none⟩) 2 2] (w14.alloc (.cells #[.string ⟨#[109, 111, 118, 101, 100, 32, 105, 110]⟩, .string ⟨#[109, 111, 118, 101, 100, 32, 111, 117, 116]⟩] 9)) fun e w' => e = .returned (.bool true) ∧ Below (w14.alloc (.cells #[.string ⟨#[109, 111, 118, 101, 100, 32, 105, 110]⟩, .string ⟨#[109, 111, 118, 101, 100, 32, 111, 117, 116]⟩] 9)).heap.size (w14.alloc (.cells #[.string ⟨#[109, 111, 118, 101, 100, 32, 105, 110]⟩, .string ⟨#[109, 111, 118, 101, 100, 32, 111, 117, 116]⟩] 9)) w' :=
    Texts_any [inT, outT] [inT, outT] (by decide) (by decide) va _ _ (RowsAt.to HA14.out (below_one _ _)) (rows_new w14 1 9 ([inT, outT].map strV) (by simp [strV]) _ rfl 2 rfl)
  have HB15 := hide (below_alloc HB14.out (Nat.le_refl _) (.cells #[.string ⟨#[109, 111, 118, 101, 100, 32, 105, 110]⟩, .string ⟨#[109, 111, 118, 101, 100, 32, 111, 117, 116]⟩] 9))
  have HR15 := hide (HR14.out.to (below_one w14 (.cells #[.string ⟨#[109, 111, 118, 101, 100, 32, 105, 110]⟩, .string ⟨#[109, 111, 118, 101, 100, 32, 111, 117, 116]⟩] 9)))
  refine C15.mono ?_
  rintro e w16 ⟨rfl, hb⟩
  have HB16 := hide (below_to HB15.out (Nat.le_refl _) hb)
  have HR16 := hide (HR15.out.to hb)
  clear hb C15 HB15 HR15 HB14 HR14 HA14
  go_wp2_with fail
  have C17 : Calls Tryz.prog 17 #[vr, .slice (some ⟨w16.heap.size, 0, none⟩) 1 1] (w16.alloc (.cells #[.string ⟨#[112, 97, 114, 99, 101, 108]⟩] 9)) fun e w' => e = .returned (.bool true) ∧ Below (w16.alloc (.cells #[.string ⟨#[112, 97, 114, 99, 101, 108]⟩] 9)).heap.size (w16.alloc (.cells #[.string ⟨#[112, 97, 114, 99, 101, 108]⟩] 9)) w' :=
    Texts_any [parT] [parT] (by decide) (by decide) vr _ _ (RowsAt.to HR16.out (below_one _ _)) (rows_new w16 1 9 ([parT].map strV) (by simp [strV]) _ rfl 1 rfl)
  have HB17 := hide (below_alloc HB16.out (Nat.le_refl _) (.cells #[.string ⟨#[112, 97, 114, 99, 101, 108]⟩] 9))
  refine C17.mono ?_
  rintro e w18 ⟨rfl, hb⟩
  have HB18 := hide (below_to HB17.out (Nat.le_refl _) hb)
  clear hb C17 HB17 HB16 HR16
  go_wp2_with fail
  go_ret
  exact ⟨rfl, HB18.out⟩
end Go.Proofs.YtdiebacfbhjbdaaGreatDoor

/- Walks of the reference of layer 55: feeds, Make, Full, Valid, valid. -/
set_option linter.unusedVariables false
set_option linter.unusedSimpArgs false
namespace Go.Proofs.YtdiebacfbhjbdaaGreatDoor
open Go.RowKit

set_option maxRecDepth 100000 in
set_option maxHeartbeats 400000 in
theorem rfeeds_any (l : List UInt8) (hl : l.length ≤ 140737488355328) (w : World) : Calls Tryz.prog 52 #[.string (bs l)] w fun e w' => e = .returned (.bool (l.contains 10)) ∧ w' = w := by
  have hsz : (bs l).size = l.length := bs_size l
  go_enter Tryz.func52, Tryz.ntmps52
  go_wp2_with fail
  go_loopw [3] (fun i wr => ∃ k : Nat, i = .int .i64 (k : Int) ∧ k ≤ l.length ∧ Hid (l.contains 10 = (l.drop k).contains 10) ∧ wr = w) (fun i _ => l.length - (intOf i).toNat)
  case atStart => exact ⟨0, rfl, by omega, rfl, rfl⟩
  case round =>
    obtain ⟨k, rfl, hk, HA, rfl⟩ := hrel
    by_cases hlt : k < l.length
    · have e1 : decide ((k : Int) < (l.length : Int)) = true := decide_eq_true (by omega)
      obtain ⟨c, hc⟩ : ∃ c, l[k]? = some c := ⟨_, List.getElem?_eq_getElem hlt⟩
      have ci := index_bs l k c hc
      have HD := hide (drop_at' hc)
      clear hc
      by_cases h10 : c = 10
      · have e3 : ((c.toNat : Int) == 10) = true := by rw [h10]; rfl
        have HN : Hid (l.contains 10 = true) := by show _ = _; rw [HA.out, HD.out, h10]; simp
        clear h10
        go_wp2_with fail
        go_ret
        exact ⟨ret_bool (by rw [HN.out]), rfl⟩
      · have e3 : ((c.toNat : Int) == 10) = false := by
          rw [beq_eq_false_iff_ne]; intro h'; exact h10 (UInt8.toNat_inj.1 (by show c.toNat = 10; omega))
        have HN : Hid (l.contains 10 = (l.drop (k + 1)).contains 10) := by
          show _ = _
          rw [HA.out, HD.out, List.contains_cons, show ((10 : UInt8) == c) = false by rw [beq_eq_false_iff_ne]; exact fun h => h10 h.symm]
          rfl
        clear h10
        go_wp2_with fail
        refine ⟨⟨k + 1, by go_num, by omega, HN.out, trivial⟩, ?_⟩
        simp [intOf]; omega
    · obtain rfl : k = l.length := by omega
      have e1 : decide ((l.length : Int) < (l.length : Int)) = false := by simp
      have HN : Hid (l.contains 10 = false) := by show _ = _; rw [HA.out, List.drop_length]; rfl
      go_wp2_with fail
      go_ret
      exact ⟨ret_bool (by rw [HN.out]), rfl⟩
theorem join4' {a b c d : List UInt8} (ha : a.length ≤ 100000000000) (hb : b.length ≤ 100000000000) (hc : c.length ≤ 100000000000) (hd : d.length ≤ 100000000000) : (joinD [a, b, c, d]).length ≤ 140737488355328 := by
  have := join_len [a, b, c, d] (fun l hl => by
    simp only [List.mem_cons, List.not_mem_nil, or_false] at hl
    rcases hl with rfl | rfl | rfl | rfl <;> omega)
  simp only [List.map_cons, List.map_nil, List.sum_cons, List.sum_nil, List.length_cons, List.length_nil] at this
  omega
set_option maxRecDepth 100000 in
set_option maxHeartbeats 2000000 in
theorem rMake_any (p t s : List UInt8) (hp : p.length ≤ 1000000000) (ht : t.length ≤ 1000000000) (hs : s.length ≤ 1000000000) (w : World) :
    Calls Tryz.prog 21 #[.string (bs p), .string (bs t), .string (bs s)] w fun e w' => e = .returned (.tuple #[.agg (lnC (makeV p t s)), .int .i64 (makeE p t s)]) ∧ Below w.heap.size w w' := by
  have CN := fun w => rName_any p (by omega) w
  have CF := fun w => rfeeds_any t (by omega) w
  have CI := fun w => rIs_any s (by omega) w
  have hzt : (bs t).size = t.length := bs_size t
  have HM : Hid (canM p t s = (isNm p && !t.isEmpty && decide (t.length ≤ 400) && !t.contains 10 && isD s)) := rfl
  have HV0 : Hid (canM p t s = false → makeV p t s = noL ∧ makeE p t s = 1) := fun h => by unfold makeV makeE; rw [h]; exact ⟨rfl, rfl⟩
  have HV1 : Hid (canM p t s = true → makeV p t s = mkL p t s ∧ makeE p t s = 0) := fun h => by unfold makeV makeE; rw [h]; exact ⟨rfl, rfl⟩
  have HB := hide (below_one w (.cells #[.string ⟨#[]⟩, .string ⟨#[]⟩, .string ⟨#[]⟩, .string ⟨#[]⟩] 32))
  have HR := hide (Blk.new w 32 #[.string ⟨#[]⟩, .string ⟨#[]⟩, .string ⟨#[]⟩, .string ⟨#[]⟩])
  cases h1 : isNm p with
  | false =>
    rw [h1] at CN
    have HV := hide (HV0.out (by rw [HM.out, h1]; simp))
    clear HV0 HV1 HM
    go_enter Tryz.func21, Tryz.ntmps21
    go_wp2_with (first | ((with_reducible refine (CN _).mono ?_); rintro e w' ⟨rfl, rfl⟩) | ((with_reducible refine (CF _).mono ?_); rintro e w' ⟨rfl, rfl⟩) | ((with_reducible refine (CI _).mono ?_); rintro e w' ⟨rfl, rfl⟩))
    refine bodyPost_ret (results_c1 (p := 6) (u := 7) rfl _ _ _ 32 _ _ rfl HR.out Tryz.underlying32 rfl (by kernel_rfl)) rfl ⟨by rw [HV.out.1, HV.out.2]; rfl, HB.out⟩
  | true =>
    rw [h1] at CN
    cases h2 : t.isEmpty with
    | true =>
      have e2 : decide ((t.length : Int) < 1) = true := decide_eq_true (by have := List.isEmpty_iff.1 h2; rw [this]; decide)
      have HV := hide (HV0.out (by rw [HM.out, h2]; simp))
      clear HV0 HV1 HM
      go_enter Tryz.func21, Tryz.ntmps21
      go_wp2_with (first | ((with_reducible refine (CN _).mono ?_); rintro e w' ⟨rfl, rfl⟩) | ((with_reducible refine (CF _).mono ?_); rintro e w' ⟨rfl, rfl⟩) | ((with_reducible refine (CI _).mono ?_); rintro e w' ⟨rfl, rfl⟩))
      refine bodyPost_ret (results_c1 (p := 6) (u := 7) rfl _ _ _ 32 _ _ rfl HR.out Tryz.underlying32 rfl (by kernel_rfl)) rfl ⟨by rw [HV.out.1, HV.out.2]; rfl, HB.out⟩
    | false =>
      have e2 : decide ((t.length : Int) < 1) = false := decide_eq_false (by
        cases t with
        | nil => cases h2
        | cons a b => simp only [List.length_cons]; omega)
      by_cases h3 : t.length ≤ 400
      · have e3 : decide ((400 : Int) < (t.length : Int)) = false := decide_eq_false (by omega)
        cases h4 : t.contains 10 with
        | true =>
          rw [h4] at CF
          have HV := hide (HV0.out (by rw [HM.out, h4]; simp))
          clear HV0 HV1 HM
          go_enter Tryz.func21, Tryz.ntmps21
          go_wp2_with (first | ((with_reducible refine (CN _).mono ?_); rintro e w' ⟨rfl, rfl⟩) | ((with_reducible refine (CF _).mono ?_); rintro e w' ⟨rfl, rfl⟩) | ((with_reducible refine (CI _).mono ?_); rintro e w' ⟨rfl, rfl⟩))
          refine bodyPost_ret (results_c1 (p := 6) (u := 7) rfl _ _ _ 32 _ _ rfl HR.out Tryz.underlying32 rfl (by kernel_rfl)) rfl ⟨by rw [HV.out.1, HV.out.2]; rfl, HB.out⟩
        | false =>
          rw [h4] at CF
          cases h5 : isD s with
          | false =>
            rw [h5] at CI
            have HV := hide (HV0.out (by rw [HM.out, h5]; simp))
            clear HV0 HV1 HM
            go_enter Tryz.func21, Tryz.ntmps21
            go_wp2_with (first | ((with_reducible refine (CN _).mono ?_); rintro e w' ⟨rfl, rfl⟩) | ((with_reducible refine (CF _).mono ?_); rintro e w' ⟨rfl, rfl⟩) | ((with_reducible refine (CI _).mono ?_); rintro e w' ⟨rfl, rfl⟩))
            refine bodyPost_ret (results_c1 (p := 6) (u := 7) rfl _ _ _ 32 _ _ rfl HR.out Tryz.underlying32 rfl (by kernel_rfl)) rfl ⟨by rw [HV.out.1, HV.out.2]; rfl, HB.out⟩
          | true =>
            rw [h5] at CI
            have HV := hide (HV1.out (by rw [HM.out, h1, h2, h4, h5, decide_eq_true h3]; rfl))
            have HL2 := hide (rows_newS (w.alloc (.cells #[.string ⟨#[]⟩, .string ⟨#[]⟩, .string ⟨#[]⟩, .string ⟨#[]⟩] 32)) 9 [lineT, p, t, s] #[.string ⟨#[108, 105, 110, 101]⟩, .string (bs p), .string (bs t), .string (bs s)] rfl 4 rfl)
            have HSZ : Hid ((w.alloc (.cells #[.string ⟨#[]⟩, .string ⟨#[]⟩, .string ⟨#[]⟩, .string ⟨#[]⟩] 32)).heap.size = w.heap.size + 1) := by show _ = _; simp
            rw [HSZ.out] at HL2
            have CL := rList_any [lineT, p, t, s] (by simp) (by show 4 + (p.length + (t.length + (s.length + 0))) ≤ _; omega) (join4' (by decide) (by omega) (by omega) (by omega)) _ _ HL2.out
            have HB2 := hide (below_alloc HB.out (Nat.le_refl _) (.cells #[.string ⟨#[108, 105, 110, 101]⟩, .string (bs p), .string (bs t), .string (bs s)] 9))
            have HR2 := hide (HR.out.alloc (.cells #[.string ⟨#[108, 105, 110, 101]⟩, .string (bs p), .string (bs t), .string (bs s)] 9))
            clear HV0 HV1 HM HL2 h1 h2 h4 h5 HSZ
            go_enter Tryz.func21, Tryz.ntmps21
            go_wp2_with (first | ((with_reducible refine (CN _).mono ?_); rintro e w' ⟨rfl, rfl⟩) | ((with_reducible refine (CF _).mono ?_); rintro e w' ⟨rfl, rfl⟩) | ((with_reducible refine (CI _).mono ?_); rintro e w' ⟨rfl, rfl⟩))
            refine CL.mono ?_
            rintro e w2 ⟨rfl, hb⟩
            have HB3 := hide (below_to HB2.out (Nat.le_refl _) hb)
            have HR3 := hide (HR2.out.to hb)
            have r0 := (HR3.out.cell 0).trans rfl
            have r1 := (HR3.out.cell 1).trans rfl
            have r2 := (HR3.out.cell 2).trans rfl
            have r3 := (HR3.out.cell 3).trans rfl
            have f0 : ∀ i, w2.frozen? ⟨w.heap.size, i, none⟩ = false := fun i => HR3.out.frozen i
            clear hb CL HB2 HR2
            go_wp2_with fail
            have hbk := (((((HR3.out).set_ 0 (.string (bs p))).set_ 1 (.string (bs t))).set_ 2 (.string (bs s))).set_ 3 (.string (bs (listD [lineT, p, t, s]))))
            refine bodyPost_ret (results_c1 (p := 6) (u := 7) rfl _ _ w.heap.size 32 _ _ rfl hbk Tryz.underlying32 rfl (by kernel_rfl)) rfl ⟨by rw [HV.out.1, HV.out.2]; rfl, ?_⟩
            exact ((((HB3.out.setCell (p := ⟨w.heap.size, 0, none⟩) (Nat.le_refl _) _).setCell (p := ⟨w.heap.size, 1, none⟩) (Nat.le_refl _) _).setCell (p := ⟨w.heap.size, 2, none⟩) (Nat.le_refl _) _).setCell (p := ⟨w.heap.size, 3, none⟩) (Nat.le_refl _) _)
      · have e3 : decide ((400 : Int) < (t.length : Int)) = true := decide_eq_true (by omega)
        have HV := hide (HV0.out (by rw [HM.out, decide_eq_false h3]; simp))
        clear HV0 HV1 HM
        go_enter Tryz.func21, Tryz.ntmps21
        go_wp2_with (first | ((with_reducible refine (CN _).mono ?_); rintro e w' ⟨rfl, rfl⟩) | ((with_reducible refine (CF _).mono ?_); rintro e w' ⟨rfl, rfl⟩) | ((with_reducible refine (CI _).mono ?_); rintro e w' ⟨rfl, rfl⟩))
        refine bodyPost_ret (results_c1 (p := 6) (u := 7) rfl _ _ _ 32 _ _ rfl HR.out Tryz.underlying32 rfl (by kernel_rfl)) rfl ⟨by rw [HV.out.1, HV.out.2]; rfl, HB.out⟩
end Go.Proofs.YtdiebacfbhjbdaaGreatDoor

/- Walks of the reference of layer 55: Full, Valid, valid, Leaves, Root. -/
set_option linter.unusedVariables false
set_option linter.unusedSimpArgs false
namespace Go.Proofs.YtdiebacfbhjbdaaGreatDoor
open Go.RowKit

structure Ln.fitS (l : Ln) : Prop where
  p : l.p.length ≤ 1000000000
  t : l.t.length ≤ 1000000000
  s : l.s.length ≤ 1000000000
  d : l.d.length ≤ 1000000000
def fullB (l : Ln) : Bool := canM l.p l.t l.s && decide (mkL l.p l.t l.s = l)
set_option maxRecDepth 100000 in
set_option maxHeartbeats 1000000 in
theorem rFull_any (l : Ln) (hf : l.fitS) (w : World) : Calls Tryz.prog 58 #[.agg #[.string (bs l.p), .string (bs l.t), .string (bs l.s), .string (bs l.d)]] w fun e w' => e = .returned (.bool (fullB l)) ∧ Below w.heap.size w w' := by
  have HB := hide (below_one w (.cells #[.string (bs l.p), .string (bs l.t), .string (bs l.s), .string (bs l.d)] 32))
  have HR := hide (Blk.new w 32 #[.string (bs l.p), .string (bs l.t), .string (bs l.s), .string (bs l.d)])
  have CM := rMake_any l.p l.t l.s hf.p hf.t hf.s (w.alloc (.cells #[.string (bs l.p), .string (bs l.t), .string (bs l.s), .string (bs l.d)] 32))
  have HV0 : Hid (fullB l = (canM l.p l.t l.s && decide (mkL l.p l.t l.s = l))) := rfl
  unfold lnC at CM
  cases hc : canM l.p l.t l.s with
  | false =>
    have eV : makeV l.p l.t l.s = noL := by unfold makeV; rw [hc]; rfl
    have eE : makeE l.p l.t l.s = 1 := by unfold makeE; rw [hc]; rfl
    rw [eV, eE] at CM
    have HV : Hid (fullB l = false) := by show _ = _; rw [HV0.out, hc]; rfl
    clear eV eE hc HV0
    go_enter Tryz.func58, Tryz.ntmps58
    go_wp2_with ((with_reducible refine CM.mono ?_); rintro e w2 ⟨rfl, hb⟩)
    go_ret
    exact ⟨ret_bool (by rw [HV.out]), below_alloc (below_to HB.out (Nat.le_refl _) (by assumption)) (Nat.le_refl _) _⟩
  | true =>
    have eV : makeV l.p l.t l.s = mkL l.p l.t l.s := by unfold makeV; rw [hc]; rfl
    have eE : makeE l.p l.t l.s = 0 := by unfold makeE; rw [hc]; rfl
    rw [eV, eE] at CM
    have fin : ∀ b, Hid (fullB l = b) → True := fun _ _ => trivial
    by_cases hm : mkL l.p l.t l.s = l
    · have HV : Hid (fullB l = true) := by show _ = _; rw [HV0.out, hc, decide_eq_true hm]; rfl
      rw [hm] at CM
      have q2 := lnv_yes l
      clear eV eE hc HV0 hm fin
      go_enter Tryz.func58, Tryz.ntmps58
      go_wp2_with fail
      refine CM.mono ?_
      rintro e w2 ⟨rfl, hb⟩
      have HB2 := hide (below_to HB.out (Nat.le_refl _) hb)
      have HR2 := hide (HR.out.to hb)
      have r0 := (HR2.out.cell 0).trans rfl
      have r1 := (HR2.out.cell 1).trans rfl
      have r2 := (HR2.out.cell 2).trans rfl
      have r3 := (HR2.out.cell 3).trans rfl
      have lt := HR2.out.lt
      have ne := Nat.ne_of_lt lt
      clear hb CM
      go_wp2_with fail
      go_ret
      exact ⟨ret_bool (by rw [HV.out]), below_alloc HB2.out (Nat.le_refl _) _⟩
    · have HV : Hid (fullB l = false) := by show _ = _; rw [HV0.out, hc, decide_eq_false hm]; rfl
      have q2 := lnv_no hm
      clear eV eE hc HV0 hm fin
      generalize mkL l.p l.t l.s = m at *
      go_enter Tryz.func58, Tryz.ntmps58
      go_wp2_with fail
      refine CM.mono ?_
      rintro e w2 ⟨rfl, hb⟩
      have HB2 := hide (below_to HB.out (Nat.le_refl _) hb)
      have HR2 := hide (HR.out.to hb)
      have r0 := (HR2.out.cell 0).trans rfl
      have r1 := (HR2.out.cell 1).trans rfl
      have r2 := (HR2.out.cell 2).trans rfl
      have r3 := (HR2.out.cell 3).trans rfl
      have lt := HR2.out.lt
      have ne := Nat.ne_of_lt lt
      clear hb CM
      go_wp2_with fail
      go_ret
      exact ⟨ret_bool (by rw [HV.out]), below_alloc HB2.out (Nat.le_refl _) _⟩
theorem valid_full (l : Ln) : validL l = (fullB l || (l.p.isEmpty && (l.t.isEmpty && (l.s.isEmpty && isD l.d)))) := by
  unfold validL fullB
  by_cases h : l = er l
  · rw [if_pos h]
    have hp : l.p = [] := congrArg Ln.p h
    have ht : l.t = [] := congrArg Ln.t h
    have hs : l.s = [] := congrArg Ln.s h
    rw [hp, ht, hs]
    have : canM [] [] [] = false := by decide +kernel
    rw [this]
    rfl
  · rw [if_neg h]
    have : (l.p.isEmpty && (l.t.isEmpty && (l.s.isEmpty && isD l.d))) = false := by
      rw [← Bool.not_eq_true]
      intro h'
      simp only [Bool.and_eq_true, List.isEmpty_iff] at h'
      exact h ((Ln.eq_iff l (er l)).2 ⟨h'.1, h'.2.1, h'.2.2.1, rfl⟩)
    rw [this, Bool.or_false]
set_option maxRecDepth 100000 in
set_option maxHeartbeats 1000000 in
theorem rValid_any (l : Ln) (hf : l.fitS) (w : World) : Calls Tryz.prog 25 #[.agg #[.string (bs l.p), .string (bs l.t), .string (bs l.s), .string (bs l.d)]] w fun e w' => e = .returned (.bool (validL l)) ∧ Below w.heap.size w w' := by
  have HB := hide (below_one w (.cells #[.string (bs l.p), .string (bs l.t), .string (bs l.s), .string (bs l.d)] 32))
  have HR := hide (Blk.new w 32 #[.string (bs l.p), .string (bs l.t), .string (bs l.s), .string (bs l.d)])
  have CF := rFull_any l hf (w.alloc (.cells #[.string (bs l.p), .string (bs l.t), .string (bs l.s), .string (bs l.d)] 32))
  have CI := fun w => rIs_any l.d (Nat.le_trans hf.d (by decide)) w
  have HV0 := hide (valid_full l)
  cases hfu : fullB l with
  | true =>
    have HV : Hid (validL l = true) := by show _ = _; rw [HV0.out, hfu]; rfl
    rw [hfu] at CF
    clear hfu HV0 CI
    go_enter Tryz.func25, Tryz.ntmps25
    go_wp2_with ((with_reducible refine CF.mono ?_); rintro e w2 ⟨rfl, hb⟩)
    go_ret
    exact ⟨ret_bool (by rw [HV.out]), below_to HB.out (Nat.le_refl _) (by assumption)⟩
  | false =>
    have HV : Hid (validL l = (l.p.isEmpty && (l.t.isEmpty && (l.s.isEmpty && isD l.d)))) := by show _ = _; rw [HV0.out, hfu]; rfl
    rw [hfu] at CF
    have ep : (bs l.p).toList.isEmpty = l.p.isEmpty := by rw [bs_toList]
    have et : (bs l.t).toList.isEmpty = l.t.isEmpty := by rw [bs_toList]
    have es : (bs l.s).toList.isEmpty = l.s.isEmpty := by rw [bs_toList]
    clear hfu HV0
    go_enter Tryz.func25, Tryz.ntmps25
    go_wp2_with fail
    refine CF.mono ?_
    rintro e w2 ⟨rfl, hb⟩
    have HB2 := hide (below_to HB.out (Nat.le_refl _) hb)
    have HR2 := hide (HR.out.to hb)
    have r0 := (HR2.out.cell 0).trans rfl
    have r1 := (HR2.out.cell 1).trans rfl
    have r2 := (HR2.out.cell 2).trans rfl
    have r3 := (HR2.out.cell 3).trans rfl
    clear hb CF
    cases h1 : l.p.isEmpty with
    | false =>
      rw [h1] at ep HV
      clear h1
      go_wp2_with fail
      go_ret
      exact ⟨ret_bool (by rw [HV.out]; rfl), HB2.out⟩
    | true =>
      cases h2 : l.t.isEmpty with
      | false =>
        rw [h1] at ep HV
        rw [h2] at et HV
        clear h1 h2
        go_wp2_with fail
        go_ret
        exact ⟨ret_bool (by rw [HV.out]; rfl), HB2.out⟩
      | true =>
        cases h3 : l.s.isEmpty with
        | false =>
          rw [h1] at ep HV
          rw [h2] at et HV
          rw [h3] at es HV
          clear h1 h2 h3
          go_wp2_with fail
          go_ret
          exact ⟨ret_bool (by rw [HV.out]; rfl), HB2.out⟩
        | true =>
          rw [h1] at ep HV
          rw [h2] at et HV
          rw [h3] at es HV
          clear h1 h2 h3
          generalize isD l.d = b at *
          go_wp2_with ((with_reducible refine (CI _).mono ?_); rintro e w' ⟨rfl, rfl⟩)
          go_ret
          exact ⟨ret_bool (by rw [HV.out]; rfl), HB2.out⟩
set_option maxRecDepth 100000 in
set_option maxHeartbeats 1000000 in
theorem rvalidG_any (log : List Ln) (hf : ∀ l ∈ log, l.fitS) (hl : log.length ≤ 1000000000) (v : Value) (w : World) (hv : LnsAt w v log) : Calls Tryz.prog 55 #[v] w fun e w' => e = .returned (.bool (validG log)) ∧ Below w.heap.size w w' := by
  obtain ⟨A, c, rfl⟩ := hv.slice
  have HS := hide hv
  have HV : Hid (validG log = (log.all validL && decide (log.length ≤ 10000))) := rfl
  have HF := hide hf
  clear hv hf
  go_enter Tryz.func55, Tryz.ntmps55
  go_wp2_with fail
  go_loopw [3] (fun i wr => ∃ k : Nat, i = .int .i64 (k : Int) ∧ k ≤ log.length ∧ Hid (log.all validL = (log.drop k).all validL) ∧ Aside (Below w.heap.size w wr)) (fun i _ => log.length - (intOf i).toNat)
  case atStart => exact ⟨0, rfl, by omega, rfl, Below.refl _ _⟩
  case round =>
    obtain ⟨k, rfl, hk, HA, hB⟩ := hrel
    have HB : Hid (Below w.heap.size w wr) := hB
    clear hB
    by_cases hlt : k < log.length
    · have e1 : decide ((k : Int) < (log.length : Int)) = true := decide_eq_true (by omega)
      obtain ⟨l, hl'⟩ : ∃ l, log[k]? = some l := ⟨_, List.getElem?_eq_getElem hlt⟩
      obtain ⟨a, rfl, ha, c0, c1, c2, c3⟩ := LnsAt.at_ (HS.out.to HB.out) hl'
      have CV := rValid_any l (HF.out l (List.mem_of_getElem? hl')) wr
      have HD := hide (drop_at' hl')
      clear hl'
      cases hvl : validL l with
      | true =>
        rw [hvl] at CV
        have HN : Hid (log.all validL = (log.drop (k + 1)).all validL) := by show _ = _; rw [HA.out, HD.out, List.all_cons, hvl]; rfl
        clear hvl
        go_wp2_with ((with_reducible refine CV.mono ?_); rintro e w' ⟨rfl, hb⟩)
        refine ⟨⟨k + 1, by go_num, by omega, HN.out, below_to HB.out (Nat.le_refl _) (by assumption)⟩, ?_⟩
        simp [intOf]; omega
      | false =>
        rw [hvl] at CV
        have HN : Hid (validG log = false) := by show _ = _; rw [HV.out, HA.out, HD.out, List.all_cons, hvl]; rfl
        clear hvl
        go_wp2_with ((with_reducible refine CV.mono ?_); rintro e w' ⟨rfl, hb⟩)
        go_ret
        exact ⟨ret_bool (by rw [HN.out]), below_to HB.out (Nat.le_refl _) (by assumption)⟩
    · obtain rfl : k = log.length := by omega
      have e1 : decide ((log.length : Int) < (log.length : Int)) = false := by simp
      have HN : Hid (validG log = decide ((log.length : Int) ≤ 10000)) := by
        show _ = _
        rw [HV.out, HA.out, List.drop_length, List.all_nil, Bool.true_and]
        exact decide_eq_decide.2 (by omega)
      go_wp2_with fail
      go_ret
      exact ⟨ret_bool (by rw [HN.out]), HB.out⟩
end Go.Proofs.YtdiebacfbhjbdaaGreatDoor

/- Walks of the reference of layer 55: Leaves, Root, Erase, About, Orders. -/
set_option linter.unusedVariables false
set_option linter.unusedSimpArgs false
namespace Go.Proofs.YtdiebacfbhjbdaaGreatDoor
open Go.RowKit

set_option maxRecDepth 100000 in
set_option maxHeartbeats 1000000 in
theorem rLeaves_any (log : List Ln) (hl : log.length ≤ 1000000000) (hd : ∀ l ∈ log, l.fitS) (v : Value) (w : World) (hv : LnsAt w v log) : Calls Tryz.prog 57 #[v] w (LvR log w) := by
  obtain ⟨A, c, rfl⟩ := hv.slice
  have HS := hide hv
  have HDl := hide hd
  obtain ⟨i0, hi0, hz0, hz1, hz2⟩ := info_parts (show (Tryz.prog.info? 9).map (fun i => (i.zero, i.size, i.bytes)) = some (some (.string ⟨#[]⟩), 1, 16) by kernel_rfl)
  clear hv hd
  go_enter Tryz.func57, Tryz.ntmps57
  go_wp2_with fail
  go_loopw [3, 4] (fun out i wr => ∃ k : Nat, i = .int .i64 (k : Int) ∧ k ≤ log.length ∧ Aside (Below w.heap.size w wr) ∧ Aside (wr.ownsRow w.heap.size 9 1 out (leavesP (log.take k)).length ((leavesP (log.take k)).map strV).flatten)) (fun _ i _ => log.length - (intOf i).toNat)
  case atStart => exact ⟨0, rfl, by omega, Below.refl _ _, World.ownsRow_nil _ _ _ _⟩
  case round =>
    obtain ⟨k, rfl, hk, hB, hO⟩ := hrel
    have HB0 : Hid (Below w.heap.size w wr) := hB
    have HO0 : Hid (wr.ownsRow w.heap.size 9 1 _ (leavesP (log.take k)).length ((leavesP (log.take k)).map strV).flatten) := hO
    clear hB hO
    by_cases hlt : k < log.length
    · have e1 : decide ((k : Int) < (log.length : Int)) = true := decide_eq_true (by omega)
      obtain ⟨l, hl'⟩ : ∃ l, log[k]? = some l := ⟨_, List.getElem?_eq_getElem hlt⟩
      obtain ⟨a, rfl, ha, c0, c1, c2, c3⟩ := (HS.out.to HB0.out).at_ hl'
      have CV := rLeaf_any l.d (HDl.out l (List.mem_of_getElem? hl')).d wr
      have HT : Hid (leavesP (log.take (k + 1)) = leavesP (log.take k) ++ [leafD l.d]) := by show _ = _; unfold leavesP; rw [List.take_add_one, hl']; simp
      have HLEN : (leavesP (log.take k)).length ≤ k := by unfold leavesP; rw [List.length_map]; exact List.length_take_le _ _
      clear hl'
      generalize leavesP (log.take k) = xs at *
      generalize leafD l.d = m at *
      go_wp2_with fail
      refine CV.mono ?_
      rintro e w4 ⟨rfl, hb4⟩
      have HB := hide (below_to HB0.out (Nat.le_refl _) hb4)
      have HO := hide (own_to' HO0.out hb4)
      have HSZ : Hid (w.heap.size ≤ w4.heap.size) := HB.out.size
      clear hb4 CV HO0 HB0
      go_wp2_with (at_builtin; refine wpList_append_own _ rfl (.tmp 11) (.tmp 18) _ rfl w.heap.size 9 i0 (.string ⟨#[]⟩) 1 16 Tryz.underlying34 hi0 hz0 hz1 hz2 rfl (by omega) _ xs.length (xs.map strV).flatten rfl ?c0 ⟨_, 0, none⟩ 1 1 [.string (bs m)] rfl rfl ?c1 ?c2 ?c4 ?c5 ?c3 ?_)
      case c0 => exact own_to' HO.out (below_one _ _)
      case c1 => exact cells_new (xs := [.string (bs m)]) (by simp)
      case c2 => intro u hu; simp only [List.mem_cons, List.not_mem_nil, or_false] at hu; rcases hu with rfl <;> rfl
      case c4 => simp only [maxLen]; omega
      case c5 => omega
      case c3 => have := HSZ.out; simp; omega
      intro v' w6 hown6 hgr6 _
      have HB6 := hide ((below_alloc HB.out (Nat.le_refl _) _).grown hgr6 (by have := HSZ.out; simp; omega) (fun b hb => (HO.out.lt b hb).1))
      have HO6 : Hid (w6.ownsRow w.heap.size 9 1 v' (leavesP (log.take (k + 1))).length ((leavesP (log.take (k + 1))).map strV).flatten) := by
        show World.ownsRow _ _ _ _ _ _ _
        rw [HT.out]
        simp only [List.length_append, List.length_cons, List.length_nil, Nat.zero_add, List.map_append, List.map_cons, List.map_nil, List.flatten_append, List.flatten_cons, List.flatten_nil, List.append_nil]
        exact hown6
      clear hown6 hgr6
      go_wp2_with fail
      refine ⟨⟨k + 1, by go_num, by omega, HB6.out, HO6.out⟩, ?_⟩
      simp [intOf]; omega
    · obtain rfl : k = log.length := by omega
      have e1 : decide ((log.length : Int) < (log.length : Int)) = false := by simp
      rw [List.take_length] at HO0
      go_wp2_with fail
      go_ret
      exact ⟨_, rfl, RowsAt.of_own (by simp [strV]) (by rw [List.length_map]; exact HO0.out), HB0.out⟩
set_option maxHeartbeats 1000000 in
theorem rRootL_any (log : List Ln) (hf : ∀ l ∈ log, l.fitS) (hl : log.length ≤ 1000000000) (v : Value) (w : World) (hv : LnsAt w v log) :
    Calls Tryz.prog 22 #[v] w fun e w' => e = .returned (.tuple #[.string (bs (if validG log then totalT (leavesP log) else [])), .int .i64 (errE (validG log))]) ∧ Below w.heap.size w w' := by
  have CP := rvalidG_any log hf hl v w hv
  have CM := fun (w' : World) (hb : Below w.heap.size w w') => rLeaves_any log hl hf v w' (hv.to hb)
  have CR := fun (w' : World) (u : Value) (hu : TextsAt w' u (leavesP log)) => rRoot_any (leavesP log) (by unfold leavesP; rw [List.length_map]; omega) (fun x hx => by
    unfold leavesP at hx
    obtain ⟨l, _, rfl⟩ := List.mem_map.1 hx
    have := isD_len (leaf_isD l.d)
    omega) u w' hu
  have HRV : Hid (rootV (leavesP log) = totalT (leavesP log) ∧ rootE (leavesP log) = 0) := ⟨by unfold rootV; rw [if_pos (leaves_proper log)], by unfold rootE; rw [if_pos (leaves_proper log)]⟩
  clear hv hf
  cases hp : validG log with
  | false =>
    rw [hp] at CP
    rw [if_neg (by simp)]
    clear hp CM CR
    go_enter Tryz.func22, Tryz.ntmps22
    go_wp2_with ((with_reducible refine CP.mono ?_); rintro e w' ⟨rfl, hb⟩)
    go_ret2
    exact ⟨rfl, by assumption⟩
  | true =>
    rw [hp] at CP
    rw [if_pos rfl]
    clear hp
    go_enter Tryz.func22, Tryz.ntmps22
    go_wp2_with fail
    refine CP.mono ?_
    rintro e w2 ⟨rfl, hb⟩
    have HB2 := hide hb
    have CM2 := CM _ hb
    clear CM CP hb
    go_wp2_with fail
    refine CM2.mono ?_
    rintro e w3 ⟨v', rfl, hr, hb⟩
    have HB3 := hide (below_to HB2.out (Nat.le_refl _) hb)
    have CR2 := CR _ v' hr
    rw [HRV.out.1, HRV.out.2] at CR2
    clear hr hb CM2 CR
    go_wp2_with ((with_reducible refine CR2.mono ?_); rintro e w' ⟨rfl, hb⟩)
    go_ret2
    exact ⟨rfl, below_to HB3.out (Nat.le_refl _) (by assumption)⟩
set_option maxRecDepth 100000 in
set_option maxHeartbeats 2000000 in
theorem rErase_any (log : List Ln) (hf : ∀ l ∈ log, l.fitS) (hl : log.length ≤ 1000000000) (q : List UInt8) (hq : q.length ≤ 140737488355328) (v : Value) (w : World) (hv : LnsAt w v log) :
    Calls Tryz.prog 23 #[v, .string (bs q)] w (EraseR log q w) := by
  obtain ⟨i0, hi0, hz0, hz1, hz2⟩ := info_parts (show (Tryz.prog.info? 32).map (fun i => (i.zero, i.size, i.bytes)) = some (some (.agg #[.string ⟨#[]⟩, .string ⟨#[]⟩, .string ⟨#[]⟩, .string ⟨#[]⟩]), 4, 64) by kernel_rfl)
  have CV := rvalidG_any log hf hl v w hv
  have CN := fun w => rName_any q hq w
  have HK : Hid (okA log q = (validG log && isNm q)) := rfl
  have HS0 := hide hv
  obtain ⟨A, c, rfl⟩ := hv.slice
  clear hv hf
  cases hvg : validG log with
  | false =>
    rw [hvg] at CV HK
    clear hvg
    go_enter Tryz.func23, Tryz.ntmps23
    go_wp2_with ((with_reducible refine CV.mono ?_); rintro e w' ⟨rfl, hb⟩)
    go_ret3
    exact ⟨.slice none 0 0, by unfold hitsV; rw [HK.out]; rfl, by unfold eraseV; rw [HK.out]; exact RowsAt.nil _ _, by assumption⟩
  | true =>
  rw [hvg] at CV HK
  clear hvg
  cases hnm : isNm q with
  | false =>
    rw [hnm] at CN HK
    clear hnm
    go_enter Tryz.func23, Tryz.ntmps23
    go_wp2_with (first | ((with_reducible refine CV.mono ?_); rintro e w' ⟨rfl, hb⟩) | ((with_reducible refine (CN _).mono ?_); rintro e w'' ⟨rfl, rfl⟩))
    go_ret3
    exact ⟨.slice none 0 0, by unfold hitsV; rw [HK.out]; rfl, by unfold eraseV; rw [HK.out]; exact RowsAt.nil _ _, by assumption⟩
  | true =>
  rw [hnm] at CN HK
  clear hnm
  go_enter Tryz.func23, Tryz.ntmps23
  go_wp2_with fail
  refine CV.mono ?_
  rintro e w1 ⟨rfl, hb⟩
  have HB1 := hide hb
  have HS := hide (HS0.out.to hb)
  have HCN := hide (CN w1)
  clear hb CV CN HS0
  go_wp2_with (refine HCN.out.mono ?_; rintro e w' ⟨rfl, rfl⟩)
  go_loopw [7, 8, 9] (fun out n i wr => ∃ k : Nat, i = .int .i64 (k : Int) ∧ k ≤ log.length ∧ n = .int .i64 ((hitsP (log.take k) q : Nat) : Int) ∧ Aside (Below w'.heap.size w' wr) ∧ Aside (wr.ownsRow w'.heap.size 32 4 out ((log.take k).map (erQ q)).length (((log.take k).map (erQ q)).map lnV).flatten)) (fun _ _ i _ => log.length - (intOf i).toNat)
  case atStart => exact ⟨0, rfl, by omega, rfl, Below.refl _ _, World.ownsRow_nil _ _ _ _⟩
  case round =>
    obtain ⟨k, rfl, hk, rfl, hB, hO⟩ := hrel
    have HB : Hid (Below w'.heap.size w' wr) := hB
    have HO : Hid (wr.ownsRow w'.heap.size 32 4 _ ((log.take k).map (erQ q)).length (((log.take k).map (erQ q)).map lnV).flatten) := hO
    have HSZ : Hid (w'.heap.size ≤ wr.heap.size) := HB.out.size
    clear hB hO
    by_cases hlt : k < log.length
    · have e1 : decide ((k : Int) < (log.length : Int)) = true := decide_eq_true (by omega)
      obtain ⟨l, hl'⟩ : ∃ l, log[k]? = some l := ⟨_, List.getElem?_eq_getElem hlt⟩
      obtain ⟨a, rfl, ha, c0, c1, c2, c3⟩ := (HS.out.to HB.out).at_ hl'
      have HT2 := hide (era_take q hl').2
      have HT0 := hide (era_take q hl').1
      have hcnt : hitsP (log.take k) q ≤ 1000000000 := Nat.le_trans (hits_le _ _) (Nat.le_trans (List.length_take_le _ _) (by omega))
      have HLEN : ((log.take k).map (erQ q)).length ≤ k := by rw [List.length_map]; exact List.length_take_le _ _
      clear hl'
      generalize (log.take k).map (erQ q) = xs at *
      generalize hitsP (log.take k) q = N at *
      by_cases hp : l.p = q
      · have e2 : ((bs l.p).toList == (bs q).toList) = true := by rw [hp]; simp
        have HT : Hid ((log.take (k + 1)).map (erQ q) = xs ++ [er l]) := by show _ = _; rw [HT0.out]; unfold erQ; rw [if_pos hp]
        have HN : Hid (hitsP (log.take (k + 1)) q = N + 1) := by show _ = _; rw [HT2.out]; unfold hit; rw [if_pos hp]
        clear HT0 HT2 hp
        go_wp2_with (at_builtin; refine wpList_append_own _ rfl (.tmp 31) (.tmp 38) _ rfl w'.heap.size 32 i0 (.agg #[.string ⟨#[]⟩, .string ⟨#[]⟩, .string ⟨#[]⟩, .string ⟨#[]⟩]) 4 64 Tryz.underlying22 hi0 hz0 hz1 hz2 rfl (by omega) _ xs.length (xs.map lnV).flatten rfl ?c0 ⟨_, 0, none⟩ 1 1 [.string ⟨#[]⟩, .string ⟨#[]⟩, .string ⟨#[]⟩, .string (bs l.d)] rfl rfl ?c1 ?c2 ?c4 ?c5 ?c3 ?_)
        case c0 => exact own_to' HO.out (below_one _ _)
        case c1 => exact cells_new (xs := [.string ⟨#[]⟩, .string ⟨#[]⟩, .string ⟨#[]⟩, .string (bs l.d)]) (by simp)
        case c2 => intro u hu; simp only [List.mem_cons, List.not_mem_nil, or_false] at hu; rcases hu with rfl | rfl | rfl | rfl <;> rfl
        case c4 => simp only [maxLen]; omega
        case c5 => omega
        case c3 => have := HSZ.out; simp; omega
        intro v' w6 hown6 hgr6 _
        have HB6 := hide ((below_alloc HB.out (Nat.le_refl _) _).grown hgr6 (by have := HSZ.out; simp; omega) (fun b hb => (HO.out.lt b hb).1))
        have HO6 : Hid (w6.ownsRow w'.heap.size 32 4 v' ((log.take (k + 1)).map (erQ q)).length (((log.take (k + 1)).map (erQ q)).map lnV).flatten) := by
          show World.ownsRow _ _ _ _ _ _ _
          rw [HT.out]
          simp only [List.length_append, List.length_cons, List.length_nil, Nat.zero_add, List.map_append, List.map_cons, List.map_nil, List.flatten_append, List.flatten_cons, List.flatten_nil, List.append_nil]
          exact hown6
        clear hown6 hgr6
        go_wp2_with fail
        refine ⟨⟨k + 1, by go_num, by omega, by rw [HN.out]; go_num, HB6.out, HO6.out⟩, ?_⟩
        simp [intOf]; omega
      · have e2 : ((bs l.p).toList == (bs q).toList) = false := by rw [beq_eq_false_iff_ne, bs_toList, bs_toList]; exact hp
        have HT : Hid ((log.take (k + 1)).map (erQ q) = xs ++ [l]) := by show _ = _; rw [HT0.out]; unfold erQ; rw [if_neg hp]
        have HN : Hid (hitsP (log.take (k + 1)) q = N) := by show _ = _; rw [HT2.out]; unfold hit; rw [if_neg hp]; rfl
        clear HT0 HT2 hp
        go_wp2_with (at_builtin; refine wpList_append_own _ rfl (.tmp 42) (.tmp 47) _ rfl w'.heap.size 32 i0 (.agg #[.string ⟨#[]⟩, .string ⟨#[]⟩, .string ⟨#[]⟩, .string ⟨#[]⟩]) 4 64 Tryz.underlying22 hi0 hz0 hz1 hz2 rfl (by omega) _ xs.length (xs.map lnV).flatten rfl ?c0 ⟨_, 0, none⟩ 1 1 [.string (bs l.p), .string (bs l.t), .string (bs l.s), .string (bs l.d)] rfl rfl ?c1 ?c2 ?c4 ?c5 ?c3 ?_)
        case c0 => exact own_to' HO.out (below_one _ _)
        case c1 => exact cells_new (xs := [.string (bs l.p), .string (bs l.t), .string (bs l.s), .string (bs l.d)]) (by simp)
        case c2 => intro u hu; simp only [List.mem_cons, List.not_mem_nil, or_false] at hu; rcases hu with rfl | rfl | rfl | rfl <;> rfl
        case c4 => simp only [maxLen]; omega
        case c5 => omega
        case c3 => have := HSZ.out; simp; omega
        intro v' w6 hown6 hgr6 _
        have HB6 := hide ((below_alloc HB.out (Nat.le_refl _) _).grown hgr6 (by have := HSZ.out; simp; omega) (fun b hb => (HO.out.lt b hb).1))
        have HO6 : Hid (w6.ownsRow w'.heap.size 32 4 v' ((log.take (k + 1)).map (erQ q)).length (((log.take (k + 1)).map (erQ q)).map lnV).flatten) := by
          show World.ownsRow _ _ _ _ _ _ _
          rw [HT.out]
          simp only [List.length_append, List.length_cons, List.length_nil, Nat.zero_add, List.map_append, List.map_cons, List.map_nil, List.flatten_append, List.flatten_cons, List.flatten_nil, List.append_nil]
          exact hown6
        clear hown6 hgr6
        go_wp2_with fail
        refine ⟨⟨k + 1, by go_num, by omega, by rw [HN.out], HB6.out, HO6.out⟩, ?_⟩
        simp [intOf]; omega
    · obtain rfl : k = log.length := by omega
      have e1 : decide ((log.length : Int) < (log.length : Int)) = false := by simp
      rw [List.take_length] at HO ⊢
      go_wp2_with fail
      go_ret3
      exact ⟨_, by unfold hitsV; rw [HK.out]; rfl, by unfold eraseV; rw [HK.out]; exact RowsAt.of_own (by simp [lnV]) (by rw [List.length_map]; exact HO.out), below_to HB1.out (Nat.le_refl _) HB.out⟩
set_option maxRecDepth 100000 in
set_option maxHeartbeats 2000000 in
theorem rAbout_any (log : List Ln) (hf : ∀ l ∈ log, l.fitS) (hl : log.length ≤ 1000000000) (q : List UInt8) (hq : q.length ≤ 140737488355328) (v : Value) (w : World) (hv : LnsAt w v log) :
    Calls Tryz.prog 24 #[v, .string (bs q)] w (AboutR log q w) := by
  obtain ⟨i0, hi0, hz0, hz1, hz2⟩ := info_parts (show (Tryz.prog.info? 9).map (fun i => (i.zero, i.size, i.bytes)) = some (some (.string ⟨#[]⟩), 1, 16) by kernel_rfl)
  have CV := rvalidG_any log hf hl v w hv
  have CN := fun w => rName_any q hq w
  have HK : Hid (okA log q = (validG log && isNm q)) := rfl
  have HS0 := hide hv
  obtain ⟨A, c, rfl⟩ := hv.slice
  clear hv hf
  cases hvg : validG log with
  | false =>
    rw [hvg] at CV HK
    clear hvg
    go_enter Tryz.func24, Tryz.ntmps24
    go_wp2_with ((with_reducible refine CV.mono ?_); rintro e w' ⟨rfl, hb⟩)
    go_ret2
    exact ⟨.slice none 0 0, by rw [HK.out]; rfl, by unfold aboutV; rw [HK.out]; exact RowsAt.nil _ _, by assumption⟩
  | true =>
  rw [hvg] at CV HK
  clear hvg
  cases hnm : isNm q with
  | false =>
    rw [hnm] at CN HK
    clear hnm
    go_enter Tryz.func24, Tryz.ntmps24
    go_wp2_with (first | ((with_reducible refine CV.mono ?_); rintro e w' ⟨rfl, hb⟩) | ((with_reducible refine (CN _).mono ?_); rintro e w'' ⟨rfl, rfl⟩))
    go_ret2
    exact ⟨.slice none 0 0, by rw [HK.out]; rfl, by unfold aboutV; rw [HK.out]; exact RowsAt.nil _ _, by assumption⟩
  | true =>
  rw [hnm] at CN HK
  clear hnm
  go_enter Tryz.func24, Tryz.ntmps24
  go_wp2_with fail
  refine CV.mono ?_
  rintro e w1 ⟨rfl, hb⟩
  have HB1 := hide hb
  have HS := hide (HS0.out.to hb)
  have HCN := hide (CN w1)
  clear hb CV CN HS0
  go_wp2_with (refine HCN.out.mono ?_; rintro e w' ⟨rfl, rfl⟩)
  go_loopw [6, 7] (fun out i wr => ∃ k : Nat, i = .int .i64 (k : Int) ∧ k ≤ log.length ∧ Aside (Below w'.heap.size w' wr) ∧ Aside (wr.ownsRow w'.heap.size 9 1 out (aboutP (log.take k) q).length ((aboutP (log.take k) q).map strV).flatten)) (fun _ i _ => log.length - (intOf i).toNat)
  case atStart => exact ⟨0, rfl, by omega, Below.refl _ _, World.ownsRow_nil _ _ _ _⟩
  case round =>
    obtain ⟨k, rfl, hk, hB, hO⟩ := hrel
    have HB : Hid (Below w'.heap.size w' wr) := hB
    have HO : Hid (wr.ownsRow w'.heap.size 9 1 _ (aboutP (log.take k) q).length ((aboutP (log.take k) q).map strV).flatten) := hO
    have HSZ : Hid (w'.heap.size ≤ wr.heap.size) := HB.out.size
    clear hB hO
    by_cases hlt : k < log.length
    · have e1 : decide ((k : Int) < (log.length : Int)) = true := decide_eq_true (by omega)
      obtain ⟨l, hl'⟩ : ∃ l, log[k]? = some l := ⟨_, List.getElem?_eq_getElem hlt⟩
      obtain ⟨a, rfl, ha, c0, c1, c2, c3⟩ := (HS.out.to HB.out).at_ hl'
      have HT0 := hide (mapP_snoc (fun l : Ln => l.t) (fun l => decide (l.p = q)) hl')
      have HLEN : (aboutP (log.take k) q).length ≤ k := Nat.le_trans (mapP_len (fun l : Ln => l.t) (fun l => decide (l.p = q)) _) (List.length_take_le _ _)
      clear hl'
      by_cases hp : l.p = q
      · have e2 : ((bs l.p).toList == (bs q).toList) = true := by rw [hp]; simp
        have HT : Hid (aboutP (log.take (k + 1)) q = aboutP (log.take k) q ++ [l.t]) := by have h := HT0.out; rw [decide_eq_true hp, if_pos rfl] at h; exact h
        clear HT0 hp
        generalize aboutP (log.take k) q = xs at *
        go_wp2_with (at_builtin; refine wpList_append_own _ rfl (.tmp 29) (.tmp 35) _ rfl w'.heap.size 9 i0 (.string ⟨#[]⟩) 1 16 Tryz.underlying34 hi0 hz0 hz1 hz2 rfl (by omega) _ xs.length (xs.map strV).flatten rfl ?c0 ⟨_, 0, none⟩ 1 1 [.string (bs l.t)] rfl rfl ?c1 ?c2 ?c4 ?c5 ?c3 ?_)
        case c0 => exact own_to' HO.out (below_one _ _)
        case c1 => exact cells_new (xs := [.string (bs l.t)]) (by simp)
        case c2 => intro u hu; simp only [List.mem_cons, List.not_mem_nil, or_false] at hu; rcases hu with rfl <;> rfl
        case c4 => simp only [maxLen]; omega
        case c5 => omega
        case c3 => have := HSZ.out; simp; omega
        intro v' w6 hown6 hgr6 _
        have HB6 := hide ((below_alloc HB.out (Nat.le_refl _) _).grown hgr6 (by have := HSZ.out; simp; omega) (fun b hb => (HO.out.lt b hb).1))
        have HO6 : Hid (w6.ownsRow w'.heap.size 9 1 v' (aboutP (log.take (k + 1)) q).length ((aboutP (log.take (k + 1)) q).map strV).flatten) := by
          show World.ownsRow _ _ _ _ _ _ _
          rw [HT.out]
          simp only [List.length_append, List.length_cons, List.length_nil, Nat.zero_add, List.map_append, List.map_cons, List.map_nil, List.flatten_append, List.flatten_cons, List.flatten_nil, List.append_nil]
          exact hown6
        clear hown6 hgr6
        go_wp2_with fail
        refine ⟨⟨k + 1, by go_num, by omega, HB6.out, HO6.out⟩, ?_⟩
        simp [intOf]; omega
      · have e2 : ((bs l.p).toList == (bs q).toList) = false := by rw [beq_eq_false_iff_ne, bs_toList, bs_toList]; exact hp
        have HT : Hid (aboutP (log.take (k + 1)) q = aboutP (log.take k) q) := by have h := HT0.out; rw [decide_eq_false hp, if_neg (by simp)] at h; exact h
        clear HT0 hp
        go_wp2_with fail
        refine ⟨⟨k + 1, by go_num, by omega, HB.out, by rw [HT.out]; exact HO.out⟩, ?_⟩
        simp [intOf]; omega
    · obtain rfl : k = log.length := by omega
      have e1 : decide ((log.length : Int) < (log.length : Int)) = false := by simp
      rw [List.take_length] at HO
      go_wp2_with fail
      go_ret2
      exact ⟨_, by rw [HK.out]; rfl, by unfold aboutV; rw [HK.out]; exact RowsAt.of_own (by simp [strV]) (by rw [List.length_map]; exact HO.out), below_to HB1.out (Nat.le_refl _) HB.out⟩
set_option maxRecDepth 100000 in
set_option maxHeartbeats 2000000 in
theorem rOrders_any (lo : List Od) (hl : lo.length ≤ 1000000000) (q : List UInt8) (v : Value) (w : World) (hv : OdsAt w v lo) :
    Calls Tryz.prog 28 #[v, .string (bs q)] w (OrdersR lo q w) := by
  obtain ⟨i0, hi0, hz0, hz1, hz2⟩ := info_parts (show (Tryz.prog.info? 53).map (fun i => (i.zero, i.size, i.bytes)) = some (some (.agg #[.string ⟨#[]⟩, .string ⟨#[]⟩, .string ⟨#[]⟩, .string ⟨#[]⟩, .int .i64 0, .int .i64 0]), 6, 80) by kernel_rfl)
  obtain ⟨A, c, rfl⟩ := hv.slice
  have HS := hide hv
  clear hv
  go_enter Tryz.func28, Tryz.ntmps28
  go_wp2_with fail
  go_loopw [5, 6] (fun out i wr => ∃ k : Nat, i = .int .i64 (k : Int) ∧ k ≤ lo.length ∧ Aside (Below w.heap.size w wr) ∧ Aside (wr.ownsRow w.heap.size 53 6 out (ordersP (lo.take k) q).length ((ordersP (lo.take k) q).map odV).flatten)) (fun _ i _ => lo.length - (intOf i).toNat)
  case atStart => exact ⟨0, rfl, by omega, Below.refl _ _, World.ownsRow_nil _ _ _ _⟩
  case round =>
    obtain ⟨k, rfl, hk, hB, hO⟩ := hrel
    have HB : Hid (Below w.heap.size w wr) := hB
    have HO : Hid (wr.ownsRow w.heap.size 53 6 _ (ordersP (lo.take k) q).length ((ordersP (lo.take k) q).map odV).flatten) := hO
    have HSZ : Hid (w.heap.size ≤ wr.heap.size) := HB.out.size
    clear hB hO
    by_cases hlt : k < lo.length
    · have e1 : decide ((k : Int) < (lo.length : Int)) = true := decide_eq_true (by omega)
      obtain ⟨l, hl'⟩ : ∃ l, lo[k]? = some l := ⟨_, List.getElem?_eq_getElem hlt⟩
      obtain ⟨a, rfl, ha, c0, c1, c2, c3, c4, c5⟩ := (HS.out.to HB.out).at_ hl'
      have HT0 : Hid (ordersP (lo.take (k + 1)) q = if (!decide (l.p = q)) = true then ordersP (lo.take k) q ++ [l] else ordersP (lo.take k) q) := by
        have h := mapP_snoc id (fun l : Od => !decide (l.p = q)) hl'
        unfold mapP at h
        rw [List.map_id, List.map_id] at h
        exact h
      have HLEN : (ordersP (lo.take k) q).length ≤ k := Nat.le_trans (List.length_filter_le _ _) (List.length_take_le _ _)
      clear hl'
      by_cases hp : l.p = q
      · have e2 : ((bs l.p).toList == (bs q).toList) = true := by rw [hp]; simp
        have HT : Hid (ordersP (lo.take (k + 1)) q = ordersP (lo.take k) q) := by have h := HT0.out; rw [decide_eq_true hp] at h; exact h
        clear HT0 hp
        go_wp2_with fail
        refine ⟨⟨k + 1, by go_num, by omega, HB.out, by rw [HT.out]; exact HO.out⟩, ?_⟩
        simp [intOf]; omega
      · have e2 : ((bs l.p).toList == (bs q).toList) = false := by rw [beq_eq_false_iff_ne, bs_toList, bs_toList]; exact hp
        have HT : Hid (ordersP (lo.take (k + 1)) q = ordersP (lo.take k) q ++ [l]) := by have h := HT0.out; rw [decide_eq_false hp] at h; exact h
        clear HT0 hp
        generalize ordersP (lo.take k) q = xs at *
        go_wp2_with (at_builtin; refine wpList_append_own _ rfl (.tmp 20) (.tmp 25) _ rfl w.heap.size 53 i0 (.agg #[.string ⟨#[]⟩, .string ⟨#[]⟩, .string ⟨#[]⟩, .string ⟨#[]⟩, .int .i64 0, .int .i64 0]) 6 80 Tryz.underlying46 hi0 hz0 hz1 hz2 rfl (by omega) _ xs.length (xs.map odV).flatten rfl ?c0 ⟨_, 0, none⟩ 1 1 [.string (bs l.i), .string (bs l.p), .string (bs l.f), .string (bs l.t), .int .i64 l.a, .int .i64 l.b] rfl rfl ?c1 ?c2 ?c4 ?c5 ?c3 ?_)
        case c0 => exact own_to' HO.out (below_one _ _)
        case c1 => exact cells_new (xs := [.string (bs l.i), .string (bs l.p), .string (bs l.f), .string (bs l.t), .int .i64 l.a, .int .i64 l.b]) (by simp)
        case c2 => intro u hu; simp only [List.mem_cons, List.not_mem_nil, or_false] at hu; rcases hu with rfl | rfl | rfl | rfl | rfl | rfl <;> rfl
        case c4 => simp only [maxLen]; omega
        case c5 => omega
        case c3 => have := HSZ.out; simp; omega
        intro v' w6 hown6 hgr6 _
        have HB6 := hide ((below_alloc HB.out (Nat.le_refl _) _).grown hgr6 (by have := HSZ.out; simp; omega) (fun b hb => (HO.out.lt b hb).1))
        have HO6 : Hid (w6.ownsRow w.heap.size 53 6 v' (ordersP (lo.take (k + 1)) q).length ((ordersP (lo.take (k + 1)) q).map odV).flatten) := by
          show World.ownsRow _ _ _ _ _ _ _
          rw [HT.out]
          simp only [List.length_append, List.length_cons, List.length_nil, Nat.zero_add, List.map_append, List.map_cons, List.map_nil, List.flatten_append, List.flatten_cons, List.flatten_nil, List.append_nil]
          exact hown6
        clear hown6 hgr6
        go_wp2_with fail
        refine ⟨⟨k + 1, by go_num, by omega, HB6.out, HO6.out⟩, ?_⟩
        simp [intOf]; omega
    · obtain rfl : k = lo.length := by omega
      have e1 : decide ((lo.length : Int) < (lo.length : Int)) = false := by simp
      rw [List.take_length] at HO
      go_wp2_with fail
      go_ret
      exact ⟨_, rfl, RowsAt.of_own (by simp [odV]) (by rw [List.length_map]; exact HO.out), HB.out⟩
end Go.Proofs.YtdiebacfbhjbdaaGreatDoor
