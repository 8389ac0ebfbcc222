/- Several texts as one, in build order. -/
import Derived.Test.YtfhanbiifjiklaaGreatDoorP2
import Derived.Test.YtfhanbiifjiklaaGreatDoorSl
import Derived.Test.YtfhanbiifjiklaaGreatDoorDig5
import Derived.IntWalk
import Derived.Test.YtfhanbiifjiklaaGreatDoorShelf2
import Derived.Laws.AppendOwnNone
import Derived.Laws.AppendOwn
import Derived.Maps.AppendAt
import Derived.Test.YtfhanbiifjiklaaGreatDoorRf
import Derived.Test.YtfhanbiifjiklaaGreatDoorRg
import Derived.Shelf.Strings.BuilderK
import Derived.Test.YtfhanbiifjiklaaGreatDoorBu
import Derived.Test.YtfhanbiifjiklaaGreatDoorRd
import Derived.Lib.Join
import Derived.Deep.Upon
import Derived.ArgAppend
import Derived.Test.YtfhanbiifjiklaaGreatDoorLoose
import Derived.Lib.Split
import Derived.Lib.AtoiAll
import Derived.Lib.AtoiErrMem
import Derived.WalkLawsBesides
import Derived.Recover
import Derived.Defers
import Derived.Laws.Pointers
/- Walks of package tree: half, node, Leaf. -/
set_option linter.unusedVariables false
set_option linter.unusedSimpArgs false
namespace Go.Proofs.YtfhanbiifjiklaaGreatDoor
open Go.RowKit

theorem enters_fn {P : Program} {F : FuncId} {fn : Func} {c : Code} (hf : P.funcs[F]? = some fn) (hn : (fn.name == "runtime.NumGoroutine") = false) (hb : fn.body = some c) (args : Array Value) (w : World) : (callFunc F args).run P w = .ok (.enter F args) w := by
  have h1 : fn.name ≠ "runtime.NumGoroutine" := by simpa using hn
  simp [callFunc, hf, h1, hb, mark]
theorem dec_len9 : ∀ (n u : Nat), u < 10 ^ (n + 1) → (Lib.decDigits u).length ≤ n + 1 := by
  intro n
  induction n with
  | zero => intro u hu; rw [Lib.decDigits, dif_pos (show u < 10 by omega)]; simp
  | succ n ih =>
    intro u hu
    rw [Lib.decDigits]
    split
    · simp
    · rw [List.length_append]
      have := ih (u / 10) (by rw [Nat.pow_succ] at hu; omega)
      simp; omega
theorem join_len : ∀ (ls : List (List UInt8)), (∀ l ∈ ls, l.length < 100000000000000000000) → (joinD ls).length ≤ (ls.map List.length).sum + 21 * ls.length
  | [], _ => by simp [joinD]
  | l :: ls, h => by
    have h1 := join_len ls (fun x hx => h x (by simp [hx]))
    have h2 : (Lib.itoa (l.length : Int)).length ≤ 20 := by unfold Lib.itoa; rw [if_neg (by omega)]; exact dec_len9 19 _ (h l (by simp))
    have e : joinD (l :: ls) = (Lib.itoa l.length ++ [58] ++ l) ++ joinD ls := by simp [joinD]
    rw [e]
    simp only [List.length_append, List.map_cons, List.sum_cons, List.length_cons, List.length_nil] at *
    omega
theorem join2 {a b : List UInt8} (ha : a.length ≤ 100000000000) (hb : b.length ≤ 100000000000) : (joinD [a, b]).length ≤ 140737488355328 := by
  have := join_len [a, b] (fun l hl => by
    simp only [List.mem_cons, List.not_mem_nil, or_false] at hl
    rcases hl with rfl | rfl <;> omega)
  simp only [List.map_cons, List.map_nil, List.sum_cons, List.sum_nil, List.length_cons, List.length_nil] at this
  omega
theorem join3 {a b c : List UInt8} (ha : a.length ≤ 100000000000) (hb : b.length ≤ 100000000000) (hc : c.length ≤ 100000000000) : (joinD [a, b, c]).length ≤ 140737488355328 := by
  have := join_len [a, b, c] (fun l hl => by
    simp only [List.mem_cons, List.not_mem_nil, or_false] at hl
    rcases hl with rfl | rfl | rfl <;> omega)
  simp only [List.map_cons, List.map_nil, List.sum_cons, List.sum_nil, List.length_cons, List.length_nil] at this
  omega
theorem halfF_stop {f k n : Nat} (h : n ≤ k * 2) : halfF f k n = k := by
  cases f with
  | zero => rfl
  | succ f => unfold halfF; rw [if_neg (by omega)]
theorem halfF_go {f k n : Nat} (h : k * 2 < n) : halfF (f + 1) k n = halfF f (k * 2) n := by
  conv => lhs; unfold halfF
  rw [if_pos h]
set_option maxRecDepth 100000 in
set_option maxHeartbeats 1000000 in
theorem half_any (n : Nat) (hn : n ≤ 140737488355328) (w : World) : Calls Tryz.prog 83 #[.int .i64 (n : Int)] w fun e w' => e = .returned (.int .i64 ((halfN n : Nat) : Int)) ∧ w' = w := by
  go_enter Tryz.func83, Tryz.ntmps83
  go_wp2_with fail
  go_loopw [3] (fun k wr => ∃ u f : Nat, k = .int .i64 (u : Int) ∧ (1 ≤ u ∧ u ≤ n + 1 ∧ n ≤ u + f ∧ halfF f u n = halfN n) ∧ wr = w) (fun k _ => n - (intOf k).toNat)
  case atStart => exact ⟨1, n, rfl, ⟨Nat.le_refl _, by omega, by omega, rfl⟩, rfl⟩
  case round =>
    obtain ⟨u, f, rfl, ⟨h1, h1', h2, h3⟩, rfl⟩ := hrel
    have H3 := hide h3
    clear h3
    have e0 : IntKind.i64.wrap ((u : Int) * 2) = ((u * 2 : Nat) : Int) := by rw [IntWalk.i64_in _ (by omega)]; omega
    by_cases hlt : u * 2 < n
    · have e1 : decide (((u * 2 : Nat) : Int) < (n : Int)) = true := decide_eq_true (by omega)
      obtain ⟨f', rfl⟩ : ∃ f', f = f' + 1 := ⟨f - 1, by omega⟩
      have H4 := hide (halfF_go (f := f') hlt)
      go_wp2_with fail
      refine ⟨⟨u * 2, f', by go_num, ⟨by omega, by omega, by omega, H4.out.symm.trans H3.out⟩, trivial⟩, ?_⟩
      simp [intOf]; omega
    · have e1 : decide (((u * 2 : Nat) : Int) < (n : Int)) = false := decide_eq_false (by omega)
      have H4 : Hid (halfN n = u) := H3.out.symm.trans (halfF_stop (by omega))
      go_wp2_with fail
      go_ret
      exact ⟨ret_int (by rw [H4.out]), rfl⟩
set_option maxHeartbeats 1000000 in
theorem node_any (a b : List UInt8) (ha : a.length ≤ 100000000000) (hb : b.length ≤ 100000000000) (w : World) (hg : Glob w) : Calls Tryz.prog 103 #[.string (bs a), .string (bs b)] w fun e w' => e = .returned (.string (bs (nodeD a b))) ∧ Below w.heap.size w w' := by
  have CL : Calls Tryz.prog 88 #[.slice (some ⟨w.heap.size, 0, none⟩) 3 3] (w.alloc (.cells #[.string ⟨#[110, 111, 100, 101]⟩, .string (bs a), .string (bs b)] 9)) fun e w' => e = .returned (.string (bs (nodeD a b))) ∧ Below (w.alloc (.cells #[.string ⟨#[110, 111, 100, 101]⟩, .string (bs a), .string (bs b)] 9)).heap.size (w.alloc (.cells #[.string ⟨#[110, 111, 100, 101]⟩, .string (bs a), .string (bs b)] 9)) w' :=
    List_any [nodeT, a, b] _ 9 _ (Blk.new w 9 #[.string ⟨#[110, 111, 100, 101]⟩, .string (bs a), .string (bs b)]) (by simp) (join3 (by decide) ha hb) (hg.alloc _)
  have HB := hide (below_one w (.cells #[.string ⟨#[110, 111, 100, 101]⟩, .string (bs a), .string (bs b)] 9))
  clear hg ha hb
  go_enter Tryz.func103, Tryz.ntmps103
  go_wp2_with ((with_reducible refine CL.mono ?_); rintro e w' ⟨rfl, hb⟩)
  go_ret
  exact ⟨rfl, below_to HB.out (Nat.le_refl _) (by assumption)⟩
set_option maxHeartbeats 1000000 in
theorem Leaf_any (a : List UInt8) (ha : a.length ≤ 100000000000) (w : World) (hg : Glob w) : Calls Tryz.prog 44 #[.string (bs a)] w fun e w' => e = .returned (.string (bs (leafD a))) ∧ Below w.heap.size w w' := by
  have CL : Calls Tryz.prog 88 #[.slice (some ⟨w.heap.size, 0, none⟩) 2 2] (w.alloc (.cells #[.string ⟨#[108, 101, 97, 102]⟩, .string (bs a)] 9)) fun e w' => e = .returned (.string (bs (leafD a))) ∧ Below (w.alloc (.cells #[.string ⟨#[108, 101, 97, 102]⟩, .string (bs a)] 9)).heap.size (w.alloc (.cells #[.string ⟨#[108, 101, 97, 102]⟩, .string (bs a)] 9)) w' :=
    List_any [leafT, a] _ 9 _ (Blk.new w 9 #[.string ⟨#[108, 101, 97, 102]⟩, .string (bs a)]) (by simp) (join2 (by decide) ha) (hg.alloc _)
  have HB := hide (below_one w (.cells #[.string ⟨#[108, 101, 97, 102]⟩, .string (bs a)] 9))
  clear hg ha
  go_enter Tryz.func44, Tryz.ntmps44
  go_wp2_with ((with_reducible refine CL.mono ?_); rintro e w' ⟨rfl, hb⟩)
  go_ret
  exact ⟨rfl, below_to HB.out (Nat.le_refl _) (by assumption)⟩
end Go.Proofs.YtfhanbiifjiklaaGreatDoor

/- Walks of package tree: the sum of a list of digests. -/
set_option linter.unusedVariables false
set_option linter.unusedSimpArgs false
namespace Go.Proofs.YtfhanbiifjiklaaGreatDoor
open Go.RowKit

theorem TextsAt.slice {w : World} {v : Value} {ls : List (List UInt8)} (h : TextsAt w v ls) : ∃ A c, v = .slice A ls.length c ∧ ls.length ≤ c := by
  obtain ⟨A, c, h1, h2, _⟩ := h
  exact ⟨A, c, by rw [h1, List.length_map], by simpa using h2⟩
theorem TextsAt.at_ {w : World} {A : Option Addr} {n c : Nat} {ls : List (List UInt8)} (h : TextsAt w (.slice A n c) ls) {k : Nat} {x : List UInt8} (hx : ls[k]? = some x) : ∃ a, A = some a ∧ a.block < w.heap.size ∧ w.cell? (a.add k) = some (.string (bs x)) := by
  obtain ⟨a, c', h1, _, h3, _, h5⟩ := RowsAt.at_ h (k := k) (x := strV x) (by rw [List.getElem?_map, hx]; rfl)
  injection h1 with e1
  refine ⟨a, e1, h3, ?_⟩
  have := h5 0 _ rfl
  rwa [add_of_add, Nat.add_zero, Nat.mul_one] at this
theorem TextsAt.take {w : World} {A : Option Addr} {n c : Nat} {ls : List (List UInt8)} (h : TextsAt w (.slice A n c) ls) {k : Nat} (hk : k ≤ ls.length) (c' : Nat) (hc : k ≤ c') : TextsAt w (.slice A k c') (ls.take k) := by
  have := RowsAt.take h (k := k) (by simpa using hk) c' hc
  unfold TextsAt; rw [List.map_take]; exact this
theorem TextsAt.drop {w : World} {a : Addr} {n c : Nat} {ls : List (List UInt8)} (h : TextsAt w (.slice (some a) n c) ls) {k : Nat} (hk : k ≤ ls.length) (c' : Nat) (hc : ls.length - k ≤ c') : TextsAt w (.slice (some (a.add k)) (ls.length - k) c') (ls.drop k) := by
  have := RowsAt.drop h (k := k) (by simpa using hk) c' (by simpa using hc)
  unfold TextsAt; rw [List.map_drop]; simpa using this
theorem ent_sum : ∀ args w, (callFunc 114 args).run Tryz.prog w = .ok (.enter 114 args) w := enters_fn Tryz.func114 (by kernel_rfl) rfl
theorem isD_len {d : List UInt8} (h : isD d = true) : d.length = 16 := ((isD_iff d).1 h).1
theorem sumT_len {f : Nat} {l : List (List UInt8)} (h : ∀ x ∈ l, x.length ≤ 100000000000) : (sumT f l).length ≤ 100000000000 := by
  cases f with
  | zero => simp [sumT]
  | succ f =>
    by_cases h1 : l.length = 1
    · rw [sumT_one f h1]
      match l, h1 with
      | [x], _ => exact h x (by simp)
    · rw [sumT_two f h1]
      have := isD_len (listD_isD [nodeT, sumT f (l.take (halfN l.length)), sumT f (l.drop (halfN l.length))])
      unfold nodeD
      omega
def sumF (b : Nat) : Value := .func (.func 114) #[] #[.pointer (some ⟨b, 0, none⟩)]
def SumOk (f : Nat) (b : Nat) : Prop := ∀ (ls : List (List UInt8)) (v : Value) (w : World), TextsAt w v ls → 1 ≤ ls.length → ls.length ≤ f → ls.length ≤ 140737488355328 → (∀ x ∈ ls, x.length ≤ 100000000000) → Glob w → w.cell? ⟨b, 0, none⟩ = some (.func (.func 114) #[] #[.pointer (some ⟨b, 0, none⟩)]) →
  Calls Tryz.prog 114 #[v, .pointer (some ⟨b, 0, none⟩)] w fun e w' => e = .returned (.string (bs (sumT f ls))) ∧ Below w.heap.size w w'
set_option maxRecDepth 100000 in
set_option maxHeartbeats 4000000 in
theorem sum_step (f b : Nat) (ih : SumOk f b) : SumOk (f + 1) b := by
  intro ls v w hv h1 hf hn hx hg hb
  obtain ⟨A, c, rfl, hc⟩ := hv.slice
  have hE := ent_sum
  by_cases hl1 : ls.length = 1
  · obtain ⟨x, rfl⟩ : ∃ x, ls = [x] := by
      match ls, hl1 with
      | [x], _ => exact ⟨x, rfl⟩
    obtain ⟨a, rfl, ha, c0⟩ := hv.at_ (k := 0) (x := x) rfl
    have HV : Hid (sumT (f + 1) [x] = x) := sumT_one f rfl
    rw [show a.add 0 = a from rfl] at c0
    clear hv hx hg hb ih hE
    go_enter Tryz.func114, Tryz.ntmps114
    go_wp2_with fail
    go_ret
    exact ⟨by rw [HV.out]; rfl, Below.refl _ _⟩
  · have hh := half_lt (n := ls.length) (by omega)
    have HV : Hid (sumT (f + 1) ls = nodeD (sumT f (ls.take (halfN ls.length))) (sumT f (ls.drop (halfN ls.length)))) := sumT_two f hl1
    have CH := fun w => half_any ls.length hn w
    obtain ⟨x0, hx0⟩ : ∃ x, ls[0]? = some x := ⟨_, List.getElem?_eq_getElem (by omega)⟩
    obtain ⟨a, rfl, ha, _⟩ := hv.at_ hx0
    clear hx0
    obtain ⟨U, hU, g, u0, rfl, hgu, hi⟩ := cls w
    have e1 : ((ls.length : Int) == 1) = false := by rw [beq_eq_false_iff_ne]; omega
    have hbk := World.block_lt_of_cell? (g u0) _ hb
    have hbu : ∀ u, (g u).cell? ⟨b, 0, none⟩ = some (.func (.func 114) #[] #[.pointer (some ⟨b, 0, none⟩)]) := fun u => ((hgu u).cell (p := ⟨b, 0, none⟩) hbk).trans hb
    generalize hk : halfN ls.length = k at *
    have CS1 := cls_call hgu hi (fun w hw => ih (ls.take k) _ w ((hv.take (k := k) (by omega) c (by omega)).to hw) (by rw [List.length_take]; omega) (by rw [List.length_take]; omega) (by rw [List.length_take]; omega) (fun x h => hx x (List.mem_of_mem_take h)) (hg.to hw) ((hw.cell (p := ⟨b, 0, none⟩) hbk).trans hb))
    have CS2 := cls_call hgu hi (fun w hw => ih (ls.drop k) _ w ((hv.drop (k := k) (by omega) (c - k) (by omega)).to hw) (by rw [List.length_drop]; omega) (by rw [List.length_drop]; omega) (by rw [List.length_drop]; omega) (fun x h => hx x (List.mem_of_mem_drop h)) (hg.to hw) ((hw.cell (p := ⟨b, 0, none⟩) hbk).trans hb))
    have CN := cls_call hgu hi (fun w hw => node_any (sumT f (ls.take k)) (sumT f (ls.drop k)) (sumT_len (fun x h => hx x (List.mem_of_mem_take h))) (sumT_len (fun x h => hx x (List.mem_of_mem_drop h))) w (hg.to hw))
    have HGU := hide hgu
    have HHI := hide hi
    have k1 : (k : Int) ≤ (c : Int) := by omega
    have k0 : (0 : Int) ≤ (k : Int) := by omega
    have k2 : (k : Int) ≤ (ls.length : Int) := by omega
    have k3 : ((k : Int) == (c : Int)) = false := by rw [beq_eq_false_iff_ne]; omega
    have k4 : k ≠ c := by omega
    clear hgu hi hx hg hb hv ih
    go_enter Tryz.func114, Tryz.ntmps114
    go_wp2_with ((with_reducible refine (CH _).mono ?_); rintro e w' ⟨rfl, rfl⟩)
    refine wp_region_class g (by kernel_rfl) (by kernel_rfl) (HHI.out _ (HGU.out _).drew) ?_
    repeat (go_big_quiet_step (first | with_reducible exact CS1 _ | with_reducible exact CS2 _ | with_reducible exact CN _))
    refine wpQuiet_nil ?_
    intro w5 hw5
    obtain ⟨u, rfl⟩ := hw5
    go_wp2_with fail
    go_ret
    exact ⟨by rw [HV.out]; rfl, HGU.out _⟩
theorem sum_any (b : Nat) : ∀ f, SumOk f b
  | 0 => fun ls v w _ h1 h2 => by omega
  | f + 1 => sum_step f b (sum_any b f)
set_option maxRecDepth 100000 in
set_option maxHeartbeats 4000000 in
theorem total_any (ls : List (List UInt8)) (hn : ls.length ≤ 140737488355328) (hx : ∀ x ∈ ls, x.length ≤ 100000000000) (v : Value) (w : World) (hv : TextsAt w v ls) (hg : Glob w) :
    Calls Tryz.prog 84 #[v] w fun e w' => e = .returned (.string (bs (totalT ls))) ∧ Below w.heap.size w w' := by
  obtain ⟨A, c, rfl, hc⟩ := hv.slice
  have hE := ent_sum
  have HB := hide (below_one w (.cells #[.func (.func 114) #[] #[.pointer (some ⟨w.heap.size, 0, none⟩)]] 41))
  have HX := hide (Blk.new w 41 #[.func (.func 114) #[] #[.pointer (some ⟨w.heap.size, 0, none⟩)]])
  by_cases h0 : ls.length = 0
  · obtain rfl : ls = [] := List.eq_nil_of_length_eq_zero h0
    have CL := fun w (hg : Glob w) => List_any [emptyT] _ 9 _ (Blk.new w 9 #[.string ⟨#[101, 109, 112, 116, 121]⟩]) (by simp) (by decide +kernel) (hg.alloc _)
    have CL' := CL _ (hg.alloc (.cells #[.func (.func 114) #[] #[.pointer (some ⟨w.heap.size, 0, none⟩)]] 41))
    rw [show (w.alloc (.cells #[.func (.func 114) #[] #[.pointer (some ⟨w.heap.size, 0, none⟩)]] 41)).heap.size = w.heap.size + 1 by simp] at CL'
    have HB2 := hide (below_alloc HB.out (Nat.le_refl _) (.cells #[.string ⟨#[101, 109, 112, 116, 121]⟩] 9))
    clear hv hx hg CL
    go_enter Tryz.func84, Tryz.ntmps84
    go_wp2_with fail
    refine CL'.mono ?_
    rintro e w3 ⟨rfl, hb⟩
    have HB3 := hide (below_to HB2.out (Nat.le_refl _) hb)
    clear hb
    go_wp2_with fail
    go_ret
    exact ⟨rfl, HB3.out⟩
  · have HV : Hid (totalT ls = sumT ls.length ls) := by show _ = _; unfold totalT; rw [if_neg h0]
    have e1 : ((ls.length : Int) == 0) = false := by rw [beq_eq_false_iff_ne]; omega
    have CS := sum_any w.heap.size ls.length ls _ (w.alloc (.cells #[.func (.func 114) #[] #[.pointer (some ⟨w.heap.size, 0, none⟩)]] 41)) (hv.to HB.out) (by omega) (Nat.le_refl _) hn hx (hg.alloc _) (HX.out.cell 0)
    clear hv hx hg h0
    go_enter Tryz.func84, Tryz.ntmps84
    go_wp2_with fail
    refine CS.mono ?_
    rintro e w3 ⟨rfl, hb⟩
    have HB3 := hide (below_to HB.out (Nat.le_refl _) hb)
    clear hb
    go_wp2_with fail
    go_ret
    exact ⟨by rw [HV.out]; rfl, HB3.out⟩
end Go.Proofs.YtfhanbiifjiklaaGreatDoor

/- Walks of package tree: proper, Root. -/
set_option linter.unusedVariables false
set_option linter.unusedSimpArgs false
namespace Go.Proofs.YtfhanbiifjiklaaGreatDoor
open Go.RowKit

theorem drop_at' {α : Type} {l : List α} {k : Nat} {x : α} (h : l[k]? = some x) : l.drop k = x :: l.drop (k + 1) := by
  obtain ⟨hlt, e⟩ := List.getElem?_eq_some_iff.1 h
  rw [List.drop_eq_getElem_cons hlt, e]
def IdxR (b : Bool) (w : World) (e : Ending) (w' : World) : Prop := ∃ i : Int, e = .returned (.int .i64 i) ∧ decide (0 ≤ i) = b ∧ Below w.heap.size w w'
set_option maxRecDepth 100000 in
set_option maxHeartbeats 4000000 in
theorem IndexFunc_dig (K : FuncId) (hE : ∀ args w, (callFunc K args).run Tryz.prog w = .ok (.enter K args) w) (p : List UInt8 → Bool) (ls : List (List UInt8)) (hn : ls.length ≤ 140737488355328) (v : Value) (w : World) (hv : TextsAt w v ls)
    (hF : ∀ x ∈ ls, ∀ w', Below w.heap.size w w' → Calls Tryz.prog K #[.string (bs x)] w' fun e w'' => e = .returned (.bool (p x)) ∧ Below w'.heap.size w' w'') :
    Calls Tryz.prog 133 #[v, .func (.func K) #[] #[]] w (IdxR (ls.any p) w) := by
  obtain ⟨A, c, rfl, hc⟩ := hv.slice
  have HS := hide hv
  have HF := hide hF
  clear hv hF
  go_enter Tryz.func133, Tryz.ntmps133
  go_wp2_with fail
  go_loopw [5, 8] (fun _ i wr => ∃ k : Nat, i = .int .i64 (k : Int) ∧ k ≤ ls.length ∧ Aside (Below w.heap.size w wr) ∧ Aside (ls.any p = (ls.drop k).any p)) (fun _ i _ => ls.length - (intOf i).toNat)
  case atStart => exact ⟨0, rfl, by omega, Below.refl _ _, rfl⟩
  case round =>
    obtain ⟨k, rfl, hk, hB, hA⟩ := hrel
    have HB : Hid (Below w.heap.size w wr) := hB
    have HA : Hid (ls.any p = (ls.drop k).any p) := hA
    clear hB hA
    by_cases hlt : k < ls.length
    · have e1 : decide ((k : Int) < (ls.length : Int)) = true := decide_eq_true (by omega)
      obtain ⟨x, hx⟩ : ∃ x, ls[k]? = some x := ⟨_, List.getElem?_eq_getElem hlt⟩
      obtain ⟨a, rfl, ha, c0⟩ := (HS.out.to HB.out).at_ hx
      have CV := HF.out x (List.mem_of_getElem? hx) wr HB.out
      have HD := hide (drop_at' hx)
      clear hx
      cases hp : p x with
      | true =>
        rw [hp] at CV
        have HV : Hid (ls.any p = true) := by show _ = _; rw [HA.out, HD.out, List.any_cons, hp]; rfl
        clear hp
        go_wp2_with ((with_reducible refine CV.mono ?_); rintro e w4 ⟨rfl, hb4⟩)
        go_ret
        exact ⟨_, rfl, by rw [HV.out]; exact decide_eq_true (by omega), below_to HB.out (Nat.le_refl _) (by assumption)⟩
      | false =>
        rw [hp] at CV
        have HV : Hid (ls.any p = (ls.drop (k + 1)).any p) := by show _ = _; rw [HA.out, HD.out, List.any_cons, hp]; rfl
        clear hp
        go_wp2_with ((with_reducible refine CV.mono ?_); rintro e w4 ⟨rfl, hb4⟩)
        refine ⟨⟨k + 1, by go_num, by omega, below_to HB.out (Nat.le_refl _) (by assumption), HV.out⟩, ?_⟩
        simp [intOf]; omega
    · obtain rfl : k = ls.length := by omega
      have e1 : decide ((ls.length : Int) < (ls.length : Int)) = false := by simp
      have HV : Hid (ls.any p = false) := by show _ = _; rw [HA.out, List.drop_length]; rfl
      go_wp2_with fail
      go_ret
      exact ⟨-1, rfl, by rw [HV.out]; rfl, HB.out⟩
set_option maxHeartbeats 1000000 in
theorem ContainsFunc_dig (K : FuncId) (hE : ∀ args w, (callFunc K args).run Tryz.prog w = .ok (.enter K args) w) (p : List UInt8 → Bool) (ls : List (List UInt8)) (hn : ls.length ≤ 140737488355328) (v : Value) (w : World) (hv : TextsAt w v ls)
    (hF : ∀ x ∈ ls, ∀ w', Below w.heap.size w w' → Calls Tryz.prog K #[.string (bs x)] w' fun e w'' => e = .returned (.bool (p x)) ∧ Below w'.heap.size w' w'') :
    Calls Tryz.prog 112 #[v, .func (.func K) #[] #[]] w fun e w' => e = .returned (.bool (ls.any p)) ∧ Below w.heap.size w w' := by
  have CI := IndexFunc_dig K hE p ls hn v w hv hF
  clear hv hF
  go_enter Tryz.func112, Tryz.ntmps112
  go_wp2_with fail
  refine CI.mono ?_
  rintro e w2 ⟨i, rfl, hi, hb⟩
  have HI := hide hi
  have HB := hide hb
  clear hi hb
  go_wp2_with fail
  go_ret
  exact ⟨ret_bool HI.out, HB.out⟩
theorem ent_proper1 : ∀ args w, (callFunc 113 args).run Tryz.prog w = .ok (.enter 113 args) w := enters_fn Tryz.func113 (by kernel_rfl) rfl
set_option maxHeartbeats 1000000 in
theorem proper1_any (x : List UInt8) (hx : x.length ≤ 100000000000) (w : World) : Calls Tryz.prog 113 #[.string (bs x)] w fun e w' => e = .returned (.bool (!isD x)) ∧ Below w.heap.size w w' := by
  have CI := Is_any x (by omega) w
  go_enter Tryz.func113, Tryz.ntmps113
  go_wp2_with ((with_reducible refine CI.mono ?_); rintro e w' ⟨rfl, hb⟩)
  go_ret
  exact ⟨rfl, by assumption⟩
set_option maxHeartbeats 1000000 in
theorem tproper_any (ls : List (List UInt8)) (hn : ls.length ≤ 140737488355328) (hx : ∀ x ∈ ls, x.length ≤ 100000000000) (v : Value) (w : World) (hv : TextsAt w v ls) :
    Calls Tryz.prog 82 #[v] w fun e w' => e = .returned (.bool (properT ls)) ∧ Below w.heap.size w w' := by
  have CI := ContainsFunc_dig 113 ent_proper1 (fun x => !isD x) ls hn v w hv (fun x h w' _ => proper1_any x (hx x h) w')
  have HV : Hid (properT ls = !(ls.any fun x => !isD x)) := by show _ = _; unfold properT; rw [List.not_any_eq_all_not]; simp
  clear hv hx
  go_enter Tryz.func82, Tryz.ntmps82
  go_wp2_with ((with_reducible refine CI.mono ?_); rintro e w' ⟨rfl, hb⟩)
  go_ret
  exact ⟨ret_bool (by rw [HV.out]), by assumption⟩
set_option maxHeartbeats 2000000 in
theorem tRoot_any (ls : List (List UInt8)) (hn : ls.length ≤ 140737488355328) (hx : ∀ x ∈ ls, x.length ≤ 100000000000) (v : Value) (w : World) (hv : TextsAt w v ls) (hg : Glob w) :
    Calls Tryz.prog 45 #[v] w fun e w' => e = .returned (.tuple #[.string (bs (rootV ls)), .int .i64 (rootE ls)]) ∧ Below w.heap.size w w' := by
  have CP := tproper_any ls hn hx v w hv
  have CT := fun (w' : World) (hb : Below w.heap.size w w') => total_any ls hn hx v w' (hv.to hb) (hg.to hb)
  unfold rootV rootE
  clear hv hg hx
  cases hp : properT ls with
  | false =>
    rw [hp] at CP
    rw [if_neg (by simp), if_neg (by simp)]
    clear hp
    go_enter Tryz.func45, Tryz.ntmps45
    go_wp2_with ((with_reducible refine CP.mono ?_); rintro e w' ⟨rfl, hb⟩)
    go_ret2
    exact ⟨rfl, by assumption⟩
  | true =>
    rw [hp] at CP
    rw [if_pos rfl, if_pos rfl]
    clear hp
    go_enter Tryz.func45, Tryz.ntmps45
    go_wp2_with fail
    refine CP.mono ?_
    rintro e w2 ⟨rfl, hb⟩
    have HB := hide hb
    have CT' := CT _ hb
    clear hb CP CT
    go_wp2_with ((with_reducible refine CT'.mono ?_); rintro e w3 ⟨rfl, hb3⟩)
    go_ret2
    exact ⟨rfl, below_to HB.out (Nat.le_refl _) (by assumption)⟩
end Go.Proofs.YtfhanbiifjiklaaGreatDoor

/- Walks of slices.Clone and tree.Path. -/
set_option linter.unusedVariables false
set_option linter.unusedSimpArgs false
namespace Go.Proofs.YtfhanbiifjiklaaGreatDoor
open Go.RowKit

theorem own_to4 {w w' : World} {base : Nat} {e : TypeId} {size n : Nat} {v : Value} {xs : List Value} (h : w.ownsRow base e size v n xs) (hb : Below w.heap.size w w') : w'.ownsRow base e size v n xs :=
  h.kept (show w.grownBy w' none from ⟨hb.os, hb.tape, hb.output, hb.size, fun i hi _ => hb.block i hi⟩) (by cases v.ownBlock <;> simp)
theorem cells_new4 {W : World} {xs : List Value} {ty : TypeId} {b : Nat} (hb : b = W.heap.size) : ∀ (j : Nat) (u : Value), xs[j]? = some u → (W.alloc (.cells xs.toArray ty)).cell? ((⟨b, 0, none⟩ : Addr).add j) = some u := by
  subst hb
  intro j u hu
  rw [show (⟨W.heap.size, 0, none⟩ : Addr).add j = ⟨W.heap.size, j, none⟩ by unfold Addr.add; split <;> simp_all]
  refine ((Blk.new W ty xs.toArray).cell j).trans ?_
  simpa using hu
theorem TextsAt.none_nil {w : World} {n c : Nat} {ls : List (List UInt8)} (h : TextsAt w (.slice none n c) ls) : ls = [] := by
  cases ls with
  | nil => rfl
  | cons x r =>
    obtain ⟨a, h1, _⟩ := h.at_ (k := 0) (x := x) rfl
    cases h1
def flatS (ls : List (List UInt8)) : List Value := ls.map fun x => .string (bs x)
theorem flatS_eq : ∀ ls : List (List UInt8), (ls.map strV).flatten = flatS ls
  | [] => rfl
  | x :: l => by simp [flatS, strV, flatS_eq l]
theorem flatS_at {ls : List (List UInt8)} {j : Nat} {u : Value} (h : (flatS ls)[j]? = some u) : ∃ x, ls[j]? = some x ∧ u = .string (bs x) := by
  unfold flatS at h
  rw [List.getElem?_map, Option.map_eq_some_iff] at h
  obtain ⟨x, h1, h2⟩ := h
  exact ⟨x, h1, h2.symm⟩
theorem TextsAt.cells {w : World} {a : Addr} {n c : Nat} {ls : List (List UInt8)} (h : TextsAt w (.slice (some a) n c) ls) : ∀ (j : Nat) u, (flatS ls)[j]? = some u → w.cell? (a.add j) = some u := fun j u hu => by
  obtain ⟨x, hx, rfl⟩ := flatS_at hu
  obtain ⟨a', e, _, hc⟩ := h.at_ hx
  rw [Option.some.inj e]
  exact hc
theorem TextsAt.of_own {w : World} {B : Nat} {v : Value} {ls : List (List UInt8)} (h : w.ownsRow B 9 1 v ls.length (flatS ls)) : TextsAt w v ls := RowsAt.of_own (by simp [strV]) (by rw [List.length_map, flatS_eq]; exact h)
theorem flatS_len (ls : List (List UInt8)) : (flatS ls).length = ls.length := by simp [flatS]
def OwnT (w : World) (B : Nat) (v : Value) (ls : List (List UInt8)) : Prop := w.ownsRow B 9 1 v ls.length (flatS ls)
def CloneR (ls : List (List UInt8)) (w : World) (e : Ending) (w' : World) : Prop := ∃ v', e = .returned v' ∧ OwnT w' w.heap.size v' ls ∧ Below w.heap.size w w'
set_option maxRecDepth 100000 in
set_option maxHeartbeats 2000000 in
theorem Clone_any (ls : List (List UInt8)) (hl : ls.length ≤ 1000000000) (v : Value) (w : World) (hv : TextsAt w v ls) : Calls Tryz.prog 46 #[v] w (CloneR ls w) := by
  obtain ⟨A, c, rfl, hc⟩ := hv.slice
  have q22 : ∀ (w : World) (a : Option Addr) (n c n' c' : Nat), (binOp .eql 22 (.slice a n c) (.slice none n' c')).run Tryz.prog w = .ok (.bool a.isNone) w := fun w a n c n' c' => Lib.run_eql_slice_nil w _ _ a n c n' c' Tryz.underlying22
  cases A with
  | none =>
    have HL := hide hv.none_nil
    clear hv
    go_enter Tryz.func46, Tryz.ntmps46
    go_wp2_with fail
    go_ret
    exact ⟨_, rfl, by rw [HL.out]; exact World.ownsRow_nil _ _ _ _, Below.refl _ _⟩
  | some a =>
    obtain ⟨i0, hi0, hz0, hz1, hz2⟩ := info_parts (show (Tryz.prog.info? 9).map (fun i => (i.zero, i.size, i.bytes)) = some (some (.string ⟨#[]⟩), 1, 16) by kernel_rfl)
    have HE := hide (below_one w (.cells #[] 9))
    have o0 : Hid (World.ownsRow (w.alloc (.cells #[] 9)) w.heap.size 9 1 (.slice (some ⟨w.heap.size, 0, none⟩) 0 0) 0 []) := ⟨rfl, .inr ⟨w.heap.size, 0, #[], rfl, Nat.le_refl _, heap_alloc_new w _, Nat.le_refl _, by omega, rfl, rfl⟩⟩
    have hcell := hide (hv.to HE.out).cells
    have HFL := hide (show (flatS ls).length = ls.length * 1 by rw [flatS_len, Nat.mul_one])
    clear hv
    go_enter Tryz.func46, Tryz.ntmps46
    go_wp2_with (at_builtin; refine wpList_append_own _ rfl (.tmp 5) (.tmp 6) _ rfl w.heap.size 9 i0 (.string ⟨#[]⟩) 1 16 Tryz.underlying22 hi0 hz0 hz1 hz2 rfl (by omega) _ 0 [] rfl o0.out a ls.length c (flatS ls) rfl HFL.out hcell.out ?c2 ?c4 ?c5 ?c3 ?_)
    case c2 =>
      intro u hu
      obtain ⟨x, _, rfl⟩ := List.mem_map.1 hu
      rfl
    case c4 => simp only [maxLen]; omega
    case c5 => omega
    case c3 => exact HE.out.size
    intro v' w6 hown6 hgr6 _
    have HB : Hid (Below w.heap.size w w6) := HE.out.grown hgr6 HE.out.size (fun b hb => (o0.out.lt b hb).1)
    have HO : Hid (OwnT w6 w.heap.size v' ls) := by
      show World.ownsRow _ _ _ _ _ _ _
      simpa using hown6
    clear hown6 hgr6
    go_wp2_with fail
    go_ret
    exact ⟨v', rfl, HO.out, HB.out⟩
end Go.Proofs.YtfhanbiifjiklaaGreatDoor

/- Walks of package tree: Path. -/
set_option linter.unusedVariables false
set_option linter.unusedSimpArgs false
namespace Go.Proofs.YtfhanbiifjiklaaGreatDoor
open Go.RowKit

def lenOf : Value → Nat
  | .slice _ n _ => n
  | _ => 0
theorem TextsAt.cap {w : World} {A : Option Addr} {n c : Nat} {ls : List (List UInt8)} (h : TextsAt w (.slice A n c) ls) : ls.length ≤ c := by
  obtain ⟨A', c', h1, h2, _⟩ := h
  injection h1 with _ _ h3
  subst h3
  simpa using h2
theorem pathF_one {f : Nat} {l : List (List UInt8)} {i : Nat} (h : l.length ≤ 1) : pathF f l i = [] := by
  cases f with
  | zero => rfl
  | succ f => unfold pathF; rw [if_pos h]
theorem pathF_lt {f : Nat} {l : List (List UInt8)} {i : Nat} (h : 2 ≤ l.length) (hi : i < halfN l.length) : pathF (f + 1) l i = totalT (l.drop (halfN l.length)) :: pathF f (l.take (halfN l.length)) i := by
  conv => lhs; unfold pathF
  rw [if_neg (by omega), if_pos hi]
theorem pathF_ge {f : Nat} {l : List (List UInt8)} {i : Nat} (h : 2 ≤ l.length) (hi : ¬ i < halfN l.length) : pathF (f + 1) l i = totalT (l.take (halfN l.length)) :: pathF f (l.drop (halfN l.length)) (i - halfN l.length) := by
  conv => lhs; unfold pathF
  rw [if_neg (by omega), if_neg hi]
theorem own_sl4 {w : World} {B : Nat} {e : TypeId} {s n : Nat} {v : Value} {xs : List Value} (h : w.ownsRow B e s v n xs) : ∃ A c, v = .slice A n c := by
  obtain ⟨_, h⟩ := h
  rcases h with ⟨hv, h0⟩ | ⟨g, cap, cur, hv, _⟩
  · exact ⟨none, 0, by rw [hv, h0]⟩
  · exact ⟨_, _, hv⟩
theorem own_blk4 {w : World} {B : Nat} {A : Option Addr} {n c : Nat} {xs : List Value} {e : TypeId} {s : Nat} (h : w.ownsRow B e s (.slice A n c) n xs) (hn : 0 < n) : ∃ g, A = some ⟨g, 0, none⟩ ∧ B ≤ g ∧ ∃ cur, Blk w g e cur ∧ n * s ≤ cur.size ∧ cur.toList.take (n * s) = xs := by
  obtain ⟨_, h⟩ := h
  rcases h with ⟨_, h0⟩ | ⟨g, cap, cur, hv, hB, hg, h1, h2, h3, h4⟩
  · omega
  · injection hv with e1 e2 e3
    exact ⟨g, e1, hB, cur, hg, by rw [h3]; exact Nat.mul_le_mul_right _ h1, h4⟩
theorem own_cell4 {w : World} {B g n c : Nat} {acc : List (List UInt8)} (h : OwnT w B (.slice (some ⟨g, 0, none⟩) n c) acc) {j : Nat} {x : List UInt8} (hx : acc[j]? = some x) : w.cell? ⟨g, j, none⟩ = some (.string (bs x)) := by
  obtain ⟨a, e, _, hc⟩ := (TextsAt.of_own h).at_ hx
  obtain rfl := Option.some.inj e
  rwa [show (⟨g, 0, none⟩ : Addr).add j = ⟨g, j, none⟩ by unfold Addr.add; split <;> simp_all] at hc
theorem below_setCells {B g : Nat} {w : World} (hg : B ≤ g) (q o : Nat) (vs : List Value) : Below B w ((w.drewN q).setCells g o vs) := by
  have : ∀ (vs : List Value) (o : Nat) (w' : World), Below B w w' → Below B w (w'.setCells g o vs) := by
    intro vs
    induction vs with
    | nil => intro o w' h; exact h
    | cons u r ih => intro o w' h; exact ih _ _ (h.setCell (p := ⟨g, o, none⟩) hg u)
  exact this vs o _ (below_drewN (Below.refl _ _) q)
theorem rev_texts {w : World} {B g n c : Nat} {acc : List (List UInt8)} (h : OwnT w B (.slice (some ⟨g, 0, none⟩) n c) acc) (q : Nat) : TextsAt ((w.drewN q).setCells g 0 ((Lib.strsOf (fun j => bs (acc.getD j [])) acc.length).reverse.map encStr)) (.slice (some ⟨g, 0, none⟩) n c) acc.reverse := by
  have hs : Lib.strsOf (fun j => bs (acc.getD j [])) acc.length = acc := by
    unfold Lib.strsOf
    apply List.ext_getElem
    · simp
    · intro i h1 h2
      simp [List.getD_eq_getElem?_getD, List.getElem?_eq_getElem h2, bs]
  have hm : (Lib.strsOf (fun j => bs (acc.getD j [])) acc.length).reverse.map encStr = flatS acc.reverse := by
    rw [hs]
    rfl
  rw [hm]
  have hn : n = acc.length := by
    obtain ⟨_, h⟩ := h
    rcases h with ⟨h0, _⟩ | ⟨g', cap, cur, hv, _⟩
    · cases h0
    · injection hv
  obtain ⟨A, c', h1, hcap, _, _⟩ := TextsAt.of_own h
  injection h1 with _ _ h1c
  subst h1c
  have hold : ∀ j, j < (flatS acc.reverse).length → ((w.drewN q).cell? ⟨g, 0 + j, none⟩).isSome = true := fun j hj => by
    rw [flatS_len, List.length_reverse] at hj
    rw [Nat.zero_add]
    have := own_cell4 h (List.getElem?_eq_getElem hj)
    rw [World.cell?_drewN, this]
    rfl
  refine ⟨some ⟨g, 0, none⟩, c, by rw [List.length_map, List.length_reverse, hn], by rw [List.length_map, List.length_reverse]; simpa using hcap, by simp [strV], fun k x hx => ?_⟩
  rw [List.getElem?_map, Option.map_eq_some_iff] at hx
  obtain ⟨y, hy, rfl⟩ := hx
  have hk : k < acc.reverse.length := (List.getElem?_eq_some_iff.1 hy).1
  have hk' : k < (flatS acc.reverse).length := by rw [flatS_len]; exact hk
  have hc := World.cell?_setCells_in g (flatS acc.reverse) 0 (w.drewN q) hold k hk'
  rw [Nat.zero_add] at hc
  have he : (flatS acc.reverse)[k] = .string (bs y) := by
    have h5 : (flatS acc.reverse)[k]? = some (.string (bs y)) := by unfold flatS; rw [List.getElem?_map, hy]; rfl
    rw [List.getElem?_eq_getElem hk'] at h5
    exact Option.some.inj h5
  rw [he] at hc
  have hlt : g < ((w.drewN q).setCells g 0 (flatS acc.reverse)).heap.size := World.block_lt_of_cell? _ ⟨g, k, none⟩ hc
  refine ⟨⟨g, 0, none⟩, rfl, hlt, fun j u hu => ?_⟩
  have hj : j = 0 := by
    rcases Nat.eq_zero_or_pos j with hz | hz
    · exact hz
    · rw [List.getElem?_eq_none (by simp only [strV, List.length_cons, List.length_nil]; omega)] at hu; cases hu
  subst hj
  simp only [strV, List.getElem?_cons_zero, Option.some.injEq] at hu
  subst hu
  rw [show ((⟨g, 0, none⟩ : Addr).add (k * 1)).add 0 = ⟨g, k, none⟩ by rw [add_of_add, Nat.add_zero, Nat.mul_one]; unfold Addr.add; split <;> simp_all]
  exact hc
theorem flatS_snoc (l : List (List UInt8)) (x : List UInt8) : flatS (l ++ [x]) = flatS l ++ [.string (bs x)] := by simp [flatS]
structure PaI (ls : List (List UInt8)) (i : Nat) (w : World) (t0 t6 : Value) (ik : Nat) (wr : World) (lk : List (List UInt8)) (f : Nat) (acc : List (List UInt8)) : Prop where
  at_ : TextsAt w t0 lk
  fit : ∀ x ∈ lk, x.length ≤ 100000000000
  path : acc ++ pathF f lk ik = pathF ls.length ls i
  own : OwnT wr w.heap.size t6 acc
  below : Below w.heap.size w wr
def PathR (ls : List (List UInt8)) (i : Nat) (w : World) (e : Ending) (w' : World) : Prop := ∃ v', e = .returned (.tuple #[v', .int .i64 0]) ∧ TextsAt w' v' (pathV ls i) ∧ Below w.heap.size w w'
/-- .. and the path lies in an array of its own -/
def PathO (ls : List (List UInt8)) (i : Nat) (w : World) (e : Ending) (w' : World) : Prop := ∃ v', e = .returned (.tuple #[v', .int .i64 0]) ∧ TextsAt w' v' (pathV ls i) ∧ Below w.heap.size w w' ∧ ∀ g, v'.ownBlock = some g → w.heap.size ≤ g ∧ g < w'.heap.size
set_option maxRecDepth 100000 in
set_option maxHeartbeats 600000 in
theorem Path_own (ls : List (List UInt8)) (hl : ls.length ≤ 1000000000) (hp : properT ls = true) (hx : ∀ x ∈ ls, x.length ≤ 100000000000) (i : Nat) (hi : i < ls.length) (v : Value) (w : World) (hv : TextsAt w v ls) (hg : Glob w) :
    Calls Tryz.prog 47 #[v, .int .i64 (i : Int)] w (PathO ls i w) := by
  have CP := tproper_any ls (by omega) hx v w hv
  rw [hp] at CP
  obtain ⟨i0, hi0, hz0, hz1, hz2⟩ := info_parts (show (Tryz.prog.info? 9).map (fun i => (i.zero, i.size, i.bytes)) = some (some (.string ⟨#[]⟩), 1, 16) by kernel_rfl)
  have HS0 := hide hv
  have HX0 := hide hx
  have HG := hide hg
  obtain ⟨A0, c0, rfl, _⟩ := hv.slice
  have q0 : decide ((i : Int) < 0) = false := decide_eq_false (by omega)
  have q1 : decide (ls.length ≤ i) = false := decide_eq_false (by omega)
  have q2 : ¬ ls.length ≤ i := by omega
  clear hv hx hg hp
  go_enter Tryz.func47, Tryz.ntmps47
  go_wp2_with fail
  refine CP.mono ?_
  rintro e w1 ⟨rfl, hb⟩
  have HB1 := hide hb
  have HS1 := hide (HS0.out.to hb)
  clear hb CP HS0
  go_wp2_with fail
  go_loopw [0, 1, 6, 7] (fun t0 t1 t6 _ wr => ∃ (lk : List (List UInt8)) (ik f : Nat) (acc : List (List UInt8)), t1 = .int .i64 (ik : Int) ∧ (∃ A c, t0 = .slice A lk.length c) ∧ (ik < lk.length ∧ lk.length ≤ ls.length ∧ lk.length ≤ f ∧ acc.length + lk.length ≤ ls.length) ∧ Aside (PaI ls i w1 t0 t6 ik wr lk f acc)) (fun t0 _ _ _ _ => lenOf t0)
  case atStart => exact ⟨ls, i, ls.length, [], rfl, ⟨_, _, rfl⟩, ⟨hi, Nat.le_refl _, Nat.le_refl _, by simp⟩, ⟨HS1.out, HX0.out, rfl, World.ownsRow_nil _ _ _ _, Below.refl _ _⟩⟩
  case round =>
    obtain ⟨lk, ik, f, acc, rfl, ⟨A, c, rfl⟩, ⟨h1, h2, h3, h4⟩, hI⟩ := hrel
    have HI : Hid (PaI ls i w1 (.slice A lk.length c) _ ik wr lk f acc) := hI
    clear hI
    by_cases hlt : 2 ≤ lk.length
    · have e1 : decide ((1 : Int) < (lk.length : Int)) = true := decide_eq_true (by omega)
      obtain ⟨f', rfl⟩ : ∃ f', f = f' + 1 := ⟨f - 1, by omega⟩
      have hh := half_lt hlt
      have CH := fun w => half_any lk.length (by omega) w
      obtain ⟨x0, hx0⟩ : ∃ x, lk[0]? = some x := ⟨_, List.getElem?_eq_getElem (by omega)⟩
      obtain ⟨a, rfl, ha, _⟩ := HI.out.at_.at_ hx0
      have hcap := HI.out.at_.cap
      have HPL := fun h : ik < halfN lk.length => pathF_lt (f := f') hlt h
      have HPG := fun h : ¬ ik < halfN lk.length => pathF_ge (f := f') hlt h
      clear hx0
      generalize hk : halfN lk.length = k at *
      clear hk
      have CT1 := total_any (lk.drop k) (by rw [List.length_drop]; omega) (fun x h => HI.out.fit x (List.mem_of_mem_drop h)) _ wr ((HI.out.at_.drop (k := k) (by omega) (c - k) (by omega)).to HI.out.below) (HG.out.to HB1.out |>.to HI.out.below)
      have CT2 := total_any (lk.take k) (by rw [List.length_take]; omega) (fun x h => HI.out.fit x (List.mem_of_mem_take h)) _ wr ((HI.out.at_.take (k := k) (by omega) c (by omega)).to HI.out.below) (HG.out.to HB1.out |>.to HI.out.below)
      have k1 : (k : Int) ≤ (c : Int) := by omega
      have k0 : (0 : Int) ≤ (k : Int) := by omega
      have k2 : (k : Int) ≤ (lk.length : Int) := by omega
      have k3 : ((k : Int) == (c : Int)) = false := by rw [beq_eq_false_iff_ne]; omega
      have k4 : k ≠ c := by omega
      have k5 : k ≤ lk.length := by omega
      have k6 : k ≤ c := by omega
      by_cases hik : ik < k
      · have e2 : decide ((ik : Int) < (k : Int)) = true := decide_eq_true (by omega)
        have HP := hide (HPL hik)
        clear HPL HPG CT2
        generalize totalT (lk.drop k) = d at *
        go_wp2_with ((with_reducible refine (CH _).mono ?_); rintro e w' ⟨rfl, rfl⟩)
        refine CT1.mono ?_
        rintro e w4 ⟨rfl, hb4⟩
        have HB4 := hide (below_to HI.out.below (Nat.le_refl _) hb4)
        have HO4 := hide (own_to4 HI.out.own hb4)
        have HSZ : Hid (w1.heap.size ≤ w4.heap.size) := HB4.out.size
        have HACC : acc.length ≤ 1000000000 := by omega
        clear hb4 CT1
        go_wp2_with (at_builtin; refine wpList_append_own _ rfl (.tmp 30) (.tmp 35) _ rfl w1.heap.size 9 i0 (.string ⟨#[]⟩) 1 16 Tryz.underlying22 hi0 hz0 hz1 hz2 rfl (by omega) _ acc.length (flatS acc) rfl ?c0 ⟨_, 0, none⟩ 1 1 [.string (bs d)] rfl rfl ?c1 ?c2 ?c4 ?c5 ?c3 ?_)
        case c0 => exact own_to4 HO4.out (below_one _ _)
        case c1 => exact cells_new4 (xs := [.string (bs d)]) (by simp)
        case c2 => intro u hu; simp only [List.mem_cons, List.not_mem_nil, or_false] at hu; rcases hu with rfl; rfl
        case c4 => simp only [maxLen]; omega
        case c5 => omega
        case c3 => have := HSZ.out; simp; omega
        intro v' w6 hown6 hgr6 _
        have HB6 := hide ((below_alloc HB4.out (Nat.le_refl _) _).grown hgr6 (by have := HSZ.out; simp; omega) (fun b hb => (HO4.out.lt b hb).1))
        have HO6 : Hid (OwnT w6 w1.heap.size v' (acc ++ [d])) := by
          show World.ownsRow _ _ _ _ _ _ _
          rw [flatS_snoc, List.length_append]
          exact hown6
        have HS6 : Hid (TextsAt w1 (.slice (some a) k c) (lk.take k)) := HI.out.at_.take k5 c k6
        clear hown6 hgr6
        go_wp2_with fail
        refine ⟨⟨lk.take k, ik, f', acc ++ [d], rfl, ⟨_, _, by rw [List.length_take, Nat.min_eq_left k5]⟩, ⟨by rw [List.length_take]; omega, by rw [List.length_take]; omega, by rw [List.length_take]; omega, by rw [List.length_append, List.length_take, List.length_cons, List.length_nil]; omega⟩, ⟨HS6.out, fun x h => HI.out.fit x (List.mem_of_mem_take h), by rw [List.append_assoc, List.singleton_append, ← HP.out]; exact HI.out.path, HO6.out, HB6.out⟩⟩, ?_⟩
        show k < lk.length
        omega
      · have e2 : decide ((ik : Int) < (k : Int)) = false := decide_eq_false (by omega)
        have HP := hide (HPG hik)
        clear HPL HPG CT1
        generalize totalT (lk.take k) = d at *
        go_wp2_with ((with_reducible refine (CH _).mono ?_); rintro e w' ⟨rfl, rfl⟩)
        refine CT2.mono ?_
        rintro e w4 ⟨rfl, hb4⟩
        have HB4 := hide (below_to HI.out.below (Nat.le_refl _) hb4)
        have HO4 := hide (own_to4 HI.out.own hb4)
        have HSZ : Hid (w1.heap.size ≤ w4.heap.size) := HB4.out.size
        have HACC : acc.length ≤ 1000000000 := by omega
        clear hb4 CT2
        go_wp2_with (at_builtin; refine wpList_append_own _ rfl (.tmp 40) (.tmp 45) _ rfl w1.heap.size 9 i0 (.string ⟨#[]⟩) 1 16 Tryz.underlying22 hi0 hz0 hz1 hz2 rfl (by omega) _ acc.length (flatS acc) rfl ?c0 ⟨_, 0, none⟩ 1 1 [.string (bs d)] rfl rfl ?c1 ?c2 ?c4 ?c5 ?c3 ?_)
        case c0 => exact own_to4 HO4.out (below_one _ _)
        case c1 => exact cells_new4 (xs := [.string (bs d)]) (by simp)
        case c2 => intro u hu; simp only [List.mem_cons, List.not_mem_nil, or_false] at hu; rcases hu with rfl; rfl
        case c4 => simp only [maxLen]; omega
        case c5 => omega
        case c3 => have := HSZ.out; simp; omega
        intro v' w6 hown6 hgr6 _
        have HB6 := hide ((below_alloc HB4.out (Nat.le_refl _) _).grown hgr6 (by have := HSZ.out; simp; omega) (fun b hb => (HO4.out.lt b hb).1))
        have HO6 : Hid (OwnT w6 w1.heap.size v' (acc ++ [d])) := by
          show World.ownsRow _ _ _ _ _ _ _
          rw [flatS_snoc, List.length_append]
          exact hown6
        have HS6 : Hid (TextsAt w1 (.slice (some (a.add k)) (lk.length - k) (c - k)) (lk.drop k)) := HI.out.at_.drop k5 (c - k) (by omega)
        clear hown6 hgr6
        go_wp2_with fail
        refine ⟨⟨lk.drop k, ik - k, f', acc ++ [d], by rw [show ((ik - k : Nat) : Int) = (ik : Int) - (k : Int) by omega], ⟨_, _, by rw [List.length_drop]⟩, ⟨by rw [List.length_drop]; omega, by rw [List.length_drop]; omega, by rw [List.length_drop]; omega, by rw [List.length_append, List.length_drop, List.length_cons, List.length_nil]; omega⟩, ⟨HS6.out, fun x h => HI.out.fit x (List.mem_of_mem_drop h), by rw [List.append_assoc, List.singleton_append, ← HP.out]; exact HI.out.path, HO6.out, HB6.out⟩⟩, ?_⟩
        show lk.length - k < lk.length
        omega
    · have e1 : decide ((1 : Int) < (lk.length : Int)) = false := decide_eq_false (by omega)
      have HPN : Hid (acc = pathF ls.length ls i) := by
        have := HI.out.path
        rw [pathF_one (by omega), List.append_nil] at this
        exact this
      have HO := hide HI.out.own
      obtain ⟨A2, c2, rfl⟩ := own_sl4 HI.out.own
      go_wp2_with fail
      cases hacc : acc with
      | nil =>
        rw [hacc] at HO HPN
        have CR : Calls Tryz.prog 85 #[.slice A2 ([] : List (List UInt8)).length c2] wr fun e w' => e = .returned (.tuple #[]) ∧ w' = wr := Tryz.slices_Reverse_string_empty A2 c2 wr
        refine CR.mono ?_
        rintro e w8 ⟨rfl, rfl⟩
        go_wp2_with fail
        go_ret2
        exact ⟨_, rfl, TextsAt.of_own (B := w1.heap.size) (by unfold pathV; rw [← HPN.out]; exact HO.out), below_to HB1.out (Nat.le_refl _) HI.out.below, fun g e => ⟨Nat.le_trans HB1.out.size (HO.out.lt g e).1, (HO.out.lt g e).2⟩⟩
      | cons x r =>
        rw [← hacc]
        have hne : 0 < acc.length := by rw [hacc]; simp
        clear hacc
        obtain ⟨g, rfl, hgB, cur, hblk, hcap2, htake⟩ := own_blk4 HO.out hne
        have hal : acc.length ≤ 1000000000 := by omega
        have CR := Tryz.slices_Reverse_string_cells g 0 acc.length c2 (fun j => bs (acc.getD j [])) wr (by omega) (fun j hj => by
          rw [Nat.zero_add]
          exact own_cell4 HO.out (by rw [List.getD_eq_getElem?_getD, List.getElem?_eq_getElem hj]; rfl)) (fun j hj => hblk.frozen _)
        refine CR.mono ?_
        rintro e w8 ⟨rfl, q, rfl⟩
        have HRV := hide (rev_texts HO.out q)
        have HBR : Hid (Below w1.heap.size wr ((wr.drewN q).setCells g 0 ((Lib.strsOf (fun j => bs (acc.getD j [])) acc.length).reverse.map encStr))) := below_setCells hgB _ _ _
        clear CR
        generalize (wr.drewN q).setCells g 0 ((Lib.strsOf (fun j => bs (acc.getD j [])) acc.length).reverse.map encStr) = w9 at *
        go_wp2_with fail
        go_ret2
        exact ⟨_, rfl, by unfold pathV; rw [← HPN.out]; exact HRV.out, below_to HB1.out (Nat.le_refl _) (HI.out.below.trans HBR.out), fun g' e => by cases e; exact ⟨Nat.le_trans HB1.out.size hgB, Nat.lt_of_lt_of_le hblk.lt HBR.out.size⟩⟩
theorem Path_any (ls : List (List UInt8)) (hl : ls.length ≤ 1000000000) (hp : properT ls = true) (hx : ∀ x ∈ ls, x.length ≤ 100000000000) (i : Nat) (hi : i < ls.length) (v : Value) (w : World) (hv : TextsAt w v ls) (hg : Glob w) :
    Calls Tryz.prog 47 #[v, .int .i64 (i : Int)] w (PathR ls i w) :=
  (Path_own ls hl hp hx i hi v w hv hg).mono fun e w' ⟨v', h1, h2, h3, _⟩ => ⟨v', h1, h2, h3⟩
end Go.Proofs.YtfhanbiifjiklaaGreatDoor

/- Worlds that differ at one block; rows under a store elsewhere. -/
set_option linter.unusedVariables false
set_option linter.unusedSimpArgs false
namespace Go.Proofs.YtfhanbiifjiklaaGreatDoor
open Go.RowKit

theorem RowsAt.store {w : World} {size : Nat} {A : Option Addr} {n c : Nat} {ls : List (List Value)} (h : RowsAt w size (.slice A n c) ls) {p : Addr} (hp : ∀ a, A = some a → a.block ≠ p.block) (u : Value) : RowsAt (w.setCell p u) size (.slice A n c) ls := by
  obtain ⟨A', c', h1, h2, h3, h4⟩ := h
  have e := h1
  injection e with e1 e2 e3
  subst e1
  refine ⟨A, c', h1, h2, h3, fun k x hx => ?_⟩
  obtain ⟨a, ha, hl, hc⟩ := h4 k x hx
  refine ⟨a, ha, by simpa [World.setCell] using hl, fun j v hv => ?_⟩
  rw [World.cell?_setCell_other _ _ _ _ (fun h => hp a ha (by rw [h, block_of_add, block_of_add]))]
  exact hc j v hv
/-- all is as it was but for the blocks p and q -/
structure Two (p q : Nat) (w w' : World) : Prop where
  os : w'.os = w.os
  tape : w'.tape = w.tape
  output : w'.output = w.output
  size : w.heap.size ≤ w'.heap.size
  block : ∀ k, k < w.heap.size → k ≠ p → k ≠ q → w'.heap[k]? = w.heap[k]?
section
variable {p q : Nat} {a w w' : World}
theorem Two.refl (p q : Nat) (w : World) : Two p q w w := ⟨rfl, rfl, rfl, Nat.le_refl _, fun _ _ _ _ => rfl⟩
theorem Two.trans {b c : World} (h : Two p q a b) (k : Two p q b c) : Two p q a c := ⟨k.os.trans h.os, k.tape.trans h.tape, k.output.trans h.output, Nat.le_trans h.size k.size, fun i hi h1 h2 => (k.block i (Nat.lt_of_lt_of_le hi h.size) h1 h2).trans (h.block i hi h1 h2)⟩
theorem Two.of (h : Below w.heap.size w w') : Two p q w w' := ⟨h.os, h.tape, h.output, h.size, fun k hk _ _ => h.block k hk⟩
theorem Two.to {w2 : World} (h : Two p q w w') (h' : Below w'.heap.size w' w2) : Two p q w w2 := h.trans (Two.of h')
theorem Two.set1 (h : Two p q a w) (i : Nat) (u : Value) : Two p q a (w.setCell ⟨p, i, none⟩ u) := h.trans ⟨rfl, rfl, rfl, by simp [World.setCell], fun k hk h1 _ => Below.heap_setCell _ _ _ _ h1⟩
theorem Two.set2 (h : Two p q a w) (i : Nat) (u : Value) : Two p q a (w.setCell ⟨q, i, none⟩ u) := h.trans ⟨rfl, rfl, rfl, by simp [World.setCell], fun k hk _ h2 => Below.heap_setCell _ _ _ _ h2⟩
theorem Two.drewN (h : Two p q a w) (n : Nat) : Two p q a (w.drewN n) := ⟨h.os, h.tape, h.output, h.size, h.block⟩
theorem Two.blk {g : Nat} {t : TypeId} {cs : Array Value} (H : Blk w g t cs) (hb : Two p q w w') (h1 : g ≠ p) (h2 : g ≠ q) : Blk w' g t cs := (hb.block g H.lt h1 h2).trans H
theorem Two.further (h : Two p q a w) (hb : Below a.heap.size w w') : Two p q a w' := ⟨hb.os.trans h.os, hb.tape.trans h.tape, hb.output.trans h.output, Nat.le_trans h.size hb.size, fun k hk h1 h2 => (hb.block k hk).trans (h.block k hk h1 h2)⟩
theorem Two.below {B : Nat} (h : Two p q w w') (hB : B ≤ w.heap.size) (h1 : B ≤ p) (h2 : B ≤ q) : Below B w w' := ⟨h.os, h.tape, h.output, h.size, fun k hk => h.block k (by omega) (by omega) (by omega)⟩
end
end Go.Proofs.YtfhanbiifjiklaaGreatDoor

/- append to a row that is one's own: the elder value still reads as before; worlds that differ at two blocks. -/
set_option linter.unusedVariables false
set_option linter.unusedSimpArgs false
namespace Go.Proofs.YtfhanbiifjiklaaGreatDoor
open Go Go.RowKit

section
variable {P : Program} (w : World)
theorem run_append_keep (base : Nat) (t ty e : TypeId) (i : TypeInfo) (z : Value) (size bytes : Nat) (ht : P.underlying t = some (.slice e)) (hi : P.info? e = some i) (hz : i.zero = some z)
    (hsize : i.size = size) (hby : i.bytes = bytes) (hzs : z.cells.size = size) (hsz : 0 < size)
    (v : Value) (n : Nat) (xs : List Value) (hown : w.ownsRow base e size v n xs)
    (a : Addr) (m c : Nat) (news : List Value) (hl : news.length = m * size) (hnews : ∀ j u, news[j]? = some u → w.cell? (a.add j) = some u) (h1 : ∀ u ∈ news, u.oneCell' = true)
    (h63 : n + m ≤ maxLen) (hbytes : (n + m) * bytes ≤ 140737488355328) (hbase : base ≤ w.heap.size) :
    ∃ v' w', (Builtin.append_ #[t, t] ty #[v, .slice (some a) m c]).run P w = .ok v' w' ∧ w'.ownsRow base e size v' (n + m) (xs ++ news) ∧ w.grownBy w' v.ownBlock ∧
      w'.ownsRow base e size v n xs ∧ (v'.ownBlock = v.ownBlock ∨ ∃ g, v'.ownBlock = some g ∧ w.heap.size ≤ g) := by
  rcases hown.2 with ⟨rfl, rfl⟩ | ⟨g, cap, cur, rfl, hbg, hg, hnc, hcm, hcs, htake⟩
  · obtain ⟨v', w', h2, h3, h4, _, h5⟩ := run_append_own_at (P := P) w base t ty e i z size bytes ht hi hz hsize hby hzs hsz _ _ xs hown a m c news hl hnews h1 h63 hbytes hbase
    have hx : xs = [] := List.eq_nil_of_length_eq_zero (by simpa using hown.1)
    subst hx
    exact ⟨v', w', h2, h3, h4, World.ownsRow_nil _ _ _ _, h5.imp id fun h => ⟨_, h, Nat.le_refl _⟩⟩
  · by_cases hroom : n + m ≤ cap
    · subst hsize
      have hlen : (xs ++ news).length = (n + m) * i.size := by rw [List.length_append, hown.1, hl, Nat.add_mul]
      have hfit : n * i.size + news.length ≤ cur.size := by rw [hl, hcs, ← Nat.add_mul]; exact Nat.mul_le_mul_right _ hroom
      have hr := run_append_room (P := P) w t ty e i ht hi g n cap cur hg a m c news hl hnews h1 hroom hfit
      have hsz2 : (cur.toList.take (n * i.size) ++ news ++ cur.toList.drop (n * i.size + news.length)).toArray.size = cap * i.size := by
        simp only [List.size_toArray, List.length_append, List.length_take, List.length_drop, Array.length_toList]
        omega
      refine ⟨_, _, hr, ⟨hlen, .inr ⟨g, cap, _, rfl, hbg, setRow_heap w g cur _ e _ hg, hroom, hcm, hsz2, ?_⟩⟩, ⟨rfl, rfl, rfl, by simp, fun k _ hk => setRow_other w g k _ (fun e => hk (by simp [Value.ownBlock, e]))⟩,
        ⟨hown.1, .inr ⟨g, cap, _, rfl, hbg, setRow_heap w g cur _ e _ hg, hnc, hcm, hsz2, ?_⟩⟩, .inl rfl⟩
      · rw [htake, ← hlen]
        exact List.take_left
      · rw [htake, ← hown.1]
        show ((xs ++ news) ++ _).take xs.length = xs
        rw [List.append_assoc]
        exact List.take_left
    · obtain ⟨v', w', h2, h3, h4, _, h5⟩ := run_append_own_at (P := P) w base t ty e i z size bytes ht hi hz hsize hby hzs hsz _ _ xs hown a m c news hl hnews h1 h63 hbytes hbase
      subst hsize
      subst hby
      have holds : ∀ j u, xs[j]? = some u → w.cell? ((⟨g, 0, none⟩ : Addr).add j) = some u := hown.cells (g := g) rfl
      have hr := run_append_grow (P := P) w t ty e i z ht hi hz ⟨g, 0, none⟩ n cap xs hown.1 holds a m c news hl hnews (by omega) (by simp only [maxLen] at h63; omega) (growslice_fits (by omega) hbytes)
      rw [hr] at h2
      injection h2 with e1 e2
      subst e1 e2
      refine ⟨_, _, hr, h3, h4, ⟨hown.1, .inr ⟨g, cap, cur, rfl, hbg, ?_, hnc, hcm, hcs, htake⟩⟩, .inr ⟨_, rfl, Nat.le_refl _⟩⟩
      rw [heap_alloc_old w.drew _ (Array.getElem?_eq_some_iff.1 hg).1]
      exact hg
theorem wp_append_keep {o : Oper} {a : Act} {K : Act → World → Prop} {Q : Exit → Act → World → Prop} (s x : Operand) (t : TypeId)
    (ho : o.op = .call { callee := .builtin .append, args := #[s, x], argTypes := #[t, t] })
    (base : Nat) (e : TypeId) (i : TypeInfo) (z : Value) (size bytes : Nat) (ht : P.underlying t = some (.slice e)) (hi : P.info? e = some i) (hz : i.zero = some z)
    (hsize : i.size = size) (hby : i.bytes = bytes) (hzs : z.cells.size = size) (hsz : 0 < size)
    (v : Value) (n : Nat) (xs : List Value) (hs : a.eval s = v) (hown : w.ownsRow base e size v n xs)
    (ad : Addr) (m c : Nat) (news : List Value) (hx : a.eval x = .slice (some ad) m c) (hl : news.length = m * size) (hnews : ∀ j u, news[j]? = some u → w.cell? (ad.add j) = some u) (h1 : ∀ u ∈ news, u.oneCell' = true)
    (h63 : n + m ≤ maxLen) (hbytes : (n + m) * bytes ≤ 140737488355328) (hbase : base ≤ w.heap.size)
    (h : ∀ v' w', w'.ownsRow base e size v' (n + m) (xs ++ news) → w.grownBy w' v.ownBlock → w'.ownsRow base e size v n xs → (v'.ownBlock = v.ownBlock ∨ ∃ g, v'.ownBlock = some g ∧ w.heap.size ≤ g) → K (a.put o.dst v') w') : o.wp P a w K Q := by
  obtain ⟨v', w', hr, h2, h3, h4, h5⟩ := run_append_keep (P := P) w base t o.type e i z size bytes ht hi hz hsize hby hzs hsz v n xs hown ad m c news hl hnews h1 h63 hbytes hbase
  unfold Oper.wp execOp
  simp only [ho, resolve, invoke, builtin, Sem.run_bind, Sem.run_pure, Result.andThen_ok, List.map_toArray, List.map_cons, List.map_nil, hs, hx, hr]
  exact h v' w' h2 h3 h4 h5
theorem wpList_append_keep {ops : Array Oper} {rest : List Oper} {o : Oper} {a : Act} {Q : Exit → Act → World → Prop} (hgd : o.guard = none) (s x : Operand) (t : TypeId)
    (ho : o.op = .call { callee := .builtin .append, args := #[s, x], argTypes := #[t, t] })
    (base : Nat) (e : TypeId) (i : TypeInfo) (z : Value) (size bytes : Nat) (ht : P.underlying t = some (.slice e)) (hi : P.info? e = some i) (hz : i.zero = some z)
    (hsize : i.size = size) (hby : i.bytes = bytes) (hzs : z.cells.size = size) (hsz : 0 < size)
    (v : Value) (n : Nat) (xs : List Value) (hs : a.eval s = v) (hown : w.ownsRow base e size v n xs)
    (ad : Addr) (m c : Nat) (news : List Value) (hx : a.eval x = .slice (some ad) m c) (hl : news.length = m * size) (hnews : ∀ j u, news[j]? = some u → w.cell? (ad.add j) = some u) (h1 : ∀ u ∈ news, u.oneCell' = true)
    (h63 : n + m ≤ maxLen) (hbytes : (n + m) * bytes ≤ 140737488355328) (hbase : base ≤ w.heap.size)
    (h : ∀ v' w', w'.ownsRow base e size v' (n + m) (xs ++ news) → w.grownBy w' v.ownBlock → w'.ownsRow base e size v n xs → (v'.ownBlock = v.ownBlock ∨ ∃ g, v'.ownBlock = some g ∧ w.heap.size ≤ g) → wpList P ops Q rest (a.put o.dst v') w') : wpList P ops Q (o :: rest) a w :=
  wpList_plain hgd fun _ hK => wp_append_keep w s x t ho base e i z size bytes ht hi hz hsize hby hzs hsz v n xs hs hown ad m c news hx hl hnews h1 h63 hbytes hbase fun v' w' h2 h3 h4 h5 => hK _ _ (h v' w' h2 h3 h4 h5)
end
/-- the block that an append may write, or another one -/
def rowOr (v : Value) (p : Nat) : Nat := v.ownBlock.getD p
section
variable {p q : Nat} {a w w' : World}
theorem Two.grown {v : Value} (h : w.grownBy w' v.ownBlock) : Two p (rowOr v p) w w' := by
  refine ⟨h.os, h.tape, h.output, h.size, fun k hk h1 h2 => h.block k hk fun e => ?_⟩
  unfold rowOr at h2
  rw [← e] at h2
  exact h2 rfl
theorem below_grown {B : Nat} {row : Option Nat} (h : w.grownBy w' row) (hB : B ≤ w.heap.size) (hr : ∀ k, row = some k → B ≤ k) : Below B w w' :=
  ⟨h.os, h.tape, h.output, h.size, fun k hk => h.block k (by omega) (fun e => by have := hr k e.symm; omega)⟩
theorem ownsRow_two {B : Nat} {e : TypeId} {s n : Nat} {v : Value} {xs : List Value} (h : w.ownsRow B e s v n xs) (hb : Two p q w w') (h1 : v.ownBlock ≠ some p) (h2 : v.ownBlock ≠ some q) : w'.ownsRow B e s v n xs := by
  refine ⟨h.1, ?_⟩
  rcases h.2 with hn | ⟨g, cap, cur, rfl, hb', hgg, rest⟩
  · exact .inl hn
  · refine .inr ⟨g, cap, cur, rfl, hb', ?_, rest⟩
    rw [hb.block g (Array.getElem?_eq_some_iff.1 hgg).1 (fun e => h1 (by rw [← e]; rfl)) (fun e => h2 (by rw [← e]; rfl))]
    exact hgg
theorem ownsRow_set {B : Nat} {e : TypeId} {s n : Nat} {v : Value} {xs : List Value} (h : w.ownsRow B e s v n xs) {i : Nat} {u : Value} (h1 : v.ownBlock ≠ some p) : (w.setCell ⟨p, i, none⟩ u).ownsRow B e s v n xs :=
  ownsRow_two h ((Two.refl p p w).set1 i u) h1 h1
theorem ownsRow_to {B : Nat} {e : TypeId} {s n : Nat} {v : Value} {xs : List Value} (h : w.ownsRow B e s v n xs) (hb : Below w.heap.size w w') : w'.ownsRow B e s v n xs := by
  refine ⟨h.1, ?_⟩
  rcases h.2 with hn | ⟨g, cap, cur, rfl, hb', hgg, rest⟩
  · exact .inl hn
  · exact .inr ⟨g, cap, cur, rfl, hb', (hb.block g (Array.getElem?_eq_some_iff.1 hgg).1).trans hgg, rest⟩
/-- rows of two kinds lie in two blocks -/
theorem ownsRow_apart {B B' : Nat} {e e' : TypeId} {s s' n n' : Nat} {v v' : Value} {xs xs' : List Value} (h : w.ownsRow B e s v n xs) (h' : w.ownsRow B' e' s' v' n' xs') (he : e ≠ e') : v.ownBlock ≠ v'.ownBlock ∨ v.ownBlock = none := by
  rcases h.2 with ⟨rfl, _⟩ | ⟨g, cap, cur, rfl, _, hg, _⟩
  · exact .inr rfl
  · rcases h'.2 with ⟨rfl, _⟩ | ⟨g', cap', cur', rfl, _, hg', _⟩
    · left; simp [Value.ownBlock]
    · left
      intro e1
      simp only [Value.ownBlock, Option.some.injEq] at e1
      subst e1
      rw [hg] at hg'
      cases hg'
      exact he rfl
end
/-- a slice of texts, whose array is not the block g -/
def FarB (v : Value) (g : Option Nat) : Prop := v.ownBlock = none ∨ v.ownBlock ≠ g
theorem TextsAt.two {p q : Nat} {w w' : World} {v : Value} {ls : List (List UInt8)} (h : TextsAt w v ls) (hb : Two p q w w') (h1 : v.ownBlock ≠ some p) (h2 : v.ownBlock ≠ some q) : TextsAt w' v ls := by
  obtain ⟨A, c, rfl, h3, h4, h5⟩ := h
  refine ⟨A, c, rfl, h3, h4, fun k x hx => ?_⟩
  obtain ⟨ad, e, hl, hc⟩ := h5 k x hx
  subst e
  refine ⟨ad, rfl, Nat.lt_of_lt_of_le hl hb.size, fun j u hu => ?_⟩
  rw [← hc j u hu]
  refine World.cell?_of_block ?_
  have e : ((ad.add (k * 1)).add j).block = ad.block := by rw [block_of_add, block_of_add]
  rw [e]
  exact hb.block _ hl (fun e => h1 (by rw [← e]; rfl)) (fun e => h2 (by rw [← e]; rfl))
end Go.Proofs.YtfhanbiifjiklaaGreatDoor

/- Walks of package tree: the proof's digests, taken one by one. -/
set_option linter.unusedVariables false
set_option linter.unusedSimpArgs false
namespace Go.Proofs.YtfhanbiifjiklaaGreatDoor
open Go.RowKit

/-- the digests that are left, the next one first; whether one was missing -/
structure PS (bl bpf : Nat) (st : List (List UInt8)) (sh : Bool) (w : World) : Prop where
  row : ∃ A n c, Blk w bl 103 #[.slice A n c] ∧ TextsAt w (.slice A n c) st.reverse ∧ ∀ a, A = some a → a.block ≠ bl ∧ a.block ≠ bpf
  prf : Blk w bpf 119 #[.pointer (some ⟨bl, 0, none⟩), .bool sh]
  ne : bl ≠ bpf
theorem PS.to {bl bpf : Nat} {st : List (List UInt8)} {sh : Bool} {w w' : World} (h : PS bl bpf st sh w) (hb : Below w.heap.size w w') : PS bl bpf st sh w' := by
  obtain ⟨A, n, c, h1, h2, h3⟩ := h.row
  exact ⟨⟨A, n, c, h1.to hb, h2.to hb, h3⟩, h.prf.to hb, h.ne⟩
set_option maxRecDepth 100000 in
set_option maxHeartbeats 1000000 in
theorem ppop_any (bl bpf : Nat) (st : List (List UInt8)) (hst : st.length ≤ 1000000000) (sh : Bool) (w : World) (hS : PS bl bpf st sh w) :
    Calls Tryz.prog 132 #[.pointer (some ⟨bl, 0, none⟩)] w fun e w' => e = .returned (.string (bs (st.headD []))) ∧ PS bl bpf st.tail sh w' ∧ Two bl bpf w w' := by
  obtain ⟨A, n, c, hb, ht, hfar⟩ := hS.row
  have HP := hide hS.prf
  have HN := hide hS.ne
  have HB := hide hb
  have HT := hide ht
  have HF := hide hfar
  have c0 := (hb.cell 0).trans rfl
  have f0 := hb.frozen 0
  obtain rfl : n = st.length := by
    obtain ⟨A', c', h⟩ := ht.slice
    have := h.1
    injection this with _ h2 _
    rw [h2, List.length_reverse]
  cases st with
  | nil =>
    clear hS hb ht hfar
    go_enter Tryz.func132, Tryz.ntmps132
    go_wp2_with fail
    go_ret
    exact ⟨rfl, ⟨⟨A, _, c, HB.out, HT.out, HF.out⟩, HP.out, HN.out⟩, Two.refl _ _ _⟩
  | cons d r =>
    have hm : (d :: r).length = r.length + 1 := rfl
    rw [hm] at HB HT c0
    have hcap := HT.out.cap
    rw [List.length_reverse] at hcap
    have hat : (d :: r).reverse[r.length]? = some d := by rw [List.reverse_cons, List.getElem?_append_right (by rw [List.length_reverse]; exact Nat.le_refl _), List.length_reverse, Nat.sub_self]; rfl
    obtain ⟨a, rfl, ha, cd⟩ := HT.out.at_ hat
    have HT2 : Hid (TextsAt w (.slice (some a) r.length c) r.reverse) := by
      have := HT.out.take (k := r.length) (by rw [List.length_reverse]; exact Nat.le_succ _) c (by omega)
      rw [List.reverse_cons, List.take_append_of_le_length (by rw [List.length_reverse]; exact Nat.le_refl _), List.take_of_length_le (by rw [List.length_reverse]; exact Nat.le_refl _)] at this
      exact this
    have hc1 : r.length + 1 ≤ c := hcap
    have hl : r.length ≤ 1000000000 := by omega
    clear hS hb ht hfar hat hm hcap hst
    generalize r.length = m at *
    have z1 : IntKind.i64.wrap ((m : Int) + 1 - 1) = (m : Int) := by rw [IntWalk.i64_in _ (by omega)]; omega
    have z2 : IntKind.i64.wrap (((m + 1 : Nat) : Int) - 1) = (m : Int) := by rw [IntWalk.i64_in _ (by omega)]; omega
    have i0 : (0 : Int) ≤ (m : Int) := by omega
    have i1 : (m : Int) < ((m + 1 : Nat) : Int) := by omega
    have i2 : (m : Int) ≤ (c : Int) := by omega
    go_enter Tryz.func132, Tryz.ntmps132
    go_wp2_with fail
    go_quiet (fail)
    go_wp2_with fail
    go_region
    go_wp2_with fail
    go_ret
    refine ⟨rfl, ⟨⟨some a, m, c, (HB.out.drewN _).set_ 0 _, ?_, HF.out⟩, (HP.out.drewN _).far (Ne.symm HN.out) _, HN.out⟩, ((Two.refl _ _ _).drewN _).set1 0 _⟩
    exact RowsAt.store (p := ⟨bl, 0, none⟩) (RowsAt.to HT2.out (below_drewN (Below.refl _ _) _)) (fun a' h => (HF.out a' h).1) _
def nextS (st : List (List UInt8)) (sh : Bool) : Bool := sh || (st.headD []).isEmpty
set_option maxRecDepth 100000 in
set_option maxHeartbeats 1000000 in
theorem pnext_any (bl bpf : Nat) (st : List (List UInt8)) (hst : st.length ≤ 1000000000) (sh : Bool) (w : World) (hS : PS bl bpf st sh w) :
    Calls Tryz.prog 102 #[.pointer (some ⟨bpf, 0, none⟩)] w fun e w' => e = .returned (.string (bs (st.headD []))) ∧ PS bl bpf st.tail (nextS st sh) w' ∧ Two bl bpf w w' := by
  have CP := ppop_any bl bpf st hst sh w hS
  have c0 := (hS.prf.cell 0).trans rfl
  have HV : Hid (nextS st sh = (sh || (st.headD []).isEmpty)) := rfl
  clear hS
  generalize st.headD [] = d at *
  go_enter Tryz.func102, Tryz.ntmps102
  go_wp2_with fail
  refine CP.mono ?_
  rintro e w2 ⟨rfl, hS2, hb⟩
  obtain ⟨A, n, c, hb1, ht, hfar⟩ := hS2.row
  have HB1 := hide hb1
  have HT := hide ht
  have HF := hide hfar
  have HP := hide hS2.prf
  have HN := hide hS2.ne
  have HW := hide hb
  have d0 := (HP.out.cell 0).trans rfl
  have d1 := (HP.out.cell 1).trans rfl
  have f1 := HP.out.frozen 1
  have fin : ∀ b : Bool, Hid (nextS st sh = b) → Hid (PS bl bpf st.tail (nextS st sh) (w2.setCell ⟨bpf, 1, none⟩ (.bool b)) ∧ Two bl bpf w (w2.setCell ⟨bpf, 1, none⟩ (.bool b))) := fun b hv => by
    rw [hv.out]
    exact ⟨⟨⟨A, n, c, HB1.out.far HN.out _, RowsAt.store (p := ⟨bpf, 1, none⟩) HT.out (fun a' h => (HF.out a' h).2) _, HF.out⟩, HP.out.set_ 1 _, HN.out⟩, HW.out.set2 1 _⟩
  clear hS2 hb1 ht hfar hb CP c0
  cases hs : sh with
  | true =>
    have FN := fin true (by show _ = _; rw [HV.out, hs]; rfl)
    rw [hs] at d1
    clear fin hs HV
    go_wp2_with fail
    go_ret
    exact ⟨rfl, FN.out.1, FN.out.2⟩
  | false =>
    cases he : d.isEmpty with
    | true =>
      have e1 : (bs d).toList.isEmpty = true := by rw [bs_toList]; exact he
      have FN := fin true (by show _ = _; rw [HV.out, hs, he]; rfl)
      rw [hs] at d1
      clear fin hs HV he
      go_wp2_with fail
      go_ret
      exact ⟨rfl, FN.out.1, FN.out.2⟩
    | false =>
      have e1 : (bs d).toList.isEmpty = false := by rw [bs_toList]; exact he
      have FN := fin false (by show _ = _; rw [HV.out, hs, he]; rfl)
      rw [hs] at d1
      clear fin hs HV he
      go_wp2_with fail
      go_ret
      exact ⟨rfl, FN.out.1, FN.out.2⟩
set_option maxRecDepth 100000 in
set_option maxHeartbeats 1000000 in
theorem pdone_any (bl bpf : Nat) (st : List (List UInt8)) (sh : Bool) (w : World) (hS : PS bl bpf st sh w) :
    Calls Tryz.prog 104 #[.pointer (some ⟨bpf, 0, none⟩)] w fun e w' => e = .returned (.bool (!sh && st.isEmpty)) ∧ w' = w := by
  obtain ⟨A, n, c, hb1, ht, hfar⟩ := hS.row
  have c0 := (hS.prf.cell 0).trans rfl
  have c1 := (hS.prf.cell 1).trans rfl
  have b0 := (hb1.cell 0).trans rfl
  obtain rfl : n = st.length := by
    obtain ⟨A', c', h⟩ := ht.slice
    have := h.1
    injection this with _ h2 _
    rw [h2, List.length_reverse]
  clear hS hb1 ht hfar
  cases sh with
  | true =>
    go_enter Tryz.func104, Tryz.ntmps104
    go_wp2_with fail
    go_ret
    exact ⟨rfl, rfl⟩
  | false =>
    cases st with
    | nil =>
      go_enter Tryz.func104, Tryz.ntmps104
      go_wp2_with fail
      go_ret
      exact ⟨rfl, rfl⟩
    | cons d r =>
      have e1 : (((d :: r).length : Int) == 0) = false := by rw [beq_eq_false_iff_ne, List.length_cons]; omega
      have e2 : ((r.length : Int) + 1 == 0) = false := by rw [beq_eq_false_iff_ne]; omega
      go_enter Tryz.func104, Tryz.ntmps104
      go_wp2_with fail
      go_ret
      exact ⟨rfl, rfl⟩
end Go.Proofs.YtfhanbiifjiklaaGreatDoor

/- Walks of package tree: Check. -/
set_option linter.unusedVariables false
set_option linter.unusedSimpArgs false
namespace Go.Proofs.YtfhanbiifjiklaaGreatDoor
open Go.RowKit

/-- what a proof's digests make of a leaf: the root, what is left, whether one was missing -/
def upG (leaf : List UInt8) : Nat → Nat → Nat → List (List UInt8) → Bool → List UInt8 × List (List UInt8) × Bool
  | 0, _, _, st, sh => (leaf, st, sh)
  | f + 1, n, i, st, sh => if n = 1 then (leaf, st, sh) else
    if i < halfN n then (nodeD (upG leaf f (halfN n) i st.tail (nextS st sh)).1 (st.headD []), (upG leaf f (halfN n) i st.tail (nextS st sh)).2)
    else (nodeD (st.headD []) (upG leaf f (n - halfN n) (i - halfN n) st.tail (nextS st sh)).1, (upG leaf f (n - halfN n) (i - halfN n) st.tail (nextS st sh)).2)
theorem upG_one (leaf : List UInt8) (f i : Nat) (st : List (List UInt8)) (sh : Bool) : upG leaf (f + 1) 1 i st sh = (leaf, st, sh) := by unfold upG; rw [if_pos rfl]
theorem upG_lt (leaf : List UInt8) {f n i : Nat} (hn : n ≠ 1) (hi : i < halfN n) (st : List (List UInt8)) (sh : Bool) : upG leaf (f + 1) n i st sh = (nodeD (upG leaf f (halfN n) i st.tail (nextS st sh)).1 (st.headD []), (upG leaf f (halfN n) i st.tail (nextS st sh)).2) := by
  conv => lhs; unfold upG
  rw [if_neg hn, if_pos hi]
theorem upG_ge (leaf : List UInt8) {f n i : Nat} (hn : n ≠ 1) (hi : ¬ i < halfN n) (st : List (List UInt8)) (sh : Bool) : upG leaf (f + 1) n i st sh = (nodeD (st.headD []) (upG leaf f (n - halfN n) (i - halfN n) st.tail (nextS st sh)).1, (upG leaf f (n - halfN n) (i - halfN n) st.tail (nextS st sh)).2) := by
  conv => lhs; unfold upG
  rw [if_neg hn, if_neg hi]
theorem nodeD_len (a b : List UInt8) : (nodeD a b).length = 16 := isD_len (listD_isD _)
theorem upG_len {leaf : List UInt8} (hl : leaf.length ≤ 100000000000) : ∀ (f n i : Nat) (st : List (List UInt8)) (sh : Bool), (upG leaf f n i st sh).1.length ≤ 100000000000
  | 0, n, i, st, sh => hl
  | f + 1, n, i, st, sh => by
    unfold upG
    split
    · exact hl
    · split
      · show (nodeD _ _).length ≤ _; rw [nodeD_len]; decide
      · show (nodeD _ _).length ≤ _; rw [nodeD_len]; decide
structure US (bl bpf bp bup bleaf : Nat) (leaf : List UInt8) (st : List (List UInt8)) (sh : Bool) (w : World) : Prop where
  ps : PS bl bpf st sh w
  p : Blk w bp 116 #[.pointer (some ⟨bpf, 0, none⟩)]
  up : Blk w bup 120 #[.func (.func 101) #[] #[.pointer (some ⟨bleaf, 0, none⟩), .pointer (some ⟨bp, 0, none⟩), .pointer (some ⟨bup, 0, none⟩)]]
  lf : Blk w bleaf 9 #[.string (bs leaf)]
  n1 : bp ≠ bl ∧ bp ≠ bpf ∧ bup ≠ bl ∧ bup ≠ bpf ∧ bleaf ≠ bl ∧ bleaf ≠ bpf
  gl : Tryz.prog.globals.size ≤ bl ∧ Tryz.prog.globals.size ≤ bpf
theorem US.to {bl bpf bp bup bleaf : Nat} {leaf : List UInt8} {st : List (List UInt8)} {sh : Bool} {w w' : World} (h : US bl bpf bp bup bleaf leaf st sh w) (hb : Below w.heap.size w w') : US bl bpf bp bup bleaf leaf st sh w' := ⟨h.ps.to hb, h.p.to hb, h.up.to hb, h.lf.to hb, h.n1, h.gl⟩
theorem US.two {bl bpf bp bup bleaf : Nat} {leaf : List UInt8} {st st' : List (List UInt8)} {sh sh' : Bool} {w w' : World} (h : US bl bpf bp bup bleaf leaf st sh w) (hb : Two bl bpf w w') (h' : PS bl bpf st' sh' w') : US bl bpf bp bup bleaf leaf st' sh' w' :=
  ⟨h', Two.blk h.p hb h.n1.1 h.n1.2.1, Two.blk h.up hb h.n1.2.2.1 h.n1.2.2.2.1, Two.blk h.lf hb h.n1.2.2.2.2.1 h.n1.2.2.2.2.2, h.n1, h.gl⟩
theorem Glob.two {p q : Nat} {w w' : World} (h : Glob w) (hb : Two p q w w') (h1 : Tryz.prog.globals.size ≤ p) (h2 : Tryz.prog.globals.size ≤ q) : Glob w' := h.belowB (hb.below h.top h1 h2) (Nat.le_refl _)
theorem ent_up : ∀ args w, (callFunc 101 args).run Tryz.prog w = .ok (.enter 101 args) w := enters_fn Tryz.func101 (by kernel_rfl) rfl
def UpOk (bl bpf bp bup bleaf : Nat) (leaf : List UInt8) (f : Nat) : Prop := ∀ (n i : Nat) (st : List (List UInt8)) (sh : Bool) (w : World), 1 ≤ n → n ≤ f → n ≤ 1000000 → i < n → st.length ≤ 1000000000 → (∀ d ∈ st, d.length ≤ 100000000000) →
  US bl bpf bp bup bleaf leaf st sh w → Glob w → Calls Tryz.prog 101 #[.int .i64 (n : Int), .int .i64 (i : Int), .pointer (some ⟨bleaf, 0, none⟩), .pointer (some ⟨bp, 0, none⟩), .pointer (some ⟨bup, 0, none⟩)] w
    fun e w' => e = .returned (.string (bs (upG leaf f n i st sh).1)) ∧ US bl bpf bp bup bleaf leaf (upG leaf f n i st sh).2.1 (upG leaf f n i st sh).2.2 w' ∧ Two bl bpf w w'
theorem head_le {st : List (List UInt8)} (h : ∀ d ∈ st, d.length ≤ 100000000000) : (st.headD []).length ≤ 100000000000 := by
  cases st with
  | nil => decide
  | cons d r => exact h d (by simp)
set_option maxRecDepth 100000 in
set_option maxHeartbeats 1000000 in
theorem up_step (bl bpf bp bup bleaf : Nat) (leaf : List UInt8) (hleaf : leaf.length ≤ 100000000000) (f : Nat) (ih : UpOk bl bpf bp bup bleaf leaf f) : UpOk bl bpf bp bup bleaf leaf (f + 1) := by
  intro n i st sh w h1 hf hn hi hst hd hS hg
  have hE := ent_up
  have HS := hide hS
  have l0 := (hS.lf.cell 0).trans rfl
  have p0 := (hS.p.cell 0).trans rfl
  clear hS
  by_cases hn1 : n = 1
  · subst hn1
    have HV := hide (upG_one leaf f i st sh)
    clear p0 ih
    go_enter Tryz.func101, Tryz.ntmps101
    go_wp2_with fail
    go_ret
    exact ⟨by rw [HV.out]; rfl, by rw [HV.out]; exact HS.out, Two.refl _ _ _⟩
  · have e1 : ((n : Int) == 1) = false := by rw [beq_eq_false_iff_ne]; omega
    have hh := half_lt (n := n) (by omega)
    have CH := fun w => half_any n (by omega) w
    have CX := fun w h => pnext_any bl bpf st hst sh w h
    have HVL := fun h : i < halfN n => upG_lt leaf (f := f) hn1 h st sh
    have HVG := fun h : ¬ i < halfN n => upG_ge leaf (f := f) hn1 h st sh
    have hd' : ∀ d ∈ st.tail, d.length ≤ 100000000000 := fun d h => hd d (List.mem_of_mem_tail h)
    have hst' : st.tail.length ≤ 1000000000 := by rw [List.length_tail]; omega
    have hhd := head_le hd
    have HG := hide hg
    generalize hk : halfN n = k at *
    generalize st.headD [] = d at *
    generalize st.tail = st' at *
    generalize nextS st sh = sh' at *
    clear hk
    obtain ⟨U, hU, g, u0, rfl, hgu, hi'⟩ := cls w
    have HGU := hide hgu
    have HHI := hide hi'
    have CHg : ∀ u, Calls Tryz.prog 83 #[.int .i64 (n : Int)] (g u) fun e w' => e = .returned (.int .i64 (k : Int)) ∧ ∃ u', w' = g u' := fun u => (CH (g u)).mono fun e w' ⟨he, hw⟩ => ⟨he, u, hw⟩
    have p1 : ∀ u, (g u).cell? ⟨bp, 0, none⟩ = some (.pointer (some ⟨bpf, 0, none⟩)) := fun u => ((HS.out.to (hgu u)).p.cell 0).trans rfl
    have z1 : IntKind.i64.wrap ((n : Int) - (k : Int)) = (n : Int) - (k : Int) := IntWalk.i64_in _ (by omega)
    clear hgu hi' CH p0 l0 hg
    go_enter Tryz.func101, Tryz.ntmps101
    go_wp2_with fail
    refine wp_region_class_tail g 3 (by kernel_rfl) (by kernel_rfl) (HHI.out _ (HGU.out _).drew) ?_
    simp only [List.take_succ_cons, List.take_zero, List.drop_succ_cons, List.drop_zero]
    repeat (go_big_quiet_step (with_reducible exact CHg _))
    refine wpQuiet_nil ?_
    intro w5 hw5
    obtain ⟨u, rfl⟩ := hw5
    go_wp2_with fail
    refine (CX (g u) (HS.out.to (HGU.out u)).ps).mono ?_
    rintro e w4 ⟨rfl, hps, htw⟩
    have HTW : Hid (Two bl bpf (g u0) w4) := (Two.of (HGU.out u)).trans htw
    have HS4 := hide (HS.out.two HTW.out hps)
    have HG4 : Hid (Glob w4) := HG.out.two HTW.out HS.out.gl.1 HS.out.gl.2
    clear hps htw CX CHg p1
    by_cases hik : i < k
    · have e2 : decide ((i : Int) < (k : Int)) = true := decide_eq_true (by omega)
      have HV := hide (HVL hik)
      have CU := ih k i st' sh' w4 (by omega) (by omega) (by omega) hik hst' hd' HS4.out HG4.out
      have hrl := upG_len hleaf f k i st' sh'
      have u0' := (HS4.out.up.cell 0).trans rfl
      clear ih HVL HVG
      generalize upG leaf f k i st' sh' = R at *
      go_wp2_with fail
      refine CU.mono ?_
      rintro e w6 ⟨rfl, hus, htw⟩
      have HTW6 : Hid (Two bl bpf (g u0) w6) := HTW.out.trans htw
      have HS6 := hide hus
      have CN := node_any R.1 d hrl hhd w6 (HG.out.two HTW6.out HS.out.gl.1 HS.out.gl.2)
      clear hus htw CU
      go_wp2_with ((with_reducible refine CN.mono ?_); rintro e w7 ⟨rfl, hb7⟩)
      go_ret
      exact ⟨by rw [HV.out]; rfl, by rw [HV.out]; exact HS6.out.to (by assumption), HTW6.out.to (by assumption)⟩
    · have e2 : decide ((i : Int) < (k : Int)) = false := decide_eq_false (by omega)
      have z2 : IntKind.i64.wrap ((i : Int) - (k : Int)) = (i : Int) - (k : Int) := IntWalk.i64_in _ (by omega)
      have HV := hide (HVG hik)
      have CU0 := ih (n - k) (i - k) st' sh' w4 (by omega) (by omega) (by omega) (by omega) hst' hd' HS4.out HG4.out
      rw [show ((n - k : Nat) : Int) = (n : Int) - (k : Int) by omega, show ((i - k : Nat) : Int) = (i : Int) - (k : Int) by omega] at CU0
      have hrl := upG_len hleaf f (n - k) (i - k) st' sh'
      have u0' := (HS4.out.up.cell 0).trans rfl
      clear ih HVL HVG
      generalize upG leaf f (n - k) (i - k) st' sh' = R at *
      go_wp2_with fail
      refine CU0.mono ?_
      rintro e w6 ⟨rfl, hus, htw⟩
      have HTW6 : Hid (Two bl bpf (g u0) w6) := HTW.out.trans htw
      have HS6 := hide hus
      have CN := node_any d R.1 hhd hrl w6 (HG.out.two HTW6.out HS.out.gl.1 HS.out.gl.2)
      clear hus htw CU0
      go_wp2_with ((with_reducible refine CN.mono ?_); rintro e w7 ⟨rfl, hb7⟩)
      go_ret
      exact ⟨by rw [HV.out]; rfl, by rw [HV.out]; exact HS6.out.to (by assumption), HTW6.out.to (by assumption)⟩
theorem up_any (bl bpf bp bup bleaf : Nat) (leaf : List UInt8) (hleaf : leaf.length ≤ 100000000000) : ∀ f, UpOk bl bpf bp bup bleaf leaf f
  | 0 => fun n i st sh w h1 h2 => by omega
  | f + 1 => up_step bl bpf bp bup bleaf leaf hleaf f (up_any bl bpf bp bup bleaf leaf hleaf f)
end Go.Proofs.YtfhanbiifjiklaaGreatDoor

/- Walks of package tree: Check. -/
set_option linter.unusedVariables false
set_option linter.unusedSimpArgs false
namespace Go.Proofs.YtfhanbiifjiklaaGreatDoor
open Go.RowKit

def upV (leaf : List UInt8) (n i : Nat) (path : List (List UInt8)) (root : List UInt8) : Bool := decide ((upG leaf n n i path.reverse false).1 = root) && (!(upG leaf n n i path.reverse false).2.2 && (upG leaf n n i path.reverse false).2.1.isEmpty)
def checkV (root : List UInt8) (n i : Int) (leaf : List UInt8) (path : List (List UInt8)) : Bool :=
  if n ≤ 1000000 ∧ 0 ≤ i ∧ i < n ∧ properT path = true ∧ isD leaf = true then upV leaf n.toNat i.toNat path root else false
set_option maxRecDepth 100000 in
set_option maxHeartbeats 2000000 in
theorem Check_any (root : List UInt8) (n i : Int) (leaf : List UInt8) (path : List (List UInt8)) (hleaf : leaf.length ≤ 100000000000) (hp : path.length ≤ 1000000000) (hx : ∀ x ∈ path, x.length ≤ 100000000000) (v : Value) (w : World) (hv : TextsAt w v path) (hg : Glob w) :
    Calls Tryz.prog 68 #[.string (bs root), .int .i64 n, .int .i64 i, .string (bs leaf), v] w fun e w' => e = .returned (.bool (checkV root n i leaf path)) ∧ Below w.heap.size w w' := by
  have HX := hide hx
  have HB0 := hide (below_one w (.cells #[.string (bs leaf)] 9))
  have KL0 := hide (Blk.new w 9 #[.string (bs leaf)])
  have KG0 := hide (hg.alloc (.cells #[.string (bs leaf)] 9))
  have hgt := hg.top
  have CC := Clone_any path hp v (w.alloc (.cells #[.string (bs leaf)] 9)) (RowsAt.to hv HB0.out)
  unfold CloneR at CC
  have hE := ent_up
  clear hv hg hx
  go_enter Tryz.func68, Tryz.ntmps68
  go_wp2_with fail
  have C1 := CC
  refine C1.mono ?_
  rintro e w1 ⟨v1, rfl, hKO, hb⟩
  have HB1 := hide (below_to HB0.out (Nat.le_refl _) hb)
  have KL1 := hide (KL0.out.to hb)
  have KG1 := hide (KG0.out.to hb)
  have KO1 := hide hKO
  clear hb C1 HB0 KL0 KG0 hKO
  have KR1 : Hid (TextsAt w1 v1 path) := TextsAt.of_own KO1.out
  obtain ⟨A1, k1, rfl, _⟩ := KR1.out.slice
  have KS : Hid (∀ a, A1 = some a → w.heap.size + 1 ≤ a.block ∧ a.block < w1.heap.size) := fun a h => by
    have h' := KO1.out.lt a.block (by rw [h]; rfl)
    have h'' : (w.alloc (.cells #[.string (bs leaf)] 9)).heap.size = w.heap.size + 1 := by simp
    rw [h''] at h'
    exact h'
  clear KO1
  have HLW : Hid (w.heap.size < w1.heap.size) := KL1.out.lt
  have KD2 := hide (Blk.new w1 103 #[.slice A1 path.length k1])
  have HB2 := hide (below_alloc HB1.out (Nat.le_refl _) (.cells #[.slice A1 path.length k1] 103))
  have KL2 := hide (KL1.out.to (below_one w1 (.cells #[.slice A1 path.length k1] 103)))
  have KG2 := hide (KG1.out.to (below_one w1 (.cells #[.slice A1 path.length k1] 103)))
  have KR2 := hide (KR1.out.to (below_one w1 (.cells #[.slice A1 path.length k1] 103)))
  clear HB1 KL1 KG1 KR1
  by_cases c1 : n ≤ 1000000
  · have e1 : decide (1000000 < n) = false := decide_eq_false (by omega)
    by_cases c2 : 0 ≤ i
    · have e2 : decide (i < 0) = false := decide_eq_false (by omega)
      by_cases c3 : i < n
      · have e3 : decide (n ≤ i) = false := decide_eq_false (by omega)
        obtain ⟨N, rfl⟩ : ∃ N : Nat, n = N := ⟨n.toNat, by omega⟩
        obtain ⟨I, rfl⟩ : ∃ I : Nat, i = I := ⟨i.toNat, by omega⟩
        have d0 := (KD2.out.cell 0).trans rfl
        have CP := tproper_any path (by omega) HX.out _ (w1.alloc (.cells #[.slice A1 path.length k1] 103)) KR2.out
        have e4 : decide ((N : Int) ≤ (I : Int)) = false := decide_eq_false (by omega)
        have e5 : decide ((I : Int) < 0) = false := decide_eq_false (by omega)
        have e6 : decide ((1000000 : Int) < (N : Int)) = false := decide_eq_false (by omega)
        have e7 : decide (N ≤ I) = false := decide_eq_false (by omega)
        clear e1 e2 e3
        go_wp2_with fail
        cases hpr : properT path with
        | false =>
          rw [hpr] at CP
          have C3 := CP
          refine C3.mono ?_
          rintro e w3 ⟨rfl, hb⟩
          have HB3 := hide (below_to HB2.out (Nat.le_refl _) hb)
          have KL3 := hide (KL2.out.to hb)
          have KG3 := hide (KG2.out.to hb)
          have KR3 := hide (KR2.out.to hb)
          have KD3 := hide (KD2.out.to hb)
          clear hb C3 HB2 KL2 KG2 KR2 KD2
          go_wp2_with fail
          go_ret
          exact ⟨ret_bool (by unfold checkV; rw [if_neg (fun h => by rw [hpr] at h; exact absurd h.2.2.2.1 (by simp))]), HB3.out⟩
        | true =>
          rw [hpr] at CP
          have C3 := CP
          refine C3.mono ?_
          rintro e w3 ⟨rfl, hb⟩
          have HB3 := hide (below_to HB2.out (Nat.le_refl _) hb)
          have KL3 := hide (KL2.out.to hb)
          have KG3 := hide (KG2.out.to hb)
          have KR3 := hide (KR2.out.to hb)
          have KD3 := hide (KD2.out.to hb)
          clear hb C3 HB2 KL2 KG2 KR2 KD2
          have l0 := (KL3.out.cell 0).trans rfl
          have d1 := (KD3.out.cell 0).trans rfl
          have CI := Is_any leaf (by omega) w3
          go_wp2_with fail
          cases hld : isD leaf with
          | false =>
            rw [hld] at CI
            have C4 := CI
            refine C4.mono ?_
            rintro e w4 ⟨rfl, hb⟩
            have HB4 := hide (below_to HB3.out (Nat.le_refl _) hb)
            have KL4 := hide (KL3.out.to hb)
            have KG4 := hide (KG3.out.to hb)
            have KR4 := hide (KR3.out.to hb)
            have KD4 := hide (KD3.out.to hb)
            clear hb C4 HB3 KL3 KG3 KR3 KD3
            go_wp2_with fail
            go_ret
            exact ⟨ret_bool (by unfold checkV; rw [if_neg (fun h => by rw [hld] at h; exact absurd h.2.2.2.2 (by simp))]), HB4.out⟩
          | true =>
            rw [hld] at CI
            have C4 := CI
            refine C4.mono ?_
            rintro e w4 ⟨rfl, hb⟩
            have HB4 := hide (below_to HB3.out (Nat.le_refl _) hb)
            have KL4 := hide (KL3.out.to hb)
            have KG4 := hide (KG3.out.to hb)
            have KR4 := hide (KR3.out.to hb)
            have KD4 := hide (KD3.out.to hb)
            clear hb C4 HB3 KL3 KG3 KR3 KD3
            have HV : Hid (checkV root (N : Int) (I : Int) leaf path = upV leaf N I path root) := by
              show _ = _
              unfold checkV
              rw [if_pos ⟨c1, c2, c3, hpr, hld⟩, Int.toNat_natCast, Int.toNat_natCast]
            go_wp2_with fail
            have s1 : (w4.alloc (.cells #[.pointer (some ⟨w1.heap.size, 0, none⟩), .bool false] 119)).heap.size = w4.heap.size + 1 := by simp
            have s2 : ((w4.alloc (.cells #[.pointer (some ⟨w1.heap.size, 0, none⟩), .bool false] 119)).alloc (.cells #[.pointer (some ⟨w4.heap.size, 0, none⟩)] 116)).heap.size = w4.heap.size + 1 + 1 := by simp
            have HBW : Hid (Below w4.heap.size w4 (((w4.alloc (.cells #[.pointer (some ⟨w1.heap.size, 0, none⟩), .bool false] 119)).alloc (.cells #[.pointer (some ⟨w4.heap.size, 0, none⟩)] 116)).alloc (.cells #[.func (.func 101) #[] #[.pointer (some ⟨w.heap.size, 0, none⟩), .pointer (some ⟨w4.heap.size + 1, 0, none⟩), .pointer (some ⟨w4.heap.size + 1 + 1, 0, none⟩)]] 120))) := below_alloc (below_two _ _ _) (Nat.le_refl _) _
            have HLT : Hid (w1.heap.size < w4.heap.size) := KD4.out.lt
            have HGT : Hid (Tryz.prog.globals.size ≤ w.heap.size) := hgt
            have HUS : Hid (US w1.heap.size w4.heap.size (w4.heap.size + 1) (w4.heap.size + 1 + 1) w.heap.size leaf path.reverse false (((w4.alloc (.cells #[.pointer (some ⟨w1.heap.size, 0, none⟩), .bool false] 119)).alloc (.cells #[.pointer (some ⟨w4.heap.size, 0, none⟩)] 116)).alloc (.cells #[.func (.func 101) #[] #[.pointer (some ⟨w.heap.size, 0, none⟩), .pointer (some ⟨w4.heap.size + 1, 0, none⟩), .pointer (some ⟨w4.heap.size + 1 + 1, 0, none⟩)]] 120))) := by
              have a1 := HLT.out
              have a2 := HLW.out
              refine ⟨⟨⟨A1, path.length, k1, KD4.out.to HBW.out, by rw [List.reverse_reverse]; exact RowsAt.to KR4.out HBW.out, fun a h => ?_⟩, ((Blk.new w4 _ _).alloc _).alloc _, Nat.ne_of_lt a1⟩, ?_, ?_, KL4.out.to HBW.out, ⟨by omega, by omega, by omega, by omega, by omega, by omega⟩, ⟨by omega, by omega⟩⟩
              · have := KS.out a h
                exact ⟨by omega, by omega⟩
              · have := Blk.new (w4.alloc (.cells #[.pointer (some ⟨w1.heap.size, 0, none⟩), .bool false] 119)) 116 #[.pointer (some ⟨w4.heap.size, 0, none⟩)]
                rw [s1] at this
                exact this.alloc _
              · have := Blk.new ((w4.alloc (.cells #[.pointer (some ⟨w1.heap.size, 0, none⟩), .bool false] 119)).alloc (.cells #[.pointer (some ⟨w4.heap.size, 0, none⟩)] 116)) 120 #[.func (.func 101) #[] #[.pointer (some ⟨w.heap.size, 0, none⟩), .pointer (some ⟨w4.heap.size + 1, 0, none⟩), .pointer (some ⟨w4.heap.size + 1 + 1, 0, none⟩)]]
                rw [s2] at this
                exact this
            have CU := up_any w1.heap.size w4.heap.size (w4.heap.size + 1) (w4.heap.size + 1 + 1) w.heap.size leaf hleaf N N I path.reverse false (((w4.alloc (.cells #[.pointer (some ⟨w1.heap.size, 0, none⟩), .bool false] 119)).alloc (.cells #[.pointer (some ⟨w4.heap.size, 0, none⟩)] 116)).alloc (.cells #[.func (.func 101) #[] #[.pointer (some ⟨w.heap.size, 0, none⟩), .pointer (some ⟨w4.heap.size + 1, 0, none⟩), .pointer (some ⟨w4.heap.size + 1 + 1, 0, none⟩)]] 120)) (by omega) (Nat.le_refl _) (by omega) (by omega) (by rw [List.length_reverse]; exact hp) (fun d h => HX.out d (by simpa using h)) HUS.out (KG4.out.to HBW.out)
            have HUV : Hid (upV leaf N I path root = (decide ((upG leaf N N I path.reverse false).1 = root) && (!(upG leaf N N I path.reverse false).2.2 && (upG leaf N N I path.reverse false).2.1.isEmpty))) := rfl
            have HBS : Hid (w.heap.size ≤ (((w4.alloc (.cells #[.pointer (some ⟨w1.heap.size, 0, none⟩), .bool false] 119)).alloc (.cells #[.pointer (some ⟨w4.heap.size, 0, none⟩)] 116)).alloc (.cells #[.func (.func 101) #[] #[.pointer (some ⟨w.heap.size, 0, none⟩), .pointer (some ⟨w4.heap.size + 1, 0, none⟩), .pointer (some ⟨w4.heap.size + 1 + 1, 0, none⟩)]] 120)).heap.size) := Nat.le_trans HB4.out.size HBW.out.size
            have HBB := hide (HB4.out.trans (HBW.out.mono HB4.out.size))
            clear s1 s2 HUS HBW KL4 KG4 KR4 KD4 HB4 d0 d1 l0 CP CI CC
            generalize upG leaf N N I path.reverse false = r at *
            generalize ((w4.alloc (.cells #[.pointer (some ⟨w1.heap.size, 0, none⟩), .bool false] 119)).alloc (.cells #[.pointer (some ⟨w4.heap.size, 0, none⟩)] 116)).alloc (.cells #[.func (.func 101) #[] #[.pointer (some ⟨w.heap.size, 0, none⟩), .pointer (some ⟨w4.heap.size + 1, 0, none⟩), .pointer (some ⟨w4.heap.size + 1 + 1, 0, none⟩)]] 120) = w9 at *
            refine CU.mono ?_
            rintro e w10 ⟨rfl, hus, htw⟩
            have HU := hide hus
            have HB10 : Hid (Below w.heap.size w w10) := HBB.out.trans (htw.below HBS.out (Nat.le_of_lt HLW.out) (Nat.le_of_lt (Nat.lt_trans HLW.out HLT.out)))
            have pp := (hus.p.cell 0).trans rfl
            have CD := pdone_any w1.heap.size w4.heap.size r.2.1 r.2.2 w10 hus.ps
            clear hus htw CU HBB
            by_cases hr : r.1 = root
            · have er : ((bs r.1).toList == (bs root).toList) = true := by rw [hr]; simp
              have HF : Hid (checkV root (N : Int) (I : Int) leaf path = (!r.2.2 && r.2.1.isEmpty)) := by show _ = _; rw [HV.out, HUV.out, decide_eq_true hr]; rfl
              clear hr
              generalize (!r.2.2 && r.2.1.isEmpty) = b at *
              go_wp2_with ((with_reducible refine CD.mono ?_); rintro e w' ⟨rfl, rfl⟩)
              go_ret
              exact ⟨ret_bool (by rw [HF.out]), HB10.out⟩
            · have er : ((bs r.1).toList == (bs root).toList) = false := by rw [beq_eq_false_iff_ne, bs_toList, bs_toList]; exact hr
              have HF : Hid (checkV root (N : Int) (I : Int) leaf path = false) := by show _ = _; rw [HV.out, HUV.out, decide_eq_false hr]; rfl
              clear hr
              go_wp2_with fail
              go_ret
              exact ⟨ret_bool (by rw [HF.out]), HB10.out⟩
      · have e3 : decide (n ≤ i) = true := decide_eq_true (by omega)
        clear KS HLW
        go_wp2_with fail
        go_ret
        exact ⟨ret_bool (by unfold checkV; rw [if_neg (fun h => by have := h.2.2.1; omega)]), HB2.out⟩
    · have e2 : decide (i < 0) = true := decide_eq_true (by omega)
      clear KS HLW
      go_wp2_with fail
      go_ret
      exact ⟨ret_bool (by unfold checkV; rw [if_neg (fun h => by have := h.2.1; omega)]), HB2.out⟩
  · have e1 : decide (1000000 < n) = true := decide_eq_true (by omega)
    clear KS HLW
    go_wp2_with fail
    go_ret
    exact ⟨ret_bool (by unfold checkV; rw [if_neg (fun h => by have := h.1; omega)]), HB2.out⟩
end Go.Proofs.YtfhanbiifjiklaaGreatDoor

/- Pages in memory; slices.ContainsFunc over texts; isLog. -/
set_option linter.unusedVariables false
set_option linter.unusedSimpArgs false
namespace Go.Proofs.YtfhanbiifjiklaaGreatDoor
open Go.RowKit

/-- a page -/
structure Pg where
  fr : Int
  size : Int
  root : List UInt8
  items : List (List UInt8)
  paths : List (List (List UInt8))
/-- a slice of lists of texts -/
def PathsAt (w : World) (v : Value) (ps : List (List (List UInt8))) : Prop := ∃ A c, v = .slice A ps.length c ∧ ps.length ≤ c ∧ ∀ k p, ps[k]? = some p → ∃ a vv, A = some a ∧ a.block < w.heap.size ∧ w.cell? (a.add k) = some vv ∧ TextsAt w vv p
theorem PathsAt.to {w w' : World} {v : Value} {ps : List (List (List UInt8))} (h : PathsAt w v ps) (hb : Below w.heap.size w w') : PathsAt w' v ps := by
  obtain ⟨A, c, h1, h2, h3⟩ := h
  refine ⟨A, c, h1, h2, fun k p hp => ?_⟩
  obtain ⟨a, vv, e, hl, hc, ht⟩ := h3 k p hp
  exact ⟨a, vv, e, Nat.lt_of_lt_of_le hl hb.size, (hb.cell (p := a.add k) (by rw [block_of_add]; exact hl)).trans hc, ht.to hb⟩
theorem PathsAt.nil (w : World) : PathsAt w (.slice none 0 0) [] := ⟨none, 0, rfl, Nat.le_refl _, fun k p h => by simp at h⟩
theorem PathsAt.slice {w : World} {v : Value} {ps : List (List (List UInt8))} (h : PathsAt w v ps) : ∃ A c, v = .slice A ps.length c ∧ ps.length ≤ c := by
  obtain ⟨A, c, h1, h2, _⟩ := h
  exact ⟨A, c, h1, h2⟩
theorem PathsAt.at_ {w : World} {A : Option Addr} {n c : Nat} {ps : List (List (List UInt8))} (h : PathsAt w (.slice A n c) ps) {k : Nat} {p : List (List UInt8)} (hp : ps[k]? = some p) : ∃ a vv, A = some a ∧ a.block < w.heap.size ∧ w.cell? (a.add k) = some vv ∧ TextsAt w vv p := by
  obtain ⟨A', c', h1, _, h3⟩ := h
  injection h1 with e1
  subst e1
  exact h3 k p hp
theorem TextsAt.nil (w : World) : TextsAt w (.slice none 0 0) [] := RowsAt.nil w 1
/-- sizes that the walks meet -/
structure Pg.fit (p : Pg) : Prop where
  ni : p.items.length ≤ 1000
  li : ∀ x ∈ p.items, x.length ≤ 100000
  np : p.paths.length ≤ 1000
  nq : ∀ q ∈ p.paths, q.length ≤ 200000
  lq : ∀ q ∈ p.paths, ∀ x ∈ q, x.length ≤ 100000
  lr : p.root.length ≤ 100000
  f0 : -9223372036854775808 ≤ p.fr ∧ p.fr ≤ 9223372036854775807
  s0 : -9223372036854775808 ≤ p.size ∧ p.size ≤ 9223372036854775807
set_option maxRecDepth 100000 in
set_option maxHeartbeats 4000000 in
theorem IndexFunc_str (K : FuncId) (hE : ∀ args w, (callFunc K args).run Tryz.prog w = .ok (.enter K args) w) (p : List UInt8 → Bool) (ls : List (List UInt8)) (hn : ls.length ≤ 140737488355328) (v : Value) (w : World) (hv : TextsAt w v ls)
    (hF : ∀ x ∈ ls, ∀ w', Below w.heap.size w w' → Calls Tryz.prog K #[.string (bs x)] w' fun e w'' => e = .returned (.bool (p x)) ∧ Below w'.heap.size w' w'') :
    Calls Tryz.prog 115 #[v, .func (.func K) #[] #[]] w (IdxR (ls.any p) w) := by
  obtain ⟨A, c, rfl, hc⟩ := hv.slice
  have HS := hide hv
  have HF := hide hF
  clear hv hF
  go_enter Tryz.func115, Tryz.ntmps115
  go_wp2_with fail
  go_loopw [5, 8] (fun _ i wr => ∃ k : Nat, i = .int .i64 (k : Int) ∧ k ≤ ls.length ∧ Aside (Below w.heap.size w wr) ∧ Aside (ls.any p = (ls.drop k).any p)) (fun _ i _ => ls.length - (intOf i).toNat)
  case atStart => exact ⟨0, rfl, by omega, Below.refl _ _, rfl⟩
  case round =>
    obtain ⟨k, rfl, hk, hB, hA⟩ := hrel
    have HB : Hid (Below w.heap.size w wr) := hB
    have HA : Hid (ls.any p = (ls.drop k).any p) := hA
    clear hB hA
    by_cases hlt : k < ls.length
    · have e1 : decide ((k : Int) < (ls.length : Int)) = true := decide_eq_true (by omega)
      obtain ⟨x, hx⟩ : ∃ x, ls[k]? = some x := ⟨_, List.getElem?_eq_getElem hlt⟩
      obtain ⟨a, rfl, ha, c0⟩ := (HS.out.to HB.out).at_ hx
      have CV := HF.out x (List.mem_of_getElem? hx) wr HB.out
      have HD := hide (drop_at' hx)
      clear hx
      cases hp : p x with
      | true =>
        rw [hp] at CV
        have HV : Hid (ls.any p = true) := by show _ = _; rw [HA.out, HD.out, List.any_cons, hp]; rfl
        clear hp
        go_wp2_with ((with_reducible refine CV.mono ?_); rintro e w4 ⟨rfl, hb4⟩)
        go_ret
        exact ⟨_, rfl, by rw [HV.out]; exact decide_eq_true (by omega), below_to HB.out (Nat.le_refl _) (by assumption)⟩
      | false =>
        rw [hp] at CV
        have HV : Hid (ls.any p = (ls.drop (k + 1)).any p) := by show _ = _; rw [HA.out, HD.out, List.any_cons, hp]; rfl
        clear hp
        go_wp2_with ((with_reducible refine CV.mono ?_); rintro e w4 ⟨rfl, hb4⟩)
        refine ⟨⟨k + 1, by go_num, by omega, below_to HB.out (Nat.le_refl _) (by assumption), HV.out⟩, ?_⟩
        simp [intOf]; omega
    · obtain rfl : k = ls.length := by omega
      have e1 : decide ((ls.length : Int) < (ls.length : Int)) = false := by simp
      have HV : Hid (ls.any p = false) := by show _ = _; rw [HA.out, List.drop_length]; rfl
      go_wp2_with fail
      go_ret
      exact ⟨-1, rfl, by rw [HV.out]; rfl, HB.out⟩
set_option maxHeartbeats 1000000 in
theorem ContainsFunc_str (K : FuncId) (hE : ∀ args w, (callFunc K args).run Tryz.prog w = .ok (.enter K args) w) (p : List UInt8 → Bool) (ls : List (List UInt8)) (hn : ls.length ≤ 140737488355328) (v : Value) (w : World) (hv : TextsAt w v ls)
    (hF : ∀ x ∈ ls, ∀ w', Below w.heap.size w w' → Calls Tryz.prog K #[.string (bs x)] w' fun e w'' => e = .returned (.bool (p x)) ∧ Below w'.heap.size w' w'') :
    Calls Tryz.prog 86 #[v, .func (.func K) #[] #[]] w fun e w' => e = .returned (.bool (ls.any p)) ∧ Below w.heap.size w w' := by
  have CI := IndexFunc_str K hE p ls hn v w hv hF
  clear hv hF
  go_enter Tryz.func86, Tryz.ntmps86
  go_wp2_with fail
  refine CI.mono ?_
  rintro e w2 ⟨i, rfl, hi, hb⟩
  have HI := hide hi
  have HB := hide hb
  clear hi hb
  go_wp2_with fail
  go_ret
  exact ⟨ret_bool HI.out, HB.out⟩
theorem ent_isLog1 : ∀ args w, (callFunc 87 args).run Tryz.prog w = .ok (.enter 87 args) w := enters_fn Tryz.func87 (by kernel_rfl) rfl
set_option maxHeartbeats 1000000 in
theorem isLog1_any (x : List UInt8) (hx : x.length ≤ 100000000000) (w : World) : Calls Tryz.prog 87 #[.string (bs x)] w fun e w' => e = .returned (.bool (decide (20000 < x.length))) ∧ Below w.heap.size w w' := by
  have hsz : (bs x).size = x.length := bs_size x
  have HV : Hid (decide ((20000 : Int) < (x.length : Int)) = decide (20000 < x.length)) := decide_eq_decide.2 (by omega)
  go_enter Tryz.func87, Tryz.ntmps87
  go_wp2_with fail
  go_ret
  exact ⟨ret_bool (by first | exact HV.out | rfl), Below.refl _ _⟩
def logB (l : List (List UInt8)) : Bool := !(l.any fun x => decide (20000 < x.length)) && decide (l.length ≤ 10000)
set_option maxHeartbeats 1000000 in
theorem isLog_any (ls : List (List UInt8)) (hn : ls.length ≤ 1000) (hx : ∀ x ∈ ls, x.length ≤ 100000) (v : Value) (w : World) (hv : TextsAt w v ls) :
    Calls Tryz.prog 43 #[v] w fun e w' => e = .returned (.bool (logB ls)) ∧ Below w.heap.size w w' := by
  have CI := ContainsFunc_str 87 ent_isLog1 (fun x => decide (20000 < x.length)) ls (by omega) v w hv (fun x h w' _ => isLog1_any x (by have := hx x h; omega) w')
  obtain ⟨A, c, rfl, hc⟩ := hv.slice
  have HV : Hid (logB ls = !(ls.any fun x => decide (20000 < x.length))) := by show _ = _; unfold logB; rw [decide_eq_true (by omega), Bool.and_true]
  have e1 : decide ((ls.length : Int) ≤ 10000) = true := decide_eq_true (by omega)
  have e2 : decide (ls.length ≤ 10000) = true := decide_eq_true (by omega)
  clear hv hx
  generalize (ls.any fun x => decide (20000 < x.length)) = b at *
  cases b
  all_goals
    go_enter Tryz.func43, Tryz.ntmps43
    go_wp2_with ((with_reducible refine CI.mono ?_); rintro e w' ⟨rfl, hb⟩)
    go_ret
    exact ⟨ret_bool (by rw [HV.out]; rfl), by assumption⟩
theorem ent_formed1 : ∀ args w, (callFunc 91 args).run Tryz.prog w = .ok (.enter 91 args) w := enters_fn Tryz.func91 (by kernel_rfl) rfl
set_option maxHeartbeats 1000000 in
theorem formed1_any (x : List UInt8) (hx : x.length ≤ 100000000000) (w : World) : Calls Tryz.prog 91 #[.string (bs x)] w fun e w' => e = .returned (.bool (!isD x)) ∧ Below w.heap.size w w' := by
  have CI := Is_any x (by omega) w
  go_enter Tryz.func91, Tryz.ntmps91
  go_wp2_with ((with_reducible refine CI.mono ?_); rintro e w' ⟨rfl, hb⟩)
  go_ret
  exact ⟨rfl, by assumption⟩
end Go.Proofs.YtfhanbiifjiklaaGreatDoor

/- page.items and its closure. -/
set_option linter.unusedVariables false
set_option linter.unusedSimpArgs false
namespace Go.Proofs.YtfhanbiifjiklaaGreatDoor
open Go.RowKit Go.Shelf
attribute [local go_sem] Oper.semAt_some

/-- the path slice at place k -/
def vpsOf (w : World) (v : Value) (k : Nat) : Value := match v with | .slice (some a) _ _ => (w.cell? (a.add k)).getD undef | _ => undef
theorem PathsAt.vps {w : World} {v : Value} {ps : List (List (List UInt8))} (h : PathsAt w v ps) {k : Nat} {p : List (List UInt8)} (hp : ps[k]? = some p) : TextsAt w (vpsOf w v k) p ∧ ∃ a c, v = .slice (some a) ps.length c ∧ a.block < w.heap.size ∧ w.cell? (a.add k) = some (vpsOf w v k) := by
  obtain ⟨A, c, h1, h2, h3⟩ := h
  obtain ⟨a, vv, e, hl, hc, ht⟩ := h3 k p hp
  subst h1 e
  have : vpsOf w (.slice (some a) ps.length c) k = vv := by unfold vpsOf; simp only [hc]; rfl
  rw [this]
  exact ⟨ht, a, c, rfl, hl, hc⟩
/-- the five cells of a page -/
def Pg.cs (p : Pg) (vi vp : Value) : Array Value := #[.int .i64 p.fr, .int .i64 p.size, .string (bs p.root), vi, vp]
/-- what a round keeps -/
def KpX (n₀ bx : Nat) (W W' : World) : Prop := Below n₀ W W' ∧ W'.heap[bx]? = W.heap[bx]?
theorem KpX.t {n₀ bx : Nat} {A B C : World} (h : KpX n₀ bx A B) (k : KpX n₀ bx B C) : KpX n₀ bx A C := ⟨h.1.trans k.1, k.2.trans h.2⟩
theorem KpX.refl (n₀ bx : Nat) (W : World) : KpX n₀ bx W W := ⟨Below.refl _ _, rfl⟩
theorem KpX.b {n₀ bx : Nat} {w : World} (h : n₀ ≤ w.heap.size) (hb : bx < w.heap.size) (W : World) (l : Nat) (o o' : Obj) (hl : w.heap.size ≤ l) (ho : W.heap[l]? = some o) (h1 : o.isCells = false) (h2 : o.isWalk = false) : KpX n₀ bx W (W.putObj l o') := by
  refine ⟨belowK_b h W l o o' hl ho h1 h2, ?_⟩
  show (W.heap.setIfInBounds l o')[bx]? = _
  rw [Array.getElem?_setIfInBounds_ne (by omega)]
theorem KpX.of {n₀ bx : Nat} {W W' : World} (h : Below W.heap.size W W') (hn : n₀ ≤ W.heap.size) (hb : bx < W.heap.size) : KpX n₀ bx W W' := ⟨h.mono hn, h.block bx hb⟩
/-- item k of a page -/
def Pg.enc (p : Pg) (w : World) (vp : Value) (k : Fin p.items.length) : Array Value := #[.agg #[.int .i64 (p.fr + (k : Nat)), .string (bs p.items[k]), vpsOf w vp k]]
theorem finRange_snoc (n k : Nat) (hk : k < n) : (List.finRange n).take (k + 1) = (List.finRange n).take k ++ [⟨k, hk⟩] := by
  rw [List.take_succ_eq_append_getElem (by simpa using hk)]
  simp
set_option maxHeartbeats 1000000 in
theorem items_any (p : Pg) (vi vp : Value) (w : World) : Calls Tryz.prog 56 #[.agg (p.cs vi vp)] w fun e w' => e = .returned (.func (.func 95) #[] #[.pointer (some ⟨w.heap.size, 0, none⟩)]) ∧ w' = w.alloc (.cells (p.cs vi vp) 25) := by
  unfold Pg.cs
  go_enter Tryz.func56, Tryz.ntmps56
  go_wp2_with fail
  go_ret
  exact ⟨rfl, rfl⟩
end Go.Proofs.YtfhanbiifjiklaaGreatDoor

/- The items of a page, one after the other. -/
set_option linter.unusedVariables false
set_option linter.unusedSimpArgs false
namespace Go.Proofs.YtfhanbiifjiklaaGreatDoor
open Go.RowKit Go.Shelf
attribute [local go_sem] Oper.semAt_some

set_option maxRecDepth 100000 in
set_option maxHeartbeats 2000000 in
theorem items1_in (n : Nat) (hn : 1 ≤ n) (l bx : Nat) (p : Pg) (hl : p.items.length ≤ 1000) (hp : p.paths.length = p.items.length) (hf : 0 ≤ p.fr ∧ p.fr ≤ 10000) (vi vp : Value) (w0 : World) (hvi : TextsAt w0 vi p.items) (hvp : PathsAt w0 vp p.paths)
    (J Jx : List (Fin p.items.length) → World → Prop) (hJd : ∀ pre W, J pre W → J pre W.drew)
    (hY : ∀ pre x W, J pre W → pre.length < p.items.length → YieldAt Fence.wide (n - 1) Tryz.prog l (p.enc w0 vp x) W fun e W' =>
      (e = .returned (.bool true) ∧ J (pre ++ [x]) W' ∧ KpX w0.heap.size bx W W') ∨ (e = .returned (.bool false) ∧ Jx (pre ++ [x]) W'))
    (W : World) (hb0 : Below w0.heap.size w0 W) (hbx : Blk W bx 25 (p.cs vi vp)) (h0 : J [] W) :
    CallsIn Fence.wide n Tryz.prog 95 #[.func (.yield l) #[] #[], .pointer (some ⟨bx, 0, none⟩)] W fun e W' => (∃ v, e = .returned v) ∧
      ((∃ ys, ys = List.finRange p.items.length ∧ J ys W') ∨ (∃ pre, True ∧ Jx pre W')) := by
  have HY := hide hY
  have HI := hide hvi
  have HP := hide hvp
  have HB0 := hide hb0
  have HX := hide hbx
  obtain ⟨Ai, ci, rfl, hci⟩ := hvi.slice
  obtain ⟨Ap, cp, rfl, hcp⟩ := hvp.slice
  have x3 : W.cell? ⟨bx, 3, none⟩ = some (.slice Ai p.items.length ci) := (hbx.cell 3).trans rfl
  clear hY hvi hvp hb0 hbx
  refine callsIn_of_wp Tryz.func95 rfl trivial ?_ rfl
  simp only [Tryz.ntmps95, List.size_toArray, List.length_cons, List.length_nil, Nat.reduceAdd, Nat.reduceSub, Array.replicate_succ, Array.replicate_zero, List.push_toArray, List.append_toArray, List.nil_append, List.cons_append]
  gi_wp2
  gi_loopw [8] (fun i wr => ∃ k : Nat, k ≤ p.items.length ∧ i = .int .i64 k ∧ Aside (J ((List.finRange p.items.length).take k) wr) ∧ Aside (KpX w0.heap.size bx W wr))
    (fun i _ => p.items.length - (intOf i).toNat)
  case atStart => exact ⟨0, Nat.zero_le _, rfl, h0, KpX.refl _ _ _⟩
  case round =>
    obtain ⟨k, hk, rfl, hJs, hnx⟩ := hrel
    have HJ := hide hJs
    have HK := hide hnx
    clear hJs hnx
    by_cases hlt : k < p.items.length
    · have e1 : decide ((k : Int) < (p.items.length : Int)) = true := decide_eq_true (by omega)
      obtain ⟨x, hx⟩ : ∃ x, p.items[k]? = some x := ⟨_, List.getElem?_eq_getElem hlt⟩
      obtain ⟨q, hq⟩ : ∃ q, p.paths[k]? = some q := ⟨_, List.getElem?_eq_getElem (by omega)⟩
      have hB := HB0.out.trans HK.out.1
      obtain ⟨ai, e2, hai, ci0⟩ := (HI.out.to hB).at_ hx
      obtain ⟨ht, ap, cp', e3, hap, cp0⟩ := HP.out.vps hq
      injection e3 with e3a e3b e3c
      subst e2 e3a
      have hbw : wr.heap[bx]? = W.heap[bx]? := HK.out.2
      have b0 : wr.cell? ⟨bx, 0, none⟩ = some (.int .i64 p.fr) := ((show Blk wr bx _ _ from hbw.trans HX.out).cell 0).trans rfl
      have b4 : wr.cell? ⟨bx, 4, none⟩ = some (.slice (some ap) p.paths.length cp) := ((show Blk wr bx _ _ from hbw.trans HX.out).cell 4).trans rfl
      have c1 := (hB.cell (p := ap.add k) (by rw [block_of_add]; exact hap)).trans cp0
      have hlp : k < p.paths.length := by omega
      have hE : p.enc w0 (.slice (some ap) p.paths.length cp) ⟨k, hlt⟩ = #[.agg #[.int .i64 (p.fr + k), .string (bs x), vpsOf w0 (.slice (some ap) p.paths.length cp) k]] := by
        unfold Pg.enc
        rw [show p.items[(⟨k, hlt⟩ : Fin p.items.length)] = x from (List.getElem?_eq_some_iff.1 hx).2]
      obtain ⟨fn, tmps, assign, body, hy, hR⟩ := HY.out _ ⟨k, hlt⟩ wr.drew (hJd _ _ HJ.out) (by rw [List.length_take, List.length_finRange]; omega)
      rw [hE] at hy
      have HR := hide hR
      generalize vpsOf w0 (.slice (some ap) p.paths.length cp) k = vq at *
      obtain ⟨Aq, cq, rfl, hcq⟩ := ht.slice
      clear hbw hx hq ht hE hR
      have hno : ∀ a w, ¬ (bodyPost Tryz.prog Tryz.f95 fun e W' => (∃ v, e = Ending.returned v) ∧ ((∃ ys, ys = List.finRange p.items.length ∧ J ys W') ∨ ∃ pre, True ∧ Jx pre W')) .outgrown a w := by
        rintro a w ⟨⟨v, h⟩, _⟩
        cases h
      have HNO := hide hno
      clear hno
      have ek : IntKind.i64.wrap (p.fr + (k : Int)) = p.fr + (k : Int) := IntWalk.i64_in _ (by omega)
      gi_wp2
      refine wpIn_region_class_tail (U := Unit) (fun _ => wr.drew) 12 (by kernel_rfl) (fun i K a w h => wpOpIn_ofW (by kernel_rfl) (fun ⟨a, w, h⟩ => HNO.out a w h) h) (by kernel_rfl) ⟨(), rfl⟩ ?_
      simp only [List.take_succ_cons, List.take_zero, List.drop_succ_cons, List.drop_zero]
      have b0' := fun (u : Unit) => (show wr.drew.cell? ⟨bx, 0, none⟩ = _ from b0)
      have b4' := fun (u : Unit) => (show wr.drew.cell? ⟨bx, 4, none⟩ = _ from b4)
      have c1' := fun (u : Unit) => (show wr.drew.cell? (ap.add k) = _ from c1)
      repeat (go_big_quiet_step (fail))
      refine wpQuiet_nil ?_
      intro w2 hw2
      obtain ⟨u, rfl⟩ := hw2
      clear b0' b4' c1'
      have hk1 : KpX w0.heap.size bx wr wr.drew := ⟨(Below.refl _ _).drew, rfl⟩
      have HK2 := hide (HK.out.t hk1)
      clear hk1
      gi_wp2
      refine HR.out.mono ?_
      rintro e W3 (⟨rfl, hJ3, hk3⟩ | ⟨rfl, hJx3⟩)
      · have HJ3 := hide hJ3
        have HK3 := hide (HK2.out.t hk3)
        clear hJ3 hk3
        gi_wp2
        go_roundw
        case rel => exact ⟨k + 1, by omega, by go_num, by show J _ _; rw [finRange_snoc _ k hlt]; exact HJ3.out, HK3.out⟩
        case measure => simp [intOf]; omega
      · gi_wp2
        refine bodyPost_ret (results_none rfl _ _ _) rfl ?_
        exact ⟨⟨_, rfl⟩, .inr ⟨_, trivial, hJx3⟩⟩
    · obtain rfl : k = p.items.length := by omega
      have e1 : decide ((p.items.length : Int) < (p.items.length : Int)) = false := by simp
      gi_wp2
      go_end0
      exact ⟨⟨_, rfl⟩, .inl ⟨_, rfl, by have := HJ.out; rwa [List.take_of_length_le (by simp)] at this⟩⟩
theorem items_stops (n : Nat) (hn : 1 ≤ n) (bx : Nat) (p : Pg) (hl : p.items.length ≤ 1000) (hp : p.paths.length = p.items.length) (hf : 0 ≤ p.fr ∧ p.fr ≤ 10000) (vi vp : Value) (w0 : World) (hvi : TextsAt w0 vi p.items) (hvp : PathsAt w0 vp p.paths)
    (w : World) (hb0 : Below w0.heap.size w0 w) (hbx : Blk w bx 25 (p.cs vi vp)) :
    SeqStopsK Fence.wide n Tryz.prog 95 #[.pointer (some ⟨bx, 0, none⟩)] (p.enc w0 vp) (KpX w0.heap.size bx) (fun ys => ys = List.finRange p.items.length) (fun _ => True) p.items.length w := fun l J Jx W hW hJ _ hY h0 =>
  items1_in n hn l bx p hl hp hf vi vp w0 hvi hvp J Jx (fun pre W1 h => hJ pre W1 W1.drew none h ⟨rfl, rfl, rfl, Nat.le_refl _, fun _ _ _ => rfl⟩ (fun r e => by cases e)) hY W (hb0.trans (hW.mono hb0.size)) ((hW.block bx hbx.lt).trans hbx) h0
end Go.Proofs.YtfhanbiifjiklaaGreatDoor

/- formed: the ways out ahead of the loop. -/
set_option linter.unusedVariables false
set_option linter.unusedSimpArgs false
namespace Go.Proofs.YtfhanbiifjiklaaGreatDoor
open Go.RowKit Go.Shelf
attribute [local go_sem] Oper.semAt_some

theorem results_bool {fn : Func} {p : Tmp} (h : fn.results = #[.cell p 4]) (tmps : Array Value) (w : World) (g : Nat) (v : Value) (hp : tmps.getD p undef = .pointer (some ⟨g, 0, none⟩)) (hc : w.cell? ⟨g, 0, none⟩ = some v) :
    (results fn tmps).run Tryz.prog w = .ok v w := by
  have hp' : tmps[p]?.getD undef = .pointer (some ⟨g, 0, none⟩) := by simpa using hp
  simp [results, h, hp', go_sem, hc]
def headB (p : Pg) : Bool := decide (0 ≤ p.fr ∧ p.fr ≤ 10000) && (decide (0 ≤ p.size ∧ p.size ≤ 10000) && (isD p.root && (decide (p.items.length ≤ 50) && decide (p.paths.length = p.items.length))))
/-- conditions, in their order -/
def conds (p : Pg) : List Bool := [decide (p.fr < 0), decide (10000 < p.fr), decide (p.size < 0), decide (10000 < p.size), !isD p.root, decide (50 < (p.items.length : Int)), !decide (p.paths.length = p.items.length)]
theorem conds_of (p : Pg) : headB p = !((conds p).any id) := by
  unfold headB conds
  simp only [List.any_cons, List.any_nil, id, Bool.or_false]
  rw [Bool.eq_iff_iff]
  simp only [Bool.and_eq_true, decide_eq_true_eq, Bool.not_eq_true', Bool.or_eq_false_iff, decide_eq_false_iff_not, Bool.not_eq_false']
  constructor
  · rintro ⟨h1, h2, h3, h4, h5⟩; exact ⟨by omega, by omega, by omega, by omega, h3, by omega, by omega⟩
  · rintro ⟨h1, h2, h3, h4, h5, h6, h7⟩; exact ⟨by omega, by omega, h5, by omega, by omega⟩
set_option maxRecDepth 100000 in
set_option maxHeartbeats 4000000 in
theorem formed_out (p : Pg) (hl : p.root.length ≤ 100000) (h : headB p = false) (vi vp : Value) (w : World) (hvi : TextsAt w vi p.items) (hvp : PathsAt w vp p.paths) :
    Calls Tryz.prog 52 #[.agg (p.cs vi vp)] w fun e w' => e = .returned (.bool false) ∧ Below w.heap.size w w' := by
  have CI := fun w' : World => Is_any p.root (by omega) w'
  obtain ⟨Ai, ci, rfl, hci⟩ := hvi.slice
  obtain ⟨Ap, cp, rfl, hcp⟩ := hvp.slice
  rw [conds_of] at h
  unfold conds at h
  simp only [List.any_cons, List.any_nil, id, Bool.or_false, Bool.not_eq_false'] at h
  unfold Pg.cs
  clear hvi hvp
  generalize c1 : decide (p.fr < 0) = b1 at *
  generalize c2 : decide (10000 < p.fr) = b2 at *
  generalize c3 : decide (p.size < 0) = b3 at *
  generalize c4 : decide (10000 < p.size) = b4 at *
  obtain ⟨b5, c5⟩ : ∃ b, isD p.root = !b := ⟨!isD p.root, by simp⟩
  rw [c5] at CI h
  rw [Bool.not_not] at h
  generalize c6 : decide (50 < (p.items.length : Int)) = b6 at *
  obtain ⟨b7, c7⟩ : ∃ b, decide (p.paths.length = p.items.length) = !b := ⟨!decide (p.paths.length = p.items.length), by simp⟩
  rw [c7, Bool.not_not] at h
  have c8 : ((p.paths.length : Int) != (p.items.length : Int)) = b7 := by
    rw [show ((p.paths.length : Int) != (p.items.length : Int)) = !decide (p.paths.length = p.items.length) from congrArg not (decide_eq_decide.2 (by omega)), c7, Bool.not_not]
  cases b1
  cases b2
  cases b3
  cases b4
  cases b5
  cases b6
  cases b7
  · cases h
  all_goals (try simp only [Bool.not_false, Bool.not_true] at CI)
  all_goals (try simp only [Bool.not_false, Bool.not_true] at c7)
  all_goals
    go_enter Tryz.func52, Tryz.ntmps52
    go_wp2_with ((with_reducible refine (CI _).mono ?_); rintro e w2 ⟨rfl, hb2⟩; have x := ((Blk.new w 25 #[.int .i64 p.fr, .int .i64 p.size, .string (bs p.root), .slice Ai p.items.length ci, .slice Ap p.paths.length cp]).alloc (.cells #[.bool false] 4)).to hb2; have x3 := (x.cell 3).trans (show _ = some (Value.slice Ai p.items.length ci) from rfl); have x4 := (x.cell 4).trans (show _ = some (Value.slice Ap p.paths.length cp) from rfl); have y := (Blk.new (w.alloc (.cells #[.int .i64 p.fr, .int .i64 p.size, .string (bs p.root), .slice Ai p.items.length ci, .slice Ap p.paths.length cp] 25)) 4 #[.bool false]).to hb2; rw [World.size_alloc] at y; have y0 := (y.cell 0).trans (show _ = some (Value.bool false) from rfl); have yf := y.frozen 0; have HX := hide x; have HY := hide y; have HB := hide hb2; clear x y hb2)
    have HB0 : Below w.heap.size w ((w.alloc (.cells #[.int .i64 p.fr, .int .i64 p.size, .string (bs p.root), .slice Ai p.items.length ci, .slice Ap p.paths.length cp] 25)).alloc (.cells #[.bool false] 4)) := ((Below.refl _ w).alloc (Nat.le_refl _) _).alloc (by simp) _
    first
      | (refine bodyPost_ret (results_bool rfl _ _ (w.heap.size + 1) (.bool false) rfl ((HY.out.set_ 0 _).cell 0)) rfl ⟨rfl, ?_⟩
         exact (HB0.trans (HB.out.mono HB0.size)).setCell (p := ⟨w.heap.size + 1, 0, none⟩) (Nat.le_succ _) _)
      | (have y := Blk.new (w.alloc (.cells #[.int .i64 p.fr, .int .i64 p.size, .string (bs p.root), .slice Ai p.items.length ci, .slice Ap p.paths.length cp] 25)) 4 #[.bool false]
         rw [World.size_alloc] at y
         exact bodyPost_ret (results_bool rfl _ _ (w.heap.size + 1) (.bool false) rfl (y.cell 0)) rfl ⟨rfl, HB0⟩)
      | trace_state
end Go.Proofs.YtfhanbiifjiklaaGreatDoor

/- formed. -/
set_option linter.unusedVariables false
set_option linter.unusedSimpArgs false
namespace Go.Proofs.YtfhanbiifjiklaaGreatDoor
open Go.RowKit Go.Shelf
attribute [local go_sem] Oper.semAt_some

theorem Blk.own {W W' : World} {row : Option Nat} {b : Nat} {t : TypeId} {cs : Array Value} (h : Blk W b t cs) (hg : W.grownBy W' row) (hr : ∀ r, row = some r → ∃ o : Obj, W.heap[r]? = some o ∧ o.isCells = false) : Blk W' b t cs :=
  (hg.block b h.lt (fun e => by obtain ⟨o, ho, hc⟩ := hr b e.symm; rw [show W.heap[b]? = _ from h] at ho; cases ho; cases hc)).trans h
theorem keepsFrom_of {B : Nat} {W W' : World} (h : Below W.heap.size W W') : KeepsFrom B W W' := ⟨h.size, fun k o _ h0 _ => (h.block k (Array.getElem?_eq_some_iff.1 h0).1).trans h0⟩
def pathB (q : List (List UInt8)) : Bool := !(q.any fun x => !isD x) && decide (q.length ≤ 20)
def okPart (x : List UInt8) (q : List (List UInt8)) : Bool := pathB q && decide (x.length ≤ 20000)
def Pg.okAt (p : Pg) (k : Fin p.items.length) : Bool := okPart p.items[k] (p.paths.getD k [])
/-- the three cells of item k -/
def itC (p : Pg) (w : World) (vp : Value) (k : Fin p.items.length) : Array Value := #[.int .i64 (p.fr + (k : Nat)), .string (bs p.items[k]), vpsOf w vp k]
def formedB (p : Pg) : Bool := headB p && (List.finRange p.items.length).all p.okAt
set_option maxRecDepth 100000 in
set_option maxHeartbeats 4000000 in
theorem formed_in (p : Pg) (hl : p.root.length ≤ 100000) (hi : ∀ x ∈ p.items, x.length ≤ 100000) (hq' : ∀ q ∈ p.paths, q.length ≤ 200000 ∧ ∀ x ∈ q, x.length ≤ 100000) (h : headB p = true) (vi vp : Value) (w : World) (hvi : TextsAt w vi p.items) (hvp : PathsAt w vp p.paths) :
    Calls Tryz.prog 52 #[.agg (p.cs vi vp)] w fun e w' => e = .returned (.bool (formedB p)) ∧ Below w.heap.size w w' := by
  have CI := fun w' : World => Is_any p.root (by omega) w'
  have HI := hide hvi
  have HP := hide hvp
  have HF : Hid (formedB p = (List.finRange p.items.length).all p.okAt) := by show _ = _; unfold formedB; rw [h]; rfl
  have CT := fun w' : World => items_any p vi vp w'
  obtain ⟨Ai, ci, rfl, hci⟩ := hvi.slice
  obtain ⟨Ap, cp, rfl, hcp⟩ := hvp.slice
  have hh : ((0 ≤ p.fr ∧ p.fr ≤ 10000) ∧ (0 ≤ p.size ∧ p.size ≤ 10000) ∧ isD p.root = true ∧ p.items.length ≤ 50 ∧ p.paths.length = p.items.length) := by
    unfold headB at h
    simpa only [Bool.and_eq_true, decide_eq_true_eq] using h
  obtain ⟨hf, hs, hr, hn, hpl⟩ := hh
  rw [hr] at CI
  unfold Pg.cs at CT ⊢
  have c1 : decide (p.fr < 0) = false := by simp; omega
  have c2 : decide (10000 < p.fr) = false := by simp; omega
  have c3 : decide (p.size < 0) = false := by simp; omega
  have c4 : decide (10000 < p.size) = false := by simp; omega
  have c6 : decide (50 < (p.items.length : Int)) = false := by simp; omega
  have c8 : ((p.paths.length : Int) != (p.items.length : Int)) = false := by rw [hpl]; simp
  obtain ⟨n, h1⟩ : ∃ n : Nat, 5 ≤ n := ⟨5, Nat.le_refl _⟩
  have HPL := hide hpl
  clear hvi hvp h hr hpl
  refine (callsIn_wide (n := n)).1 ?_
  refine callsIn_of_wp_marks Tryz.func52 rfl trivial ?_ rfl
  simp only [Tryz.ntmps52, List.size_toArray, List.length_cons, List.length_nil, Nat.reduceAdd, Nat.reduceSub, Array.replicate_succ, Array.replicate_zero, List.push_toArray, List.append_toArray, List.nil_append, List.cons_append]
  gi_wp2_with (first
    | (refine ⟨trivial, fun _ => (by omega), ?_⟩; gi_at_call 67; refine (callsIn_wide.2 (CI _)).mono ?_; rintro e w2 ⟨rfl, hb2⟩; have x : Blk w2 w.heap.size 25 _ := ((Blk.new w 25 #[.int .i64 p.fr, .int .i64 p.size, .string (bs p.root), .slice Ai p.items.length ci, .slice Ap p.paths.length cp]).alloc (.cells #[.bool false] 4)).to hb2; have x0 := (x.cell 0).trans (show _ = some (Value.int .i64 p.fr) from rfl); have x1 := (x.cell 1).trans (show _ = some (Value.int .i64 p.size) from rfl); have x2 := (x.cell 2).trans (show _ = some (Value.string (bs p.root)) from rfl); have x3 := (x.cell 3).trans (show _ = some (Value.slice Ai p.items.length ci) from rfl); have x4 := (x.cell 4).trans (show _ = some (Value.slice Ap p.paths.length cp) from rfl); have y := (Blk.new (w.alloc (.cells #[.int .i64 p.fr, .int .i64 p.size, .string (bs p.root), .slice Ai p.items.length ci, .slice Ap p.paths.length cp] 25)) 4 #[.bool false]).to hb2; rw [World.size_alloc] at y; have y0 := (y.cell 0).trans (show _ = some (Value.bool false) from rfl); have yf := y.frozen 0; have HX := hide x; have HY := hide y; have HB := hide hb2; clear x y hb2)
    | (refine ⟨trivial, fun _ => (by omega), ?_⟩; gi_at_call 56; refine (callsIn_wide.2 (CT _)).mono ?_; rintro e w3 ⟨rfl, rfl⟩))
  have HX2 := hide (HX.out.alloc (.cells #[.int .i64 p.fr, .int .i64 p.size, .string (bs p.root), .slice Ai p.items.length ci, .slice Ap p.paths.length cp] 25))
  have HY2 := hide (HY.out.alloc (.cells #[.int .i64 p.fr, .int .i64 p.size, .string (bs p.root), .slice Ai p.items.length ci, .slice Ap p.paths.length cp] 25))
  have HZ2 := hide (Blk.new w2 25 #[.int .i64 p.fr, .int .i64 p.size, .string (bs p.root), .slice Ai p.items.length ci, .slice Ap p.paths.length cp])
  have hsz : w.heap.size + 2 ≤ w2.heap.size := by have := HB.out.size; simpa using this
  have hb0 : Below w.heap.size w w2 := (((Below.refl _ w).alloc (Nat.le_refl _) _).alloc (by simp) _).trans (HB.out.mono (by simp; omega))
  have HB2 := hide (hb0.alloc (by omega) (.cells #[.int .i64 p.fr, .int .i64 p.size, .string (bs p.root), .slice Ai p.items.length ci, .slice Ap p.paths.length cp] 25))
  have hsz2 : (w2.alloc (.cells #[.int .i64 p.fr, .int .i64 p.size, .string (bs p.root), .slice Ai p.items.length ci, .slice Ap p.paths.length cp] 25)).heap.size = w2.heap.size + 1 := by simp
  obtain ⟨W0, hW0⟩ : ∃ W0, w2.alloc (.cells #[.int .i64 p.fr, .int .i64 p.size, .string (bs p.root), .slice Ai p.items.length ci, .slice Ap p.paths.length cp] 25) = W0 := ⟨_, rfl⟩
  rw [hW0] at HX2 HY2 HZ2 HB2 hsz2 ⊢
  clear hW0 HX HY x0 x1 x2 x3 x4 y0 yf CI CT hb0 c1 c2 c3 c4 c6 c8
  refine wpIn_rangeFunc_ownH (F := Fence.wide) rfl (by omega) (gf := 95) (lb := #[.pointer (some ⟨w2.heap.size, 0, none⟩)]) rfl trivial (enters_fn Tryz.func95 (by kernel_rfl) rfl)
    (items_stops (n - 1) (by omega) w2.heap.size p (by omega) HPL.out hf _ _ w HI.out HP.out W0 HB2.out HZ2.out) KpX.t (KpX.b (by omega) (by omega)) (Below.refl _ _) (fun _ => rfl)
    (fun pre W => (Blk W (w.heap.size + 1) 4 #[.bool false] ∧ pre.all p.okAt = true ∧ w2.heap.size < W.heap.size) ∧ Below w.heap.size w W)
    (fun c pre W => (c = .ret ∧ (∃ k, p.okAt k = false) ∧ Blk W (w.heap.size + 1) 4 #[.bool false]) ∧ Below w.heap.size w W)
    (OwnFrom.and (fun s A B row hs hg hr => ⟨hs.1.own hg (fun r e => (hr r e).2), hs.2.1, Nat.lt_of_lt_of_le hs.2.2 hg.size⟩) (ownFrom_below (Nat.le_refl _) (by omega)))
    (fun c => OwnFrom.and (fun s A B row hs hg hr => ⟨hs.1, hs.2.1, hs.2.2.own hg (fun r e => (hr r e).2)⟩) (ownFrom_below (Nat.le_refl _) (by omega)))
    ⟨⟨HY2.out, rfl, by omega⟩, HB2.out⟩
    (fun x a' W => ∃ Bx, w2.heap.size < Bx ∧ Blk W Bx 80 (itC p w (.slice Ap p.paths.length cp) x) ∧ a' = { tmps := #[.agg #[.int .i64 p.fr, .int .i64 p.size, .string (bs p.root), .slice Ai p.items.length ci, .slice Ap p.paths.length cp], .pointer (some ⟨w.heap.size, 0, none⟩), .pointer (some ⟨w.heap.size + 1, 0, none⟩), .pointer (some ⟨Bx, 0, none⟩), undef, .pointer (some ⟨w.heap.size, 0, none⟩), .int .i64 p.fr, .bool false, .bool false, .pointer (some ⟨w.heap.size, 0, none⟩), .int .i64 p.fr, .bool false, .bool false, .bool false, .pointer (some ⟨w.heap.size, 1, none⟩), .int .i64 p.size, .bool false, .bool false, .bool false, .pointer (some ⟨w.heap.size, 1, none⟩), .int .i64 p.size, .bool false, .bool false, .bool false, .pointer (some ⟨w.heap.size, 2, none⟩), .string (bs p.root), .bool true, .bool false, .bool false, .bool false, .pointer (some ⟨w.heap.size, 3, none⟩), .slice Ai p.items.length ci, .int .i64 p.items.length, .bool false, .bool false, .bool false, .pointer (some ⟨w.heap.size, 4, none⟩), .slice Ap p.paths.length cp, .int .i64 p.paths.length, .pointer (some ⟨w.heap.size, 3, none⟩), .slice Ai p.items.length ci, .int .i64 p.items.length, .bool false, .bool false, .agg #[.int .i64 p.fr, .int .i64 p.size, .string (bs p.root), .slice Ai p.items.length ci, .slice Ap p.paths.length cp], .func (.func 95) #[] #[.pointer (some ⟨w2.heap.size, 0, none⟩)], .agg (itC p w (.slice Ap p.paths.length cp) x), undef, undef, undef, undef, undef, undef, undef, undef, undef, undef, undef, undef, undef, undef, undef, undef], defers := [] })
    (fun x a' s A B row hs hg hr => by obtain ⟨Bx, q1, q2, q3⟩ := hs; exact ⟨Bx, q1, q2.own hg (fun r e => (hr r e).2), q3⟩) ?assign ?body ?done ?stop
  case assign =>
    rintro l pre ⟨k, hk⟩ W K ⟨⟨hbW, hpre, hsW⟩, hBW⟩ hK
    have HBW := hide hbW
    have HBl := hide hBW
    clear hbW hBW
    obtain ⟨x, hx⟩ : ∃ x, p.items[k] = x := ⟨_, rfl⟩
    obtain ⟨q, hq⟩ : ∃ q, p.paths[k]? = some q := ⟨_, List.getElem?_eq_getElem (by have := HPL.out; omega)⟩
    obtain ⟨Aq, cq, hv, hcq⟩ := (HP.out.vps hq).1.slice
    unfold Pg.enc
    rw [show p.items[(⟨k, hk⟩ : Fin p.items.length)] = x from hx]
    unfold itC at hK
    rw [show p.items[(⟨k, hk⟩ : Fin p.items.length)] = x from hx] at hK
    simp only [hv] at hK ⊢
    have hK2 := hide hK
    clear hK
    gi_wp2
    exact hK2.out _ _ ((KeepsOthers.alloc _ _).from _) (KpX.of ((Below.refl W.heap.size W).alloc (Nat.le_refl _) _) HBl.out.size hsW) ⟨⟨HBW.out.alloc _, hpre, by simp; omega⟩, HBl.out.alloc HBl.out.size _⟩ ⟨W.heap.size, hsW, Blk.new _ _ _, rfl⟩
  case body =>
    rintro l pre ⟨k, hk⟩ a' W hlw ⟨r, hlr⟩ ⟨⟨hbW, hpre, hsW⟩, hBW⟩ ⟨Bx, hBx, hbI, rfl⟩ hlen
    have HBW := hide hbW
    have HBl := hide hBW
    have HIt := hide hbI
    clear hbW hBW hbI hlr
    obtain ⟨x, hx⟩ : ∃ x, p.items[k] = x := ⟨_, rfl⟩
    obtain ⟨q, hq⟩ : ∃ q, p.paths[k]? = some q := ⟨_, List.getElem?_eq_getElem (by have := HPL.out; omega)⟩
    have hxl := hi x (hx ▸ List.getElem_mem _)
    obtain ⟨hql, hqx⟩ := hq' q (List.mem_of_getElem? hq)
    have HT := hide ((HP.out.vps hq).1.to HBl.out)
    obtain ⟨Aq, cq, hv, hcq⟩ := (HP.out.vps hq).1.slice
    rw [hv] at HT
    have CC := ContainsFunc_str 91 ent_formed1 (fun x => !isD x) q (by omega) (.slice Aq q.length cq) W HT.out (fun x hx w' _ => formed1_any x (by have := hqx x hx; omega) w')
    have HO : Hid (p.okAt ⟨k, hk⟩ = (!(q.any fun x => !isD x) && decide (q.length ≤ 20) && decide (x.length ≤ 20000))) := by
      show _ = _
      unfold Pg.okAt okPart pathB
      rw [show p.items[(⟨k, hk⟩ : Fin p.items.length)] = x from hx, show p.paths.getD ((⟨k, hk⟩ : Fin p.items.length) : Nat) [] = q by simp [hq]]
    have HIt2 : Hid (Blk W Bx 80 #[.int .i64 (p.fr + (k : Nat)), .string (bs x), .slice Aq q.length cq]) := by
      have := HIt.out
      unfold itC at this
      rw [show p.items[(⟨k, hk⟩ : Fin p.items.length)] = x from hx] at this
      simp only [hv] at this
      exact this
    unfold itC
    rw [show p.items[(⟨k, hk⟩ : Fin p.items.length)] = x from hx]
    simp only [hv]
    have i1 := (HIt2.out.cell 1).trans (show _ = some (Value.string (bs x)) from rfl)
    have i2 := (HIt2.out.cell 2).trans (show _ = some (Value.slice Aq q.length cq) from rfl)
    have hxs : (bs x).size = x.length := bs_size x
    clear HIt hqx hv
    generalize (q.any fun x => !isD x) = b at *
    obtain ⟨b1, hb1⟩ : ∃ b, decide ((20 : Int) < (q.length : Int)) = b := ⟨_, rfl⟩
    obtain ⟨b2, hb2⟩ : ∃ b, decide ((20000 : Int) < (x.length : Int)) = b := ⟨_, rfl⟩
    have HE : Hid (p.okAt ⟨k, hk⟩ = (!b && !b1 && !b2)) := by
      show _ = _
      rw [HO.out, ← hb1, ← hb2, ← decide_not, ← decide_not, decide_eq_decide.2 (show (q.length ≤ 20 ↔ ¬ ((20 : Int) < (q.length : Int))) by omega), decide_eq_decide.2 (show (x.length ≤ 20000 ↔ ¬ ((20000 : Int) < (x.length : Int))) by omega)]
    clear HO
    cases b
    cases b1
    cases b2
    all_goals
      gi_wp2_with (refine ⟨trivial, fun _ => (by omega), ?_⟩; gi_at_call 86; refine (CallsIn.inRound l (callsIn_wide.2 CC)).mono ?_; rintro e w4 ⟨rfl, hb4⟩; have j1 := (hb4.cell (p := ⟨Bx, 1, none⟩) HIt2.out.lt).trans i1; have j2 := (hb4.cell (p := ⟨Bx, 2, none⟩) HIt2.out.lt).trans i2; have y4 := HBW.out.to hb4; have y0 := (y4.cell 0).trans (show _ = some (Value.bool false) from rfl); have yf := y4.frozen 0; have HY4 := hide y4; have HB4 := hide hb4; clear hb4 y4 CC)
    all_goals have HKF : KeepsFrom W0.heap.size W w4 := keepsFrom_of HB4.out
    all_goals have HBw : Below w.heap.size w w4 := HBl.out.trans (HB4.out.mono HBl.out.size)
    all_goals have HKp : KpX w.heap.size w2.heap.size W w4 := KpX.of HB4.out HBl.out.size hsW
    · exact ⟨HKF, HKp, ⟨HY4.out, by rw [List.all_append, hpre, List.all_cons, HE.out]; rfl, Nat.lt_of_lt_of_le hsW HB4.out.size⟩, HBw⟩
    all_goals exact ⟨HKF.trans ((KeepsOthers.setCell _ _ _).from _), ⟨rfl, ⟨⟨k, hk⟩, HE.out⟩, HY4.out.set_ 0 _⟩, HBw.setCell (p := ⟨w.heap.size + 1, 0, none⟩) (Nat.le_succ _) _⟩
  case done =>
    rintro D ys W hD rfl ⟨⟨hbW, hpre, hsW⟩, hBW⟩ hK
    have hK' := (KeepsOthers.setCell W ⟨w.heap.size + 1, 0, none⟩ (.bool true)).same D _ hK rfl
    have HBW := hide hbW
    have HBl := hide hBW
    have HK := hide hK
    have y0 := (hbW.cell 0).trans (show _ = some (Value.bool false) from rfl)
    have yf := hbW.frozen 0
    clear hbW hBW hK
    gi_wp2
    refine ⟨by simp, .inl ⟨_, _, rfl, run_takeDeferred hK', ?_⟩⟩
    have y1 := HBW.out.set_ 0 (.bool true)
    refine ⟨.bool true, results_bool rfl _ _ (w.heap.size + 1) (.bool true) rfl ?_, by rw [HF.out, hpre], (HBl.out.setCell (p := ⟨w.heap.size + 1, 0, none⟩) (Nat.le_succ _) _).trans (belowK_b (w := w) (Nat.le_refl _) _ D _ _ (by omega) hK' rfl rfl)⟩
    exact ((y1.own (grownBy_putObj' _ D (.deferred none)) (fun r e => by cases e; exact ⟨_, hK', rfl⟩)).cell 0).trans rfl
  case stop =>
    rintro D c pre W hD _ ⟨⟨rfl, ⟨k, hk⟩, hbW⟩, hBW⟩ hK
    have HBW := hide hbW
    have HBl := hide hBW
    have HK := hide hK
    clear hbW hBW hK
    gi_wp2
    refine ⟨by simp, .inl ⟨_, _, rfl, run_takeDeferred HK.out, ?_⟩⟩
    refine ⟨.bool false, results_bool rfl _ _ (w.heap.size + 1) (.bool false) rfl ?_, ?_, HBl.out.trans (belowK_b (w := w) (Nat.le_refl _) _ D _ _ (by omega) HK.out rfl rfl)⟩
    · exact ((HBW.out.own (grownBy_putObj' _ D (.deferred none)) (fun r e => by cases e; exact ⟨_, HK.out, rfl⟩)).cell 0).trans rfl
    · rw [HF.out]
      congr 2
      rw [eq_comm, Bool.eq_false_iff]
      intro hall
      rw [List.all_eq_true.1 hall k (List.mem_finRange k)] at hk
      cases hk
theorem formed_any (p : Pg) (hl : p.root.length ≤ 100000) (hi : ∀ x ∈ p.items, x.length ≤ 100000) (hq : ∀ q ∈ p.paths, q.length ≤ 200000 ∧ ∀ x ∈ q, x.length ≤ 100000) (vi vp : Value) (w : World) (hvi : TextsAt w vi p.items) (hvp : PathsAt w vp p.paths) :
    Calls Tryz.prog 52 #[.agg (p.cs vi vp)] w fun e w' => e = .returned (.bool (formedB p)) ∧ Below w.heap.size w w' := by
  cases h : headB p with
  | true => exact formed_in p hl hi hq h vi vp w hvi hvp
  | false =>
    refine (formed_out p hl h vi vp w hvi hvp).mono ?_
    rintro e w' ⟨rfl, hb⟩
    exact ⟨by unfold formedB; rw [h]; rfl, hb⟩
end Go.Proofs.YtfhanbiifjiklaaGreatDoor

/- Builders whose frame reaches above them. -/
set_option linter.unusedVariables false
set_option linter.unusedSimpArgs false
namespace Go.Proofs.YtfhanbiifjiklaaGreatDoor
open Go.RowKit Go.Shelf

theorem WriteString_k (B b : Nat) (vs : List Value) (s : ByteArray) (w : World) (h : Lib.IsBuilderF 69 5 B b vs w) (hlen : vs.length + s.size ≤ 140737488355328) (hBw : B ≤ w.heap.size) :
    Calls Tryz.prog 53 #[.pointer (some ⟨b, 0, none⟩), .string s] w fun e w' => e = .returned (.tuple #[.int .i64 s.size, .nilIface]) ∧ (Lib.BuilderAtF 69 5 B b (.pointer (some ⟨b, 0, none⟩)) (vs ++ Lib.strCells s) w' ∧ Below B w w' ∧ Lib.OthersKept 5 (some b) w w') :=
  Any.Builder_WriteString_k { Tryz.lays105 with } Tryz.Builder_Extra_105 B b vs s w h hlen hBw
theorem BString_k (B b : Nat) (l : List UInt8) (w : World) (h : Lib.IsBuilderF 69 5 B b (Lib.byteCells l) w) (hBw : B ≤ w.heap.size) :
    Calls Tryz.prog 57 #[.pointer (some ⟨b, 0, none⟩)] w fun e w' => e = .returned (.string ⟨l.toArray⟩) ∧ Below B w w' ∧ Lib.OthersKept 5 (some b) w w' :=
  (Any.Builder_String_any_k Tryz.lays169 Tryz.Builder_Extra_169 B b l w h hBw).mono fun e w' h => ⟨h.1, h.2.2⟩
theorem BuilderAtF.keep {T e : TypeId} {B b : Nat} {p : Value} {vs : List Value} {w w' : World} (h : Lib.BuilderAtF T e B b p vs w) (hk : ∀ (k : Nat) (c : Array Value) (t : TypeId) (fz : Nat × Nat), w.heap[k]? = some (Obj.cells c t fz) → w'.heap[k]? = some (Obj.cells c t fz)) : Lib.BuilderAtF T e B b p vs w' := by
  obtain ⟨h1, v, h2, h3, h4⟩ := h
  refine ⟨h1, v, hk _ _ _ _ h2, ⟨h3.1, ?_⟩, h4⟩
  rcases h3.2 with h5 | ⟨g, cap, cur, fz, h5, h6, h7, h8⟩
  · exact .inl h5
  · exact .inr ⟨g, cap, cur, fz, h5, h6, hk _ _ _ _ h7, h8⟩
theorem IsBuilderF.keep {T e : TypeId} {B b : Nat} {vs : List Value} {w w' : World} (h : Lib.IsBuilderF T e B b vs w) (hk : ∀ (k : Nat) (c : Array Value) (t : TypeId) (fz : Nat × Nat), w.heap[k]? = some (Obj.cells c t fz) → w'.heap[k]? = some (Obj.cells c t fz)) : Lib.IsBuilderF T e B b vs w' :=
  h.elim (fun x => .inl (BuilderAtF.keep x hk)) (fun x => .inr (BuilderAtF.keep x hk))
theorem IsBuilderF.to {T e : TypeId} {B b : Nat} {vs : List Value} {w w' : World} (h : Lib.IsBuilderF T e B b vs w) (hb : Below w.heap.size w w') : Lib.IsBuilderF T e B b vs w' :=
  IsBuilderF.keep h fun k c t fz hk => (hb.block k (Array.getElem?_eq_some_iff.1 hk).1).trans hk
theorem IsBuilderF.own {T e : TypeId} {B b : Nat} {vs : List Value} {w w' : World} {row : Option Nat} (h : Lib.IsBuilderF T e B b vs w) (hg : w.grownBy w' row) (hr : ∀ r, row = some r → ∃ o : Obj, w.heap[r]? = some o ∧ o.isCells = false) : Lib.IsBuilderF T e B b vs w' :=
  IsBuilderF.keep h fun k c t fz hk => (hg.block k (Array.getElem?_eq_some_iff.1 hk).1 (fun e => by obtain ⟨o, ho, hc⟩ := hr k e.symm; rw [hk] at ho; cases ho; cases hc)).trans hk
theorem IsBuilderF.blk {T e : TypeId} {B b : Nat} {vs : List Value} {w : World} (h : Lib.IsBuilderF T e B b vs w) : ∃ cs, Blk w b T cs := by
  rcases h with ⟨_, v, h, _⟩ | ⟨_, v, h, _⟩
  · exact ⟨_, h⟩
  · exact ⟨_, h⟩
theorem keepsFrom_kept {T : TypeId} {D B b : Nat} {vs : List Value} {w w' : World} (hI : Lib.IsBuilderF T 5 B b vs w) (hb : Below B w w') (hk : Lib.OthersKept 5 (some b) w w') : KeepsFrom D w w' :=
  ⟨hb.size, fun k o _ h0 ho => hk k o h0 (fun e => by obtain ⟨cs, hc⟩ := IsBuilderF.blk hI; cases e; rw [show w.heap[b]? = _ from hc] at h0; cases h0; cases ho) (fun c fz e => by subst e; cases ho)⟩
theorem blk_kept {b g : Nat} {t : TypeId} {cs : Array Value} {w w' : World} (h : Blk w g t cs) (hk : Lib.OthersKept 5 (some b) w w') (hg : g ≠ b) (ht : t ≠ 5) : Blk w' g t cs :=
  hk g _ h (fun e => hg (Option.some.inj e)) (fun c fz e => by cases e; exact ht rfl)
end Go.Proofs.YtfhanbiifjiklaaGreatDoor

/- The text of a page; strings.Join. -/
set_option linter.unusedVariables false
set_option linter.unusedSimpArgs false
namespace Go.Proofs.YtfhanbiifjiklaaGreatDoor
open Go.RowKit Go.Shelf

def headT (p : Pg) : List UInt8 := Lib.join [[112, 97, 103, 101], Lib.itoa p.fr, Lib.itoa p.size, p.root, Lib.itoa p.items.length] [32] ++ [10]
def lineT (x : List UInt8) (q : List (List UInt8)) : List UInt8 := Lib.join (Lib.itoa x.length :: q) [32] ++ [10] ++ x ++ [10]
def Pg.line (p : Pg) (k : Fin p.items.length) : List UInt8 := lineT p.items[k] (p.paths.getD k [])
def textPg (p : Pg) : List UInt8 := headT p ++ (List.finRange p.items.length).flatMap p.line
theorem itoa_len (n : Nat) (h : n < 10000000000000000000) : (Lib.itoa (n : Int)).length ≤ 20 := by
  unfold Lib.itoa
  rw [if_neg (by omega)]
  exact dec_len 19 n (by omega)
theorem tail_len (m : Nat) : ∀ (q : List (List UInt8)), (∀ x ∈ q, x.length ≤ m) → (Lib.joinTail [32] q).length ≤ q.length * (m + 1)
  | [], _ => by simp [Lib.joinTail]
  | x :: q, h => by
    have h1 := tail_len m q (fun y hy => h y (List.mem_cons_of_mem _ hy))
    have h2 := h x (List.mem_cons_self ..)
    unfold Lib.joinTail at h1 ⊢
    rw [List.map_cons, List.flatten_cons, List.length_append, List.length_append, List.length_cons, List.length_cons, Nat.add_mul]
    simp only [List.length_nil]
    omega
theorem line_len (x : List UInt8) (q : List (List UInt8)) (hx : x.length ≤ 100000) (hn : q.length ≤ 200000) (hq : ∀ y ∈ q, y.length ≤ 100000) : (lineT x q).length ≤ 30000000000 := by
  unfold lineT
  rw [Lib.join_cons]
  have h1 := itoa_len x.length (by omega)
  have h2 := tail_len 100000 q hq
  have h3 : q.length * (100000 + 1) ≤ 200000 * 100001 := Nat.mul_le_mul hn (Nat.le_refl _)
  simp only [List.length_append, List.length_cons, List.length_nil]
  omega
theorem flat_le {α : Type} (f : α → List UInt8) (m : Nat) (h : ∀ x, (f x).length ≤ m) : ∀ l : List α, (l.flatMap f).length ≤ l.length * m
  | [] => by simp
  | x :: l => by
    have := flat_le f m h l
    have := h x
    rw [List.flatMap_cons, List.length_append, List.length_cons, Nat.add_mul]
    omega
theorem Join_any (b o c : Nat) (ls : List (List UInt8)) (w : World) (hb : b < w.heap.size) (hc : ls.length ≤ c) (hn : ls.length ≤ 1000000) (hat : ∀ (j : Nat) x, ls[j]? = some x → w.cell? ⟨b, o + j, none⟩ = some (.string (bs x))) (hl : (Lib.join ls [32]).length ≤ 140737488355328) :
    Calls Tryz.prog 54 #[.slice (some ⟨b, o, none⟩) ls.length c, .string ⟨#[32]⟩] w fun e w' => e = .returned (.string (bs (Lib.join ls [32]))) ∧ Below w.heap.size w w' := by
  have e1 : (ls.map bs).map (fun x => x.data.toList) = ls := by
    rw [List.map_map]
    conv => rhs; rw [← List.map_id ls]
    exact List.map_congr_left fun x _ => bs_list x
  have h := Tryz.strings_Join b o c (ls.map bs) ⟨#[32]⟩ w (fun j x hx => by
    rw [List.getElem?_map] at hx
    obtain ⟨y, hy, rfl⟩ := Option.map_eq_some_iff.1 hx
    exact hat j y hy) hb (by rw [List.length_map]; omega) (by rw [List.length_map]; exact hc) (by rw [e1]; exact hl)
  rw [e1, List.length_map] at h
  exact h
end Go.Proofs.YtfhanbiifjiklaaGreatDoor

/- append of a list of texts behind one text. -/
set_option linter.unusedVariables false
set_option linter.unusedSimpArgs false
namespace Go.Proofs.YtfhanbiifjiklaaGreatDoor
open Go.RowKit Go.Shelf

/-- a slice of texts in its own array -/
def SlAt (w : World) (v : Value) (ls : List (List UInt8)) : Prop := ∃ g c, v = .slice (some ⟨g, 0, none⟩) ls.length c ∧ ls.length ≤ c ∧ g < w.heap.size ∧ ∀ (j : Nat) x, ls[j]? = some x → w.cell? ⟨g, j, none⟩ = some (.string (bs x))
theorem SlAt.to {w w' : World} {v : Value} {ls : List (List UInt8)} (h : SlAt w v ls) (hb : Below w.heap.size w w') : SlAt w' v ls := by
  obtain ⟨g, c, h1, h2, h3, h4⟩ := h
  exact ⟨g, c, h1, h2, Nat.lt_of_lt_of_le h3 hb.size, fun j x hx => (hb.cell (p := ⟨g, j, none⟩) h3).trans (h4 j x hx)⟩
theorem wp_append_one {o : Oper} {a : Act} {w : World} {K : Act → World → Prop} {Q : Exit → Act → World → Prop} (s x : Operand) (hop : o.op = Op.call { callee := Callee.builtin Builtin.append, args := #[s, x], argTypes := #[22, 22] })
    (b : Nat) (d : List UInt8) (hs : a.eval s = .slice (some ⟨b, 0, none⟩) 1 1) (hb : Blk w b 9 #[.string (bs d)]) (q : List (List UInt8)) (xv : Value) (hx : a.eval x = xv) (hq : TextsAt w xv q) (hn : q.length ≤ 200000)
    (h : ∀ v w', SlAt w' v (d :: q) → Below w.heap.size w w' → K (a.put o.dst v) w') : o.wp Tryz.prog a w K Q := by
  obtain ⟨i0, hi0, hz0, hz1, hz2⟩ := info_parts (show (Tryz.prog.info? 9).map (fun i => (i.zero, i.size, i.bytes)) = some (some (.string ⟨#[]⟩), 1, 16) by kernel_rfl)
  obtain ⟨A, c, rfl, hc⟩ := hq.slice
  cases q with
  | nil =>
    have hsrc : Src Tryz.prog i0.size 22 (.slice A ([] : List (List UInt8)).length c) 0 [] w := by
      cases A with
      | none => exact Src.ofNil w Tryz.underlying22 c
      | some ad => exact Src.ofSlice w Tryz.underlying22 ad 0 c [] (by simp) (fun j u h => by simp at h) (fun u h => by cases h)
    have hrun := run_append_nothing (P := Tryz.prog) w 22 22 o.type 9 i0 Tryz.underlying22 hi0 (some ⟨b, 0, none⟩) 1 1 (Nat.le_refl _) _ hsrc
    unfold Oper.wp
    simp only [List.length_nil] at hrun hx
    simp [execOp, hop, resolve, invoke, builtin, hs, hx, hrun, Result.andThen]
    refine h (.slice (some ⟨b, 0, none⟩) 1 1) w ⟨b, 1, rfl, Nat.le_refl 1, hb.lt, fun j x hj => ?_⟩ (Below.refl _ _)
    cases j with
    | zero => simp at hj; subst hj; exact hb.cell 0
    | succ j => simp at hj
  | cons y q =>
    obtain ⟨ad, rfl, _, _⟩ := hq.at_ (k := 0) (x := y) rfl
    obtain ⟨v', w', hrun, r1, r2⟩ := run_append_arg_grows (P := Tryz.prog) w 22 o.type 9 i0 (.string ⟨#[]⟩) 1 16 Tryz.underlying22 hi0 hz0 hz1 hz2 rfl (by decide) ⟨b, 0, none⟩ 1 1 [.string (bs d)] rfl
      (fun j u hj => by
        cases j with
        | zero => simp at hj; subst hj; exact hb.cell 0
        | succ j => simp at hj)
      ad (y :: q).length c ((y :: q).map fun l => Value.string (bs l)) (by simp)
      (fun j u hj => by
        rw [List.getElem?_map] at hj
        obtain ⟨z, hz, rfl⟩ := Option.map_eq_some_iff.1 hj
        obtain ⟨ad', e, _, hc⟩ := hq.at_ hz
        cases e
        exact hc)
      (by simp) (by unfold maxLen; omega) (by omega)
    have hB : Below w.heap.size w w' := ⟨r2.os, r2.tape, r2.output, r2.size, fun k hk => r2.block k hk (by simp)⟩
    unfold Oper.wp
    simp only [List.length_cons] at hrun hx
    simp [execOp, hop, resolve, invoke, builtin, hs, hx, hrun, Result.andThen]
    refine h v' w' ?_ hB
    rcases r1.2 with ⟨h1, h2⟩ | ⟨g, cap, cur, rfl, h3, h4, h5, h6, h7, h8⟩
    · omega
    · refine ⟨g, cap, by simp; omega, by simp at h5 ⊢; omega, (Array.getElem?_eq_some_iff.1 h4).1, fun j x hj => ?_⟩
      have hat : ([Value.string (bs d)] ++ ((y :: q).map fun l => Value.string (bs l)))[j]? = some (.string (bs x)) := by
        rw [show [Value.string (bs d)] ++ ((y :: q).map fun l => Value.string (bs l)) = (d :: y :: q).map fun l => Value.string (bs l) from rfl, List.getElem?_map, hj]
        rfl
      rw [cell_of_row w' g j cur _ _ h4]
      rw [← h8, List.getElem?_take] at hat
      split at hat
      · simpa using hat
      · cases hat
/-- a slot that holds such a slice -/
def SlIs (s : Tmp) (ls : List (List UInt8)) (a : Act) (w : World) : Prop := ∃ v, a.tmps[s]? = some v ∧ SlAt w v ls
theorem SlIs.keep {s : Tmp} {ls : List (List UInt8)} {a a' : Act} {w w' : World} (h : SlIs s ls a w) (hs : a'.tmps[s]? = a.tmps[s]?) (hr : Below w.heap.size w w') : SlIs s ls a' w' := by
  obtain ⟨v, h1, h2⟩ := h
  exact ⟨v, hs.trans h1, h2.to hr⟩
end Go.Proofs.YtfhanbiifjiklaaGreatDoor

/- Text: the head line. -/
set_option linter.unusedVariables false
set_option linter.unusedSimpArgs false
namespace Go.Proofs.YtfhanbiifjiklaaGreatDoor
open Go.RowKit Go.Shelf
attribute [local go_sem] Oper.semAt_some

theorem eval_at {a : Act} {t : Tmp} {v : Value} (h : a.tmps[t]? = some v) : a.eval (.tmp t) = v := by simp [Act.eval, h]
set_option maxRecDepth 100000 in
set_option maxHeartbeats 4000000 in
theorem Text_no (p : Pg) (hp : p.fit) (h : formedB p = false) (vi vp : Value) (w : World) (hvi : TextsAt w vi p.items) (hvp : PathsAt w vp p.paths) :
    Calls Tryz.prog 16 #[.agg (p.cs vi vp)] w fun e w' => e = .returned (.tuple #[.string (bs []), .int .i64 1]) ∧ Below w.heap.size w w' := by
  have hq := fun q hq => (⟨hp.nq q hq, hp.lq q hq⟩ : q.length ≤ 200000 ∧ ∀ x ∈ q, x.length ≤ 100000)
  have CF := fun w' (hb : Below w.heap.size w w') => formed_any p hp.lr hp.li hq vi vp w' (hvi.to hb) (hvp.to hb)
  rw [h] at CF
  obtain ⟨Ai, ci, rfl, hci⟩ := hvi.slice
  obtain ⟨Ap, cp, rfl, hcp⟩ := hvp.slice
  clear hvi hvp
  unfold Pg.cs at CF ⊢
  go_enter Tryz.func16, Tryz.ntmps16
  go_wp2_with ((with_reducible refine (CF _ (below_one _ _)).mono ?_); rintro e w2 ⟨rfl, hb2⟩)
  go_ret2
  exact ⟨rfl, below_to (below_one _ _) (by simp) (by assumption)⟩
set_option maxRecDepth 100000 in
set_option maxHeartbeats 4000000 in
theorem Text_yes (p : Pg) (hp : p.fit) (h : formedB p = true) (vi vp : Value) (w : World) (HG : Hid (Glob w)) (hvi : TextsAt w vi p.items) (hvp : PathsAt w vp p.paths) :
    Calls Tryz.prog 16 #[.agg (p.cs vi vp)] w fun e w' => e = .returned (.tuple #[.string (bs (textPg p)), .int .i64 0]) ∧ Below w.heap.size w w' := by
  have hq := fun q hq => (⟨hp.nq q hq, hp.lq q hq⟩ : q.length ≤ 200000 ∧ ∀ x ∈ q, x.length ≤ 100000)
  have CF := fun w' (hb : Below w.heap.size w w') => formed_any p hp.lr hp.li hq vi vp w' (hvi.to hb) (hvp.to hb)
  rw [h] at CF
  have HI := hide hvi
  have HP := hide hvp
  have CT := fun w' : World => items_any p vi vp w'
  obtain ⟨Ai, ci, rfl, hci⟩ := hvi.slice
  obtain ⟨Ap, cp, rfl, hcp⟩ := hvp.slice
  have hh : headB p = true := by unfold formedB at h; simp only [Bool.and_eq_true] at h; exact h.1
  have hh : ((0 ≤ p.fr ∧ p.fr ≤ 10000) ∧ (0 ≤ p.size ∧ p.size ≤ 10000) ∧ isD p.root = true ∧ p.items.length ≤ 50 ∧ p.paths.length = p.items.length) := by
    unfold headB at hh
    simpa only [Bool.and_eq_true, decide_eq_true_eq] using hh
  obtain ⟨hf, hs, hr, hn, hpl⟩ := hh
  have HPL := hide hpl
  obtain ⟨n, h1⟩ : ∃ n : Nat, 5 ≤ n := ⟨5, Nat.le_refl _⟩
  clear hvi hvp hpl hr h hq
  unfold Pg.cs at CF CT ⊢
  refine (callsIn_wide (n := n)).1 ?_
  refine callsIn_of_wp_marks Tryz.func16 rfl trivial ?_ rfl
  simp only [Tryz.ntmps16, List.size_toArray, List.length_cons, List.length_nil, Nat.reduceAdd, Nat.reduceSub, Array.replicate_succ, Array.replicate_zero, List.push_toArray, List.append_toArray, List.nil_append, List.cons_append]
  gi_wp2_with (refine ⟨trivial, fun _ => (by omega), ?_⟩; gi_at_call 52; refine (callsIn_wide.2 (CF _ (below_one _ _))).mono ?_; rintro e w2 ⟨rfl, hb2⟩; have HB := hide hb2; clear hb2)
  have HX := hide (((Blk.new w 25 #[.int .i64 p.fr, .int .i64 p.size, .string (bs p.root), .slice Ai p.items.length ci, .slice Ap p.paths.length cp]).to HB.out).alloc (.cells #[.pointer none, .slice none 0 0] 69))
  have HI0 : Hid (Lib.IsBuilderF 69 5 w2.heap.size w2.heap.size (Lib.byteCells []) (w2.alloc (.cells #[.pointer none, .slice none 0 0] 69))) := .inl ⟨Nat.le_refl _, _, Blk.new _ _ _, World.ownsRowF_nil _ _ _ _, by simp [Value.ownBlock]⟩
  have hsz : w.heap.size < w2.heap.size := by have := HB.out.size; simp at this; omega
  have HB2 := hide ((below_to (below_one w _) (Nat.le_refl _) HB.out).alloc (Nat.le_of_lt hsz) (.cells #[.pointer none, .slice none 0 0] 69))
  have hsz2 : (w2.alloc (.cells #[.pointer none, .slice none 0 0] 69)).heap.size = w2.heap.size + 1 := by simp
  obtain ⟨W0, hW0⟩ : ∃ W0, w2.alloc (.cells #[.pointer none, .slice none 0 0] 69) = W0 := ⟨_, rfl⟩
  rw [hW0] at HX HI0 HB2 hsz2 ⊢
  clear hW0 HB CF
  have HG2 : Hid (Glob W0) := HG.out.belowB HB2.out HG.out.top
  obtain ⟨U, hU, g, u0, rfl, hgu, hi⟩ := cls W0
  have x0 := fun u => ((HX.out.to (hgu u)).cell 0).trans (show _ = some (Value.int .i64 p.fr) from rfl)
  have x1 := fun u => ((HX.out.to (hgu u)).cell 1).trans (show _ = some (Value.int .i64 p.size) from rfl)
  have x2 := fun u => ((HX.out.to (hgu u)).cell 2).trans (show _ = some (Value.string (bs p.root)) from rfl)
  have x3 := fun u => ((HX.out.to (hgu u)).cell 3).trans (show _ = some (Value.slice Ai p.items.length ci) from rfl)
  have CJ := fun (n : Int) (h0 : -9223372036854775808 ≤ n) (h1 : n ≤ 9223372036854775807) => cls_call hgu hi (fun w' hb => Itoa_any n h0 h1 w' (HG2.out.to hb))
  refine wpIn_region_class_tail g 12 (by kernel_rfl) (fun i K a w h => wpOpIn_ofW (by kernel_rfl) (fun ⟨a, w, h⟩ => ?_) h) (by kernel_rfl) (hi _ (hgu _).drew) ?_
  · have h2 := h.1
    cases h2
  simp only [List.take_succ_cons, List.take_zero, List.drop_succ_cons, List.drop_zero]
  repeat (go_big_quiet_step (with_reducible exact CJ _ (by omega) (by omega) _))
  refine wpQuiet_nil ?_
  intro w3 hw3
  obtain ⟨u, rfl⟩ := hw3
  have HBu := hide (below_to HB2.out (Nat.le_refl _) (hgu u))
  have HIu := hide (IsBuilderF.to HI0.out (hgu u))
  have HXu := hide (HX.out.to (hgu u))
  have hsu : w2.heap.size < (g u).heap.size := by have := (hgu u).size; omega
  clear x0 x1 x2 x3 CJ HX HI0 HB2 HG2 hsz2
  revert hsu HXu HIu HBu
  generalize g u = W1
  intro HBu HIu HXu hsu
  clear hgu hi g u u0
  have hH : (Lib.join [[112, 97, 103, 101], Lib.itoa p.fr, Lib.itoa p.size, p.root, Lib.itoa p.items.length] [32]).length ≤ 200000 := by
    rw [Lib.join_cons]
    obtain ⟨f1, e1⟩ : ∃ k : Nat, p.fr = k := ⟨p.fr.toNat, by omega⟩
    obtain ⟨f2, e2⟩ : ∃ k : Nat, p.size = k := ⟨p.size.toNat, by omega⟩
    have h1 := itoa_len f1 (by omega)
    have h2 := itoa_len f2 (by omega)
    have h3 := itoa_len p.items.length (by omega)
    have h4 := hp.lr
    rw [e1, e2]
    unfold Lib.joinTail
    simp only [List.map_cons, List.map_nil, List.flatten_cons, List.flatten_nil, List.length_append, List.length_cons, List.length_nil]
    omega
  have CJ : Calls Tryz.prog 54 #[.slice (some ⟨W1.heap.size, 0, none⟩) 5 5, .string ⟨#[32]⟩] (W1.alloc (.cells (strC [[112, 97, 103, 101], Lib.itoa p.fr, Lib.itoa p.size, p.root, Lib.itoa p.items.length]) 9)) _ :=
    Join_any W1.heap.size 0 5 [[112, 97, 103, 101], Lib.itoa p.fr, Lib.itoa p.size, p.root, Lib.itoa p.items.length] _ (by simp) (Nat.le_refl _) (by simp) (fun j x hx => by rw [Nat.zero_add]; exact ((Blk.new W1 9 _).cell j).trans (strC_at hx)) (by omega)
  rw [show strC [[112, 97, 103, 101], Lib.itoa p.fr, Lib.itoa p.size, p.root, Lib.itoa p.items.length] = #[.string (bs [112, 97, 103, 101]), .string (bs (Lib.itoa p.fr)), .string (bs (Lib.itoa p.size)), .string (bs p.root), .string (bs (Lib.itoa p.items.length))] from rfl] at CJ
  have HH : Hid (headT p = Lib.join [[112, 97, 103, 101], Lib.itoa p.fr, Lib.itoa p.size, p.root, Lib.itoa p.items.length] [32] ++ [10]) := rfl
  generalize Lib.join [[112, 97, 103, 101], Lib.itoa p.fr, Lib.itoa p.size, p.root, Lib.itoa p.items.length] [32] = L at *
  generalize Lib.itoa p.fr = F1 at *
  generalize Lib.itoa p.size = F2 at *
  generalize Lib.itoa (p.items.length : Int) = F3 at *
  have hLs : (bs L).size = L.length := bs_size L
  gi_wp2_with (first
    | (refine ⟨trivial, fun _ => (by omega), ?_⟩; gi_at_call 54; refine (callsIn_wide.2 CJ).mono ?_; rintro e w5 ⟨rfl, hb5⟩; have HB5 := hide (below_to (below_one W1 _) (Nat.le_refl _) hb5); clear hb5))
  have CW := WriteString_k w2.heap.size w2.heap.size _ (bs L ++ ⟨#[10]⟩) w5 (IsBuilderF.to HIu.out HB5.out) (by rw [show bs L ++ ⟨#[10]⟩ = bs (L ++ [10]) from bs_app L [10], bs_size]; simp [Lib.byteCells]; omega) (by have := HB5.out.size; omega)
  rw [show Lib.strCells (bs L ++ ⟨#[10]⟩) = Lib.byteCells (headT p) by rw [HH.out, show bs L ++ ⟨#[10]⟩ = bs (L ++ [10]) from bs_app L [10], strCells_bs], ← byteCells_app, List.nil_append] at CW
  refine ⟨trivial, fun _ => by omega, ?_⟩
  refine (callsIn_wide.2 CW).mono ?_
  rintro e w6 ⟨rfl, hI6, hb6, hk6⟩
  have HI6 := hide hI6
  have HB6 := hide ((HBu.out.trans (HB5.out.mono HBu.out.size)).trans (hb6.mono (Nat.le_of_lt hsz)))
  have HX6 := hide ((HXu.out.to HB5.out).below hb6 hsz)
  have hs6 : w2.heap.size < w6.heap.size := by have := HB5.out.size; have := hb6.size; omega
  clear hI6 hb6 hk6 CW CJ HB5 HXu HIu HBu hLs hsu
  have x0 := (HX6.out.cell 0).trans (show _ = some (Value.int .i64 p.fr) from rfl)
  have x1 := (HX6.out.cell 1).trans (show _ = some (Value.int .i64 p.size) from rfl)
  have x2 := (HX6.out.cell 2).trans (show _ = some (Value.string (bs p.root)) from rfl)
  have x3 := (HX6.out.cell 3).trans (show _ = some (Value.slice Ai p.items.length ci) from rfl)
  have x4 := (HX6.out.cell 4).trans (show _ = some (Value.slice Ap p.paths.length cp) from rfl)
  gi_wp2_with (refine ⟨trivial, fun _ => (by omega), ?_⟩; gi_at_call 56; refine (callsIn_wide.2 (CT _)).mono ?_; rintro e w3 ⟨rfl, rfl⟩)
  have HX2 := hide (Blk.new w6 25 #[.int .i64 p.fr, .int .i64 p.size, .string (bs p.root), .slice Ai p.items.length ci, .slice Ap p.paths.length cp])
  have HI2 : Hid (Lib.IsBuilderF 69 5 w2.heap.size w2.heap.size (Lib.byteCells (headT p)) (w6.alloc (.cells #[.int .i64 p.fr, .int .i64 p.size, .string (bs p.root), .slice Ai p.items.length ci, .slice Ap p.paths.length cp] 25))) := IsBuilderF.to (.inr HI6.out) (below_one _ _)
  have HB2 := hide (HB6.out.alloc HB6.out.size (.cells #[.int .i64 p.fr, .int .i64 p.size, .string (bs p.root), .slice Ai p.items.length ci, .slice Ap p.paths.length cp] 25))
  have hsz2 : (w6.alloc (.cells #[.int .i64 p.fr, .int .i64 p.size, .string (bs p.root), .slice Ai p.items.length ci, .slice Ap p.paths.length cp] 25)).heap.size = w6.heap.size + 1 := by simp
  obtain ⟨W0, hW0⟩ : ∃ W0, w6.alloc (.cells #[.int .i64 p.fr, .int .i64 p.size, .string (bs p.root), .slice Ai p.items.length ci, .slice Ap p.paths.length cp] 25) = W0 := ⟨_, rfl⟩
  rw [hW0] at HX2 HI2 HB2 hsz2 ⊢
  have HHL : Hid ((headT p).length ≤ 300000) := by show _ ≤ _; rw [HH.out, List.length_append]; simp; omega
  clear hW0 HX6 HB6 HI6 x0 x1 x2 x3 x4 CT hH HH
  have hsw : w.heap.size < w6.heap.size := by omega
  refine wpIn_rangeFunc_ownH (F := Fence.wide) rfl (by omega) (gf := 95) (lb := #[.pointer (some ⟨w6.heap.size, 0, none⟩)]) rfl trivial (enters_fn Tryz.func95 (by kernel_rfl) rfl)
    (items_stops (n - 1) (by omega) w6.heap.size p (by omega) HPL.out hf _ _ w HI.out HP.out W0 HB2.out HX2.out) KpX.t (KpX.b (by omega) (by omega)) (Below.refl _ _) (fun _ => rfl)
    (fun pre W => (Lib.IsBuilderF 69 5 w2.heap.size w2.heap.size (Lib.byteCells (headT p ++ pre.flatMap p.line)) W ∧ w6.heap.size < W.heap.size ∧ Blk W w6.heap.size 25 #[.int .i64 p.fr, .int .i64 p.size, .string (bs p.root), .slice Ai p.items.length ci, .slice Ap p.paths.length cp]) ∧ Below w.heap.size w W)
    (fun _ _ W => False ∧ Below w.heap.size w W)
    (OwnFrom.and (fun s A B row hs hg hr => ⟨IsBuilderF.own hs.1 hg (fun r e => (hr r e).2), Nat.lt_of_lt_of_le hs.2.1 hg.size, hs.2.2.own hg (fun r e => (hr r e).2)⟩) (ownFrom_below (Nat.le_refl _) (by omega)))
    (fun _ => OwnFrom.and (fun _ _ _ _ hs _ _ => hs) (ownFrom_below (Nat.le_refl _) (by omega)))
    ⟨⟨by rw [List.flatMap_nil, List.append_nil]; exact HI2.out, by omega, HX2.out⟩, HB2.out⟩
    (fun x a' W => ∃ Bx, w6.heap.size < Bx ∧ Blk W Bx 80 (itC p w (.slice Ap p.paths.length cp) x) ∧ a' = { tmps := #[.agg #[.int .i64 p.fr, .int .i64 p.size, .string (bs p.root), .slice Ai p.items.length ci, .slice Ap p.paths.length cp], .pointer (some ⟨w.heap.size, 0, none⟩), .string ⟨#[]⟩, .int .i64 0, .pointer (some ⟨w2.heap.size, 0, none⟩), .pointer (some ⟨Bx, 0, none⟩), undef, .agg #[.int .i64 p.fr, .int .i64 p.size, .string (bs p.root), .slice Ai p.items.length ci, .slice Ap p.paths.length cp], .bool true, .bool false, .pointer (some ⟨w.heap.size, 0, none⟩), .int .i64 p.fr, .string (bs F1), .pointer (some ⟨w.heap.size, 1, none⟩), .int .i64 p.size, .string (bs F2), .pointer (some ⟨w.heap.size, 2, none⟩), .string (bs p.root), .pointer (some ⟨w.heap.size, 3, none⟩), .slice Ai p.items.length ci, .int .i64 p.items.length, .string (bs F3), .slice (some ⟨W1.heap.size, 0, none⟩) 5 5, .string (bs L), .string (bs L ++ ⟨#[10]⟩), .tuple #[.int .i64 (((bs L).size : Int) + 1), .nilIface], .agg #[.int .i64 p.fr, .int .i64 p.size, .string (bs p.root), .slice Ai p.items.length ci, .slice Ap p.paths.length cp], .func (.func 95) #[] #[.pointer (some ⟨w6.heap.size, 0, none⟩)], .agg (itC p w (.slice Ap p.paths.length cp) x), undef, undef, undef, undef, undef, undef, undef, undef, undef, undef, undef, undef, undef, undef, undef, undef, undef], defers := [] })
    (fun x a' s A B row hs hg hr => by obtain ⟨Bx, q1, q2, q3⟩ := hs; exact ⟨Bx, q1, q2.own hg (fun r e => (hr r e).2), q3⟩) ?assign ?body ?done ?stop
  case assign =>
    rintro l pre ⟨k, hk⟩ W K ⟨⟨hbW, hsW, hXW⟩, hBW⟩ hK
    have HBW := hide hbW
    have HBl := hide hBW
    have HXW := hide hXW
    clear hbW hBW hXW
    obtain ⟨x, hx⟩ : ∃ x, p.items[k] = x := ⟨_, rfl⟩
    obtain ⟨q, hq⟩ : ∃ q, p.paths[k]? = some q := ⟨_, List.getElem?_eq_getElem (by have := HPL.out; omega)⟩
    obtain ⟨Aq, cq, hv, hcq⟩ := (HP.out.vps hq).1.slice
    unfold Pg.enc
    rw [show p.items[(⟨k, hk⟩ : Fin p.items.length)] = x from hx]
    unfold itC at hK
    rw [show p.items[(⟨k, hk⟩ : Fin p.items.length)] = x from hx] at hK
    simp only [hv] at hK ⊢
    have hK2 := hide hK
    clear hK
    gi_wp2
    exact hK2.out _ _ ((KeepsOthers.alloc _ _).from _) (KpX.of ((Below.refl W.heap.size W).alloc (Nat.le_refl _) _) HBl.out.size hsW) ⟨⟨IsBuilderF.to HBW.out (below_one _ _), by simp; omega, HXW.out.alloc _⟩, HBl.out.alloc HBl.out.size _⟩ ⟨W.heap.size, hsW, Blk.new _ _ _, rfl⟩
  case body =>
    rintro l pre ⟨k, hk⟩ a' W hlw ⟨r, hlr⟩ ⟨⟨hbW, hsW, hXW⟩, hBW⟩ ⟨Bx, hBx, hbI, rfl⟩ hlen
    have HBW := hide hbW
    have HBl := hide hBW
    have HIt := hide hbI
    have HXW := hide hXW
    clear hbW hBW hbI hlr hXW
    obtain ⟨x, hx⟩ : ∃ x, p.items[k] = x := ⟨_, rfl⟩
    obtain ⟨q, hq⟩ : ∃ q, p.paths[k]? = some q := ⟨_, List.getElem?_eq_getElem (by have := HPL.out; omega)⟩
    have hxl := hp.li x (hx ▸ List.getElem_mem _)
    have hql := hp.nq q (List.mem_of_getElem? hq)
    have HQX := hide (hp.lq q (List.mem_of_getElem? hq))
    have HT := hide ((HP.out.vps hq).1.to HBl.out)
    obtain ⟨Aq, cq, hv, hcq⟩ := (HP.out.vps hq).1.slice
    rw [hv] at HT
    have HLn : Hid (p.line ⟨k, hk⟩ = lineT x q) := by
      show _ = _
      unfold Pg.line
      rw [show p.items[(⟨k, hk⟩ : Fin p.items.length)] = x from hx, show p.paths.getD ((⟨k, hk⟩ : Fin p.items.length) : Nat) [] = q by simp [hq]]
    have HIt2 : Hid (Blk W Bx 80 #[.int .i64 (p.fr + (k : Nat)), .string (bs x), .slice Aq q.length cq]) := by
      have := HIt.out
      unfold itC at this
      rw [show p.items[(⟨k, hk⟩ : Fin p.items.length)] = x from hx] at this
      simp only [hv] at this
      exact this
    unfold itC
    rw [show p.items[(⟨k, hk⟩ : Fin p.items.length)] = x from hx]
    simp only [hv]
    have hxs : (bs x).size = x.length := bs_size x
    have HG2 : Hid (Glob W) := HG.out.belowB HBl.out HG.out.top
    clear HIt hv
    obtain ⟨U, hU, g, u0, rfl, hgu, hi⟩ := cls W
    have i1 := fun u => ((HIt2.out.to (hgu u)).cell 1).trans (show _ = some (Value.string (bs x)) from rfl)
    have i2 := fun u => ((HIt2.out.to (hgu u)).cell 2).trans (show _ = some (Value.slice Aq q.length cq) from rfl)
    have HGg := fun u => HG2.out.to (hgu u)
    have HTg := fun u => HT.out.to (hgu u)
    gi_wp2
    refine wpIn_region_of (by kernel_rfl) (by kernel_rfl) (fun ⟨a, w, h⟩ => h) ?_
    apply wpAny_looseG g (V := [some _, some _, some _, some _, none, some _, some _, none, none]) (Fs := [(4, RowIs 9 33 1 #[.string (bs (Lib.itoa (x.length : Int)))]), (7, SlIs 36 (Lib.itoa (x.length : Int) :: q)), (8, SlIs 6 (Lib.itoa (x.length : Int) :: q))]) (Rel := fun _ w w' => Below w.heap.size w w')
    case hB => kernel_rfl
    case hCw => exact hi _ (hgu _).drew
    case hC =>
      rintro i uq w' hr
      exact hi _ (below_to (hgu uq) (Nat.le_refl _) hr)
    case hst =>
      refine keeps_cons (fun i a a' w w' hne hwt hs hr h => h.keep (hs 33 (by kernel_rfl)) (Or.inr hr)) ?_
      refine keeps_cons (fun i a a' w w' hne hwt hs hr h => h.keep (hs 36 (by kernel_rfl)) hr) ?_
      refine keeps_cons (fun i a a' w w' hne hwt hs hr h => h.keep (hs 6 (by kernel_rfl)) hr) ?_
      exact keeps_nil
    case hop =>
      refine ⟨?_, ?_, ?_, ?_, ?_, ?_, ?_, ?_, ?_, trivial⟩
      · intro a uq K hS hd hK
        have s5 := hS.at 5 (by kernel_rfl) rfl
        rw [if_pos (want_free rfl)]
        go_simp
        exact hK _ _ (Below.refl _ _) (vok rfl) (facts_cons (fun h => absurd h (by decide)) (facts_cons (fun h => absurd h (by decide)) (facts_cons (fun h => absurd h (by decide)) facts_nil)))
      · intro a uq K hS hd hK
        have s29 := (waits_on hd 0 (by kernel_rfl)).at (d := 29) rfl rfl rfl
        rw [if_pos (want_free rfl)]
        go_simp
        exact hK _ _ (Below.refl _ _) (vok rfl) (facts_cons (fun h => absurd h (by decide)) (facts_cons (fun h => absurd h (by decide)) (facts_cons (fun h => absurd h (by decide)) facts_nil)))
      · intro a uq K hS hd hK
        have s30 := (waits_on hd 1 (by kernel_rfl)).at (d := 30) rfl rfl rfl
        rw [if_pos (want_free rfl)]
        go_simp
        exact hK _ _ (Below.refl _ _) (vok rfl) (facts_cons (fun h => absurd h (by decide)) (facts_cons (fun h => absurd h (by decide)) (facts_cons (fun h => absurd h (by decide)) facts_nil)))
      · intro a uq K hS hd hK
        have s31 := (waits_on hd 2 (by kernel_rfl)).at (d := 31) rfl rfl rfl
        rw [if_pos (want_free rfl)]
        go_simp
        with_reducible refine (Itoa_any (x.length : Int) (by omega) (by omega) (g uq) (HGg uq)).mono ?_
        rintro e w' ⟨rfl, hb⟩
        exact hK _ _ hb (vok rfl) (facts_cons (fun h => absurd h (by decide)) (facts_cons (fun h => absurd h (by decide)) (facts_cons (fun h => absurd h (by decide)) facts_nil)))
      · intro a uq K hS hd hK
        have s32 := (waits_on hd 3 (by kernel_rfl)).at (d := 32) rfl rfl rfl
        rw [if_pos (want_free rfl)]
        go_simp
        exact hK _ _ (below_one _ _) (vfree rfl) (facts_cons (fun _ => ⟨_, hS.put_at (by kernel_rfl) _, Blk.new _ _ _⟩) (facts_cons (fun h => absurd h (by decide)) (facts_cons (fun h => absurd h (by decide)) facts_nil)))
      · intro a uq K hS hd hK
        have s5 := hS.at 5 (by kernel_rfl) rfl
        rw [if_pos (want_free rfl)]
        go_simp
        exact hK _ _ (Below.refl _ _) (vok rfl) (facts_cons (fun h => absurd h (by decide)) (facts_cons (fun h => absurd h (by decide)) (facts_cons (fun h => absurd h (by decide)) facts_nil)))
      · intro a uq K hS hd hK
        have s34 := (waits_on hd 5 (by kernel_rfl)).at (d := 34) rfl rfl rfl
        rw [if_pos (want_free rfl)]
        go_simp
        exact hK _ _ (Below.refl _ _) (vok rfl) (facts_cons (fun h => absurd h (by decide)) (facts_cons (fun h => absurd h (by decide)) (facts_cons (fun h => absurd h (by decide)) facts_nil)))
      · intro a uq K hS hd hK
        obtain ⟨b33, s33, r33⟩ := (waits_on hd 4 (by kernel_rfl)).2 _ (List.mem_cons_self ..) rfl
        have s35 := (waits_on hd 6 (by kernel_rfl)).at (d := 35) rfl rfl rfl
        rw [if_pos (want_free rfl)]
        refine wp_append_one (.tmp 33) (.tmp 35) rfl b33 _ (eval_at s33) r33 q (.slice Aq q.length cq) (eval_at s35) (HTg uq) (by omega) ?_
        intro v w' hsl hb
        exact hK v w' hb (vfree rfl) (facts_cons (fun h => absurd h (by decide)) (facts_cons (fun _ => ⟨v, hS.put_at (by kernel_rfl) _, hsl⟩) (facts_cons (fun h => absurd h (by decide)) facts_nil)))
      · intro a uq K hS hd hK
        obtain ⟨v36, s36, r36⟩ := (waits_on hd 7 (by kernel_rfl)).2 _ (List.mem_cons_of_mem _ (List.mem_cons_self ..)) rfl
        rw [if_pos (want_free rfl)]
        go_simp
        exact hK _ _ (Below.refl _ _) (vfree rfl) (facts_cons (fun h => absurd h (by decide)) (facts_cons (fun h => absurd h (by decide)) (facts_cons (fun _ => ⟨v36, hS.put_at (by kernel_rfl) _, r36⟩) facts_nil)))
    case hfin =>
      intro a uq hS hk
      have s29 := (hk 0 (by decide)).at (d := 29) rfl rfl rfl
      have s30 := (hk 1 (by decide)).at (d := 30) rfl rfl rfl
      have s31 := (hk 2 (by decide)).at (d := 31) rfl rfl rfl
      have s32 := (hk 3 (by decide)).at (d := 32) rfl rfl rfl
      obtain ⟨b33, s33, r33⟩ := (hk 4 (by decide)).2 _ (List.mem_cons_self ..) rfl
      have s34 := (hk 5 (by decide)).at (d := 34) rfl rfl rfl
      have s35 := (hk 6 (by decide)).at (d := 35) rfl rfl rfl
      obtain ⟨v36, s36, r36⟩ := (hk 7 (by decide)).2 _ (List.mem_cons_of_mem _ (List.mem_cons_self ..)) rfl
      obtain ⟨v6, s6, r6⟩ := (hk 8 (by decide)).2 _ (List.mem_cons_of_mem _ (List.mem_cons_of_mem _ (List.mem_cons_self ..))) rfl
      have hlit := hS.lit _ (by kernel_rfl) (lits_cons s29 (lits_cons s30 (lits_cons s31 (lits_cons s32 (lits_cons s33 (lits_cons s34 (lits_cons s35 (lits_cons s36 (lits_cons s6 lits_nil)))))))))
      rw [hlit]
      clear hlit hk hS s29 s30 s31 s32 s33 s34 s35 s36 s6
      obtain ⟨g6, c6, rfl, hc6, hg6, hat6⟩ := r6
      rw [List.length_cons] at hc6
      rw [List.length_cons]
      have HAT := hide hat6
      have HIq := hide (IsBuilderF.to HBW.out (hgu uq))
      have HBq := hide (below_to HBl.out (Nat.le_refl _) (hgu uq))
      have HItq := hide (HIt2.out.to (hgu uq))
      have HXq := hide (HXW.out.to (hgu uq))
      have hsq : w6.heap.size < (g uq).heap.size := Nat.lt_of_lt_of_le hsW (hgu uq).size
      have HKFq : Hid (KeepsFrom W0.heap.size (g u0) (g uq)) := keepsFrom_of (hgu uq)
      have HKq : Hid (KpX w.heap.size w6.heap.size (g u0) (g uq)) := KpX.of (hgu uq) HBl.out.size hsW
      have hJl : (Lib.join (Lib.itoa x.length :: q) [32]).length ≤ 30000000000 := by
        have := line_len x q hxl hql HQX.out
        unfold lineT at this
        simp only [List.length_append] at this
        omega
      have HLL : Hid (lineT x q = Lib.join (Lib.itoa x.length :: q) [32] ++ [10] ++ x ++ [10]) := rfl
      clear hat6 i1 i2 HGg HTg r36 r33
      generalize g uq = W7 at *
      obtain ⟨U2, hU2, g2, v0, rfl, hgu2, hi2⟩ := cls W7
      have i1 := fun u => ((HItq.out.to (hgu2 u)).cell 1).trans (show _ = some (Value.string (bs x)) from rfl)
      have CJ : ∀ u, Calls Tryz.prog 54 #[.slice (some ⟨g6, 0, none⟩) (q.length + 1) c6, .string ⟨#[32]⟩] (g2 u) fun e w' => e = .returned (.string (bs (Lib.join (Lib.itoa x.length :: q) [32]))) ∧ ∃ u', w' = g2 u' := cls_call hgu2 hi2 (fun w' hb => Join_any g6 0 c6 (Lib.itoa x.length :: q) w' (Nat.lt_of_lt_of_le hg6 hb.size) hc6 (by simp; omega) (fun j y hj => by rw [Nat.zero_add]; exact (hb.cell (p := ⟨g6, j, none⟩) hg6).trans (HAT.out j y hj)) (by omega))
      have hJs : (bs (Lib.join (Lib.itoa x.length :: q) [32])).size = (Lib.join (Lib.itoa x.length :: q) [32]).length := bs_size _
      generalize Lib.join (Lib.itoa x.length :: q) [32] = J at *
      simp only [litT, List.setIfInBounds_toArray, List.set_cons_succ, List.set_cons_zero]
      gi_wp2
      refine wpIn_region_class_tail (F := Fence.wide.inRound l) g2 7 (by kernel_rfl) (fun i K a w h => wpOpIn_of (by kernel_rfl) (fun ⟨a, w, h⟩ => h) h) (by kernel_rfl) (hi2 _ (hgu2 _).drew) ?_
      simp only [List.take_succ_cons, List.take_zero, List.drop_succ_cons, List.drop_zero]
      repeat (go_big_quiet_step (with_reducible exact CJ _))
      refine wpQuiet_nil ?_
      intro w8 hw8
      obtain ⟨u, rfl⟩ := hw8
      have HEq : Hid (bs J ++ ⟨#[10]⟩ ++ bs x ++ ⟨#[10]⟩ = bs (lineT x q)) := by
        show _ = _
        rw [HLL.out, show (⟨#[10]⟩ : ByteArray) = bs [10] from rfl, bs_app, bs_app, bs_app]
      have HLen : Hid ((headT p ++ List.flatMap p.line pre).length + (lineT x q).length ≤ 140737488355328) := by
        show _ ≤ _
        have h1 := line_len x q hxl hql HQX.out
        have h2 := flat_le p.line 30000000000 (fun y => line_len _ _ (hp.li _ (List.getElem_mem _)) (by
          have : (y : Nat) < p.paths.length := by have := HPL.out; omega
          simp only [List.getD_eq_getElem?_getD, List.getElem?_eq_getElem this, Option.getD_some]
          exact hp.nq _ (List.getElem_mem _)) (by
          have : (y : Nat) < p.paths.length := by have := HPL.out; omega
          simp only [List.getD_eq_getElem?_getD, List.getElem?_eq_getElem this, Option.getD_some]
          exact hp.lq _ (List.getElem_mem _))) pre
        have h3 : pre.length * 30000000000 ≤ 50 * 30000000000 := Nat.mul_le_mul_right _ (by omega)
        have h4 := HHL.out
        rw [List.length_append]
        omega
      have CW := WriteString_k w2.heap.size w2.heap.size _ (bs J ++ ⟨#[10]⟩ ++ bs x ++ ⟨#[10]⟩) (g2 u) (IsBuilderF.to HIq.out (hgu2 u)) (by rw [HEq.out, bs_size]; simpa [Lib.byteCells] using HLen.out) (by have := (hgu2 u).size; omega)
      rw [show Lib.strCells (bs J ++ ⟨#[10]⟩ ++ bs x ++ ⟨#[10]⟩) = Lib.byteCells (lineT x q) by rw [HEq.out, strCells_bs], ← byteCells_app, List.append_assoc] at CW
      have HBu := hide (hgu2 u)
      clear HLen HEq HQX hxl hql hJl hJs CJ i1
      gi_wp2_with (refine ⟨trivial, fun _ => (by omega), ?_⟩; gi_at_call 53; refine (CallsIn.inRound l (callsIn_wide.2 CW)).mono ?_; rintro e w9 ⟨rfl, hI9, hb9, hk9⟩)
      have HXu := hide (HXq.out.to HBu.out)
      have HX9 := hide (blk_kept HXu.out hk9 (by omega) (by decide))
      have HI9 := hide hI9
      have HKF : KeepsFrom W0.heap.size (g u0) w9 := (HKFq.out.trans (keepsFrom_of HBu.out)).trans (keepsFrom_kept (IsBuilderF.to HIq.out HBu.out) hb9 hk9)
      have hb9' := hb9.mono (Nat.le_of_lt hsz)
      have HBu9 : Below w.heap.size w w9 := (HBq.out.trans (HBu.out.mono HBq.out.size)).trans hb9'
      have HK9 : KpX w.heap.size w6.heap.size (g2 u) w9 := ⟨hb9', (show w9.heap[w6.heap.size]? = _ from HX9.out).trans (show (g2 u).heap[w6.heap.size]? = _ from HXu.out).symm⟩
      have HKu : KpX w.heap.size w6.heap.size (g2 v0) (g2 u) := KpX.of HBu.out HBq.out.size hsq
      refine ⟨HKF, (HKq.out.t HKu).t HK9, ⟨.inr ?_, by have := hb9.size; have := HBu.out.size; omega, HX9.out⟩, HBu9⟩
      rw [List.flatMap_append, List.flatMap_cons, List.flatMap_nil, List.append_nil, HLn.out]
      exact HI9.out
  case done =>
    rintro D ys W hD rfl ⟨⟨hbW, hsW, hXW⟩, hBW⟩ hK
    have HBW := hide hbW
    have HBl := hide hBW
    have HK := hide hK
    clear hbW hBW hXW hK
    have CS := BString_k w2.heap.size w2.heap.size _ W HBW.out (by omega)
    gi_wp2_with (refine ⟨trivial, fun _ => (by omega), ?_⟩; gi_at_call 57; refine (callsIn_wide.2 CS).mono ?_; rintro e w9 ⟨rfl, hb9, hk9⟩)
    have HKd : w9.heap[D]? = some (.deferred (some [])) := hk9 D _ HK.out (fun e => by cases e; obtain ⟨cs, hc⟩ := IsBuilderF.blk HBW.out; have := HK.out; rw [show W.heap[w2.heap.size]? = _ from hc] at this; cases this) (fun c fz e => by cases e)
    have HB9 := hide (HBl.out.trans (hb9.mono (Nat.le_of_lt hsz)))
    refine ⟨by simp, .inl ⟨_, _, rfl, run_takeDeferred HKd, ?_⟩⟩
    exact ⟨_, results_tmp2 rfl _ _ _, rfl, HB9.out.trans (belowK_b (w := w) (Nat.le_refl _) _ D _ _ (by omega) HKd rfl rfl)⟩
  case stop =>
    rintro D c pre W hD _ ⟨h, _⟩ _
    exact h.elim
end Go.Proofs.YtfhanbiifjiklaaGreatDoor

/- The plain reading of a page's text. -/
set_option linter.unusedVariables false
set_option linter.unusedSimpArgs false
namespace Go.Proofs.YtfhanbiifjiklaaGreatDoor
open Go.RowKit

/-! digits -/
def isDg (c : UInt8) : Prop := 48 ≤ c.toNat ∧ c.toNat ≤ 57
theorem ofNat_dg {d : Nat} (h : d < 10) : (UInt8.ofNat (48 + d)).toNat = 48 + d := by simp; omega
theorem dec_dg : ∀ (u : Nat), ∀ c ∈ Lib.decDigits u, isDg c := by
  intro u
  induction u using Nat.strongRecOn with
  | ind u ih =>
    intro c hc
    rw [Lib.decDigits] at hc
    split at hc
    · rename_i h
      simp only [List.mem_cons, List.not_mem_nil, or_false] at hc
      subst hc
      unfold isDg
      rw [ofNat_dg h]; omega
    · rename_i h
      rcases List.mem_append.1 hc with hc | hc
      · exact ih (u / 10) (by omega) c hc
      · simp only [List.mem_cons, List.not_mem_nil, or_false] at hc
        subst hc
        unfold isDg
        rw [ofNat_dg (by omega)]; omega
theorem dec_ne' (u : Nat) : Lib.decDigits u ≠ [] := by
  rw [Lib.decDigits]
  split <;> simp
def valD (acc : Nat) (l : List UInt8) : Nat := l.foldl (fun a c => a * 10 + (c.toNat - 48)) acc
theorem valD_snoc (acc : Nat) (l : List UInt8) (c : UInt8) : valD acc (l ++ [c]) = valD acc l * 10 + (c.toNat - 48) := by simp [valD]
theorem valD_le : ∀ (l : List UInt8) (acc : Nat), acc ≤ valD acc l
  | [], acc => Nat.le_refl _
  | c :: r, acc => by
    have := valD_le r (acc * 10 + (c.toNat - 48))
    show acc ≤ valD (acc * 10 + (c.toNat - 48)) r
    omega
theorem valD_dec : ∀ u : Nat, valD 0 (Lib.decDigits u) = u := by
  intro u
  induction u using Nat.strongRecOn with
  | ind u ih =>
    rw [Lib.decDigits]
    split
    · rename_i h
      simp only [valD, List.foldl_cons, List.foldl_nil]
      rw [ofNat_dg h]; omega
    · rename_i h
      rw [valD_snoc, ih (u / 10) (by omega), ofNat_dg (by omega)]; omega
theorem parse_dg : ∀ (l : List UInt8) (acc : Nat), (∀ c ∈ l, isDg c) → valD acc l < 1000000000000000000 → Lib.parseUint10 acc l = .ok (valD acc l)
  | [], acc, _, _ => rfl
  | c :: r, acc, hd, hv => by
    obtain ⟨h1, h2⟩ := hd c (by simp)
    have hv' : valD (acc * 10 + (c.toNat - 48)) r < 1000000000000000000 := hv
    have := valD_le r (acc * 10 + (c.toNat - 48))
    rw [Lib.parseUint10, if_pos ⟨h1, h2⟩, if_neg (by omega), if_neg (by omega), parse_dg r _ (fun c' hc' => hd c' (by simp [hc'])) hv']
    rfl
theorem atoi_dec {u : Nat} (h : u < 1000000000000000000) : Lib.atoiAll (Lib.decDigits u) = .ok (u : Int) := by
  have hd := dec_dg u
  have hne := dec_ne' u
  have hv := valD_dec u
  have hp := parse_dg (Lib.decDigits u) 0 hd (by omega)
  rw [hv] at hp
  cases hl : Lib.decDigits u with
  | nil => exact absurd hl hne
  | cons c r =>
    rw [hl] at hd hp
    obtain ⟨h1, h2⟩ := hd c (by simp)
    unfold Lib.atoiAll Lib.parseMag
    simp only
    rw [if_neg (show ¬ (c.toNat = 43 ∨ c.toNat = 45) by omega), if_neg (by simp), hp]
    simp only
    rw [if_neg (by omega), if_neg (by omega), if_neg (by omega)]
theorem itoa_dec {n : Int} (h : 0 ≤ n) : Lib.itoa n = Lib.decDigits n.toNat := by unfold Lib.itoa; rw [if_neg (by omega)]
theorem dg_not {l : List UInt8} (h : ∀ c ∈ l, isDg c) {b : UInt8} (hb : b.toNat < 48 ∨ 57 < b.toNat) : b ∉ l := fun hm => by
  obtain ⟨h1, h2⟩ := h b hm
  omega
theorem itoa_dg {n : Int} (h : 0 ≤ n) : ∀ c ∈ Lib.itoa n, isDg c := by rw [itoa_dec h]; exact dec_dg _
/-- a number that is not negative, as strconv reads it -/
def numO (s : List UInt8) : Option Int := match Lib.atoiAll s with | .ok v => if v < 0 then none else some v | _ => none
theorem numO_itoa {n : Int} (h : 0 ≤ n) (h' : n ≤ 1000000000) : numO (Lib.itoa n) = some n := by
  unfold numO
  rw [itoa_dec h, atoi_dec (by omega)]
  simp only
  rw [if_neg (by omega)]
  congr 1; omega
theorem numO_range {s : List UInt8} {n : Int} (h : numO s = some n) : 0 ≤ n ∧ n ≤ 9223372036854775807 := by
  unfold numO at h
  split at h
  · rename_i v hv
    split at h
    · cases h
    · cases h
      refine ⟨by omega, ?_⟩
      unfold Lib.atoiAll at hv
      split at hv
      · cases hv
      · simp only at hv
        split at hv
        · cases hv
        · cases hv
        · split at hv
          · cases hv
          · split at hv
            · cases hv
            · cases hv
              rename_i h1 h2 h3
              split <;> omega
  · cases h

/-! cuts -/
theorem index_no {b : UInt8} : ∀ {l : List UInt8}, b ∉ l → Lib.index l [b] = -1
  | [], _ => rfl
  | c :: r, h => by
    simp only [List.mem_cons, not_or] at h
    rw [Lib.index, if_neg (by simp [List.isPrefixOf, h.1]), index_no h.2]
    rfl
theorem index_at {b : UInt8} : ∀ {l : List UInt8} (r : List UInt8), b ∉ l → Lib.index (l ++ b :: r) [b] = l.length
  | [], r, _ => by rw [List.nil_append, Lib.index, if_pos (by simp [List.isPrefixOf])]; rfl
  | c :: l, r, h => by
    simp only [List.mem_cons, not_or] at h
    have ih := index_at r h.2
    rw [List.cons_append, Lib.index, if_neg (by simp [List.isPrefixOf, h.1]), ih, if_neg (by simp)]
    simp
theorem cut_no {b : UInt8} {l : List UInt8} (h : b ∉ l) : Lib.cut l [b] = (l, [], false) := by
  unfold Lib.cut
  rw [index_no h, if_neg (by omega)]
theorem cut_at {b : UInt8} {l : List UInt8} (r : List UInt8) (h : b ∉ l) : Lib.cut (l ++ b :: r) [b] = (l, r, true) := by
  unfold Lib.cut
  rw [index_at r h, if_pos (by omega)]
  have e : (l.length : Int).toNat = l.length := by simp
  rw [e]
  simp
theorem cut_len (l s : List UInt8) : (Lib.cut l s).1.length ≤ l.length ∧ (Lib.cut l s).2.1.length ≤ l.length := by
  unfold Lib.cut
  split
  · constructor
    · simp only [List.length_take]; omega
    · simp only [List.length_drop]; omega
  · simp
theorem split_no {b : UInt8} {l : List UInt8} (h : b ∉ l) : Lib.split l [b] = [l] := by
  unfold Lib.split
  rw [Lib.count_miss (index_no h)]; rfl
theorem split_at {b : UInt8} {l : List UInt8} (r : List UInt8) (h : b ∉ l) : Lib.split (l ++ b :: r) [b] = l :: Lib.split r [b] := by
  have hi := index_at r h
  unfold Lib.split
  rw [Lib.count_hit (by simp) hi]
  have e : (l ++ b :: r).drop (l.length + [b].length) = r := by
    rw [List.drop_append]
    simp
  rw [e, Nat.add_comm 1, Lib.splitK, hi, if_neg (by rw [beq_iff_eq]; omega)]
  have e2 : (l.length : Int).toNat = l.length := by simp
  rw [e2, e, Nat.add_zero]
  simp
theorem join_one (x s : List UInt8) : Lib.join [x] s = x := by rw [Lib.join_cons]; simp [Lib.joinTail]
theorem join_two (x y : List UInt8) (ls : List (List UInt8)) (b : UInt8) : Lib.join (x :: y :: ls) [b] = x ++ b :: Lib.join (y :: ls) [b] := by
  rw [Lib.join_cons, Lib.join_cons]
  simp [Lib.joinTail]
theorem join_not {b c : UInt8} (hbc : c ≠ b) : ∀ (ls : List (List UInt8)) (x : List UInt8), c ∉ x → (∀ y ∈ ls, c ∉ y) → c ∉ Lib.join (x :: ls) [b]
  | [], x, h, _ => by rw [join_one]; exact h
  | y :: ls, x, h, h2 => by
    rw [join_two]
    simp only [List.mem_append, List.mem_cons, not_or]
    exact ⟨h, hbc, join_not hbc ls y (h2 y (by simp)) fun z hz => h2 z (by simp [hz])⟩
theorem split_join {b : UInt8} : ∀ (ls : List (List UInt8)) (x : List UInt8), b ∉ x → (∀ y ∈ ls, b ∉ y) → Lib.split (Lib.join (x :: ls) [b]) [b] = x :: ls
  | [], x, h, _ => by rw [join_one, split_no h]
  | y :: ls, x, h, h2 => by rw [join_two, split_at _ h, split_join ls y (h2 y (by simp)) fun z hz => h2 z (by simp [hz])]
theorem splitK_len (sep : List UInt8) : ∀ (k : Nat) (s : List UInt8), (Lib.splitK sep 0 k s).length ≤ k + 1 ∧ ∀ x ∈ Lib.splitK sep 0 k s, x.length ≤ s.length
  | 0, s => ⟨Nat.le_refl _, fun x hx => by simp [Lib.splitK] at hx; subst hx; exact Nat.le_refl _⟩
  | k + 1, s => by
    unfold Lib.splitK
    split
    · exact ⟨by simp, fun x hx => by simp at hx; subst hx; exact Nat.le_refl _⟩
    · obtain ⟨h1, h2⟩ := splitK_len sep k (s.drop ((Lib.index s sep).toNat + sep.length))
      refine ⟨by rw [List.length_cons]; omega, fun x hx => ?_⟩
      rcases List.mem_cons.1 hx with rfl | hx
      · rw [List.length_take]; omega
      · have := h2 x hx; rw [List.length_drop] at this; omega
theorem split_len (s sep : List UInt8) : (Lib.split s sep).length ≤ s.length + 2 ∧ ∀ x ∈ Lib.split s sep, x.length ≤ s.length := by
  obtain ⟨h1, h2⟩ := splitK_len sep (Lib.count s sep) s
  exact ⟨Nat.le_trans h1 (by have := Lib.count_le s sep; omega), h2⟩
theorem split_ne (s sep : List UInt8) : 1 ≤ (Lib.split s sep).length := by
  unfold Lib.split
  cases Lib.count s sep with
  | zero => exact Nat.le_refl _
  | succ k => unfold Lib.splitK; split <;> simp

/-! reading -/
structure PSt where
  items : List (List UInt8)
  paths : List (List (List UInt8))
  rest : List UInt8
def lnP (t : List UInt8) : List (List UInt8) := Lib.split (Lib.cut t [10]).1 [32]
def reP (t : List UInt8) : List UInt8 := (Lib.cut t [10]).2.1
def okP (t : List UInt8) : Bool := (Lib.cut t [10]).2.2
def stepP (s : PSt) : Option PSt :=
  if okP s.rest then
    match numO ((lnP s.rest).headD []) with
    | none => none
    | some v => if (reP s.rest).length ≤ v.toNat then none else some ⟨s.items ++ [(reP s.rest).take v.toNat], s.paths ++ [(lnP s.rest).drop 1], (reP s.rest).drop (v.toNat + 1)⟩
  else none
def loopP : Nat → PSt → Option PSt
  | 0, s => some s
  | n + 1, s => match stepP s with | none => none | some s' => loopP n s'
theorem loopP_no {n : Nat} {s : PSt} (h : stepP s = none) : loopP (n + 1) s = none := by unfold loopP; rw [h]
theorem loopP_yes {n : Nat} {s s' : PSt} (h : stepP s = some s') : loopP (n + 1) s = loopP n s' := by conv => lhs; unfold loopP; rw [h]
def preP (t : List UInt8) : Option Pg :=
  if okP t && decide ((lnP t).length = 5) then
    match numO ((lnP t).getD 1 []), numO ((lnP t).getD 2 []), numO ((lnP t).getD 4 []) with
    | some f, some s, some n => (loopP (min n 51).toNat ⟨[], [], reP t⟩).map fun st => ⟨f, s, (lnP t).getD 3 [], st.items, st.paths⟩
    | _, _, _ => none
  else none
def parseP (t : List UInt8) : Option Pg := match preP t with | some p => if formedB p && decide (textPg p = t) then some p else none | none => none
theorem text_of_parse {t : List UInt8} {p : Pg} (h : parseP t = some p) : formedB p = true ∧ textPg p = t := by
  unfold parseP at h
  split at h
  · split at h
    · rename_i hc
      cases h
      simpa only [Bool.and_eq_true, decide_eq_true_eq] using hc
    · cases h
  · cases h
/-! the text of a formed page is read as it was written -/
theorem formed_spec {p : Pg} (h : formedB p = true) : ((0 ≤ p.fr ∧ p.fr ≤ 10000) ∧ (0 ≤ p.size ∧ p.size ≤ 10000) ∧ isD p.root = true ∧ p.items.length ≤ 50 ∧ p.paths.length = p.items.length) ∧
    ∀ k (hk : k < p.items.length), okPart p.items[k] (p.paths.getD k []) = true := by
  unfold formedB at h
  rw [Bool.and_eq_true] at h
  refine ⟨?_, fun k hk => ?_⟩
  · have := h.1
    unfold headB at this
    simpa only [Bool.and_eq_true, decide_eq_true_eq] using this
  · exact List.all_eq_true.1 h.2 ⟨k, hk⟩ (List.mem_finRange _)
theorem okPart_spec {x : List UInt8} {q : List (List UInt8)} (h : okPart x q = true) : (∀ y ∈ q, isD y = true) ∧ q.length ≤ 20 ∧ x.length ≤ 20000 := by
  unfold okPart pathB at h
  simp only [Bool.and_eq_true, decide_eq_true_eq, Bool.not_eq_true', List.any_eq_false] at h
  exact ⟨fun y hy => by simpa using h.1.1 y hy, h.1.2, h.2⟩
theorem lines_zip (p : Pg) (hl : p.paths.length = p.items.length) : (List.finRange p.items.length).flatMap p.line = (p.items.zip p.paths).flatMap fun z => lineT z.1 z.2 := by
  rw [List.flatMap_def, List.flatMap_def]
  congr 1
  refine List.ext_getElem ?_ ?_
  · simp; omega
  · intro k h1 h2
    simp only [List.getElem_map, List.getElem_finRange, List.getElem_zip]
    unfold Pg.line
    have : k < p.paths.length := by simp at h1; omega
    simp [this]
theorem isD_not {x : List UInt8} (h : isD x = true) {b : UInt8} (hb : b.toNat < 48) : b ∉ x := fun hm => by
  have := ((isD_iff x).1 h).2 b hm
  unfold isHex at this
  simp only [Bool.or_eq_true, Bool.and_eq_true, decide_eq_true_eq] at this
  omega
theorem stepP_line (x : List UInt8) (q : List (List UInt8)) (h : okPart x q = true) (is : List (List UInt8)) (ps : List (List (List UInt8))) (r : List UInt8) : stepP ⟨is, ps, lineT x q ++ r⟩ = some ⟨is ++ [x], ps ++ [q], r⟩ := by
  obtain ⟨h1, h2, h3⟩ := okPart_spec h
  have hd := itoa_dg (n := (x.length : Int)) (by omega)
  have e0 : lineT x q ++ r = Lib.join (Lib.itoa x.length :: q) [32] ++ 10 :: (x ++ 10 :: r) := by unfold lineT; simp
  have e1 : Lib.cut (lineT x q ++ r) [10] = (Lib.join (Lib.itoa x.length :: q) [32], x ++ 10 :: r, true) := by
    rw [e0]
    exact cut_at _ (join_not (by decide) q _ (dg_not hd (by decide)) fun y hy => isD_not (h1 y hy) (by decide))
  have e2 : lnP (lineT x q ++ r) = Lib.itoa x.length :: q := by
    unfold lnP
    rw [e1]
    exact split_join q _ (dg_not hd (by decide)) fun y hy => isD_not (h1 y hy) (by decide)
  have e3 : reP (lineT x q ++ r) = x ++ 10 :: r := by unfold reP; rw [e1]
  have e4 : okP (lineT x q ++ r) = true := by unfold okP; rw [e1]
  unfold stepP
  simp only [e2, e3, e4, if_true, List.headD_cons]
  rw [numO_itoa (by omega) (by omega)]
  simp only [Int.toNat_natCast]
  rw [if_neg (by simp)]
  simp
theorem loopP_lines : ∀ (z : List (List UInt8 × List (List UInt8))) (is : List (List UInt8)) (ps : List (List (List UInt8))) (r : List UInt8), (∀ a ∈ z, okPart a.1 a.2 = true) →
    loopP z.length ⟨is, ps, (z.flatMap fun a => lineT a.1 a.2) ++ r⟩ = some ⟨is ++ z.map (·.1), ps ++ z.map (·.2), r⟩
  | [], is, ps, r, _ => by simp [loopP]
  | a :: z, is, ps, r, h => by
    rw [List.length_cons, List.flatMap_cons, List.append_assoc, loopP_yes (stepP_line a.1 a.2 (h a (by simp)) is ps _), loopP_lines z _ _ r fun b hb => h b (by simp [hb])]
    simp
theorem pre_text {p : Pg} (h : formedB p = true) : preP (textPg p) = some p := by
  obtain ⟨⟨hf, hs, hr, hn, hl⟩, hp⟩ := formed_spec h
  have hb : ∀ {b : UInt8}, b.toNat < 48 → b ∉ Lib.itoa p.fr ∧ b ∉ Lib.itoa p.size ∧ b ∉ p.root ∧ b ∉ Lib.itoa (p.items.length : Int) := fun hb =>
    ⟨dg_not (itoa_dg hf.1) (.inl hb), dg_not (itoa_dg hs.1) (.inl hb), isD_not hr hb, dg_not (itoa_dg (by omega)) (.inl hb)⟩
  have e1 : Lib.cut (textPg p) [10] = (Lib.join [[112, 97, 103, 101], Lib.itoa p.fr, Lib.itoa p.size, p.root, Lib.itoa p.items.length] [32], (List.finRange p.items.length).flatMap p.line, true) := by
    unfold textPg headT
    rw [List.append_assoc, List.singleton_append]
    refine cut_at _ (join_not (by decide) _ _ (by decide) ?_)
    obtain ⟨b1, b2, b3, b4⟩ := hb (b := 10) (by decide)
    intro y hy
    simp only [List.mem_cons, List.not_mem_nil, or_false] at hy
    rcases hy with rfl | rfl | rfl | rfl <;> assumption
  have e2 : lnP (textPg p) = [[112, 97, 103, 101], Lib.itoa p.fr, Lib.itoa p.size, p.root, Lib.itoa p.items.length] := by
    unfold lnP
    rw [e1]
    refine split_join _ _ (by decide) ?_
    obtain ⟨b1, b2, b3, b4⟩ := hb (b := 32) (by decide)
    intro y hy
    simp only [List.mem_cons, List.not_mem_nil, or_false] at hy
    rcases hy with rfl | rfl | rfl | rfl <;> assumption
  have e3 : reP (textPg p) = (p.items.zip p.paths).flatMap fun z => lineT z.1 z.2 := by unfold reP; rw [e1]; exact lines_zip p hl
  have e4 : okP (textPg p) = true := by unfold okP; rw [e1]
  have hz : (p.items.zip p.paths).length = p.items.length := by rw [List.length_zip]; omega
  unfold preP
  rw [e2, e3, e4]
  simp only [List.length_cons, List.length_nil, List.getD_cons_succ, List.getD_cons_zero, decide_true, Bool.and_self, if_true]
  rw [numO_itoa hf.1 (by omega), numO_itoa hs.1 (by omega), numO_itoa (by omega) (by omega)]
  simp only
  rw [show (min (p.items.length : Int) 51).toNat = (p.items.zip p.paths).length by omega]
  have := loopP_lines (p.items.zip p.paths) [] [] [] (fun a ha => by
    obtain ⟨k, hk, rfl⟩ := List.getElem_of_mem ha
    have hk' : k < p.items.length := by omega
    have := hp k hk'
    rw [List.getElem_zip]
    simpa [show k < p.paths.length by omega] using this)
  rw [List.append_nil] at this
  rw [this]
  simp only [List.nil_append, Option.map_some, List.map_fst_zip (show p.items.length ≤ p.paths.length by omega), List.map_snd_zip (show p.paths.length ≤ p.items.length by omega)]
theorem parse_text {p : Pg} (h : formedB p = true) : parseP (textPg p) = some p := by
  unfold parseP
  rw [pre_text h]
  simp [h]
theorem text_inj {p q : Pg} (hp : formedB p = true) (hq : formedB q = true) (h : textPg p = textPg q) : p = q := by
  have := parse_text hp
  rw [h, parse_text hq] at this
  exact (Option.some.inj this).symm
end Go.Proofs.YtfhanbiifjiklaaGreatDoor

/- Text; number, cut. -/
set_option linter.unusedVariables false
set_option linter.unusedSimpArgs false
namespace Go.Proofs.YtfhanbiifjiklaaGreatDoor
open Go.RowKit Go.Shelf

def textV (p : Pg) : List UInt8 := if formedB p then textPg p else []
def textE (p : Pg) : Int := if formedB p then 0 else 1
theorem Text_any (p : Pg) (hp : p.fit) (vi vp : Value) (w : World) (hg : Glob w) (hvi : TextsAt w vi p.items) (hvp : PathsAt w vp p.paths) :
    Calls Tryz.prog 16 #[.agg (p.cs vi vp)] w fun e w' => e = .returned (.tuple #[.string (bs (textV p)), .int .i64 (textE p)]) ∧ Below w.heap.size w w' := by
  unfold textV textE
  cases h : formedB p with
  | true => exact Text_yes p hp h vi vp w (hide hg) hvi hvp
  | false => exact Text_no p hp h vi vp w hvi hvp
def atoiV (l : List UInt8) : Int := match Lib.atoiAll l with | .ok v => v | .range => Lib.atoiSat l | _ => 0
theorem Atoi_any (l : List UInt8) (hl : l.length ≤ 281474976710656) (w : World) (hg : Glob w) : Calls Tryz.prog 99 #[.string (bs l)] w fun e w' =>
    ((∃ v, Lib.atoiAll l = .ok v ∧ e = .returned (.tuple #[.int .i64 v, .nilIface])) ∨ ((∀ v, Lib.atoiAll l ≠ .ok v) ∧ ∃ n T p, e = .returned (.tuple #[.int .i64 n, .iface T p]))) ∧ Below w.heap.size w w' := by
  have hs := bs_size l
  cases h : Lib.atoiAll l with
  | ok v =>
    refine (Tryz.strconv_Atoi_ok (bs l) (by omega) v (by rw [bs_list]; exact h) w).mono ?_
    rintro e w' ⟨rfl, hw⟩
    refine ⟨.inl ⟨v, rfl, rfl⟩, ?_⟩
    rcases hw with rfl | ⟨t, rfl⟩
    · exact Below.refl _ _
    · exact Lib.bytesWorld_below _ _ _
  | range =>
    obtain ⟨ev, h1, h2⟩ := hg.rng
    refine (Tryz.strconv_Atoi_range (bs l) (by omega) (by rw [bs_list]; exact h) ev w h1 h2).mono ?_
    rintro e w' ⟨N, rfl, _, _, hb⟩
    exact ⟨.inr ⟨(by simp), _, _, _, rfl⟩, hb⟩
  | _ =>
    obtain ⟨ev, h1, h2⟩ := hg.syn
    refine (Tryz.strconv_Atoi_bad (bs l) (by omega) (by rw [bs_list, h]; simp) (by rw [bs_list, h]; simp) ev w h1 h2).mono ?_
    rintro e w' ⟨N, rfl, _, _, hb⟩
    exact ⟨.inr ⟨(by simp), _, _, _, rfl⟩, hb⟩
theorem Cut_any (l s : List UInt8) (hl : l.length ≤ 4000000000) (w : World) (hg : Glob w) : Calls Tryz.prog 97 #[.string (bs l), .string (bs s)] w fun e w' => e = .returned (.tuple #[.string (bs (Lib.cut l s).1), .string (bs (Lib.cut l s).2.1), .bool (Lib.cut l s).2.2]) ∧ Below w.heap.size w w' := by
  have hs := bs_size l
  obtain ⟨m, hm⟩ := hg.len
  refine (Tryz.strings_Cut (bs l) (bs s) m w (by omega) hm).mono ?_
  rintro e w' ⟨rfl, n, rfl⟩
  refine ⟨?_, below_drewN (Below.refl _ _) n⟩
  rw [bs_list, bs_list]; rfl
theorem split_count (b : UInt8) : ∀ (n : Nat) (s : List UInt8), s.length ≤ n → (Lib.split s [b]).length = Lib.count s [b] + 1 := by
  intro n
  induction n with
  | zero =>
    intro s h
    obtain rfl : s = [] := List.eq_nil_of_length_eq_zero (by omega)
    rw [split_no (by simp)]
    rw [Lib.count_miss (index_no (by simp))]; rfl
  | succ n ih =>
    intro s h
    rcases Lib.index_spec s [b] with ⟨hi, _⟩ | ⟨i, hi, hl, _⟩
    · unfold Lib.split
      rw [Lib.count_miss hi]; rfl
    · have hr := Lib.index_room s [b] (by omega)
      rw [hi] at hr
      simp only [List.length_cons, List.length_nil] at hr
      have := ih (s.drop (i + [b].length)) (by rw [List.length_drop]; simp; omega)
      unfold Lib.split at this ⊢
      rw [Lib.count_hit (by simp) hi, Nat.add_comm 1, Lib.splitK, hi, if_neg (by rw [beq_iff_eq]; omega), List.length_cons]
      have e2 : (i : Int).toNat = i := by simp
      rw [e2, this]
theorem texts_new (w : World) (t : TypeId) (ls : List (List UInt8)) (cs : Array Value) (hcs : cs.toList = (ls.map strV).flatten) (n : Nat) (hn : n = ls.length) : TextsAt (w.alloc (.cells cs t)) (.slice (some ⟨w.heap.size, 0, none⟩) n n) ls := by
  refine RowsAt.of_blk (Blk.new w t cs) (by rw [List.length_map]; exact hn) (Nat.le_refl _) (by simp [strV]) fun k x hx j u hu => ?_
  have := flat_at (size := 1) (ls.map strV) (by simp [strV]) k x j u hx hu
  rw [← hcs] at this
  simpa using this
theorem Split_any (l : List UInt8) (hl : l.length ≤ 4000000000) (w : World) (hg : Glob w) : Calls Tryz.prog 98 #[.string (bs l), .string ⟨#[32]⟩] w fun e w' => ∃ g c, e = .returned (.slice (some ⟨g, 0, none⟩) (Lib.split l [32]).length c) ∧ w.heap.size ≤ g ∧ TextsAt w' (.slice (some ⟨g, 0, none⟩) (Lib.split l [32]).length c) (Lib.split l [32]) ∧ Below w.heap.size w w' := by
  have hs := bs_size l
  obtain ⟨m, hm⟩ := hg.len
  refine (Tryz.strings_Split (bs l) ⟨#[32]⟩ m w (by omega) hm (by decide)).mono ?_
  rintro e w' ⟨rfl, rfl⟩
  have hd := Lib.splitB_data ⟨#[32]⟩ 0 (Lib.countB (bs l) ⟨#[32]⟩) (bs l)
  rw [bs_list] at hd
  have hc : Lib.countB (bs l) ⟨#[32]⟩ = Lib.count l [32] := by unfold Lib.countB; rw [bs_list]
  rw [hc] at hd ⊢
  have hn := split_count 32 l.length l (Nat.le_refl _)
  have hd' : (Lib.splitB ⟨#[32]⟩ 0 (Lib.count l [32]) (bs l)).map (·.data.toList) = Lib.split l [32] := hd
  have hb : Lib.splitB ⟨#[32]⟩ 0 (Lib.count l [32]) (bs l) = (Lib.split l [32]).map bs := by
    rw [← hd', List.map_map]
    conv => lhs; rw [← List.map_id (Lib.splitB _ _ _ _)]
    exact List.map_congr_left fun x _ => (bs_eq x)
  rw [← hn]
  refine ⟨_, _, rfl, Nat.le_refl _, ?_, below_one _ _⟩
  rw [hb, List.map_map]
  refine texts_new w 9 (Lib.split l [32]) _ ?_ _ rfl
  rw [flatS_eq]
  simp [flatS]
def OddE (e : Ending) : Prop := ∃ pv, e = .panicked [{ v := .iface 85 pv, recovered := false }]
def NumR (l : List UInt8) (e : Ending) : Prop := match numO l with | some n => e = .returned (.int .i64 n) | none => OddE e
set_option maxHeartbeats 1000000 in
theorem number_any (l : List UInt8) (hl : l.length ≤ 281474976710656) (w : World) (hg : Glob w) : Calls Tryz.prog 62 #[.string (bs l)] w fun e w' => NumR l e ∧ Below w.heap.size w w' := by
  have CA := Atoi_any l hl w hg
  go_enter Tryz.func62, Tryz.ntmps62
  go_wp2_with fail
  refine CA.mono ?_
  rintro e w2 ⟨(⟨v, hv, rfl⟩ | ⟨hv, n, T, p, rfl⟩), hb⟩
  · by_cases h0 : v < 0
    · have e1 : decide (v < 0) = true := decide_eq_true h0
      have HN : Hid (numO l = none) := by show _ = _; unfold numO; rw [hv]; simp only; rw [if_pos h0]
      clear hv h0
      go_wp2_with fail
      exact ⟨rfl, (by unfold NumR; rw [HN.out]; exact ⟨_, rfl⟩), hb⟩
    · have e1 : decide (v < 0) = false := decide_eq_false h0
      have HN : Hid (numO l = some v) := by show _ = _; unfold numO; rw [hv]; simp only; rw [if_neg h0]
      clear hv h0
      go_wp2_with fail
      go_ret
      exact ⟨by unfold NumR; rw [HN.out]; rfl, hb⟩
  · have HN : Hid (numO l = none) := by
      show _ = _
      unfold numO
      split
      · rename_i v h; exact absurd h (hv v)
      · rfl
    clear hv
    go_wp2_with fail
    exact ⟨rfl, (by unfold NumR; rw [HN.out]; exact ⟨_, rfl⟩), hb⟩
def CutR (t : List UInt8) (w : World) (e : Ending) (w' : World) : Prop := if okP t then ∃ g c, e = .returned (.tuple #[.slice (some ⟨g, 0, none⟩) (lnP t).length c, .string (bs (reP t))]) ∧ w.heap.size ≤ g ∧ TextsAt w' (.slice (some ⟨g, 0, none⟩) (lnP t).length c) (lnP t) ∧ Below w.heap.size w w' else OddE e ∧ Below w.heap.size w w'
set_option maxHeartbeats 1000000 in
theorem cut_any (t : List UInt8) (hl : t.length ≤ 4000000000) (w : World) (hg : Glob w) : Calls Tryz.prog 61 #[.string (bs t)] w (CutR t w) := by
  have CA : Calls Tryz.prog 97 #[.string (bs t), .string ⟨#[10]⟩] w _ := Cut_any t [10] hl w hg
  have hc := cut_len t [10]
  have CS := fun w' (hb : Below w.heap.size w w') => Split_any (Lib.cut t [10]).1 (by omega) w' (hg.to hb)
  unfold CutR okP reP lnP
  generalize (Lib.cut t [10]).1 = A at *
  generalize (Lib.cut t [10]).2.1 = B at *
  generalize (Lib.cut t [10]).2.2 = b at *
  clear hc
  go_enter Tryz.func61, Tryz.ntmps61
  go_wp2_with fail
  refine CA.mono ?_
  rintro e w2 ⟨rfl, hb⟩
  clear CA
  cases b with
  | true =>
    have HB := hide hb
    clear hb
    go_wp2_with fail
    refine (CS w2 HB.out).mono ?_
    rintro e w3 ⟨g, c, rfl, hg3, ht, hb3⟩
    go_wp2_with fail
    go_ret2
    exact ⟨g, c, rfl, Nat.le_trans HB.out.size hg3, ht, below_to HB.out (Nat.le_refl _) hb3⟩
  | false =>
    go_wp2_with fail
    exact ⟨rfl, ⟨_, rfl⟩, hb⟩
end Go.Proofs.YtfhanbiifjiklaaGreatDoor

/- Parse: what is deferred. -/
set_option linter.unusedVariables false
set_option linter.unusedSimpArgs false
namespace Go.Proofs.YtfhanbiifjiklaaGreatDoor
open Go.RowKit Go.Shelf

/-- the two results in their blocks -/
structure PR (bp be : Nat) (cs : Array Value) (w : World) : Prop where
  p : Blk w bp 25 cs
  e : Blk w be 29 #[.int .i64 0]
  five : cs.size = 5
  ne : bp ≠ be
def noCs : Array Value := #[.int .i64 0, .int .i64 0, .string ⟨#[]⟩, .slice none 0 0, .slice none 0 0]
set_option maxRecDepth 100000 in
set_option maxHeartbeats 200000 in
theorem catch_odd (bp be : Nat) (cs : Array Value) (pv : Value) (w : World) (h : PR bp be cs w) :
    CallsD Tryz.prog 60 #[.pointer (some ⟨bp, 0, none⟩), .pointer (some ⟨be, 0, none⟩)] (.panicking [{ v := .iface 85 pv, recovered := false }]) w fun e u' w' =>
      e = .returned (.tuple #[]) ∧ u' = .panicking [{ v := .iface 85 pv, recovered := true }] ∧ Blk w' bp 25 noCs ∧ Blk w' be 29 #[.int .i64 5] ∧ Two bp be w w' := by
  have f0 : w.frozen? ⟨bp, 0, none⟩ = false := h.p.frozen 0
  have f1 : w.frozen? ⟨bp, 1, none⟩ = false := h.p.frozen 1
  have f2 : w.frozen? ⟨bp, 2, none⟩ = false := h.p.frozen 2
  have f3 : w.frozen? ⟨bp, 3, none⟩ = false := h.p.frozen 3
  have f4 : w.frozen? ⟨bp, 4, none⟩ = false := h.p.frozen 4
  have fe : w.frozen? ⟨be, 0, none⟩ = false := h.e.frozen 0
  refine callsD_of_wpS Tryz.func60 rfl fun c₀ ks hu => ?_
  obtain ⟨c0, c1, c2, c3, c4, rfl⟩ : ∃ a b c d e, cs = #[a, b, c, d, e] := by
    rcases cs with ⟨l⟩
    match l, h.five with
    | [a, b, c, d, e], _ => exact ⟨a, b, c, d, e, rfl⟩
  have x0 := (h.p.cell 0).trans (show _ = some c0 from rfl)
  have x1 := (h.p.cell 1).trans (show _ = some c1 from rfl)
  have x2 := (h.p.cell 2).trans (show _ = some c2 from rfl)
  have x3 := (h.p.cell 3).trans (show _ = some c3 from rfl)
  have x4 := (h.p.cell 4).trans (show _ = some c4 from rfl)
  have n1 : ¬ be = bp := fun e => h.ne e.symm
  have n2 : ¬ bp = be := h.ne
  have x5 := (h.e.cell 0).trans (show _ = some (Value.int .i64 0) from rfl)
  apply wpS_seq
  apply wpS_region
  simp [wpOpsS, go_sem, recoverD, hu, Tryz.ntmps60, Exit.thenS, List.replicate]
  refine wpS_of_wp ?_
  rw [show (#[Value.pointer (some ⟨bp, 0, none⟩), Value.pointer (some ⟨be, 0, none⟩)] ++ ((Array.replicate 5 undef).setIfInBounds 1 (Value.iface 85 pv)).setIfInBounds 0 (Value.iface 85 pv)) = #[Value.pointer (some ⟨bp, 0, none⟩), Value.pointer (some ⟨be, 0, none⟩), Value.iface 85 pv, Value.iface 85 pv, undef, undef, undef] from rfl]
  refine wp_mono (Q := fun e a' w' => e = .normal ∧ a'.defers = [] ∧ Blk w' bp 25 noCs ∧ Blk w' be 29 #[.int .i64 5] ∧ Two bp be w w') ?_ ?_
  · have h2 := hide h
    clear h
    iterate 24 (first | go_values | go_skip | go_guarded | go_step | go_upon)
    refine ⟨rfl, rfl, ?_, ?_, ?_⟩
    · exact (((((h2.out.p.set_ 0 (.int .i64 0)).set_ 1 (.int .i64 0)).set_ 2 (.string ⟨#[]⟩)).set_ 3 (.slice none 0 0)).set_ 4 (.slice none 0 0)).far (p := ⟨be, 0, none⟩) n2 _
    · exact (((((h2.out.e.far (p := ⟨bp, 0, none⟩) n1 _).far (p := ⟨bp, 1, none⟩) n1 _).far (p := ⟨bp, 2, none⟩) n1 _).far (p := ⟨bp, 3, none⟩) n1 _).far (p := ⟨bp, 4, none⟩) n1 _).set_ 0 _
    · exact (((((((Two.refl bp be w).set1 0 _).set1 1 _).set1 2 _).set1 3 _).set1 4 _).set2 0 _)
  · rintro e a' w' ⟨rfl, h1, h2, h3, h4⟩
    refine ⟨h1, _, rfl, .tuple #[], ?_, rfl, rfl, h2, h3, h4⟩
    exact results_none rfl _ _ _
set_option maxRecDepth 100000 in
set_option maxHeartbeats 400000 in
theorem catch_none (bp be : Nat) (w : World) :
    CallsD Tryz.prog 60 #[.pointer (some ⟨bp, 0, none⟩), .pointer (some ⟨be, 0, none⟩)] .returning w fun e u' w' =>
      e = .returned (.tuple #[]) ∧ u' = .returning ∧ w' = w := by
  refine callsD_of_wpS Tryz.func60 rfl fun c₀ ks hu => ?_
  apply wpS_seq
  apply wpS_region
  simp [wpOpsS, go_sem, recoverD, hu, Tryz.ntmps60, Exit.thenS, List.replicate]
  refine wpS_of_wp ?_
  rw [show (#[Value.pointer (some ⟨bp, 0, none⟩), Value.pointer (some ⟨be, 0, none⟩)] ++ ((Array.replicate 5 undef).setIfInBounds 1 Value.nilIface).setIfInBounds 0 Value.nilIface) = #[Value.pointer (some ⟨bp, 0, none⟩), Value.pointer (some ⟨be, 0, none⟩), Value.nilIface, Value.nilIface, undef, undef, undef] from rfl]
  refine wp_mono (Q := fun e a' w' => e = .normal ∧ a'.defers = [] ∧ w' = w) ?_ ?_
  · go_wp2_with fail
  · rintro e a' w' ⟨rfl, h1, rfl⟩
    exact ⟨h1, .returning, (by cases c₀; simp_all), .tuple #[], results_none rfl _ _ _, rfl, rfl, rfl⟩
def noPg : Pg := ⟨0, 0, [], [], []⟩
def parseV (t : List UInt8) : Pg := (parseP t).getD noPg
def parseE (t : List UInt8) : Int := if (parseP t).isSome then 0 else 5
def ParseR (t : List UInt8) (w : World) (e : Ending) (w' : World) : Prop := ∃ vi vp, e = .returned (.tuple #[.agg ((parseV t).cs vi vp), .int .i64 (parseE t)]) ∧ TextsAt w' vi (parseV t).items ∧ PathsAt w' vp (parseV t).paths ∧ Below w.heap.size w w'
theorem results_two {fn : Func} {p q : Tmp} (h : fn.results = #[.cell p 25, .cell q 29]) (tmps : Array Value) (w : World) (bp be : Nat) (hp : tmps[p]? = some (.pointer (some ⟨bp, 0, none⟩))) (hq : tmps[q]? = some (.pointer (some ⟨be, 0, none⟩))) (cs : Array Value) (v : Value)
    (h1 : Blk w bp 25 cs) (hs : cs.size = 5) (h2 : Blk w be 29 #[v]) : (results fn tmps).run Tryz.prog w = .ok (.tuple #[.agg cs, v]) w := by
  have hp' : tmps[p]?.getD undef = .pointer (some ⟨bp, 0, none⟩) := by rw [hp]; rfl
  have hq' : tmps[q]?.getD undef = .pointer (some ⟨be, 0, none⟩) := by rw [hq]; rfl
  obtain ⟨c0, c1, c2, c3, c4, rfl⟩ : ∃ a b c d e, cs = #[a, b, c, d, e] := by
    rcases cs with ⟨l⟩
    match l, hs with
    | [a, b, c, d, e], _ => exact ⟨a, b, c, d, e, rfl⟩
  have x0 := (h1.cell 0).trans (show _ = some c0 from rfl)
  have x1 := (h1.cell 1).trans (show _ = some c1 from rfl)
  have x2 := (h1.cell 2).trans (show _ = some c2 from rfl)
  have x3 := (h1.cell 3).trans (show _ = some c3 from rfl)
  have x4 := (h1.cell 4).trans (show _ = some c4 from rfl)
  have x5 := (h2.cell 0).trans (show _ = some v from rfl)
  simp [results, h, hp', hq', go_sem, x0, x1, x2, x3, x4, x5]
theorem parse_odd {t : List UInt8} (hno : parseP t = none) (w W : World) (bp be : Nat) (hbp : w.heap.size ≤ bp) (hbe : w.heap.size ≤ be) (hb : Below w.heap.size w W) (cs : Array Value) (h : PR bp be cs W) (tmps : Array Value) (h2 : tmps[2]? = some (.pointer (some ⟨bp, 0, none⟩))) (h3 : tmps[3]? = some (.pointer (some ⟨be, 0, none⟩))) (pv : Value) :
    Leaves Tryz.prog Tryz.f18 tmps (ParseR t w) [{ target := .fn (.func 60) #[.pointer (some ⟨bp, 0, none⟩), .pointer (some ⟨be, 0, none⟩)], args := #[] }] (.panicking [{ v := .iface 85 pv, recovered := false }]) W := by
  refine leaves_cons (f := 60) (args := #[.pointer (some ⟨bp, 0, none⟩), .pointer (some ⟨be, 0, none⟩)]) (by simp) (by simp [go_sem]) ?_
  refine (catch_odd bp be cs pv W h).mono ?_
  rintro e u' w' ⟨rfl, rfl, h4, h5, h6⟩
  show Leaves _ _ _ _ [] .returning w'
  refine ⟨_, results_two rfl tmps w' bp be h2 h3 noCs _ h4 rfl h5, .slice none 0 0, .slice none 0 0, ?_, ?_, ?_, hb.trans (h6.below (B := w.heap.size) hb.size hbp hbe)⟩
  · unfold parseV parseE; rw [hno]; rfl
  · unfold parseV; rw [hno]; exact TextsAt.nil _
  · unfold parseV; rw [hno]; exact PathsAt.nil _
theorem parse_end {t : List UInt8} {p : Pg} (hp : parseP t = some p) (w W : World) (bp be : Nat) (hb : Below w.heap.size w W) (vi vp : Value) (h : PR bp be (p.cs vi vp) W) (hi : TextsAt W vi p.items) (hq : PathsAt W vp p.paths) (tmps : Array Value) (h2 : tmps[2]? = some (.pointer (some ⟨bp, 0, none⟩))) (h3 : tmps[3]? = some (.pointer (some ⟨be, 0, none⟩))) :
    Leaves Tryz.prog Tryz.f18 tmps (ParseR t w) [{ target := .fn (.func 60) #[.pointer (some ⟨bp, 0, none⟩), .pointer (some ⟨be, 0, none⟩)], args := #[] }] .returning W := by
  refine leaves_cons (f := 60) (args := #[.pointer (some ⟨bp, 0, none⟩), .pointer (some ⟨be, 0, none⟩)]) (by simp) (by simp [go_sem]) ?_
  refine (catch_none bp be W).mono ?_
  rintro e u' w' ⟨rfl, rfl, rfl⟩
  show Leaves _ _ _ _ [] .returning w'
  refine ⟨_, results_two rfl tmps w' bp be h2 h3 _ _ h.p rfl h.e, vi, vp, ?_, ?_, ?_, hb⟩
  · unfold parseV parseE; rw [hp]; rfl
  · unfold parseV; rw [hp]; exact hi
  · unfold parseV; rw [hp]; exact hq
/-- a path's slice lies in an array of its own -/
def PFar (B n : Nat) (pv vi vp : Value) : Prop := ∃ g, pv.ownBlock = some g ∧ B ≤ g ∧ g < n ∧ vi.ownBlock ≠ some g ∧ vp.ownBlock ≠ some g
/-- the page that is read, as it grows -/
structure PMem (bp be B : Nat) (f s : Int) (R : List UInt8) (st : PSt) (vi vp : Value) (pvs : List Value) (W : World) : Prop where
  r : PR bp be #[.int .i64 f, .int .i64 s, .string (bs R), vi, vp] W
  oi : W.ownsRow B 9 1 vi st.items.length (flatS st.items)
  op : W.ownsRow B 22 1 vp st.paths.length pvs
  at_ : ∀ (j : Nat) (q : List (List UInt8)), st.paths[j]? = some q → ∃ pv : Value, pvs[j]? = some pv ∧ TextsAt W pv q ∧ PFar B W.heap.size pv vi vp
theorem PMem.to {bp be B : Nat} {f s : Int} {R : List UInt8} {st : PSt} {vi vp : Value} {pvs : List Value} {W W' : World} (h : PMem bp be B f s R st vi vp pvs W) (hb : Below W.heap.size W W') : PMem bp be B f s R st vi vp pvs W' :=
  ⟨⟨h.r.p.to hb, h.r.e.to hb, rfl, h.r.ne⟩, ownsRow_to h.oi hb, ownsRow_to h.op hb, fun j q hq => by
    obtain ⟨pv, h1, h2, g, h3, h4, h5, h6⟩ := h.at_ j q hq
    exact ⟨pv, h1, h2.to hb, g, h3, h4, Nat.lt_of_lt_of_le h5 hb.size, h6⟩⟩
theorem rowOr_ne {v : Value} {p g : Nat} (h : v.ownBlock ≠ some g) (hp : p ≠ g) : some g ≠ some (rowOr v p) := fun e => by
  unfold rowOr at e
  cases hv : v.ownBlock with
  | none => rw [hv] at e; exact hp (Option.some.inj e).symm
  | some k => rw [hv] at e h; exact h (by rw [Option.some.inj e]; rfl)
theorem pmem_items {bp be B : Nat} {f s : Int} {R : List UInt8} {st : PSt} {vi vp v' : Value} {pvs : List Value} {W W' : World} (hbp : bp < B) (h : PMem bp be B f s R st vi vp pvs W) (hT : Two bp (rowOr vi bp) W W')
    (hR : PR bp be #[.int .i64 f, .int .i64 s, .string (bs R), v', vp] W') (x : List UInt8) (hO : W'.ownsRow B 9 1 v' (st.items.length + 1) (flatS st.items ++ [.string (bs x)]))
    (hv : v'.ownBlock = vi.ownBlock ∨ ∃ g, v'.ownBlock = some g ∧ W.heap.size ≤ g) (r : List UInt8) : PMem bp be B f s R ⟨st.items ++ [x], st.paths, r⟩ v' vp pvs W' := by
  have hfar : ∀ g, vi.ownBlock ≠ some g → bp ≠ g → some g ≠ some (rowOr vi bp) := fun g h1 h2 => rowOr_ne h1 h2
  refine ⟨hR, ?_, ?_, fun j q hq => ?_⟩
  · show W'.ownsRow B _ 1 v' (st.items ++ [x]).length (flatS (st.items ++ [x]))
    rw [flatS_snoc, List.length_append]
    exact hO
  · cases hvp : vp.ownBlock with
    | none => exact ownsRow_two h.op hT (by rw [hvp]; simp) (by rw [hvp]; simp)
    | some g =>
      have hl := World.ownsRow.lt h.op g hvp
      refine ownsRow_two h.op hT (by rw [hvp]; intro e; cases e; omega) ?_
      rw [hvp]
      refine hfar g ?_ (by omega)
      intro e
      rcases ownsRow_apart h.oi h.op (by decide) with h1 | h1
      · exact h1 (by rw [e, hvp])
      · rw [h1] at e; cases e
  · obtain ⟨pv, h1, h2, g, h3, h4, h5, h6, h7⟩ := h.at_ j q hq
    refine ⟨pv, h1, h2.two hT (by rw [h3]; intro e; cases e; omega) (by rw [h3]; exact hfar g h6 (by omega)), g, h3, h4, Nat.lt_of_lt_of_le h5 hT.size, ?_, h7⟩
    rcases hv with hv | ⟨k, hv, hk⟩
    · rw [hv]; exact h6
    · rw [hv]; intro e; cases e; omega
theorem pmem_paths {bp be B : Nat} {f s : Int} {R : List UInt8} {st : PSt} {vi vp v' : Value} {pvs : List Value} {W W' : World} (hbp : bp < B) (h : PMem bp be B f s R st vi vp pvs W) (hT : Two bp (rowOr vp bp) W W')
    (pv : Value) (hR : PR bp be #[.int .i64 f, .int .i64 s, .string (bs R), vi, v'] W') (hO : W'.ownsRow B 22 1 v' (st.paths.length + 1) (pvs ++ [pv]))
    (hv : v'.ownBlock = vp.ownBlock ∨ ∃ g, v'.ownBlock = some g ∧ W.heap.size ≤ g) (q : List (List UInt8)) (hq : TextsAt W pv q) (hf : PFar B W.heap.size pv vi vp) (r : List UInt8) : PMem bp be B f s R ⟨st.items, st.paths ++ [q], r⟩ vi v' (pvs ++ [pv]) W' := by
  have hfar : ∀ g, vp.ownBlock ≠ some g → bp ≠ g → some g ≠ some (rowOr vp bp) := fun g h1 h2 => rowOr_ne h1 h2
  have hall : ∀ (pv : Value) (q : List (List UInt8)), TextsAt W pv q → PFar B W.heap.size pv vi vp → TextsAt W' pv q ∧ PFar B W'.heap.size pv vi v' := by
    rintro pv q h2 ⟨g, h3, h4, h5, h6, h7⟩
    refine ⟨h2.two hT (by rw [h3]; intro e; cases e; omega) (by rw [h3]; exact hfar g h7 (by omega)), g, h3, h4, Nat.lt_of_lt_of_le h5 hT.size, h6, ?_⟩
    rcases hv with hv | ⟨k, hv, hk⟩
    · rw [hv]; exact h7
    · rw [hv]; intro e; cases e; omega
  have hpl : pvs.length = st.paths.length := by have := h.op.1; omega
  refine ⟨hR, ?_, ?_, fun j q' hq' => ?_⟩
  · cases hvi : vi.ownBlock with
    | none => exact ownsRow_two h.oi hT (by rw [hvi]; simp) (by rw [hvi]; simp)
    | some g =>
      have hl := World.ownsRow.lt h.oi g hvi
      refine ownsRow_two h.oi hT (by rw [hvi]; intro e; cases e; omega) ?_
      rw [hvi]
      refine hfar g ?_ (by omega)
      intro e
      rcases ownsRow_apart h.oi h.op (by decide) with h1 | h1
      · exact h1 (by rw [e, hvi])
      · rw [h1] at hvi; cases hvi
  · show W'.ownsRow B _ 1 v' (st.paths ++ [q]).length (pvs ++ [pv])
    rw [List.length_append]
    exact hO
  · rcases Nat.lt_or_ge j st.paths.length with hj | hj
    · simp only [List.getElem?_append_left hj] at hq'
      obtain ⟨pv', h1, h2, h3⟩ := h.at_ j q' hq'
      obtain ⟨h4, h5⟩ := hall pv' q' h2 h3
      exact ⟨pv', by rw [List.getElem?_append_left (by omega)]; exact h1, h4, h5⟩
    · simp only [List.getElem?_append_right hj] at hq'
      have hj0 : j = st.paths.length := by
        have := (List.getElem?_eq_some_iff.1 hq').1
        simp at this; omega
      subst hj0
      simp at hq'
      subst hq'
      obtain ⟨h4, h5⟩ := hall pv q hq hf
      exact ⟨pv, by rw [List.getElem?_append_right (by omega), hpl]; simp, h4, h5⟩
theorem pmem_res {bp be B : Nat} {f s : Int} {R : List UInt8} {st : PSt} {vi vp : Value} {pvs : List Value} {W W' : World} (hbp : bp < B) (hbe : be < B) (h : PMem bp be B f s R st vi vp pvs W) (hT : Two bp be W W')
    (hR : PR bp be #[.int .i64 f, .int .i64 s, .string (bs R), vi, vp] W') : PMem bp be B f s R st vi vp pvs W' := by
  have hne : ∀ v : Value, (∀ g, v.ownBlock = some g → B ≤ g) → v.ownBlock ≠ some bp ∧ v.ownBlock ≠ some be := fun v hv => ⟨fun e => by have := hv _ e; omega, fun e => by have := hv _ e; omega⟩
  refine ⟨hR, ?_, ?_, fun j q hq => ?_⟩
  · obtain ⟨h1, h2⟩ := hne vi fun g e => (World.ownsRow.lt h.oi g e).1
    exact ownsRow_two h.oi hT h1 h2
  · obtain ⟨h1, h2⟩ := hne vp fun g e => (World.ownsRow.lt h.op g e).1
    exact ownsRow_two h.op hT h1 h2
  · obtain ⟨pv, h1, h2, g, h3, h4, h5, h6⟩ := h.at_ j q hq
    obtain ⟨h7, h8⟩ := hne pv fun g' e => by rw [h3] at e; cases e; exact h4
    exact ⟨pv, h1, h2.two hT h7 h8, g, h3, h4, Nat.lt_of_lt_of_le h5 hT.size, h6⟩
theorem pmem_paths_at {bp be B : Nat} {f s : Int} {R : List UInt8} {st : PSt} {vi vp : Value} {pvs : List Value} {W : World} (h : PMem bp be B f s R st vi vp pvs W) : PathsAt W vp st.paths := by
  obtain ⟨A, c, rfl⟩ := own_sl4 h.op
  have hl := h.op.1
  rcases h.op.2 with ⟨e, h0⟩ | ⟨g, cap, cur, e, hb, hg, h1, h2, h3, h4⟩
  · have : st.paths = [] := List.eq_nil_of_length_eq_zero h0
    rw [this]
    exact ⟨A, c, rfl, Nat.zero_le _, fun k p hp => by simp at hp⟩
  · cases e
    refine ⟨_, _, rfl, h1, fun k p hp => ?_⟩
    obtain ⟨pv, q1, q2, _⟩ := h.at_ k p hp
    refine ⟨⟨g, 0, none⟩, pv, rfl, (Array.getElem?_eq_some_iff.1 hg).1, ?_, q2⟩
    exact h.op.cells (g := g) rfl k pv q1
/-- a round of reading -/
structure PRound (bp be B n₀ N : Nat) (f s : Int) (R : List UInt8) (s0 : PSt) (w : World) (k : Nat) (st : PSt) (W : World) : Prop where
  ki : st.items.length = k
  kp : st.paths.length = k
  rl : st.rest.length ≤ 100000
  li : ∀ x ∈ st.items, x.length ≤ 100000
  lq : ∀ q ∈ st.paths, q.length ≤ 200000 ∧ ∀ x ∈ q, x.length ≤ 100000
  lp : loopP N s0 = loopP (N - k) st
  mem : ∃ vi vp pvs, PMem bp be B f s R st vi vp pvs W
  bel : Below n₀ w W
theorem step_sizes {st st' : PSt} (h : stepP st = some st') (hr : st.rest.length ≤ 100000) (li : ∀ x ∈ st.items, x.length ≤ 100000) (lq : ∀ q ∈ st.paths, q.length ≤ 200000 ∧ ∀ x ∈ q, x.length ≤ 100000) :
    st'.items.length = st.items.length + 1 ∧ st'.paths.length = st.paths.length + 1 ∧ st'.rest.length ≤ 100000 ∧ (∀ x ∈ st'.items, x.length ≤ 100000) ∧ ∀ q ∈ st'.paths, q.length ≤ 200000 ∧ ∀ x ∈ q, x.length ≤ 100000 := by
  have hc := cut_len st.rest [10]
  have hs := split_len (Lib.cut st.rest [10]).1 [32]
  have hre : (reP st.rest).length ≤ 100000 := by show (Lib.cut st.rest [10]).2.1.length ≤ _; omega
  have hln : (lnP st.rest).length ≤ 200000 ∧ ∀ x ∈ lnP st.rest, x.length ≤ 100000 := ⟨by show (Lib.split _ _).length ≤ _; omega, fun x hx => by have := hs.2 x hx; omega⟩
  unfold stepP at h
  split at h
  · split at h
    · cases h
    · split at h
      · cases h
      · cases h
        refine ⟨by simp, by simp, by simp only [List.length_drop]; omega, fun x hx => ?_, fun q hq => ?_⟩
        · simp only [List.mem_append, List.mem_singleton] at hx
          rcases hx with hx | rfl
          · exact li x hx
          · rw [List.length_take]; omega
        · simp only [List.mem_append, List.mem_singleton] at hq
          rcases hq with hq | rfl
          · exact lq q hq
          · exact ⟨by rw [List.length_drop]; omega, fun x hx => hln.2 x (List.mem_of_mem_drop hx)⟩
  · cases h
end Go.Proofs.YtfhanbiifjiklaaGreatDoor
