/- Walks of package tree: half, node, Leaf. -/
import Derived.Test.YtfhanbiifjiklaaGreatDoorP2
import Derived.Test.YtfhanbiifjiklaaGreatDoorSl
import Derived.Test.YtfhanbiifjiklaaGreatDoorDig5
import Derived.IntWalk
set_option linter.unusedVariables false
set_option linter.unusedSimpArgs false
namespace Go.Proofs.YtfhanbiifjiklaaGreatDoor
open Go.RowKit

theorem enters_fn {P : Program} {F : FuncId} {fn : Func} {c : Code} (hf : P.funcs[F]? = some fn) (hn : (fn.name == "runtime.NumGoroutine") = false) (hb : fn.body = some c) (args : Array Value) (w : World) : (callFunc F args).run P w = .ok (.enter F args) w := by
  have h1 : fn.name ≠ "runtime.NumGoroutine" := by simpa using hn
  simp [callFunc, hf, h1, hb, mark]
theorem dec_len9 : ∀ (n u : Nat), u < 10 ^ (n + 1) → (Lib.decDigits u).length ≤ n + 1 := by
  intro n
  induction n with
  | zero => intro u hu; rw [Lib.decDigits, dif_pos (show u < 10 by omega)]; simp
  | succ n ih =>
    intro u hu
    rw [Lib.decDigits]
    split
    · simp
    · rw [List.length_append]
      have := ih (u / 10) (by rw [Nat.pow_succ] at hu; omega)
      simp; omega
theorem join_len : ∀ (ls : List (List UInt8)), (∀ l ∈ ls, l.length < 100000000000000000000) → (joinD ls).length ≤ (ls.map List.length).sum + 21 * ls.length
  | [], _ => by simp [joinD]
  | l :: ls, h => by
    have h1 := join_len ls (fun x hx => h x (by simp [hx]))
    have h2 : (Lib.itoa (l.length : Int)).length ≤ 20 := by unfold Lib.itoa; rw [if_neg (by omega)]; exact dec_len9 19 _ (h l (by simp))
    have e : joinD (l :: ls) = (Lib.itoa l.length ++ [58] ++ l) ++ joinD ls := by simp [joinD]
    rw [e]
    simp only [List.length_append, List.map_cons, List.sum_cons, List.length_cons, List.length_nil] at *
    omega
theorem join2 {a b : List UInt8} (ha : a.length ≤ 100000000000) (hb : b.length ≤ 100000000000) : (joinD [a, b]).length ≤ 140737488355328 := by
  have := join_len [a, b] (fun l hl => by
    simp only [List.mem_cons, List.not_mem_nil, or_false] at hl
    rcases hl with rfl | rfl <;> omega)
  simp only [List.map_cons, List.map_nil, List.sum_cons, List.sum_nil, List.length_cons, List.length_nil] at this
  omega
theorem join3 {a b c : List UInt8} (ha : a.length ≤ 100000000000) (hb : b.length ≤ 100000000000) (hc : c.length ≤ 100000000000) : (joinD [a, b, c]).length ≤ 140737488355328 := by
  have := join_len [a, b, c] (fun l hl => by
    simp only [List.mem_cons, List.not_mem_nil, or_false] at hl
    rcases hl with rfl | rfl | rfl <;> omega)
  simp only [List.map_cons, List.map_nil, List.sum_cons, List.sum_nil, List.length_cons, List.length_nil] at this
  omega
theorem halfF_stop {f k n : Nat} (h : n ≤ k * 2) : halfF f k n = k := by
  cases f with
  | zero => rfl
  | succ f => unfold halfF; rw [if_neg (by omega)]
theorem halfF_go {f k n : Nat} (h : k * 2 < n) : halfF (f + 1) k n = halfF f (k * 2) n := by
  conv => lhs; unfold halfF
  rw [if_pos h]
set_option maxRecDepth 100000 in
set_option maxHeartbeats 1000000 in
theorem half_any (n : Nat) (hn : n ≤ 140737488355328) (w : World) : Calls Tryz.prog 83 #[.int .i64 (n : Int)] w fun e w' => e = .returned (.int .i64 ((halfN n : Nat) : Int)) ∧ w' = w := by
  go_enter Tryz.func83, Tryz.ntmps83
  go_wp2_with fail
  go_loopw [3] (fun k wr => ∃ u f : Nat, k = .int .i64 (u : Int) ∧ (1 ≤ u ∧ u ≤ n + 1 ∧ n ≤ u + f ∧ halfF f u n = halfN n) ∧ wr = w) (fun k _ => n - (intOf k).toNat)
  case atStart => exact ⟨1, n, rfl, ⟨Nat.le_refl _, by omega, by omega, rfl⟩, rfl⟩
  case round =>
    obtain ⟨u, f, rfl, ⟨h1, h1', h2, h3⟩, rfl⟩ := hrel
    have H3 := hide h3
    clear h3
    have e0 : IntKind.i64.wrap ((u : Int) * 2) = ((u * 2 : Nat) : Int) := by rw [IntWalk.i64_in _ (by omega)]; omega
    by_cases hlt : u * 2 < n
    · have e1 : decide (((u * 2 : Nat) : Int) < (n : Int)) = true := decide_eq_true (by omega)
      obtain ⟨f', rfl⟩ : ∃ f', f = f' + 1 := ⟨f - 1, by omega⟩
      have H4 := hide (halfF_go (f := f') hlt)
      go_wp2_with fail
      refine ⟨⟨u * 2, f', by go_num, ⟨by omega, by omega, by omega, H4.out.symm.trans H3.out⟩, trivial⟩, ?_⟩
      simp [intOf]; omega
    · have e1 : decide (((u * 2 : Nat) : Int) < (n : Int)) = false := decide_eq_false (by omega)
      have H4 : Hid (halfN n = u) := H3.out.symm.trans (halfF_stop (by omega))
      go_wp2_with fail
      go_ret
      exact ⟨ret_int (by rw [H4.out]), rfl⟩
set_option maxHeartbeats 1000000 in
theorem node_any (a b : List UInt8) (ha : a.length ≤ 100000000000) (hb : b.length ≤ 100000000000) (w : World) (hg : Glob w) : Calls Tryz.prog 103 #[.string (bs a), .string (bs b)] w fun e w' => e = .returned (.string (bs (nodeD a b))) ∧ Below w.heap.size w w' := by
  have CL : Calls Tryz.prog 88 #[.slice (some ⟨w.heap.size, 0, none⟩) 3 3] (w.alloc (.cells #[.string ⟨#[110, 111, 100, 101]⟩, .string (bs a), .string (bs b)] 9)) fun e w' => e = .returned (.string (bs (nodeD a b))) ∧ Below (w.alloc (.cells #[.string ⟨#[110, 111, 100, 101]⟩, .string (bs a), .string (bs b)] 9)).heap.size (w.alloc (.cells #[.string ⟨#[110, 111, 100, 101]⟩, .string (bs a), .string (bs b)] 9)) w' :=
    List_any [nodeT, a, b] _ 9 _ (Blk.new w 9 #[.string ⟨#[110, 111, 100, 101]⟩, .string (bs a), .string (bs b)]) (by simp) (join3 (by decide) ha hb) (hg.alloc _)
  have HB := hide (below_one w (.cells #[.string ⟨#[110, 111, 100, 101]⟩, .string (bs a), .string (bs b)] 9))
  clear hg ha hb
  go_enter Tryz.func103, Tryz.ntmps103
  go_wp2_with ((with_reducible refine CL.mono ?_); rintro e w' ⟨rfl, hb⟩)
  go_ret
  exact ⟨rfl, below_to HB.out (Nat.le_refl _) (by assumption)⟩
set_option maxHeartbeats 1000000 in
theorem Leaf_any (a : List UInt8) (ha : a.length ≤ 100000000000) (w : World) (hg : Glob w) : Calls Tryz.prog 44 #[.string (bs a)] w fun e w' => e = .returned (.string (bs (leafD a))) ∧ Below w.heap.size w w' := by
  have CL : Calls Tryz.prog 88 #[.slice (some ⟨w.heap.size, 0, none⟩) 2 2] (w.alloc (.cells #[.string ⟨#[108, 101, 97, 102]⟩, .string (bs a)] 9)) fun e w' => e = .returned (.string (bs (leafD a))) ∧ Below (w.alloc (.cells #[.string ⟨#[108, 101, 97, 102]⟩, .string (bs a)] 9)).heap.size (w.alloc (.cells #[.string ⟨#[108, 101, 97, 102]⟩, .string (bs a)] 9)) w' :=
    List_any [leafT, a] _ 9 _ (Blk.new w 9 #[.string ⟨#[108, 101, 97, 102]⟩, .string (bs a)]) (by simp) (join2 (by decide) ha) (hg.alloc _)
  have HB := hide (below_one w (.cells #[.string ⟨#[108, 101, 97, 102]⟩, .string (bs a)] 9))
  clear hg ha
  go_enter Tryz.func44, Tryz.ntmps44
  go_wp2_with ((with_reducible refine CL.mono ?_); rintro e w' ⟨rfl, hb⟩)
  go_ret
  exact ⟨rfl, below_to HB.out (Nat.le_refl _) (by assumption)⟩
end Go.Proofs.YtfhanbiifjiklaaGreatDoor
