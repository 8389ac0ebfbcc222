/- Walks of the reference's Few. -/
import Derived.Test.YtfhanbiifjiklaaGreatDoorD1
set_option linter.unusedVariables false
set_option linter.unusedSimpArgs false
namespace Go.Proofs.YtfhanbiifjiklaaGreatDoor
open Go.RowKit

def fewQ (q : List (List UInt8)) : Bool := decide (q.length ≤ 25) && fewT q 60
def fewHead (p : Pg) : Bool := decide (p.paths.length ≤ 60) && ((decide (p.items.length ≤ 12) && fewT p.items 60) || (decide (51 ≤ p.items.length) && decide (p.items.length ≤ 60)))
def fewP (p : Pg) : Bool := fewHead p && (p.items.all (fun x => decide (x.length ≤ 60)) && (p.paths.all fewQ && decide (p.root.length ≤ 60)))
/-- what came in may be long, but not without bound -/
structure Pg.wide (p : Pg) : Prop where
  ni : p.items.length ≤ 8796093022208
  li : ∀ x ∈ p.items, x.length ≤ 140737488355328
  np : p.paths.length ≤ 8796093022208
  nq : ∀ q ∈ p.paths, q.length ≤ 8796093022208
  lq : ∀ q ∈ p.paths, ∀ x ∈ q, x.length ≤ 140737488355328
  lr : p.root.length ≤ 140737488355328
theorem few_no {p : Pg} (h : fewHead p = false) : fewP p = false := by unfold fewP; rw [h]; rfl
theorem fewT_long {l : List (List UInt8)} (h : 30 < l.length) (m : Nat) : fewT l m = false := by unfold fewT; rw [decide_eq_false (by omega), Bool.and_false]
set_option maxRecDepth 100000 in
set_option maxHeartbeats 4000000 in
theorem FewP_head (p : Pg) (hp : p.wide) (h : fewHead p = false) (vi vp : Value) (w : World) (hvi : TextsAt w vi p.items) (hvp : PathsAt w vp p.paths) :
    Calls Tryz.prog 13 #[.agg (p.cs vi vp)] w fun e w' => e = .returned (.bool false) ∧ Below w.heap.size w w' := by
  have CF : ∀ w' : World, Below w.heap.size w w' → Calls Tryz.prog 32 #[vi, .int .i64 60] w' fun e w'' => e = .returned (.bool (fewT p.items 60)) ∧ w'' = w' := fun w' (hb : Below w.heap.size w w') => Few_any p.items hp.ni hp.li 60 (by omega) vi w' (hvi.to hb)
  obtain ⟨Ai, ci, rfl, _⟩ := hvi.slice
  obtain ⟨Ap, cp, rfl, _⟩ := hvp.slice
  have hh : (decide (60 < (p.items.length : Int)) || (decide (60 < (p.paths.length : Int)) || ((decide (12 < (p.items.length : Int)) && decide ((p.items.length : Int) < 51)) || (!fewT p.items 60 && decide ((p.items.length : Int) ≤ 12))))) = true := by
    unfold fewHead at h
    generalize hF : fewT p.items 60 = F at *
    have hF30 := hF
    simp only [Bool.and_eq_false_iff, Bool.or_eq_false_iff, decide_eq_false_iff_not] at h
    simp only [Bool.or_eq_true, Bool.and_eq_true, decide_eq_true_eq, Bool.not_eq_true']
    cases F with
    | true => simp at h ⊢; omega
    | false => simp at h ⊢; omega
  have hc5 : decide ((p.items.length : Int) ≤ 12) = !decide (12 < (p.items.length : Int)) := by rw [← decide_not]; exact decide_eq_decide.2 (by omega)
  rw [hc5] at hh
  unfold Pg.cs
  clear hvi hvp h hp
  have hfl : (w.alloc (.cells #[.int .i64 p.fr, .int .i64 p.size, .string (bs p.root), .slice Ai p.items.length ci, .slice Ap p.paths.length cp] 25)).heap.size = w.heap.size + 1 := by simp
  generalize c1 : decide (60 < (p.items.length : Int)) = b1 at *
  generalize c2 : decide (60 < (p.paths.length : Int)) = b2 at *
  generalize c3 : decide (12 < (p.items.length : Int)) = b3 at *
  generalize c4 : decide ((p.items.length : Int) < 51) = b4 at *
  generalize fewT p.items 60 = F at *
  cases b1
  cases b2
  cases b3
  rotate_left
  cases b4
  rotate_left
  all_goals skip
  all_goals (cases F)
  all_goals (try cases hh)
  all_goals (try simp only [Bool.not_false, Bool.not_true] at hc5)
  all_goals
    go_enter Tryz.func13, Tryz.ntmps13
    go_wp2_with ((with_reducible refine (CF _ (below_one _ _)).mono ?_); rintro e w' ⟨rfl, rfl⟩)
    go_ret
    exact ⟨rfl, below_one _ _⟩
set_option maxRecDepth 100000 in
set_option maxHeartbeats 4000000 in
theorem FewP_main (p : Pg) (hp : p.wide) (h : fewHead p = true) (vi vp : Value) (w : World) (hvi : TextsAt w vi p.items) (hvp : PathsAt w vp p.paths) :
    Calls Tryz.prog 13 #[.agg (p.cs vi vp)] w fun e w' => e = .returned (.bool (fewP p)) ∧ Below w.heap.size w w' := by
  have CF : ∀ w' : World, Below w.heap.size w w' → Calls Tryz.prog 32 #[vi, .int .i64 60] w' fun e w'' => e = .returned (.bool (fewT p.items 60)) ∧ w'' = w' := fun w' (hb : Below w.heap.size w w') => Few_any p.items hp.ni hp.li 60 (by omega) vi w' (hvi.to hb)
  have CQ : ∀ (q : List (List UInt8)) (_ : q ∈ p.paths) (v : Value) (w' : World), TextsAt w' v q → Calls Tryz.prog 32 #[v, .int .i64 60] w' fun e w'' => e = .returned (.bool (fewT q 60)) ∧ w'' = w' := fun q hq v w' hv => Few_any q (hp.nq q hq) (hp.lq q hq) 60 (by omega) v w' hv
  have HFP : Hid (fewP p = (p.items.all (fun x => decide (x.length ≤ 60)) && (p.paths.all fewQ && decide (p.root.length ≤ 60)))) := by show _ = _; unfold fewP; rw [h]; rfl
  have hrs : (bs p.root).size = p.root.length := bs_size p.root
  have hrl := hp.lr
  obtain ⟨Ai, ci, rfl, _⟩ := hvi.slice
  obtain ⟨Ap, cp, rfl, _⟩ := hvp.slice
  have HVI := hide (hvi.to (below_one w (.cells #[.int .i64 p.fr, .int .i64 p.size, .string (bs p.root), .slice Ai p.items.length ci, .slice Ap p.paths.length cp] 25)))
  have HVP := hide (hvp.to (below_one w (.cells #[.int .i64 p.fr, .int .i64 p.size, .string (bs p.root), .slice Ai p.items.length ci, .slice Ap p.paths.length cp] 25)))
  have hb1 := Blk.new w 25 #[.int .i64 p.fr, .int .i64 p.size, .string (bs p.root), .slice Ai p.items.length ci, .slice Ap p.paths.length cp]
  have hB0 := below_one w (.cells #[.int .i64 p.fr, .int .i64 p.size, .string (bs p.root), .slice Ai p.items.length ci, .slice Ap p.paths.length cp] 25)
  have x2 := (hb1.cell 2).trans (show _ = some (Value.string (bs p.root)) from rfl)
  have x3 := (hb1.cell 3).trans (show _ = some (Value.slice Ai p.items.length ci) from rfl)
  have x4 := (hb1.cell 4).trans (show _ = some (Value.slice Ap p.paths.length cp) from rfl)
  have CF1 := CF _ hB0
  have HB := hide hB0
  have HLI := hide hp.li
  have hh : p.paths.length ≤ 60 ∧ ((p.items.length ≤ 12 ∧ fewT p.items 60 = true) ∨ (51 ≤ p.items.length ∧ p.items.length ≤ 60 ∧ fewT p.items 60 = false)) := by
    unfold fewHead at h
    simp only [Bool.and_eq_true, Bool.or_eq_true, decide_eq_true_eq] at h
    rcases h with ⟨h1, ⟨h2, h3⟩ | ⟨h2, h3⟩⟩
    · exact ⟨h1, .inl ⟨h2, h3⟩⟩
    · exact ⟨h1, .inr ⟨h2, h3, fewT_long (by omega) _⟩⟩
  obtain ⟨hpl, hh⟩ := hh
  have c2 : decide (60 < (p.paths.length : Int)) = false := decide_eq_false (by omega)
  have c2' : decide (60 < p.paths.length) = false := decide_eq_false (by omega)
  have HIL : p.items.length ≤ 60 := by omega
  have c1 : decide (60 < (p.items.length : Int)) = false := decide_eq_false (by omega)
  unfold Pg.cs
  have HW : Hid (w.alloc (.cells #[.int .i64 p.fr, .int .i64 p.size, .string (bs p.root), .slice Ai p.items.length ci, .slice Ap p.paths.length cp] 25) = w.alloc (.cells #[.int .i64 p.fr, .int .i64 p.size, .string (bs p.root), .slice Ai p.items.length ci, .slice Ap p.paths.length cp] 25)) := rfl
  clear hvi hvp h CF hb1 hB0 HW
  rcases hh with ⟨h1, h2⟩ | ⟨h1, h1', h2⟩
  · have c3 : decide (12 < (p.items.length : Int)) = false := decide_eq_false (by omega)
    have c5 : decide ((p.items.length : Int) ≤ 12) = true := decide_eq_true (by omega)
    rw [h2] at CF1
    clear h2
    go_enter Tryz.func13, Tryz.ntmps13
    go_wp2_with ((with_reducible refine CF1.mono ?_); rintro e w' ⟨rfl, rfl⟩)
    generalize w.alloc (.cells #[.int .i64 p.fr, .int .i64 p.size, .string (bs p.root), .slice Ai p.items.length ci, .slice Ap p.paths.length cp] 25) = w1 at *
    go_loopw [3] (fun i wr => ∃ k : Nat, i = .int .i64 (k : Int) ∧ k ≤ p.items.length ∧ wr = w1 ∧ Aside ((p.items.take k).all (fun x => decide (x.length ≤ 60)) = true)) (fun i _ => p.items.length - (intOf i).toNat)
    case atStart => exact ⟨0, rfl, by omega, rfl, rfl⟩
    case round =>
      obtain ⟨k, rfl, hk, rfl, hT⟩ := hrel
      have HT : Hid ((p.items.take k).all (fun x => decide (x.length ≤ 60)) = true) := hT
      clear hT
      by_cases hlt : k < p.items.length
      · have e1 : decide ((k : Int) < (p.items.length : Int)) = true := decide_eq_true (by omega)
        obtain ⟨x, hx⟩ : ∃ x, p.items[k]? = some x := ⟨_, List.getElem?_eq_getElem hlt⟩
        obtain ⟨a, rfl, ha, c0⟩ := HVI.out.at_ hx
        have hxl := HLI.out x (List.mem_of_getElem? hx)
        have hsz : (bs x).size = x.length := bs_size x
        by_cases hxm : x.length ≤ 60
        · have e2 : decide ((60 : Int) < (x.length : Int)) = false := decide_eq_false (by omega)
          have HN : Hid ((p.items.take (k + 1)).all (fun x => decide (x.length ≤ 60)) = true) := by show _ = _; rw [all_step hx, HT.out, decide_eq_true hxm]; rfl
          clear hx
          go_wp2_with fail
          refine ⟨⟨k + 1, by go_num, by omega, trivial, HN.out⟩, ?_⟩
          simp [intOf]; omega
        · have e2 : decide ((60 : Int) < (x.length : Int)) = true := decide_eq_true (by omega)
          have HN : Hid (fewP p = false) := by show _ = _; rw [HFP.out, all_no hx (decide_eq_false hxm)]; rfl
          clear hx
          go_wp2_with fail
          go_ret
          exact ⟨ret_bool (by rw [HN.out]), HB.out⟩
      · obtain rfl : k = p.items.length := by omega
        have e1 : decide ((p.items.length : Int) < (p.items.length : Int)) = false := by simp
        have HIT : Hid (p.items.all (fun x => decide (x.length ≤ 60)) = true) := by
          have := HT.out
          rwa [List.take_length] at this
        clear HT hlt hk
        go_wp2_with fail
        go_loopw [4] (fun i wq => ∃ k : Nat, i = .int .i64 (k : Int) ∧ k ≤ p.paths.length ∧ wq = wr ∧ Aside ((p.paths.take k).all fewQ = true)) (fun i _ => p.paths.length - (intOf i).toNat)
        case atStart => exact ⟨0, rfl, by omega, rfl, rfl⟩
        case round =>
          obtain ⟨k, rfl, hk, rfl, hT⟩ := hrel
          have HT : Hid ((p.paths.take k).all fewQ = true) := hT
          clear hT
          by_cases hlt : k < p.paths.length
          · have e3 : decide ((k : Int) < (p.paths.length : Int)) = true := decide_eq_true (by omega)
            obtain ⟨q, hq⟩ : ∃ q, p.paths[k]? = some q := ⟨_, List.getElem?_eq_getElem hlt⟩
            obtain ⟨a, vq, e0, ha, c0, htq⟩ := HVP.out.at_ hq
            subst e0
            have CQ1 := CQ q (List.mem_of_getElem? hq) vq _ htq
            have HQN : Hid (fewQ q = (decide (q.length ≤ 25) && fewT q 60)) := rfl
            have HST := hide (fun h => (all_step (f := fewQ) hq).trans (by rw [HT.out, h]; rfl) : fewQ q = true → (p.paths.take (k + 1)).all fewQ = true)
            have HNO := hide (fun h => by rw [HFP.out, all_no (f := fewQ) hq h]; simp : fewQ q = false → fewP p = false)
            obtain ⟨Aq, cq, rfl, _⟩ := htq.slice
            clear hq htq
            by_cases h25 : q.length ≤ 25
            · have e4 : decide ((25 : Int) < (q.length : Int)) = false := decide_eq_false (by omega)
              rw [decide_eq_true h25] at HQN
              generalize fewT q 60 = F at *
              cases F with
              | true =>
                go_wp2_with ((with_reducible refine CQ1.mono ?_); rintro e w' ⟨rfl, rfl⟩)
                refine ⟨⟨k + 1, by go_num, by omega, trivial, HST.out HQN.out⟩, ?_⟩
                simp [intOf]; omega
              | false =>
                go_wp2_with ((with_reducible refine CQ1.mono ?_); rintro e w' ⟨rfl, rfl⟩)
                go_ret
                exact ⟨ret_bool (by rw [HNO.out HQN.out]), HB.out⟩
            · have e4 : decide ((25 : Int) < (q.length : Int)) = true := decide_eq_true (by omega)
              rw [decide_eq_false h25] at HQN
              go_wp2_with fail
              go_ret
              exact ⟨ret_bool (by rw [HNO.out HQN.out]), HB.out⟩
          · obtain rfl : k = p.paths.length := by omega
            have e3 : decide ((p.paths.length : Int) < (p.paths.length : Int)) = false := by simp
            have HPT : Hid (fewP p = decide (p.root.length ≤ 60)) := by
              show _ = _
              have := HT.out
              rw [List.take_length] at this
              rw [HFP.out, HIT.out, this]; rfl
            cases hd : decide (p.root.length ≤ 60) with
            | true =>
              rw [hd] at HPT
              have e5 : decide ((p.root.length : Int) ≤ 60) = true := decide_eq_true (by have := of_decide_eq_true hd; omega)
              clear hd
              go_wp2_with fail
              go_ret
              exact ⟨ret_bool (by rw [HPT.out]), HB.out⟩
            | false =>
              rw [hd] at HPT
              have e5 : decide ((p.root.length : Int) ≤ 60) = false := decide_eq_false (by have := of_decide_eq_false hd; omega)
              clear hd
              go_wp2_with fail
              go_ret
              exact ⟨ret_bool (by rw [HPT.out]), HB.out⟩
  · have c3 : decide (12 < (p.items.length : Int)) = true := decide_eq_true (by omega)
    have c4 : decide ((p.items.length : Int) < 51) = false := decide_eq_false (by omega)
    have c5 : decide ((p.items.length : Int) ≤ 12) = false := decide_eq_false (by omega)
    rw [h2] at CF1
    clear h2
    go_enter Tryz.func13, Tryz.ntmps13
    go_wp2_with ((with_reducible refine CF1.mono ?_); rintro e w' ⟨rfl, rfl⟩)
    generalize w.alloc (.cells #[.int .i64 p.fr, .int .i64 p.size, .string (bs p.root), .slice Ai p.items.length ci, .slice Ap p.paths.length cp] 25) = w1 at *
    go_loopw [3] (fun i wr => ∃ k : Nat, i = .int .i64 (k : Int) ∧ k ≤ p.items.length ∧ wr = w1 ∧ Aside ((p.items.take k).all (fun x => decide (x.length ≤ 60)) = true)) (fun i _ => p.items.length - (intOf i).toNat)
    case atStart => exact ⟨0, rfl, by omega, rfl, rfl⟩
    case round =>
      obtain ⟨k, rfl, hk, rfl, hT⟩ := hrel
      have HT : Hid ((p.items.take k).all (fun x => decide (x.length ≤ 60)) = true) := hT
      clear hT
      by_cases hlt : k < p.items.length
      · have e1 : decide ((k : Int) < (p.items.length : Int)) = true := decide_eq_true (by omega)
        obtain ⟨x, hx⟩ : ∃ x, p.items[k]? = some x := ⟨_, List.getElem?_eq_getElem hlt⟩
        obtain ⟨a, rfl, ha, c0⟩ := HVI.out.at_ hx
        have hxl := HLI.out x (List.mem_of_getElem? hx)
        have hsz : (bs x).size = x.length := bs_size x
        by_cases hxm : x.length ≤ 60
        · have e2 : decide ((60 : Int) < (x.length : Int)) = false := decide_eq_false (by omega)
          have HN : Hid ((p.items.take (k + 1)).all (fun x => decide (x.length ≤ 60)) = true) := by show _ = _; rw [all_step hx, HT.out, decide_eq_true hxm]; rfl
          clear hx
          go_wp2_with fail
          refine ⟨⟨k + 1, by go_num, by omega, trivial, HN.out⟩, ?_⟩
          simp [intOf]; omega
        · have e2 : decide ((60 : Int) < (x.length : Int)) = true := decide_eq_true (by omega)
          have HN : Hid (fewP p = false) := by show _ = _; rw [HFP.out, all_no hx (decide_eq_false hxm)]; rfl
          clear hx
          go_wp2_with fail
          go_ret
          exact ⟨ret_bool (by rw [HN.out]), HB.out⟩
      · obtain rfl : k = p.items.length := by omega
        have e1 : decide ((p.items.length : Int) < (p.items.length : Int)) = false := by simp
        have HIT : Hid (p.items.all (fun x => decide (x.length ≤ 60)) = true) := by
          have := HT.out
          rwa [List.take_length] at this
        clear HT hlt hk
        go_wp2_with fail
        go_loopw [4] (fun i wq => ∃ k : Nat, i = .int .i64 (k : Int) ∧ k ≤ p.paths.length ∧ wq = wr ∧ Aside ((p.paths.take k).all fewQ = true)) (fun i _ => p.paths.length - (intOf i).toNat)
        case atStart => exact ⟨0, rfl, by omega, rfl, rfl⟩
        case round =>
          obtain ⟨k, rfl, hk, rfl, hT⟩ := hrel
          have HT : Hid ((p.paths.take k).all fewQ = true) := hT
          clear hT
          by_cases hlt : k < p.paths.length
          · have e3 : decide ((k : Int) < (p.paths.length : Int)) = true := decide_eq_true (by omega)
            obtain ⟨q, hq⟩ : ∃ q, p.paths[k]? = some q := ⟨_, List.getElem?_eq_getElem hlt⟩
            obtain ⟨a, vq, e0, ha, c0, htq⟩ := HVP.out.at_ hq
            subst e0
            have CQ1 := CQ q (List.mem_of_getElem? hq) vq _ htq
            have HQN : Hid (fewQ q = (decide (q.length ≤ 25) && fewT q 60)) := rfl
            have HST := hide (fun h => (all_step (f := fewQ) hq).trans (by rw [HT.out, h]; rfl) : fewQ q = true → (p.paths.take (k + 1)).all fewQ = true)
            have HNO := hide (fun h => by rw [HFP.out, all_no (f := fewQ) hq h]; simp : fewQ q = false → fewP p = false)
            obtain ⟨Aq, cq, rfl, _⟩ := htq.slice
            clear hq htq
            by_cases h25 : q.length ≤ 25
            · have e4 : decide ((25 : Int) < (q.length : Int)) = false := decide_eq_false (by omega)
              rw [decide_eq_true h25] at HQN
              generalize fewT q 60 = F at *
              cases F with
              | true =>
                go_wp2_with ((with_reducible refine CQ1.mono ?_); rintro e w' ⟨rfl, rfl⟩)
                refine ⟨⟨k + 1, by go_num, by omega, trivial, HST.out HQN.out⟩, ?_⟩
                simp [intOf]; omega
              | false =>
                go_wp2_with ((with_reducible refine CQ1.mono ?_); rintro e w' ⟨rfl, rfl⟩)
                go_ret
                exact ⟨ret_bool (by rw [HNO.out HQN.out]), HB.out⟩
            · have e4 : decide ((25 : Int) < (q.length : Int)) = true := decide_eq_true (by omega)
              rw [decide_eq_false h25] at HQN
              go_wp2_with fail
              go_ret
              exact ⟨ret_bool (by rw [HNO.out HQN.out]), HB.out⟩
          · obtain rfl : k = p.paths.length := by omega
            have e3 : decide ((p.paths.length : Int) < (p.paths.length : Int)) = false := by simp
            have HPT : Hid (fewP p = decide (p.root.length ≤ 60)) := by
              show _ = _
              have := HT.out
              rw [List.take_length] at this
              rw [HFP.out, HIT.out, this]; rfl
            cases hd : decide (p.root.length ≤ 60) with
            | true =>
              rw [hd] at HPT
              have e5 : decide ((p.root.length : Int) ≤ 60) = true := decide_eq_true (by have := of_decide_eq_true hd; omega)
              clear hd
              go_wp2_with fail
              go_ret
              exact ⟨ret_bool (by rw [HPT.out]), HB.out⟩
            | false =>
              rw [hd] at HPT
              have e5 : decide ((p.root.length : Int) ≤ 60) = false := decide_eq_false (by have := of_decide_eq_false hd; omega)
              clear hd
              go_wp2_with fail
              go_ret
              exact ⟨ret_bool (by rw [HPT.out]), HB.out⟩
theorem FewP_any (p : Pg) (hp : p.wide) (vi vp : Value) (w : World) (hvi : TextsAt w vi p.items) (hvp : PathsAt w vp p.paths) :
    Calls Tryz.prog 13 #[.agg (p.cs vi vp)] w fun e w' => e = .returned (.bool (fewP p)) ∧ Below w.heap.size w w' := by
  cases h : fewHead p with
  | true => exact FewP_main p hp h vi vp w hvi hvp
  | false => rw [few_no h]; exact FewP_head p hp h vi vp w hvi hvp
theorem few_fit {p : Pg} (h : fewP p = true) (hf : -9223372036854775808 ≤ p.fr ∧ p.fr ≤ 9223372036854775807) (hs : -9223372036854775808 ≤ p.size ∧ p.size ≤ 9223372036854775807) : p.fit ∧ p.items.length ≤ 60 ∧ (∀ x ∈ p.items, x.length ≤ 60) := by
  unfold fewP fewHead at h
  simp only [Bool.and_eq_true, Bool.or_eq_true, decide_eq_true_eq, List.all_eq_true] at h
  obtain ⟨⟨h1, h2⟩, h3, h4, h5⟩ := h
  have h6 : p.items.length ≤ 60 := by omega
  have h7 : ∀ q ∈ p.paths, q.length ≤ 25 ∧ ∀ x ∈ q, x.length ≤ 60 := fun q hq => by
    have := h4 q hq
    unfold fewQ fewT at this
    simp only [Bool.and_eq_true, decide_eq_true_eq, List.all_eq_true] at this
    exact ⟨this.1, this.2.1⟩
  exact ⟨⟨by omega, fun x hx => by have := h3 x hx; omega, by omega, fun q hq => by have := (h7 q hq).1; omega, fun q hq x hx => by have := (h7 q hq).2 x hx; omega, by omega, hf, hs⟩, h6, h3⟩
end Go.Proofs.YtfhanbiifjiklaaGreatDoor
