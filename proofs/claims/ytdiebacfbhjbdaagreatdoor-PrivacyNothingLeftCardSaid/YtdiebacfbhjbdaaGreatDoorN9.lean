/- Walks of package privacy: Root, About, Orders and their function values. -/
import Derived.Test.YtdiebacfbhjbdaaGreatDoorN8
set_option linter.unusedVariables false
set_option linter.unusedSimpArgs false
namespace Go.Proofs.YtdiebacfbhjbdaaGreatDoor
open Go.RowKit

theorem ent_cRoot : ∀ args w, (callFunc 42 args).run Tryz.prog w = .ok (.enter 42 args) w := enters_fn Tryz.func42 (by kernel_rfl) rfl
theorem ent_cAbout : ∀ args w, (callFunc 44 args).run Tryz.prog w = .ok (.enter 44 args) w := enters_fn Tryz.func44 (by kernel_rfl) rfl
theorem ent_cOrders : ∀ args w, (callFunc 60 args).run Tryz.prog w = .ok (.enter 60 args) w := enters_fn Tryz.func60 (by kernel_rfl) rfl
set_option maxHeartbeats 2000000 in
theorem cRoot_any (l : Ln) (hf : l.d.length ≤ 100000000000) (w : World) (hg : Glob w) : Calls Tryz.prog 42 #[.agg #[.string (bs l.p), .string (bs l.t), .string (bs l.s), .string (bs l.d)]] w fun e w' => e = .returned (.tuple #[.string (bs (leafD l.d)), .bool true]) ∧ Below w.heap.size w w' := by
  have HB := hide (below_one w (.cells #[.string (bs l.p), .string (bs l.t), .string (bs l.s), .string (bs l.d)] 32))
  have CL := Leaf_any l.d hf (w.alloc (.cells #[.string (bs l.p), .string (bs l.t), .string (bs l.s), .string (bs l.d)] 32)) (hg.alloc _)
  clear hg
  go_enter Tryz.func42, Tryz.ntmps42
  go_wp2_with ((with_reducible refine CL.mono ?_); rintro e w' ⟨rfl, hb⟩)
  go_ret2
  exact ⟨rfl, below_to HB.out (Nat.le_refl _) (by assumption)⟩
set_option maxHeartbeats 2000000 in
theorem cAbout_any (l : Ln) (q : List UInt8) (pb : Nat) (w : World) (hp : w.cell? ⟨pb, 0, none⟩ = some (.string (bs q))) : Calls Tryz.prog 44 #[.agg #[.string (bs l.p), .string (bs l.t), .string (bs l.s), .string (bs l.d)], .pointer (some ⟨pb, 0, none⟩)] w fun e w' => e = .returned (.tuple #[.string (bs l.t), .bool (decide (l.p = q))]) ∧ Below w.heap.size w w' := by
  have HB := hide (below_one w (.cells #[.string (bs l.p), .string (bs l.t), .string (bs l.s), .string (bs l.d)] 32))
  have hlt := World.block_lt_of_cell? w _ hp
  have hp2 : (w.alloc (.cells #[.string (bs l.p), .string (bs l.t), .string (bs l.s), .string (bs l.d)] 32)).cell? ⟨pb, 0, none⟩ = some (.string (bs q)) := (HB.out.cell (p := ⟨pb, 0, none⟩) hlt).trans hp
  have HV : Hid (((bs l.p).toList == (bs q).toList) = decide (l.p = q)) := by
    show _ = _
    rw [bs_toList, bs_toList]
    by_cases h : l.p = q
    · rw [decide_eq_true h, h]; simp
    · rw [decide_eq_false h, beq_eq_false_iff_ne]; exact h
  clear hp
  go_enter Tryz.func44, Tryz.ntmps44
  go_wp2_with fail
  go_quiet (fail)
  go_wp2_with fail
  go_ret2
  exact ⟨by rw [← HV.out]; rfl, below_drewN HB.out _⟩
def odC (o : Od) : Array Value := #[.string (bs o.i), .string (bs o.p), .string (bs o.f), .string (bs o.t), .int .i64 o.a, .int .i64 o.b]
set_option maxHeartbeats 2000000 in
theorem cOrders_any (l : Od) (q : List UInt8) (pb : Nat) (w : World) (hp : w.cell? ⟨pb, 0, none⟩ = some (.string (bs q))) : Calls Tryz.prog 60 #[.agg #[.string (bs l.i), .string (bs l.p), .string (bs l.f), .string (bs l.t), .int .i64 l.a, .int .i64 l.b], .pointer (some ⟨pb, 0, none⟩)] w fun e w' => e = .returned (.tuple #[.agg #[.string (bs l.i), .string (bs l.p), .string (bs l.f), .string (bs l.t), .int .i64 l.a, .int .i64 l.b], .bool (!decide (l.p = q))]) ∧ Below w.heap.size w w' := by
  have HB := hide (below_two w (.cells #[.string (bs l.i), .string (bs l.p), .string (bs l.f), .string (bs l.t), .int .i64 l.a, .int .i64 l.b] 53) (.cells #[.string ⟨#[]⟩, .string ⟨#[]⟩, .string ⟨#[]⟩, .string ⟨#[]⟩, .int .i64 0, .int .i64 0] 53))
  have hlt := World.block_lt_of_cell? w _ hp
  have hp2 : ((w.alloc (.cells #[.string (bs l.i), .string (bs l.p), .string (bs l.f), .string (bs l.t), .int .i64 l.a, .int .i64 l.b] 53)).alloc (.cells #[.string ⟨#[]⟩, .string ⟨#[]⟩, .string ⟨#[]⟩, .string ⟨#[]⟩, .int .i64 0, .int .i64 0] 53)).cell? ⟨pb, 0, none⟩ = some (.string (bs q)) := (HB.out.cell (p := ⟨pb, 0, none⟩) hlt).trans hp
  have HV : Hid ((!((bs l.p).toList == (bs q).toList)) = !decide (l.p = q)) := by
    show _ = _
    rw [bs_toList, bs_toList]
    by_cases h : l.p = q
    · rw [decide_eq_true h, h]; simp
    · rw [decide_eq_false h]; simp [h]
  have hlt' : pb < w.heap.size := hlt
  have hn1 : pb ≠ w.heap.size := by omega
  have hn2 : pb ≠ w.heap.size + 1 := by omega
  clear hlt'
  clear hp2
  go_enter Tryz.func60, Tryz.ntmps60
  go_wp2_with fail
  go_region
  all_goals go_wp2_with fail
  have hb : Blk ((w.alloc (.cells #[.string (bs l.i), .string (bs l.p), .string (bs l.f), .string (bs l.t), .int .i64 l.a, .int .i64 l.b] 53)).alloc (.cells #[.string (bs l.i), .string (bs l.p), .string (bs l.f), .string (bs l.t), .int .i64 l.a, .int .i64 l.b] 53)).drew (w.heap.size + 1) 53 (odC l) := by
    have := Blk.new (w.alloc (.cells #[.string (bs l.i), .string (bs l.p), .string (bs l.f), .string (bs l.t), .int .i64 l.a, .int .i64 l.b] 53)) 53 (odC l)
    exact Blk.drew (by simpa [odC] using this)
  refine bodyPost_ret (results_c1 (p := 3) (u := 4) rfl _ _ (w.heap.size + 1) 53 _ _ rfl hb Tryz.underlying53 rfl (by kernel_rfl)) rfl ⟨by rw [← HV.out]; rfl, (below_two w _ _).drew⟩
/-- what came out of a log: an error or a list of texts -/
def okA (log : List Ln) (q : List UInt8) : Bool := validG log && isNm q
def aboutV (log : List Ln) (q : List UInt8) : List (List UInt8) := if okA log q then aboutP log q else []
def errE (b : Bool) : Int := if b then 0 else 1
def AboutR (log : List Ln) (q : List UInt8) (w : World) (e : Ending) (w' : World) : Prop := ∃ v', e = .returned (.tuple #[v', .int .i64 (errE (okA log q))]) ∧ TextsAt w' v' (aboutV log q) ∧ Below w.heap.size w w'
set_option maxRecDepth 100000 in
set_option maxHeartbeats 4000000 in
theorem About_any (log : List Ln) (hf : ∀ l ∈ log, l.fit) (hl : log.length ≤ 1000000000) (q : List UInt8) (hq : q.length ≤ 140737488355328) (v : Value) (w : World) (hv : LnsAt w v log) (hg : Glob w) :
    Calls Tryz.prog 16 #[v, .string (bs q)] w (AboutR log q w) := by
  have HB := hide (below_one w (.cells #[.string (bs q)] 9))
  have HX := hide (Blk.new w 9 #[.string (bs q)])
  have CP := proper_any v log hf hl q hq (w.alloc (.cells #[.string (bs q)] 9)) (hv.to HB.out) (hg.alloc _)
  have CM := fun (w' : World) (hb : Below (w.alloc (.cells #[.string (bs q)] 9)).heap.size (w.alloc (.cells #[.string (bs q)] 9)) w') => mLs1_any 44 ent_cAbout (fun l => l.t) (fun l => decide (l.p = q)) w.heap.size log hl v w' ((hv.to HB.out).to hb) (fun l hl w2 hb2 => cAbout_any l q w.heap.size w2 (((HX.out.to hb).to hb2).cell 0))
  have HO : Hid (okA log q = (validG log && isNm q)) := rfl
  clear hv hg hf
  cases hp : validG log && isNm q with
  | false =>
    rw [hp] at CP HO
    clear hp CM
    go_enter Tryz.func16, Tryz.ntmps16
    go_wp2_with ((with_reducible refine CP.mono ?_); rintro e w' ⟨rfl, hb⟩)
    go_ret2
    exact ⟨.slice none 0 0, by rw [HO.out]; rfl, by unfold aboutV; rw [HO.out]; exact RowsAt.nil _ _, below_to HB.out (Nat.le_refl _) (by assumption)⟩
  | true =>
    rw [hp] at CP HO
    clear hp
    go_enter Tryz.func16, Tryz.ntmps16
    go_wp2_with fail
    refine CP.mono ?_
    rintro e w2 ⟨rfl, hb⟩
    have HB2 := hide (below_to HB.out (Nat.le_refl _) hb)
    have CM2 := CM _ hb
    clear CM CP hb
    go_wp2_with fail
    refine CM2.mono ?_
    rintro e w3 ⟨v', rfl, hr, hb⟩
    have HB3 := hide (below_to HB2.out (Nat.le_refl _) hb)
    have HR := hide hr
    clear hr hb CM2
    go_wp2_with fail
    go_ret2
    exact ⟨v', by rw [HO.out]; rfl, by unfold aboutV; rw [HO.out]; exact HR.out, HB3.out⟩
set_option maxRecDepth 100000 in
set_option maxHeartbeats 4000000 in
theorem Root_any (log : List Ln) (hf : ∀ l ∈ log, l.fit) (hd : ∀ l ∈ log, l.d.length ≤ 100000000000) (hl : log.length ≤ 1000000000) (v : Value) (w : World) (hv : LnsAt w v log) (hg : Glob w) :
    Calls Tryz.prog 14 #[v] w fun e w' => e = .returned (.tuple #[.string (bs (if validG log then totalT (leavesP log) else [])), .int .i64 (errE (validG log))]) ∧ Below w.heap.size w w' := by
  have CP := rvalid_any log hf hl v w hv hg
  have CM := fun (w' : World) (hb : Below w.heap.size w w') => mLs0_any 42 ent_cRoot (fun l => leafD l.d) (fun l => true) log hl v w' (hv.to hb) (fun l hl w2 hb2 => cRoot_any l (hd l hl) w2 ((hg.to hb).to hb2))
  have CR := fun (w' : World) (hb : Below w.heap.size w w') (u : Value) (hu : TextsAt w' u (leavesP log)) => tRoot_any (leavesP log) (by unfold leavesP; rw [List.length_map]; omega) (fun x hx => by
    unfold leavesP at hx
    obtain ⟨l, _, rfl⟩ := List.mem_map.1 hx
    have := isD_len (leaf_isD l.d)
    omega) u w' hu (hg.to hb)
  have HM : Hid (mapP (fun l : Ln => leafD l.d) (fun _ => true) log = leavesP log) := by show _ = _; unfold mapP leavesP; rw [List.filter_eq_self.2 (by simp)]
  have HRV : Hid (rootV (leavesP log) = totalT (leavesP log) ∧ rootE (leavesP log) = 0) := ⟨by unfold rootV; rw [if_pos (leaves_proper log)], by unfold rootE; rw [if_pos (leaves_proper log)]⟩
  clear hv hg hf hd
  cases hp : validG log with
  | false =>
    rw [hp] at CP
    rw [if_neg (by simp)]
    clear hp CM CR
    go_enter Tryz.func14, Tryz.ntmps14
    go_wp2_with ((with_reducible refine CP.mono ?_); rintro e w' ⟨rfl, hb⟩)
    go_ret2
    exact ⟨rfl, by assumption⟩
  | true =>
    rw [hp] at CP
    rw [if_pos rfl]
    clear hp
    go_enter Tryz.func14, Tryz.ntmps14
    go_wp2_with fail
    refine CP.mono ?_
    rintro e w2 ⟨rfl, hb⟩
    have HB2 := hide hb
    have CM2 := CM _ hb
    clear CM CP hb
    go_wp2_with fail
    refine CM2.mono ?_
    rintro e w3 ⟨v', rfl, hr, hb⟩
    have HB3 := hide (below_to HB2.out (Nat.le_refl _) hb)
    rw [HM.out] at hr
    have CR2 := CR _ HB3.out v' hr
    rw [HRV.out.1, HRV.out.2] at CR2
    clear hr hb CM2 CR
    go_wp2_with ((with_reducible refine CR2.mono ?_); rintro e w' ⟨rfl, hb⟩)
    go_ret2
    exact ⟨rfl, below_to HB3.out (Nat.le_refl _) (by assumption)⟩
def ordersP (l : List Od) (q : List UInt8) : List Od := l.filter fun o => !decide (o.p = q)
def OrdersR (l : List Od) (q : List UInt8) (w : World) (e : Ending) (w' : World) : Prop := ∃ v', e = .returned v' ∧ OdsAt w' v' (ordersP l q) ∧ Below w.heap.size w w'
set_option maxRecDepth 100000 in
set_option maxHeartbeats 4000000 in
theorem Orders_any (l : List Od) (hl : l.length ≤ 1000000000) (q : List UInt8) (v : Value) (w : World) (hv : OdsAt w v l) :
    Calls Tryz.prog 27 #[v, .string (bs q)] w (OrdersR l q w) := by
  have HB := hide (below_one w (.cells #[.string (bs q)] 9))
  have HX := hide (Blk.new w 9 #[.string (bs q)])
  have CM := mOO_any 60 ent_cOrders id (fun l => !decide (l.p = q)) w.heap.size l hl v (w.alloc (.cells #[.string (bs q)] 9)) (hv.to HB.out) (fun l hl w2 hb2 => cOrders_any l q w.heap.size w2 ((HX.out.to hb2).cell 0))
  have HM : Hid (mapP id (fun l : Od => !decide (l.p = q)) l = ordersP l q) := by show _ = _; unfold mapP ordersP; rw [List.map_id]
  rw [HM.out] at CM
  clear hv HX HM
  go_enter Tryz.func27, Tryz.ntmps27
  go_wp2_with fail
  refine CM.mono ?_
  rintro e w3 ⟨v', rfl, hr, hb⟩
  have HB3 := hide (below_to HB.out (Nat.le_refl _) hb)
  have HR := hide hr
  clear hr hb CM
  go_wp2_with fail
  go_ret
  exact ⟨v', rfl, HR.out, HB3.out⟩
end Go.Proofs.YtdiebacfbhjbdaaGreatDoor
