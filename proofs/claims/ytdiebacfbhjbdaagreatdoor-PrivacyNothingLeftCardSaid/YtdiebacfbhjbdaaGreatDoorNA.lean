/- Walks of package privacy: Erase, its function value that counts, mapped with it. -/
import Derived.Test.YtdiebacfbhjbdaaGreatDoorN9
set_option linter.unusedVariables false
set_option linter.unusedSimpArgs false
namespace Go.Proofs.YtdiebacfbhjbdaaGreatDoor
open Go.RowKit

/-- below B all is as it was but for block nb -/
structure But (nb B : Nat) (w w' : World) : Prop where
  os : w'.os = w.os
  tape : w'.tape = w.tape
  output : w'.output = w.output
  size : w.heap.size ≤ w'.heap.size
  block : ∀ k, k < B → k ≠ nb → w'.heap[k]? = w.heap[k]?
section
variable {nb B : Nat} {a w w' : World}
theorem But.refl (nb B : Nat) (w : World) : But nb B w w := ⟨rfl, rfl, rfl, Nat.le_refl _, fun _ _ _ => rfl⟩
theorem But.trans {b c : World} (h : But nb B a b) (k : But nb B b c) : But nb B a c := ⟨k.os.trans h.os, k.tape.trans h.tape, k.output.trans h.output, Nat.le_trans h.size k.size, fun i hi hn => (k.block i hi hn).trans (h.block i hi hn)⟩
theorem But.mono {B' : Nat} (h : But nb B w w') (hB : B' ≤ B) : But nb B' w w' := ⟨h.os, h.tape, h.output, h.size, fun k hk => h.block k (Nat.lt_of_lt_of_le hk hB)⟩
theorem But.of (h : Below B w w') : But nb B w w' := ⟨h.os, h.tape, h.output, h.size, fun k hk _ => h.block k hk⟩
theorem But.to {w2 : World} (h : But nb B w w') (hB : B ≤ w.heap.size) (h' : Below w'.heap.size w' w2) : But nb B w w2 := h.trans (But.of (h'.mono (Nat.le_trans hB h.size)))
theorem But.to' {w2 : World} (h : But nb B w w') (hB : B ≤ w.heap.size) (h' : But nb w'.heap.size w' w2) : But nb B w w2 := h.trans (h'.mono (Nat.le_trans hB h.size))
theorem But.alloc (h : But nb B a w) (hB : B ≤ a.heap.size) (o : Obj) : But nb B a (w.alloc o) := h.to hB (below_one w o)
theorem But.set_ (h : But nb B a w) (u : Value) : But nb B a (w.setCell ⟨nb, 0, none⟩ u) := h.trans ⟨rfl, rfl, rfl, by simp [World.setCell], fun k hk hn => Below.heap_setCell _ _ _ _ hn⟩
theorem But.far (h : But nb B a w) {p : Addr} (hp : B ≤ p.block) (u : Value) : But nb B a (w.setCell p u) := h.trans ⟨rfl, rfl, rfl, by simp [World.setCell], fun k hk hn => Below.heap_setCell _ _ _ _ (by omega)⟩
theorem But.below {B' : Nat} (h : But nb B w w') (h1 : B' ≤ B) (h2 : B' ≤ nb) : Below B' w w' := ⟨h.os, h.tape, h.output, h.size, fun k hk => h.block k (by omega) (by omega)⟩
theorem But.grown {row : Option Nat} (h : But nb B a w) (hg : w.grownBy w' row) (hB : B ≤ w.heap.size) (hr : ∀ k, row = some k → B ≤ k) : But nb B a w' :=
  h.trans ⟨hg.os, hg.tape, hg.output, hg.size, fun k hk _ => hg.block k (by omega) (fun e => by have := hr k e.symm; omega)⟩
theorem But.own {base : Nat} {e : TypeId} {size n : Nat} {v : Value} {xs : List Value} (h : w.ownsRow base e size v n xs) (hb : But nb w.heap.size w w') (hn : nb < base) : w'.ownsRow base e size v n xs := by
  obtain ⟨h1, h2⟩ := h
  refine ⟨h1, ?_⟩
  rcases h2 with h2 | ⟨g, cap, cur, hv, hB, hg, h3⟩
  · exact .inl h2
  · refine .inr ⟨g, cap, cur, hv, hB, ?_, h3⟩
    rw [hb.block g ?_ (by omega)]
    · exact hg
    · rcases Nat.lt_or_ge g w.heap.size with h | h
      · exact h
      · rw [Array.getElem?_eq_none h] at hg; cases hg
theorem But.blk {g : Nat} {t : TypeId} {cs : Array Value} (H : Blk w g t cs) (hb : But nb w.heap.size w w') (hn : g ≠ nb) : Blk w' g t cs := (hb.block g H.lt hn).trans H
end
theorem ent_cErase : ∀ args w, (callFunc 38 args).run Tryz.prog w = .ok (.enter 38 args) w := enters_fn Tryz.func38 (by kernel_rfl) rfl
/-- a line when q is erased -/
def erQ (q : List UInt8) (l : Ln) : Ln := if l.p = q then er l else l
def hit (q : List UInt8) (l : Ln) : Nat := if l.p = q then 1 else 0
def EraC (q : List UInt8) (l : Ln) (nb : Nat) (c : Nat) (w : World) (e : Ending) (w' : World) : Prop := e = .returned (.tuple #[.agg #[.string (bs (erQ q l).p), .string (bs (erQ q l).t), .string (bs (erQ q l).s), .string (bs (erQ q l).d)], .bool true]) ∧ But nb w.heap.size w w' ∧ Blk w' nb 3 #[.int .i64 ((c + hit q l : Nat) : Int)]
set_option maxHeartbeats 2000000 in
theorem cErase_any (l : Ln) (q : List UInt8) (pb nb c : Nat) (hc : c ≤ 1000000000) (w : World) (hp : w.cell? ⟨pb, 0, none⟩ = some (.string (bs q))) (hn : Blk w nb 3 #[.int .i64 (c : Int)]) :
    Calls Tryz.prog 38 #[.agg #[.string (bs l.p), .string (bs l.t), .string (bs l.s), .string (bs l.d)], .pointer (some ⟨pb, 0, none⟩), .pointer (some ⟨nb, 0, none⟩)] w (EraC q l nb c w) := by
  have hlt0 := World.block_lt_of_cell? w _ hp
  have hlt : pb < w.heap.size := hlt0
  have hnlt := hn.lt
  have n1 : pb ≠ w.heap.size := by omega
  have n2 : pb ≠ w.heap.size + 1 := by omega
  have n3 : nb ≠ w.heap.size := by omega
  have n4 : nb ≠ w.heap.size + 1 := by omega
  have n5 : w.heap.size ≠ nb := by omega
  have n6 : w.heap.size + 1 ≠ nb := by omega
  have hc0 := hn.cell 0
  have hf0 := hn.frozen 0
  simp only [List.getElem?_toArray, List.getElem?_cons_zero] at hc0
  have HN := hide hn
  clear hlt0 hn
  by_cases h : l.p = q
  · have HV : Hid (erQ q l = er l ∧ hit q l = 1) := ⟨by unfold erQ; rw [if_pos h], by unfold hit; rw [if_pos h]⟩
    have e1 : ((bs l.p).toList == (bs q).toList) = true := by rw [h]; simp
    have CE := fun w => erased_any l w
    unfold lnC er at CE
    clear h
    go_enter Tryz.func38, Tryz.ntmps38
    go_wp2_with fail
    have HX : Hid (Blk (((w.setCell ⟨nb, 0, none⟩ (.int .i64 ((c : Int) + 1))).alloc (.cells #[.string (bs l.p), .string (bs l.t), .string (bs l.s), .string (bs l.d)] 32)).alloc (.cells #[.string ⟨#[]⟩, .string ⟨#[]⟩, .string ⟨#[]⟩, .string ⟨#[]⟩] 32)) (w.heap.size + 1) 32 #[.string ⟨#[]⟩, .string ⟨#[]⟩, .string ⟨#[]⟩, .string ⟨#[]⟩]) := by
      have := Blk.new ((w.setCell ⟨nb, 0, none⟩ (.int .i64 ((c : Int) + 1))).alloc (.cells #[.string (bs l.p), .string (bs l.t), .string (bs l.s), .string (bs l.d)] 32)) 32 #[.string ⟨#[]⟩, .string ⟨#[]⟩, .string ⟨#[]⟩, .string ⟨#[]⟩]
      show Blk _ _ _ _
      simpa using this
    have HB : Hid (But nb w.heap.size w (((w.setCell ⟨nb, 0, none⟩ (.int .i64 ((c : Int) + 1))).alloc (.cells #[.string (bs l.p), .string (bs l.t), .string (bs l.s), .string (bs l.d)] 32)).alloc (.cells #[.string ⟨#[]⟩, .string ⟨#[]⟩, .string ⟨#[]⟩, .string ⟨#[]⟩] 32))) := (((But.refl nb _ w).set_ _).alloc (Nat.le_refl _) _).alloc (Nat.le_refl _) _
    have HC : Hid (Blk (((w.setCell ⟨nb, 0, none⟩ (.int .i64 ((c : Int) + 1))).alloc (.cells #[.string (bs l.p), .string (bs l.t), .string (bs l.s), .string (bs l.d)] 32)).alloc (.cells #[.string ⟨#[]⟩, .string ⟨#[]⟩, .string ⟨#[]⟩, .string ⟨#[]⟩] 32)) nb 3 #[.int .i64 ((c + 1 : Nat) : Int)]) := ((HN.out.set_ 0 (.int .i64 ((c : Int) + 1))).alloc _).alloc _
    refine (CE _).mono ?_
    rintro e w2 ⟨rfl, hb⟩
    have HX2 := hide (HX.out.to hb)
    have HB2 := hide (HB.out.to (Nat.le_refl _) hb)
    have HC2 := hide (HC.out.to hb)
    have r0 := (HX2.out.cell 0).trans rfl
    have r1 := (HX2.out.cell 1).trans rfl
    have r2 := (HX2.out.cell 2).trans rfl
    have r3 := (HX2.out.cell 3).trans rfl
    have f0 : ∀ i, w2.frozen? ⟨w.heap.size + 1, i, none⟩ = false := fun i => HX2.out.frozen i
    clear hb HX HB HC CE hp hc0 hf0
    go_wp2_with fail
    have hbk := (((((HX2.out.set_ 0 (.string (bs []))).set_ 1 (.string (bs []))).set_ 2 (.string (bs []))).set_ 3 (.string (bs l.d))))
    refine bodyPost_ret (results_c1 (p := 4) (u := 5) rfl _ _ (w.heap.size + 1) 32 _ _ rfl hbk Tryz.underlying32 rfl (by kernel_rfl)) rfl ⟨by rw [HV.out.1]; rfl, ?_, ?_⟩
    · exact (((HB2.out.far (p := ⟨w.heap.size + 1, 0, none⟩) (Nat.le_succ _) _).far (p := ⟨w.heap.size + 1, 1, none⟩) (Nat.le_succ _) _).far (p := ⟨w.heap.size + 1, 2, none⟩) (Nat.le_succ _) _).far (p := ⟨w.heap.size + 1, 3, none⟩) (Nat.le_succ _) _
    · rw [HV.out.2]
      exact (((HC2.out.far n4 _).far n4 _).far n4 _).far n4 _
  · have HV : Hid (erQ q l = l ∧ hit q l = 0) := ⟨by unfold erQ; rw [if_neg h], by unfold hit; rw [if_neg h]⟩
    have e1 : ((bs l.p).toList == (bs q).toList) = false := by rw [beq_eq_false_iff_ne, bs_toList, bs_toList]; exact h
    clear h
    go_enter Tryz.func38, Tryz.ntmps38
    go_wp2_with fail
    have hbk : Blk ((w.alloc (.cells #[.string (bs l.p), .string (bs l.t), .string (bs l.s), .string (bs l.d)] 32)).alloc (.cells #[.string (bs l.p), .string (bs l.t), .string (bs l.s), .string (bs l.d)] 32)) (w.heap.size + 1) 32 #[.string (bs l.p), .string (bs l.t), .string (bs l.s), .string (bs l.d)] := by
      have := Blk.new (w.alloc (.cells #[.string (bs l.p), .string (bs l.t), .string (bs l.s), .string (bs l.d)] 32)) 32 #[.string (bs l.p), .string (bs l.t), .string (bs l.s), .string (bs l.d)]
      show Blk _ _ _ _
      simpa using this
    refine bodyPost_ret (results_c1 (p := 4) (u := 5) rfl _ _ (w.heap.size + 1) 32 _ _ rfl hbk Tryz.underlying32 rfl (by kernel_rfl)) rfl ⟨by rw [HV.out.1]; rfl, But.of (below_two w _ _), ?_⟩
    rw [HV.out.2]
    exact (HN.out.alloc _).alloc _
theorem era_take (q : List UInt8) {log : List Ln} {k : Nat} {l : Ln} (h : log[k]? = some l) : (log.take (k + 1)).map (erQ q) = (log.take k).map (erQ q) ++ [erQ q l] ∧ hitsP (log.take (k + 1)) q = hitsP (log.take k) q + hit q l := by
  unfold hitsP hit
  rw [List.take_add_one, h]
  refine ⟨by simp, ?_⟩
  simp only [Option.toList_some, List.filter_append, List.length_append]
  by_cases hp : l.p = q <;> simp [hp]
theorem hits_le (log : List Ln) (q : List UInt8) : hitsP log q ≤ log.length := List.length_filter_le _ _
def EraM (log : List Ln) (q : List UInt8) (nb : Nat) (w : World) (e : Ending) (w' : World) : Prop := ∃ v', e = .returned v' ∧ LnsAt w' v' (eraseP log q) ∧ But nb w.heap.size w w' ∧ Blk w' nb 3 #[.int .i64 ((hitsP log q : Nat) : Int)]
set_option maxRecDepth 100000 in
set_option maxHeartbeats 4000000 in
theorem mLLe_any (log : List Ln) (hl : log.length ≤ 1000000000) (q : List UInt8) (pb nb : Nat) (hpn : pb ≠ nb) (v : Value) (w : World) (hv : ∀ w', But nb w.heap.size w w' → LnsAt w' v log) (hp : Blk w pb 9 #[.string (bs q)]) (hn : Blk w nb 3 #[.int .i64 0]) :
    Calls Tryz.prog 37 #[v, .func (.func 38) #[] #[.pointer (some ⟨pb, 0, none⟩), .pointer (some ⟨nb, 0, none⟩)]] w (EraM log q nb w) := by
  obtain ⟨A, c, rfl⟩ := (hv w (But.refl _ _ _)).slice
  have HS := hide hv
  have HP := hide hp
  have HN := hide hn
  have hE := ent_cErase
  have hnlt := hn.lt
  obtain ⟨i0, hi0, hz0, hz1, hz2⟩ := info_parts (show (Tryz.prog.info? 32).map (fun i => (i.zero, i.size, i.bytes)) = some (some (.agg #[.string ⟨#[]⟩, .string ⟨#[]⟩, .string ⟨#[]⟩, .string ⟨#[]⟩]), 4, 64) by kernel_rfl)
  clear hv hp hn
  go_enter Tryz.func37, Tryz.ntmps37
  go_wp2_with fail
  go_loopw [5, 7, 8, 9, 12] (fun out _ _ _ i wr => ∃ k : Nat, i = .int .i64 (k : Int) ∧ k ≤ log.length ∧ Aside (But nb w.heap.size w wr) ∧ Aside (Blk wr nb 3 #[.int .i64 ((hitsP (log.take k) q : Nat) : Int)]) ∧ Aside (wr.ownsRow w.heap.size 32 4 out ((log.take k).map (erQ q)).length (((log.take k).map (erQ q)).map lnV).flatten)) (fun _ _ _ _ i _ => log.length - (intOf i).toNat)
  case atStart => exact ⟨0, rfl, by omega, But.refl _ _ _, HN.out, World.ownsRow_nil _ _ _ _⟩
  case round =>
    obtain ⟨k, rfl, hk, hB, hC, hO⟩ := hrel
    have HB : Hid (But nb w.heap.size w wr) := hB
    have HC : Hid (Blk wr nb 3 #[.int .i64 ((hitsP (log.take k) q : Nat) : Int)]) := hC
    have HO : Hid (wr.ownsRow w.heap.size 32 4 _ ((log.take k).map (erQ q)).length (((log.take k).map (erQ q)).map lnV).flatten) := hO
    clear hB hC hO
    by_cases hlt : k < log.length
    · have e1 : decide ((k : Int) < (log.length : Int)) = true := decide_eq_true (by omega)
      obtain ⟨l, hl'⟩ : ∃ l, log[k]? = some l := ⟨_, List.getElem?_eq_getElem hlt⟩
      obtain ⟨a, rfl, ha, c0, c1, c2, c3⟩ := (HS.out wr HB.out).at_ hl'
      have HT := hide (era_take q hl')
      have hcnt : hitsP (log.take k) q ≤ 1000000000 := Nat.le_trans (hits_le _ _) (Nat.le_trans (List.length_take_le _ _) (by omega))
      have HLEN : ((log.take k).map (erQ q)).length ≤ k := by rw [List.length_map]; exact List.length_take_le _ _
      have CV := cErase_any l q pb nb (hitsP (log.take k) q) hcnt (wr.alloc (.cells #[.string (bs l.p), .string (bs l.t), .string (bs l.s), .string (bs l.d)] 32)) (((But.blk HP.out HB.out hpn).alloc _).cell 0) (HC.out.alloc _)
      clear hl' hcnt
      generalize (log.take k).map (erQ q) = xs at *
      go_wp2_with fail
      refine CV.mono ?_
      rintro e w4 ⟨rfl, hb4, hc4⟩
      have HB4 := hide ((HB.out.alloc (Nat.le_refl _) (.cells #[.string (bs l.p), .string (bs l.t), .string (bs l.s), .string (bs l.d)] 32)).to' (Nat.le_refl _) hb4)
      have HO4 := hide (But.own (own_to' HO.out (below_one wr (.cells #[.string (bs l.p), .string (bs l.t), .string (bs l.s), .string (bs l.d)] 32))) hb4 hnlt)
      have HC4 := hide hc4
      have HSZ : Hid (w.heap.size ≤ w4.heap.size) := HB4.out.size
      clear hb4 hc4 CV HC HO
      generalize hm : erQ q l = m at *
      go_wp2_with (at_builtin; refine wpList_append_own _ rfl (.tmp 23) (.tmp 25) _ rfl w.heap.size 32 i0 (.agg #[.string ⟨#[]⟩, .string ⟨#[]⟩, .string ⟨#[]⟩, .string ⟨#[]⟩]) 4 64 Tryz.underlying22 hi0 hz0 hz1 hz2 rfl (by omega) _ xs.length (xs.map lnV).flatten rfl ?c0 ⟨_, 0, none⟩ 1 1 (lnV m) rfl rfl ?c1 ?c2 ?c4 ?c5 ?c3 ?_)
      case c0 => exact own_to' (own_to' HO4.out (below_one _ _)) (below_one _ _)
      case c1 => exact cells_new (xs := lnV m) (by simp)
      case c2 => intro u hu; simp only [lnV, List.mem_cons, List.not_mem_nil, or_false] at hu; rcases hu with rfl | rfl | rfl | rfl <;> rfl
      case c4 => simp only [maxLen]; omega
      case c5 => omega
      case c3 => have := HSZ.out; simp; omega
      · intro v' w6 hown6 hgr6 _
        have HB6 := hide (((HB4.out.alloc (Nat.le_refl _) _).alloc (Nat.le_refl _) _).grown hgr6 (by have := HSZ.out; simp; omega) (fun b hb => (HO4.out.lt b hb).1))
        have HO6 : Hid (w6.ownsRow w.heap.size 32 4 v' ((log.take (k + 1)).map (erQ q)).length (((log.take (k + 1)).map (erQ q)).map lnV).flatten) := by
          show World.ownsRow _ _ _ _ _ _ _
          rw [HT.out.1]
          simp only [List.length_append, List.length_cons, List.length_nil, Nat.zero_add, List.map_append, List.map_cons, List.map_nil, List.flatten_append, List.flatten_cons, List.flatten_nil, List.append_nil]
          exact hown6
        have HC6 : Hid (Blk w6 nb 3 #[.int .i64 ((hitsP (log.take (k + 1)) q : Nat) : Int)]) := by
          show Blk _ _ _ _
          rw [HT.out.2]
          exact ((hgr6.block nb (by have := HSZ.out; simp; omega) (fun e => by have := (HO4.out.lt nb e.symm).1; omega)).trans ((HC4.out.alloc _).alloc _) : _)
        clear hown6 hgr6
        go_wp2_with fail
        refine ⟨⟨k + 1, by go_num, by omega, HB6.out, HC6.out, HO6.out⟩, ?_⟩
        simp [intOf]; omega
    · obtain rfl : k = log.length := by omega
      have e1 : decide ((log.length : Int) < (log.length : Int)) = false := by simp
      rw [List.take_length] at HO HC
      go_wp2_with fail
      go_ret
      exact ⟨_, rfl, RowsAt.of_own (by simp [lnV]) (by rw [List.length_map]; exact HO.out), HB.out, HC.out⟩
def eraseV (log : List Ln) (q : List UInt8) : List Ln := if okA log q then eraseP log q else []
def hitsV (log : List Ln) (q : List UInt8) : Nat := if okA log q then hitsP log q else 0
def EraseR (log : List Ln) (q : List UInt8) (w : World) (e : Ending) (w' : World) : Prop := ∃ v', e = .returned (.tuple #[v', .int .i64 ((hitsV log q : Nat) : Int), .int .i64 (errE (okA log q))]) ∧ LnsAt w' v' (eraseV log q) ∧ Below w.heap.size w w'
set_option maxRecDepth 100000 in
set_option maxHeartbeats 4000000 in
theorem Erase_any (log : List Ln) (hf : ∀ l ∈ log, l.fit) (hl : log.length ≤ 1000000000) (q : List UInt8) (hq : q.length ≤ 140737488355328) (v : Value) (w : World) (hv : LnsAt w v log) (hg : Glob w) :
    Calls Tryz.prog 13 #[v, .string (bs q)] w (EraseR log q w) := by
  have HB := hide (below_one w (.cells #[.string (bs q)] 9))
  have HX := hide (Blk.new w 9 #[.string (bs q)])
  have CP := proper_any v log hf hl q hq (w.alloc (.cells #[.string (bs q)] 9)) (hv.to HB.out) (hg.alloc _)
  have HO : Hid (okA log q = (validG log && isNm q)) := rfl
  have HS := hide hv
  clear hv hg hf
  cases hp : validG log && isNm q with
  | false =>
    rw [hp] at CP HO
    clear hp
    go_enter Tryz.func13, Tryz.ntmps13
    go_wp2_with ((with_reducible refine CP.mono ?_); rintro e w' ⟨rfl, hb⟩)
    go_ret3
    exact ⟨.slice none 0 0, by unfold hitsV; rw [HO.out]; rfl, by unfold eraseV; rw [HO.out]; exact RowsAt.nil _ _, below_to HB.out (Nat.le_refl _) (by assumption)⟩
  | true =>
    rw [hp] at CP HO
    clear hp
    go_enter Tryz.func13, Tryz.ntmps13
    go_wp2_with fail
    refine CP.mono ?_
    rintro e w2 ⟨rfl, hb⟩
    have HB2 := hide (below_to HB.out (Nat.le_refl _) hb)
    have HX2 := hide (HX.out.to hb)
    have HW2 : Hid (w.heap.size < w2.heap.size) := HX2.out.lt
    have HB3 := hide (below_alloc HB2.out (Nat.le_refl _) (.cells #[.int .i64 0] 3))
    have CM := mLLe_any log hl q w.heap.size w2.heap.size (Nat.ne_of_lt HW2.out) v (w2.alloc (.cells #[.int .i64 0] 3)) (fun w' hb' => HS.out.to (HB3.out.trans (hb'.below (by have := HW2.out; simp; omega) (by have := HW2.out; omega)))) (HX2.out.alloc _) (Blk.new _ _ _)
    clear CP hb
    go_wp2_with fail
    refine CM.mono ?_
    rintro e w3 ⟨v', rfl, hr, hb, hc⟩
    have HB4 := hide (HB3.out.trans (hb.below (by have := HW2.out; simp; omega) (by have := HW2.out; omega)))
    have HR := hide hr
    have hn := (hc.cell 0).trans rfl
    clear hr hb CM hc
    generalize hN : hitsP log q = N at *
    have HN := hide hN
    clear hN
    go_wp2_with fail
    go_quiet (fail)
    go_wp2_with fail
    go_ret3
    exact ⟨v', by unfold hitsV; rw [HO.out, if_pos rfl, HN.out]; rfl, by unfold eraseV; rw [HO.out]; exact HR.out, below_drewN HB4.out _⟩
end Go.Proofs.YtdiebacfbhjbdaaGreatDoor
