/- Several texts as one, in build order. -/
import Derived.Test.YtdcafoekbnacnaaGreatDoorMA
import Derived.Test.YtdcafoekbnacnaaGreatDoorShelf
import Derived.Lib.ItoaNum
import Derived.Lib.IndexMore
import Derived.Lib.AtoiAll
import Derived.Lib.SlTrimSet
import Derived.Lib.AtoiErrMem
import Derived.Shelf.Strings.SlTrimAscii
import Derived.Shelf.Strings.BuilderK
import Derived.Defers
import Derived.Laws.AppendOwn
import Derived.Maps.AppendAt
import Derived.Recover
import Derived.Laws.Pointers
import Derived.Test.YtdcafoekbnacnaaGreatDoorRows
import Derived.Stop.LaidErr
import Derived.Lib.LaidTab
import Derived.Clock
import Derived.OpenShut
import Derived.ChangeKeysEq
/- Package scheme: next, its closure as an iterator. -/
set_option linter.unusedVariables false
set_option linter.unusedSimpArgs false
namespace Go.Proofs.YtdcafoekbnacnaaGreatDoor
open Go.RowKit Go.Shelf
attribute [local go_sem] Oper.semAt_some

theorem drop_hd {α : Type} {l : List α} {k : Nat} {x : α} (h : l[k]? = some x) : l.drop k = x :: l.drop (k + 1) := by
  obtain ⟨hk, e⟩ := List.getElem?_eq_some_iff.1 h
  rw [List.drop_eq_getElem_cons hk, e]
set_option maxRecDepth 100000 in
set_option maxHeartbeats 2000000 in
theorem nx1_in (F : Fence) (n : Nat) (hf : F.fn 122) (hro : F.round = none) (hn : 1 ≤ n) (l bS bI : Nat) (c : List UInt8) (v : Value) (ps : List Prt) (m : Nat) (hm : m ≤ ps.length) (hl0 : ps.length ≤ 8796093022208) (J Jx : List (Nat × Prt) → World → Prop)
    (hY : ∀ pre x W, J pre W → pre.length < ps.length → YieldAt F (n - 1) Tryz.prog l (encP x) W fun e W' =>
      (e = .returned (.bool true) ∧ J (pre ++ [x]) W' ∧ KC W W') ∨ (e = .returned (.bool false) ∧ Jx (pre ++ [x]) W'))
    (W : World) (hS : Blk W bS 24 #[.string (bs c), v]) (hI : Blk W bI 3 #[.int .i64 ((m : Int) - 1)]) (hP : PartsAt W v ps) (h0 : J [] W)
    (hJa : ∀ pre W o, J pre W → J pre (W.alloc o)) :
    CallsIn F n Tryz.prog 122 #[.func (.yield l) #[] #[], .pointer (some ⟨bS, 0, none⟩), .pointer (some ⟨bI, 0, none⟩)] W fun e W' => (∃ v, e = .returned v) ∧
      ((∃ ys, ys = nxI m (ps.drop m) ∧ J ys W') ∨ (∃ pre, pre <+: nxI m (ps.drop m) ∧ Jx pre W')) := by
  obtain ⟨A, cp, rfl, hcp⟩ := hP.slice
  have cS := hS.cell 1
  have cI := hI.cell 0
  by_cases hlt0 : m < ps.length
  · obtain ⟨a, _, ea, _, hab, _⟩ := hP.at_ (List.getElem?_eq_getElem hlt0)
    injection ea with ea _ _
    subst ea
    have hcm : ¬ cp = m := by omega
    have HI := hide hI
    have HP := hide hP
    have HS := hide hS
    clear hI hP hS
    refine callsIn_of_wp Tryz.func122 rfl hf ?_ hro
    simp only [Tryz.ntmps122, List.size_toArray, List.length_cons, List.length_nil, Nat.reduceAdd, Nat.reduceSub, Array.replicate_succ, Array.replicate_zero, List.push_toArray, List.append_toArray, List.nil_append, List.cons_append]
    gi_wp2
    clear cS cI
    gi_loopw [12] (fun i wr => ∃ (k : Nat) (pre : List (Nat × Prt)), m + k ≤ ps.length ∧ pre.length = k ∧ i = .int .i64 (k : Int) ∧ nxI m (ps.drop m) = pre ++ nxI (m + k) (ps.drop (m + k)) ∧ J pre wr ∧ KC W wr)
      (fun i _ => ps.length - (intOf i).toNat)
    case atStart => exact ⟨0, [], by omega, rfl, rfl, rfl, h0, KC.refl _⟩
    case round =>
      obtain ⟨k, pre, hk, hpl, rfl, hpre, hJs, hkc⟩ := hrel
      have HPRE := hide hpre
      clear hpre
      have HKC := hide hkc
      by_cases hlt : m + k < ps.length
      · obtain ⟨p, hp⟩ : ∃ p, ps[m + k]? = some p := ⟨_, List.getElem?_eq_getElem hlt⟩
        have hP2 := HP.out.kc hkc
        obtain ⟨a', cp', ea, _, hab', c0, c1, c2, c3⟩ := hP2.at_ hp
        injection ea with ea _ _
        injection ea with ea
        subst ea
        have ea2 : a.add ((m + k) * 4) = (a.add (m * 4)).add (k * 4) := by rw [add_of_add, Nat.add_mul]
        rw [ea2] at c0 c1 c2 c3
        clear ea2
        have HN : Hid (nxI (m + k) (ps.drop (m + k)) = if p.need then [(m + k, p)] else (m + k, p) :: nxI (m + (k + 1)) (ps.drop (m + (k + 1)))) := by
          show _ = _
          rw [drop_hd hp, nxI]; rfl
        have hJ1 := hJa pre wr (.cells (ptC p) 41) hJs
        have hY1 := hY pre (m + k, p) _ hJ1 (by omega)
        unfold encP ptC at hY1
        obtain ⟨fn, tmps, assign, body, hy, hR⟩ := hY1
        dsimp only at hy
        rw [Int.natCast_add] at hy
        have cI := ((HI.out.kc hkc).alloc (.cells (ptC p) 41)).cell 0
        have HB := hide (Blk.new wr 41 (ptC p))
        unfold ptC at cI HB
        clear hp hP2 hkc
        gi_wp2
        refine hR.mono ?_
        rintro e W3 (⟨rfl, hJ3, hk3⟩ | ⟨rfl, hJx3⟩)
        · have c5 := (HB.out.kc hk3).cell 3
          have HK3 := hide hk3
          clear hk3
          cases hnd : p.need with
          | true =>
            rw [hnd] at c5
            have HND := hide hnd
            clear hnd
            gi_wp2
            refine bodyPost_ret (results_none rfl _ _ _) rfl ?_
            exact ⟨⟨_, rfl⟩, .inl ⟨pre ++ [(m + k, p)], by rw [HPRE.out, HN.out, if_pos HND.out], hJ3⟩⟩
          | false =>
            rw [hnd] at c5
            have HND := hide hnd
            clear hnd
            gi_wp2
            go_roundw
            case rel => exact ⟨k + 1, pre ++ [(m + k, p)], by omega, by simp [hpl], by go_num, by rw [HPRE.out, HN.out, HND.out]; simp, hJ3, HKC.out.trans ((KC.alloc _ _).trans HK3.out)⟩
            case measure => simp [intOf]; omega
        · gi_wp2
          refine bodyPost_ret (results_none rfl _ _ _) rfl ?_
          exact ⟨⟨_, rfl⟩, .inr ⟨pre ++ [(m + k, p)], by rw [HPRE.out, HN.out]; cases p.need <;> simp, hJx3⟩⟩
      · gi_wp2
        go_end0
        exact ⟨⟨_, rfl⟩, .inl ⟨pre, by rw [HPRE.out, List.drop_of_length_le (by omega)]; simp [nxI], hJs⟩⟩
  · obtain rfl : m = ps.length := by omega
    have HI := hide hI
    have HP := hide hP
    have HS := hide hS
    clear hI hP hS
    by_cases hcm : cp = ps.length
    all_goals
      refine callsIn_of_wp Tryz.func122 rfl hf ?_ hro
      simp only [Tryz.ntmps122, List.size_toArray, List.length_cons, List.length_nil, Nat.reduceAdd, Nat.reduceSub, Array.replicate_succ, Array.replicate_zero, List.push_toArray, List.append_toArray, List.nil_append, List.cons_append]
      gi_wp2
      gi_loopw [12] (fun i wr => i = .int .i64 0 ∧ wr = W) (fun i _ => 0)
      case atStart => exact ⟨rfl, rfl⟩
      case round =>
        obtain ⟨rfl, rfl⟩ := hrel
        gi_wp2
        go_end0
        exact ⟨⟨_, rfl⟩, .inl ⟨[], by simp [nxI], h0⟩⟩
theorem nx_stops (F : Fence) (n : Nat) (hf : F.fn 122) (hro : F.round = none) (hn : 1 ≤ n) (bS bI : Nat) (c : List UInt8) (v : Value) (ps : List Prt) (m : Nat) (hm : m ≤ ps.length) (hl0 : ps.length ≤ 8796093022208) (w : World)
    (hS : Blk w bS 24 #[.string (bs c), v]) (hI : Blk w bI 3 #[.int .i64 ((m : Int) - 1)]) (hP : PartsAt w v ps) :
    SeqStopsK F n Tryz.prog 122 #[.pointer (some ⟨bS, 0, none⟩), .pointer (some ⟨bI, 0, none⟩)] encP KC (fun ys => ys = nxI m (ps.drop m)) (fun pre => pre <+: nxI m (ps.drop m)) ps.length w := fun l J Jx W hW hJ hJx hY h0 =>
  nx1_in F n hf hro hn l bS bI c v ps m hm hl0 J Jx hY W (hS.to hW) (hI.to hW) (hP.to hW) h0 (fun pre W o hj => hJ pre W _ none hj (World.grownBy_alloc W o none) (fun r e => by cases e))
theorem kcK_t {A B C : World} (h : KC A B) (k : KC B C) : KC A C := h.trans k
theorem kcK_b {w : World} (W : World) (l : Nat) (o o' : Obj) (_ : w.heap.size ≤ l) (h : W.heap[l]? = some o) (hc : o.isCells = false) (_ : o.isWalk = false) : KC W (W.putObj l o') := KC.putObj W l o o' h hc
theorem next_in (F : Fence) (n : Nat) (hf : F.fn 88) (hro : F.round = none) (c v : Value) (i : Int) (w : World) :
    CallsIn F n Tryz.prog 88 #[.agg #[c, v], .int .i64 i] w fun e w' => e = .returned (.func (.func 122) #[] #[.pointer (some ⟨w.heap.size, 0, none⟩), .pointer (some ⟨w.heap.size + 1, 0, none⟩)]) ∧
      w' = (w.alloc (.cells #[c, v] 24)).alloc (.cells #[.int .i64 i] 3) := by
  refine callsIn_of_wp Tryz.func88 rfl hf ?_ hro
  simp only [Tryz.ntmps88, List.size_toArray, List.length_cons, List.length_nil, Nat.reduceAdd, Nat.reduceSub, Array.replicate_succ, Array.replicate_zero, List.push_toArray, List.append_toArray, List.nil_append, List.cons_append]
  gi_wp2
  go_ret
  exact ⟨rfl, rfl⟩
end Go.Proofs.YtdcafoekbnacnaaGreatDoor

/- Package scheme: told. -/
set_option linter.unusedVariables false
set_option linter.unusedSimpArgs false
namespace Go.Proofs.YtdcafoekbnacnaaGreatDoor
open Go.RowKit Go.Shelf
attribute [local go_sem] Oper.semAt_some

/-- what may be next can be told, by the parts with their indices -/
def okL (after : List UInt8) (L : List (Nat × Prt)) : Prop := ∀ x ∈ L, ¬ (after = [] ∧ x.2.b = []) ∧ ∀ y ∈ L, y.1 ≠ x.1 → ¬ x.2.b <+: y.2.b
theorem okL_iff (after : List UInt8) (m : Nat) (r : List Prt) : okL after (nxI m r) ↔ Told after r := by
  have hinj := nxI_inj m r
  constructor
  · intro h
    refine ⟨?_, ?_⟩
    · rw [← nxI_map m r]
      intro p hp
      obtain ⟨x, hx, rfl⟩ := List.mem_map.1 hp
      exact (h x hx).1
    · rw [← nxI_map m r, List.pairwise_map]
      exact hinj.imp_of_mem fun {x y} hx hy hne => ⟨(h x hx).2 y hy (Ne.symm hne), (h y hy).2 x hx hne⟩
  · rintro ⟨h1, h2⟩ x hx
    rw [← nxI_map m r] at h1 h2
    rw [List.pairwise_map] at h2
    refine ⟨h1 x.2 (List.mem_map.2 ⟨x, hx, rfl⟩), fun y hy hne => ?_⟩
    obtain ⟨i, hi, rfl⟩ := List.getElem_of_mem hx
    obtain ⟨j, hj, rfl⟩ := List.getElem_of_mem hy
    rw [List.pairwise_iff_getElem] at h2
    rcases Nat.lt_trichotomy i j with h | h | h
    · exact (h2 i j hi hj h).1
    · subst h; exact absurd rfl hne
    · exact (h2 j i hj hi h).2
theorem toldB_yes {after : List UInt8} {m : Nat} {r : List Prt} (h : okL after (nxI m r)) : toldB after (nxtL r) = true := (toldB_iff after r).2 ((okL_iff after m r).1 h)
theorem toldB_no {after : List UInt8} {m : Nat} {r : List Prt} (h : ¬ okL after (nxI m r)) : toldB after (nxtL r) = false := by
  rw [← Bool.not_eq_true]
  exact fun e => h ((okL_iff after m r).2 ((toldB_iff after r).1 e))
theorem kc_own {β : Type} (W0 : World) : Own (fun (_ : β) W => KC W0 W) := fun s W W' row h hg hr =>
  ⟨Nat.le_trans h.size hg.size, fun k o hk ho => by
    have h1 := h.same k o hk ho
    refine (hg.block k (Array.getElem?_eq_some_iff.1 h1).1 ?_).trans h1
    intro e
    obtain ⟨o', h2, h3⟩ := hr k e.symm
    rw [h1] at h2; cases h2; rw [ho] at h3; cases h3⟩
theorem blk_own {β : Type} (B : Nat) (t : TypeId) (cs : Array Value) : Own (fun (_ : β) W => Blk W B t cs) := fun s W W' row h hg hr => by
  refine (hg.block B h.lt ?_).trans h
  intro e
  obtain ⟨o', h2, h3⟩ := hr B e.symm
  unfold Blk at h
  rw [h] at h2; cases h2; cases h3
def okX (after : List UInt8) (L : List (Nat × Prt)) (x : Nat × Prt) : Prop := ¬ (after = [] ∧ x.2.b = []) ∧ ∀ y ∈ L, y.1 ≠ x.1 → ¬ x.2.b <+: y.2.b
/-- the world ahead of told's loop -/
def toldW (w : World) (sv : Array Value) (iv av : Value) : World := (((((w.alloc (.cells sv 24)).alloc (.cells #[iv] 3)).alloc (.cells #[.bool false] 4)).alloc (.cells #[av] 9)).alloc (.cells sv 24)).alloc (.cells #[iv] 3)
structure ToldW (w W : World) (sv : Array Value) (iv av : Value) : Prop where
  size : W.heap.size = w.heap.size + 6
  s : Blk W w.heap.size 24 sv
  i : Blk W (w.heap.size + 1) 3 #[iv]
  r : Blk W (w.heap.size + 2) 4 #[.bool false]
  a : Blk W (w.heap.size + 3) 9 #[av]
  s2 : Blk W (w.heap.size + 4) 24 sv
  i2 : Blk W (w.heap.size + 5) 3 #[iv]
  bel : Below w.heap.size w W
theorem told_world (w : World) (sv : Array Value) (iv av : Value) : ToldW w (toldW w sv iv av) sv iv av := by
  unfold toldW
  refine ⟨by simp, ?_, ?_, ?_, ?_, ?_, ?_, ?_⟩
  · exact ((((((Blk.new w _ _).alloc _).alloc _).alloc _).alloc _).alloc _)
  · have := Blk.new (w.alloc (.cells sv 24)) 3 #[iv]
    simp only [World.size_alloc] at this
    exact (((this.alloc _).alloc _).alloc _).alloc _
  · have := Blk.new ((w.alloc (.cells sv 24)).alloc (.cells #[iv] 3)) 4 #[.bool false]
    simp only [World.size_alloc] at this
    exact ((this.alloc _).alloc _).alloc _
  · have := Blk.new (((w.alloc (.cells sv 24)).alloc (.cells #[iv] 3)).alloc (.cells #[.bool false] 4)) 9 #[av]
    simp only [World.size_alloc] at this
    exact (this.alloc _).alloc _
  · have := Blk.new ((((w.alloc (.cells sv 24)).alloc (.cells #[iv] 3)).alloc (.cells #[.bool false] 4)).alloc (.cells #[av] 9)) 24 sv
    simp only [World.size_alloc] at this
    exact this.alloc _
  · have := Blk.new (((((w.alloc (.cells sv 24)).alloc (.cells #[iv] 3)).alloc (.cells #[.bool false] 4)).alloc (.cells #[av] 9)).alloc (.cells sv 24)) 3 #[iv]
    simp only [World.size_alloc] at this
    exact this
  · exact ((((((Below.refl _ w).alloc (Nat.le_refl _) _).alloc (by simp) _).alloc (by simp; omega) _).alloc (by simp; omega) _).alloc (by simp; omega) _).alloc (by simp; omega) _
set_option maxRecDepth 100000 in
set_option maxHeartbeats 4000000 in
theorem told_any (c : List UInt8) (v : Value) (ps : List Prt) (m : Nat) (hm : m ≤ ps.length) (hl0 : ps.length ≤ 8796093022208) (w : World) (hP : PartsAt w v ps) :
    Calls Tryz.prog 53 #[.agg #[.string (bs c), v], .int .i64 ((m : Int) - 1)] w fun e w' => e = .returned (.bool (toldB (afterAt ps m) (nxtL (ps.drop m)))) ∧ Below w.heap.size w w' := by
  obtain ⟨A, cp, rfl, hcp⟩ := hP.slice
  have HP := hide hP
  have hn1 : (1 : Nat) ≤ 10 := by decide
  by_cases h1 : 1 ≤ m
  · have e1 : decide ((1 : Int) ≤ (m : Int)) = true := by simp; omega
    obtain ⟨p0, hp0⟩ : ∃ p, ps[m - 1]? = some p := ⟨_, List.getElem?_eq_getElem (by omega)⟩
    have HA : Hid (afterAt ps m = p0.a) := by show _ = _; obtain ⟨k, rfl⟩ : ∃ k, m = k + 1 := ⟨m - 1, by omega⟩; exact afterAt_succ hp0
    obtain ⟨a, cp', ea, _, hab, c0, c1, c2, c3⟩ := hP.at_ hp0
    injection ea with ea _ ec
    subst ec
    have EA := hide ea
    rw [ea] at hP
    have c2a := KC.cell (((((KC.refl w).trans (KC.alloc _ (.cells #[.string (bs c), .slice (some a) ps.length cp] 24))).trans (KC.alloc _ (.cells #[.int .i64 ((m : Int) - 1)] 3))).trans (KC.alloc _ (.cells #[.bool false] 4))).trans (KC.alloc _ (.cells #[.string ⟨#[120]⟩] 9))) c2
    have HW := hide (told_world w #[.string (bs c), .slice (some a) ps.length cp] (.int .i64 ((m : Int) - 1)) (.string (bs p0.a)))
    clear hP c0 c1 c2 c3 hp0
    subst ea
    refine (callsIn_wide (n := 10)).1 ?_
    refine callsIn_of_wp_marks Tryz.func53 rfl trivial ?_ rfl
    simp only [Tryz.ntmps53, List.size_toArray, List.length_cons, List.length_nil, Nat.reduceAdd, Nat.reduceSub, Array.replicate_succ, Array.replicate_zero, List.push_toArray, List.append_toArray, List.nil_append, List.cons_append]
    gi_wp2_with (refine ⟨trivial, ?_⟩; gi_at_call 88; refine (next_in Fence.wide _ trivial rfl _ _ _ _).mono ?_; rintro e w' ⟨rfl, rfl⟩)
    clear c2a e1
    obtain ⟨A, hA⟩ : ∃ A, some a = A := ⟨_, rfl⟩
    obtain ⟨W0, hW0⟩ : ∃ W0, toldW w #[.string (bs c), .slice (some a) ps.length cp] (.int .i64 ((m : Int) - 1)) (.string (bs p0.a)) = W0 := ⟨_, rfl⟩
    rw [hW0] at HW
    unfold toldW at hW0
    rw [hW0]
    clear hW0
    rw [← HA.out] at HW
    rw [hA] at HW HP
    clear hA
    have HI2 := hide HW.out.i2
    have HPW := hide (HP.out.to HW.out.bel)
    refine wpIn_rangeFunc_ownH (F := Fence.wide) rfl hn1 (gf := 122) (lb := #[.pointer (some ⟨w.heap.size + 1 + 1 + 1 + 1, 0, none⟩), .pointer (some ⟨w.heap.size + 1 + 1 + 1 + 1 + 1, 0, none⟩)]) rfl trivial (enters_of Tryz.func122 (by kernel_rfl) rfl)
      (nx_stops Fence.wide 9 trivial rfl (by decide) (w.heap.size + 1 + 1 + 1 + 1) (w.heap.size + 1 + 1 + 1 + 1 + 1) c (.slice A ps.length cp) ps m hm hl0 W0 HW.out.s2 HI2.out HPW.out) kcK_t kcK_b (Below.refl _ _) (fun _ => rfl)
      (fun pre W => ((∀ x ∈ pre, okX (afterAt ps m) (nxI m (ps.drop m)) x) ∧ KC W0 W) ∧ Below w.heap.size w W)
      (fun e pre W => ((e = .ret ∧ ∃ x ∈ pre, ¬ okX (afterAt ps m) (nxI m (ps.drop m)) x) ∧ Blk W (w.heap.size + 1 + 1) 4 #[.bool false]) ∧ Below w.heap.size w W)
      (OwnFrom.and (OwnFrom.and (ownFrom_pure _ _) (Own.from (kc_own _) _)) (ownFrom_below (Nat.le_refl _) (by have := HW.out.size; omega)))
      (fun e => OwnFrom.and (OwnFrom.and (ownFrom_pure _ _) (Own.from (blk_own _ _ _) _)) (ownFrom_below (Nat.le_refl _) (by have := HW.out.size; omega)))
      ⟨⟨by simp, KC.refl _⟩, HW.out.bel⟩
      (fun x a' W => ∃ (Bk Bp : Nat) (y0 y1 y8 y9 y10 y11 y12 y13 y14 y15 y16 y17 y18 y19 y20 y21 y22 y23 y24 y25 y26 y27 y28 y29 y30 y31 y32 y33 y34 y35 y36 y37 y38 y39 y40 y41 y42 y43 y44 : Value), (Blk W Bk 3 #[.int .i64 (x.1 : Int)] ∧ Blk W Bp 41 (ptC x.2)) ∧ a' = { tmps := #[y0, y1, .pointer (some ⟨w.heap.size, 0, none⟩), .pointer (some ⟨w.heap.size + 1, 0, none⟩), .pointer (some ⟨w.heap.size + 1 + 1, 0, none⟩), .pointer (some ⟨w.heap.size + 1 + 1 + 1, 0, none⟩), .pointer (some ⟨Bk, 0, none⟩), .pointer (some ⟨Bp, 0, none⟩), y8, y9, y10, y11, y12, y13, y14, y15, y16, y17, y18, y19, y20, y21, y22, y23, y24, y25, y26, y27, y28, y29, y30, y31, y32, y33, y34, y35, y36, y37, y38, y39, y40, y41, y42, y43, y44], defers := [] })
      (fun x a' _ X Y row hs hg hr => by
        obtain ⟨Bk, Bp, y0, y1, y8, y9, y10, y11, y12, y13, y14, y15, y16, y17, y18, y19, y20, y21, y22, y23, y24, y25, y26, y27, y28, y29, y30, y31, y32, y33, y34, y35, y36, y37, y38, y39, y40, y41, y42, y43, y44, ⟨h1, h2⟩, rfl⟩ := hs
        exact ⟨Bk, Bp, _, _, _, _, _, _, _, _, _, _, _, _, _, _, _, _, _, _, _, _, _, _, _, _, _, _, _, _, _, _, _, _, _, _, _, _, _, _, _, ⟨blk_own Bk _ _ () X Y row h1 hg (fun r e => (hr r e).2), blk_own Bp _ _ () X Y row h2 hg (fun r e => (hr r e).2)⟩, rfl⟩)
      ?assign ?body ?done ?stop
    case assign =>
      rintro l pre x W K ⟨⟨hp, hkc⟩, hB⟩ hK
      have HHK := hide hK
      have HKC := hide hkc
      have HP1 := hide hp
      have HB1 := hide hB
      clear hK hkc hp hB
      unfold encP ptC
      gi_wp2
      exact HHK.out _ _ (((KeepsOthers.alloc _ _).trans (KeepsOthers.alloc _ _)).from _) ((KC.alloc _ _).trans (KC.alloc _ _)) ⟨⟨HP1.out, HKC.out.trans ((KC.alloc _ _).trans (KC.alloc _ _))⟩, ((HB1.out.alloc HB1.out.size _).alloc (by simp; have := HB1.out.size; omega) _)⟩
        ⟨_, _, _, _, _, _, _, _, _, _, _, _, _, _, _, _, _, _, _, _, _, _, _, _, _, _, _, _, _, _, _, _, _, _, _, _, _, _, _, _, _, ⟨(Blk.new _ _ _).alloc _, by have := Blk.new (W.alloc (.cells #[.int .i64 (x.1 : Int)] 3)) 41 (ptC x.2); rwa [World.size_alloc] at this⟩, rfl⟩
    case body =>
      rintro l pre x a' W hl ⟨r, hr⟩ ⟨⟨hp, hkc⟩, hB⟩ ⟨Bk, Bp, y0, y1, y8, y9, y10, y11, y12, y13, y14, y15, y16, y17, y18, y19, y20, y21, y22, y23, y24, y25, y26, y27, y28, y29, y30, y31, y32, y33, y34, y35, y36, y37, y38, y39, y40, y41, y42, y43, y44, ⟨bK, bP⟩, rfl⟩ hlt
      have HKC := hide hkc
      have HP1 := hide hp
      have HB1 := hide hB
      have HR := hide hr
      have HBK := hide bK
      have HBP := hide bP
      have cA : W.cell? ⟨w.heap.size + 1 + 1 + 1, 0, none⟩ = some (.string (bs (afterAt ps m))) := (HW.out.a.kc hkc).cell 0
      have cP : W.cell? ⟨Bp, 1, none⟩ = some (.string (bs x.2.b)) := bP.cell 1
      have fR : W.frozen? ⟨w.heap.size + 1 + 1, 0, none⟩ = false := (HW.out.r.kc hkc).frozen 0
      have cR : W.cell? ⟨w.heap.size + 1 + 1, 0, none⟩ = some (.bool false) := (HW.out.r.kc hkc).cell 0
      clear hkc hp hB hr bK bP hl
      cases ha : (afterAt ps m).isEmpty && x.2.b.isEmpty with
      | true =>
        obtain ⟨ha1, ha2⟩ := Bool.and_eq_true_iff.1 ha
        have e1 : (bs (afterAt ps m)).toList.isEmpty = true := by rw [bs_toList]; exact ha1
        have e2 : (bs x.2.b).toList.isEmpty = true := by rw [bs_toList]; exact ha2
        have HN : Hid (¬ okX (afterAt ps m) (nxI m (ps.drop m)) x) := fun h => h.1 ⟨List.isEmpty_iff.1 ha1, List.isEmpty_iff.1 ha2⟩
        clear ha ha1 ha2
        gi_wp2
        exact ⟨(KeepsOthers.setCell _ _ _).from _, ⟨⟨rfl, x, List.mem_append.2 (.inr (by simp)), HN.out⟩, ((HW.out.r.kc HKC.out).set_ 0 _)⟩, HB1.out.setCell (p := ⟨w.heap.size + 1 + 1, 0, none⟩) (by simp; omega) _⟩
      | false =>
        have HX : Hid (¬ (afterAt ps m = [] ∧ x.2.b = [])) := by
          show ¬ _
          rintro ⟨g1, g2⟩; rw [g1, g2] at ha; cases ha
        have cS0 : W.cell? ⟨w.heap.size, 0, none⟩ = some (.string (bs c)) := (HW.out.s.kc HKC.out).cell 0
        have cS1 : W.cell? ⟨w.heap.size, 1, none⟩ = some (.slice A ps.length cp) := (HW.out.s.kc HKC.out).cell 1
        have cI0 : W.cell? ⟨w.heap.size + 1, 0, none⟩ = some (.int .i64 ((m : Int) - 1)) := (HW.out.i.kc HKC.out).cell 0
        have hn2 : (1 : Nat) ≤ 10 - 1 - 1 := by decide
        cases ha1 : (afterAt ps m).isEmpty
        all_goals
          have e1 : (bs (afterAt ps m)).toList.isEmpty = (afterAt ps m).isEmpty := by rw [bs_toList]
          rw [ha1] at e1
          have e2 : (bs x.2.b).toList.isEmpty = x.2.b.isEmpty := by rw [bs_toList]
          rw [ha1] at ha
          simp only [Bool.true_and, Bool.false_and] at ha
          have HA2 := hide ha
          try rw [ha] at e2
          clear ha ha1
          gi_wp2_with (refine ⟨trivial, ?_⟩; gi_at_call 88; refine (CallsIn.inRound l (next_in Fence.wide _ trivial rfl _ _ _ _)).mono ?_; rintro e w' ⟨rfl, rfl⟩)
          clear cS0 cS1 cI0 cA e1 e2
          have hI1 : Blk ((W.alloc (.cells #[.string (bs c), .slice A ps.length cp] 24)).alloc (.cells #[.int .i64 ((m : Int) - 1)] 3)) (W.heap.size + 1) 3 #[.int .i64 ((m : Int) - 1)] := by
            have := Blk.new (W.alloc (.cells #[.string (bs c), .slice A ps.length cp] 24)) 3 #[.int .i64 ((m : Int) - 1)]
            rwa [World.size_alloc] at this
          have hlW := (Array.getElem?_eq_some_iff.1 HR.out).1
          have hr' : ((W.alloc (.cells #[.string (bs c), .slice A ps.length cp] 24)).alloc (.cells #[.int .i64 ((m : Int) - 1)] 3)).heap[l]? = some (.loop r) := (Below.heap_alloc _ _ l (by simp; omega)).trans ((Below.heap_alloc W _ l hlW).trans HR.out)
          have hKW : KC W ((W.alloc (.cells #[.string (bs c), .slice A ps.length cp] 24)).alloc (.cells #[.int .i64 ((m : Int) - 1)] 3)) := (KC.alloc _ _).trans (KC.alloc _ _)
          have HKW := hide hKW
          have HI1 := hide hI1
          have HR1 := hide hr'
          clear hKW hI1 hr' hlW
          have HSZ := hide HB1.out.size
          refine wpIn_rangeFunc_ownN (F := Fence.wide.inRound l) (l₀ := l) (r₀ := r) rfl HR1.out hn2 (gf := 122) (lb := #[.pointer (some ⟨W.heap.size, 0, none⟩), .pointer (some ⟨W.heap.size + 1, 0, none⟩)]) rfl trivial (enters_of Tryz.func122 (by kernel_rfl) rfl)
            ((nx_stops Fence.wide 7 trivial rfl (by decide) W.heap.size (W.heap.size + 1) c (.slice A ps.length cp) ps m hm hl0 _ ((Blk.new W _ _).alloc _) HI1.out ((HPW.out.kc HKC.out).kc HKW.out)).inRound l) kcK_t kcK_b (Below.refl _ _) (fun _ => rfl)
            (fun pre' W' => ((∀ y ∈ pre', y.1 ≠ x.1 → ¬ x.2.b <+: y.2.b) ∧ KC W W') ∧ (Below w.heap.size W W' ∧ KeepsFrom W0.heap.size W W'))
            (fun e pre' W' => ((e = .ret ∧ ∃ y ∈ pre', y.1 ≠ x.1 ∧ x.2.b <+: y.2.b) ∧ Blk W' (w.heap.size + 1 + 1) 4 #[.bool false]) ∧ (Below w.heap.size W W' ∧ KeepsFrom W0.heap.size W W'))
            (OwnFrom.and (OwnFrom.and (ownFrom_pure _ _) (Own.from (kc_own _) _)) (OwnFrom.and (ownFrom_below HSZ.out (by have := HSZ.out; simp; omega)) (ownFrom_keepsFrom (by simp; omega))))
            (fun e => OwnFrom.and (OwnFrom.and (ownFrom_pure _ _) (Own.from (blk_own _ _ _) _)) (OwnFrom.and (ownFrom_below HSZ.out (by have := HSZ.out; simp; omega)) (ownFrom_keepsFrom (by simp; omega))))
            ⟨⟨by simp, HKW.out⟩, (((Below.refl _ W).alloc HSZ.out _).alloc (by have := HSZ.out; simp; omega) _), ((KeepsOthers.alloc _ _).trans (KeepsOthers.alloc _ _)).from _⟩
            (fun y a'' W' => ∃ (Bq : Nat) (y0 y1 y10 y11 y12 y13 y14 y15 y16 y17 y18 y19 y20 y21 y22 y23 y24 y25 y26 y27 y28 y29 y30 y31 y32 y33 y34 y35 y36 y37 y38 y39 y40 y41 y42 y43 y44 : Value), Blk W' Bq 41 (ptC y.2) ∧ a'' = { tmps := #[y0, y1, .pointer (some ⟨w.heap.size, 0, none⟩), .pointer (some ⟨w.heap.size + 1, 0, none⟩), .pointer (some ⟨w.heap.size + 1 + 1, 0, none⟩), .pointer (some ⟨w.heap.size + 1 + 1 + 1, 0, none⟩), .pointer (some ⟨Bk, 0, none⟩), .pointer (some ⟨Bp, 0, none⟩), .int .i64 (y.1 : Int), .pointer (some ⟨Bq, 0, none⟩), y10, y11, y12, y13, y14, y15, y16, y17, y18, y19, y20, y21, y22, y23, y24, y25, y26, y27, y28, y29, y30, y31, y32, y33, y34, y35, y36, y37, y38, y39, y40, y41, y42, y43, y44], defers := [] })
            (fun y a'' _ X Y row hs hg hr => by
              obtain ⟨Bq, y0, y1, y10, y11, y12, y13, y14, y15, y16, y17, y18, y19, y20, y21, y22, y23, y24, y25, y26, y27, y28, y29, y30, y31, y32, y33, y34, y35, y36, y37, y38, y39, y40, y41, y42, y43, y44, h1, rfl⟩ := hs
              exact ⟨Bq, _, _, _, _, _, _, _, _, _, _, _, _, _, _, _, _, _, _, _, _, _, _, _, _, _, _, _, _, _, _, _, _, _, _, _, _, _, blk_own Bq _ _ () X Y row h1 hg (fun r e => (hr r e).2), rfl⟩)
            ?assign2 ?body2 ?done2 ?stop2
          case assign2 =>
            rintro l2 pre' y W' K hi hK
            have HHK := hide hK
            have HHI := hide hi
            clear hK hi
            unfold encP ptC
            gi_wp2
            exact HHK.out _ _ ((KeepsOthers.alloc _ _).from _) (KC.alloc _ _) ⟨⟨HHI.out.1.1, HHI.out.1.2.trans (KC.alloc _ _)⟩, HHI.out.2.1.alloc (Nat.le_trans HSZ.out HHI.out.2.1.size) _, HHI.out.2.2.trans ((KeepsOthers.alloc _ _).from _)⟩ ⟨_, _, _, _, _, _, _, _, _, _, _, _, _, _, _, _, _, _, _, _, _, _, _, _, _, _, _, _, _, _, _, _, _, _, _, _, _, _, Blk.new _ _ _, rfl⟩
          case body2 =>
            rintro l2 pre' y a'' W' _ _ ⟨⟨hq, hkc2⟩, hBW, hKF⟩ ⟨Bq, y0, y1, y10, y11, y12, y13, y14, y15, y16, y17, y18, y19, y20, y21, y22, y23, y24, y25, y26, y27, y28, y29, y30, y31, y32, y33, y34, y35, y36, y37, y38, y39, y40, y41, y42, y43, y44, bQ, rfl⟩ _
            have HQ := hide hq
            have HK2 := hide hkc2
            have HBW := hide hBW
            have HKF := hide hKF
            have cK0 : W'.cell? ⟨Bk, 0, none⟩ = some (.int .i64 (x.1 : Int)) := (HBK.out.kc hkc2).cell 0
            have cP1 : W'.cell? ⟨Bp, 1, none⟩ = some (.string (bs x.2.b)) := (HBP.out.kc hkc2).cell 1
            have cQ1 : W'.cell? ⟨Bq, 1, none⟩ = some (.string (bs y.2.b)) := bQ.cell 1
            have fR2 : W'.frozen? ⟨w.heap.size + 1 + 1, 0, none⟩ = false := ((HW.out.r.kc HKC.out).kc hkc2).frozen 0
            have cR2 : W'.cell? ⟨w.heap.size + 1 + 1, 0, none⟩ = some (.bool false) := ((HW.out.r.kc HKC.out).kc hkc2).cell 0
            clear hq hkc2 hBW hKF bQ cP cR fR
            by_cases hxy : y.1 = x.1
            · have e4 : ((y.1 : Int) != (x.1 : Int)) = false := by rw [hxy]; simp
              have HG : Hid (∀ z ∈ pre' ++ [y], z.1 ≠ x.1 → ¬ x.2.b <+: z.2.b) := fun z hz => (List.mem_append.1 hz).elim (HQ.out z) (fun e h => by obtain rfl := List.mem_singleton.1 e; exact absurd hxy h)
              clear hxy
              gi_wp2
              refine ⟨trivial, ?_⟩
              gi_wp2
              exact ⟨KeepsFrom.refl _ _, KC.refl _, ⟨HG.out, HK2.out⟩, HBW.out, HKF.out⟩
            · have e4 : ((y.1 : Int) != (x.1 : Int)) = true := by rw [bne_iff_ne]; omega
              have e5 : Lib.hasPrefix (bs y.2.b).data.toList (bs x.2.b).data.toList = x.2.b.isPrefixOf y.2.b := by rw [bs_list, bs_list]; rfl
              cases hpf : x.2.b.isPrefixOf y.2.b with
              | true =>
                rw [hpf] at e5
                have HG := hide (show x.2.b <+: y.2.b from List.isPrefixOf_iff_prefix.1 hpf)
                have HXY := hide hxy
                clear hpf hxy
                gi_wp2_with (refine ⟨trivial, ?_⟩; gi_at_call 74; refine (CallsIn.inRound l2 (CallsIn.inRound l (callsIn_wide.2 (Tryz.strings_HasPrefix _ _ _)))).mono ?_; rintro e w' ⟨rfl, rfl⟩)
                exact ⟨(KeepsOthers.setCell _ _ _).from _, ⟨⟨rfl, y, List.mem_append.2 (.inr (by simp)), HXY.out, HG.out⟩, (((HW.out.r.kc HKC.out).kc HK2.out).set_ 0 _)⟩, HBW.out.setCell (p := ⟨w.heap.size + 1 + 1, 0, none⟩) (by simp; omega) _, HKF.out.trans ((KeepsOthers.setCell _ _ _).from _)⟩
              | false =>
                rw [hpf] at e5
                have HG : Hid (∀ z ∈ pre' ++ [y], z.1 ≠ x.1 → ¬ x.2.b <+: z.2.b) := fun z hz => (List.mem_append.1 hz).elim (HQ.out z) (fun e _ h => by obtain rfl := List.mem_singleton.1 e; rw [List.isPrefixOf_iff_prefix.2 h] at hpf; cases hpf)
                clear hpf hxy
                gi_wp2_with (refine ⟨trivial, ?_⟩; gi_at_call 74; refine (CallsIn.inRound l2 (CallsIn.inRound l (callsIn_wide.2 (Tryz.strings_HasPrefix _ _ _)))).mono ?_; rintro e w' ⟨rfl, rfl⟩)
                exact ⟨KeepsFrom.refl _ _, KC.refl _, ⟨HG.out, HK2.out⟩, HBW.out, HKF.out⟩
          case done2 =>
            rintro ys' W' rfl ⟨⟨hq, hkc2⟩, hBW, hKF⟩
            have HQ := hide hq
            have HK2 := hide hkc2
            have HBW := hide hBW
            have HKF := hide hKF
            clear hq hkc2 hBW hKF
            gi_wp2
            exact ⟨HKF.out, HK2.out, ⟨fun z hz => (List.mem_append.1 hz).elim (HP1.out z) (fun e => by obtain rfl := List.mem_singleton.1 e; exact ⟨HX.out, HQ.out⟩), HKC.out.trans HK2.out⟩, HB1.out.trans HBW.out⟩
          case stop2 =>
            rintro e pre' W' hpre ⟨⟨⟨rfl, y, hy, g1, g2⟩, bR⟩, hBW, hKF⟩
            have HF := hide (show ¬ okX (afterAt ps m) (nxI m (ps.drop m)) x from fun h => h.2 y (hpre.subset hy) g1 g2)
            have HBR := hide bR
            have HBW := hide hBW
            have HKF := hide hKF
            clear hpre hy g1 g2 bR hBW hKF
            gi_wp2
            exact ⟨HKF.out, ⟨⟨rfl, x, List.mem_append.2 (.inr (by simp)), HF.out⟩, HBR.out⟩, HB1.out.trans HBW.out⟩
    case done =>
      rintro D zs W hD rfl ⟨⟨hp, hkc⟩, hB⟩ hK
      have HT := hide (show toldB (afterAt ps m) (nxtL (ps.drop m)) = true from toldB_yes hp)
      have bR := HW.out.r.kc hkc
      have cR : W.cell? ⟨w.heap.size + 1 + 1, 0, none⟩ = some (.bool false) := bR.cell 0
      have fR : W.frozen? ⟨w.heap.size + 1 + 1, 0, none⟩ = false := bR.frozen 0
      have HBR := hide bR
      have HB1 := hide hB
      have HHK := hide hK
      clear hp hkc hB hK bR
      gi_wp2
      have hK' := (KeepsOthers.setCell W ⟨w.heap.size + 1 + 1, 0, none⟩ (.bool true)).same D _ HHK.out rfl
      refine ⟨by simp, .inl ⟨_, _, rfl, run_takeDeferred hK', ?_⟩⟩
      have hc5 := cell_kept (a := ⟨w.heap.size + 1 + 1, 0, none⟩) ((HBR.out.set_ 0 (.bool true)).cell 0) (grownBy_putObj' _ D (.deferred none)) (fun r e => by cases e; exact ⟨_, hK', rfl⟩)
      have hc6 : _ = some (Value.bool true) := hc5
      refine ⟨.bool true, ?_, by rw [HT.out], (HB1.out.setCell (p := ⟨w.heap.size + 1 + 1, 0, none⟩) (by simp; omega) _).trans (belowK_b (w := w) (Nat.le_refl _) _ D _ _ (by have := HW.out.size; omega) hK' rfl rfl)⟩
      simp [results, Tryz.f53, go_sem, hc6]
    case stop =>
      rintro D e pre W hD hpre ⟨⟨⟨rfl, x, hx, hn⟩, bR⟩, hB⟩ hK
      have HT := hide (show toldB (afterAt ps m) (nxtL (ps.drop m)) = false from toldB_no fun h => hn (h x (hpre.subset hx)))
      have HBR := hide bR
      have HB1 := hide hB
      have HHK := hide hK
      clear hpre hx hn bR hB hK
      gi_wp2
      refine ⟨by simp, .inl ⟨_, _, rfl, run_takeDeferred HHK.out, ?_⟩⟩
      have hc5 := cell_kept (a := ⟨w.heap.size + 1 + 1, 0, none⟩) (HBR.out.cell 0) (grownBy_putObj' _ D (.deferred none)) (fun r e => by cases e; exact ⟨_, HHK.out, rfl⟩)
      have hc6 : _ = some (Value.bool false) := hc5
      refine ⟨.bool false, ?_, by rw [HT.out], HB1.out.trans (belowK_b (w := w) (Nat.le_refl _) W D _ _ (by have := HW.out.size; omega) HHK.out rfl rfl)⟩
      simp [results, Tryz.f53, go_sem, hc6]
  · obtain rfl : m = 0 := by omega
    have HW := hide (told_world w #[.string (bs c), .slice A ps.length cp] (.int .i64 (-1)) (.string (bs [120])))
    clear hP
    refine (callsIn_wide (n := 10)).1 ?_
    refine callsIn_of_wp_marks Tryz.func53 rfl trivial ?_ rfl
    simp only [Tryz.ntmps53, List.size_toArray, List.length_cons, List.length_nil, Nat.reduceAdd, Nat.reduceSub, Array.replicate_succ, Array.replicate_zero, List.push_toArray, List.append_toArray, List.nil_append, List.cons_append]
    gi_wp2_with (refine ⟨trivial, ?_⟩; gi_at_call 88; refine (next_in Fence.wide _ trivial rfl _ _ _ _).mono ?_; rintro e w' ⟨rfl, rfl⟩)
    obtain ⟨W0, hW0⟩ : ∃ W0, toldW w #[.string (bs c), .slice A ps.length cp] (.int .i64 (-1)) (.string (bs [120])) = W0 := ⟨_, rfl⟩
    rw [hW0] at HW
    unfold toldW at hW0
    rw [show bs [120] = ⟨#[120]⟩ from rfl] at hW0
    rw [hW0]
    clear hW0
    have HI2 : Hid (Blk W0 (w.heap.size + 5) 3 #[.int .i64 (((0 : Nat) : Int) - 1)]) := HW.out.i2
    have HPW := hide (HP.out.to HW.out.bel)
    have HA : Hid ([120] = afterAt ps 0) := rfl
    rw [HA.out] at HW
    clear h1
    refine wpIn_rangeFunc_ownH (F := Fence.wide) rfl hn1 (gf := 122) (lb := #[.pointer (some ⟨w.heap.size + 1 + 1 + 1 + 1, 0, none⟩), .pointer (some ⟨w.heap.size + 1 + 1 + 1 + 1 + 1, 0, none⟩)]) rfl trivial (enters_of Tryz.func122 (by kernel_rfl) rfl)
      (nx_stops Fence.wide 9 trivial rfl (by decide) (w.heap.size + 1 + 1 + 1 + 1) (w.heap.size + 1 + 1 + 1 + 1 + 1) c (.slice A ps.length cp) ps 0 hm hl0 W0 HW.out.s2 HI2.out HPW.out) kcK_t kcK_b (Below.refl _ _) (fun _ => rfl)
      (fun pre W => ((∀ x ∈ pre, okX (afterAt ps 0) (nxI 0 (ps.drop 0)) x) ∧ KC W0 W) ∧ Below w.heap.size w W)
      (fun e pre W => ((e = .ret ∧ ∃ x ∈ pre, ¬ okX (afterAt ps 0) (nxI 0 (ps.drop 0)) x) ∧ Blk W (w.heap.size + 1 + 1) 4 #[.bool false]) ∧ Below w.heap.size w W)
      (OwnFrom.and (OwnFrom.and (ownFrom_pure _ _) (Own.from (kc_own _) _)) (ownFrom_below (Nat.le_refl _) (by have := HW.out.size; omega)))
      (fun e => OwnFrom.and (OwnFrom.and (ownFrom_pure _ _) (Own.from (blk_own _ _ _) _)) (ownFrom_below (Nat.le_refl _) (by have := HW.out.size; omega)))
      ⟨⟨by simp, KC.refl _⟩, HW.out.bel⟩
      (fun x a' W => ∃ (Bk Bp : Nat) (y0 y1 y8 y9 y10 y11 y12 y13 y14 y15 y16 y17 y18 y19 y20 y21 y22 y23 y24 y25 y26 y27 y28 y29 y30 y31 y32 y33 y34 y35 y36 y37 y38 y39 y40 y41 y42 y43 y44 : Value), (Blk W Bk 3 #[.int .i64 (x.1 : Int)] ∧ Blk W Bp 41 (ptC x.2)) ∧ a' = { tmps := #[y0, y1, .pointer (some ⟨w.heap.size, 0, none⟩), .pointer (some ⟨w.heap.size + 1, 0, none⟩), .pointer (some ⟨w.heap.size + 1 + 1, 0, none⟩), .pointer (some ⟨w.heap.size + 1 + 1 + 1, 0, none⟩), .pointer (some ⟨Bk, 0, none⟩), .pointer (some ⟨Bp, 0, none⟩), y8, y9, y10, y11, y12, y13, y14, y15, y16, y17, y18, y19, y20, y21, y22, y23, y24, y25, y26, y27, y28, y29, y30, y31, y32, y33, y34, y35, y36, y37, y38, y39, y40, y41, y42, y43, y44], defers := [] })
      (fun x a' _ X Y row hs hg hr => by
        obtain ⟨Bk, Bp, y0, y1, y8, y9, y10, y11, y12, y13, y14, y15, y16, y17, y18, y19, y20, y21, y22, y23, y24, y25, y26, y27, y28, y29, y30, y31, y32, y33, y34, y35, y36, y37, y38, y39, y40, y41, y42, y43, y44, ⟨h1, h2⟩, rfl⟩ := hs
        exact ⟨Bk, Bp, _, _, _, _, _, _, _, _, _, _, _, _, _, _, _, _, _, _, _, _, _, _, _, _, _, _, _, _, _, _, _, _, _, _, _, _, _, _, _, ⟨blk_own Bk _ _ () X Y row h1 hg (fun r e => (hr r e).2), blk_own Bp _ _ () X Y row h2 hg (fun r e => (hr r e).2)⟩, rfl⟩)
      ?assign ?body ?done ?stop
    case assign =>
      rintro l pre x W K ⟨⟨hp, hkc⟩, hB⟩ hK
      have HHK := hide hK
      have HKC := hide hkc
      have HP1 := hide hp
      have HB1 := hide hB
      clear hK hkc hp hB
      unfold encP ptC
      gi_wp2
      exact HHK.out _ _ (((KeepsOthers.alloc _ _).trans (KeepsOthers.alloc _ _)).from _) ((KC.alloc _ _).trans (KC.alloc _ _)) ⟨⟨HP1.out, HKC.out.trans ((KC.alloc _ _).trans (KC.alloc _ _))⟩, ((HB1.out.alloc HB1.out.size _).alloc (by simp; have := HB1.out.size; omega) _)⟩
        ⟨_, _, _, _, _, _, _, _, _, _, _, _, _, _, _, _, _, _, _, _, _, _, _, _, _, _, _, _, _, _, _, _, _, _, _, _, _, _, _, _, _, ⟨(Blk.new _ _ _).alloc _, by have := Blk.new (W.alloc (.cells #[.int .i64 (x.1 : Int)] 3)) 41 (ptC x.2); rwa [World.size_alloc] at this⟩, rfl⟩
    case body =>
      rintro l pre x a' W hl ⟨r, hr⟩ ⟨⟨hp, hkc⟩, hB⟩ ⟨Bk, Bp, y0, y1, y8, y9, y10, y11, y12, y13, y14, y15, y16, y17, y18, y19, y20, y21, y22, y23, y24, y25, y26, y27, y28, y29, y30, y31, y32, y33, y34, y35, y36, y37, y38, y39, y40, y41, y42, y43, y44, ⟨bK, bP⟩, rfl⟩ hlt
      have HKC := hide hkc
      have HP1 := hide hp
      have HB1 := hide hB
      have HR := hide hr
      have HBK := hide bK
      have HBP := hide bP
      have cA : W.cell? ⟨w.heap.size + 1 + 1 + 1, 0, none⟩ = some (.string (bs (afterAt ps 0))) := (HW.out.a.kc hkc).cell 0
      have cP : W.cell? ⟨Bp, 1, none⟩ = some (.string (bs x.2.b)) := bP.cell 1
      have fR : W.frozen? ⟨w.heap.size + 1 + 1, 0, none⟩ = false := (HW.out.r.kc hkc).frozen 0
      have cR : W.cell? ⟨w.heap.size + 1 + 1, 0, none⟩ = some (.bool false) := (HW.out.r.kc hkc).cell 0
      clear hkc hp hB hr bK bP hl
      cases ha : (afterAt ps 0).isEmpty && x.2.b.isEmpty with
      | true =>
        obtain ⟨ha1, ha2⟩ := Bool.and_eq_true_iff.1 ha
        have e1 : (bs (afterAt ps 0)).toList.isEmpty = true := by rw [bs_toList]; exact ha1
        have e2 : (bs x.2.b).toList.isEmpty = true := by rw [bs_toList]; exact ha2
        have HN : Hid (¬ okX (afterAt ps 0) (nxI 0 (ps.drop 0)) x) := fun h => h.1 ⟨List.isEmpty_iff.1 ha1, List.isEmpty_iff.1 ha2⟩
        clear ha ha1 ha2
        gi_wp2
        exact ⟨(KeepsOthers.setCell _ _ _).from _, ⟨⟨rfl, x, List.mem_append.2 (.inr (by simp)), HN.out⟩, ((HW.out.r.kc HKC.out).set_ 0 _)⟩, HB1.out.setCell (p := ⟨w.heap.size + 1 + 1, 0, none⟩) (by simp; omega) _⟩
      | false =>
        have HX : Hid (¬ (afterAt ps 0 = [] ∧ x.2.b = [])) := by
          show ¬ _
          rintro ⟨g1, g2⟩; rw [g1, g2] at ha; cases ha
        have cS0 : W.cell? ⟨w.heap.size, 0, none⟩ = some (.string (bs c)) := (HW.out.s.kc HKC.out).cell 0
        have cS1 : W.cell? ⟨w.heap.size, 1, none⟩ = some (.slice A ps.length cp) := (HW.out.s.kc HKC.out).cell 1
        have cI0 : W.cell? ⟨w.heap.size + 1, 0, none⟩ = some (.int .i64 (-1)) := (HW.out.i.kc HKC.out).cell 0
        have hn2 : (1 : Nat) ≤ 10 - 1 - 1 := by decide
        cases ha1 : (afterAt ps 0).isEmpty
        all_goals
          have e1 : (bs (afterAt ps 0)).toList.isEmpty = (afterAt ps 0).isEmpty := by rw [bs_toList]
          rw [ha1] at e1
          have e2 : (bs x.2.b).toList.isEmpty = x.2.b.isEmpty := by rw [bs_toList]
          rw [ha1] at ha
          simp only [Bool.true_and, Bool.false_and] at ha
          have HA2 := hide ha
          try rw [ha] at e2
          clear ha ha1
          gi_wp2_with (refine ⟨trivial, ?_⟩; gi_at_call 88; refine (CallsIn.inRound l (next_in Fence.wide _ trivial rfl _ _ _ _)).mono ?_; rintro e w' ⟨rfl, rfl⟩)
          clear cS0 cS1 cI0 cA e1 e2
          have hI1 : Blk ((W.alloc (.cells #[.string (bs c), .slice A ps.length cp] 24)).alloc (.cells #[.int .i64 (-1)] 3)) (W.heap.size + 1) 3 #[.int .i64 (((0 : Nat) : Int) - 1)] := by
            have := Blk.new (W.alloc (.cells #[.string (bs c), .slice A ps.length cp] 24)) 3 #[.int .i64 (-1)]
            rwa [World.size_alloc] at this
          have hlW := (Array.getElem?_eq_some_iff.1 HR.out).1
          have hr' : ((W.alloc (.cells #[.string (bs c), .slice A ps.length cp] 24)).alloc (.cells #[.int .i64 (-1)] 3)).heap[l]? = some (.loop r) := (Below.heap_alloc _ _ l (by simp; omega)).trans ((Below.heap_alloc W _ l hlW).trans HR.out)
          have hKW : KC W ((W.alloc (.cells #[.string (bs c), .slice A ps.length cp] 24)).alloc (.cells #[.int .i64 (-1)] 3)) := (KC.alloc _ _).trans (KC.alloc _ _)
          have HKW := hide hKW
          have HI1 := hide hI1
          have HR1 := hide hr'
          clear hKW hI1 hr' hlW
          have HSZ := hide HB1.out.size
          refine wpIn_rangeFunc_ownN (F := Fence.wide.inRound l) (l₀ := l) (r₀ := r) rfl HR1.out hn2 (gf := 122) (lb := #[.pointer (some ⟨W.heap.size, 0, none⟩), .pointer (some ⟨W.heap.size + 1, 0, none⟩)]) rfl trivial (enters_of Tryz.func122 (by kernel_rfl) rfl)
            ((nx_stops Fence.wide 7 trivial rfl (by decide) W.heap.size (W.heap.size + 1) c (.slice A ps.length cp) ps 0 hm hl0 _ ((Blk.new W _ _).alloc _) HI1.out ((HPW.out.kc HKC.out).kc HKW.out)).inRound l) kcK_t kcK_b (Below.refl _ _) (fun _ => rfl)
            (fun pre' W' => ((∀ y ∈ pre', y.1 ≠ x.1 → ¬ x.2.b <+: y.2.b) ∧ KC W W') ∧ (Below w.heap.size W W' ∧ KeepsFrom W0.heap.size W W'))
            (fun e pre' W' => ((e = .ret ∧ ∃ y ∈ pre', y.1 ≠ x.1 ∧ x.2.b <+: y.2.b) ∧ Blk W' (w.heap.size + 1 + 1) 4 #[.bool false]) ∧ (Below w.heap.size W W' ∧ KeepsFrom W0.heap.size W W'))
            (OwnFrom.and (OwnFrom.and (ownFrom_pure _ _) (Own.from (kc_own _) _)) (OwnFrom.and (ownFrom_below HSZ.out (by have := HSZ.out; simp; omega)) (ownFrom_keepsFrom (by simp; omega))))
            (fun e => OwnFrom.and (OwnFrom.and (ownFrom_pure _ _) (Own.from (blk_own _ _ _) _)) (OwnFrom.and (ownFrom_below HSZ.out (by have := HSZ.out; simp; omega)) (ownFrom_keepsFrom (by simp; omega))))
            ⟨⟨by simp, HKW.out⟩, (((Below.refl _ W).alloc HSZ.out _).alloc (by have := HSZ.out; simp; omega) _), ((KeepsOthers.alloc _ _).trans (KeepsOthers.alloc _ _)).from _⟩
            (fun y a'' W' => ∃ (Bq : Nat) (y0 y1 y10 y11 y12 y13 y14 y15 y16 y17 y18 y19 y20 y21 y22 y23 y24 y25 y26 y27 y28 y29 y30 y31 y32 y33 y34 y35 y36 y37 y38 y39 y40 y41 y42 y43 y44 : Value), Blk W' Bq 41 (ptC y.2) ∧ a'' = { tmps := #[y0, y1, .pointer (some ⟨w.heap.size, 0, none⟩), .pointer (some ⟨w.heap.size + 1, 0, none⟩), .pointer (some ⟨w.heap.size + 1 + 1, 0, none⟩), .pointer (some ⟨w.heap.size + 1 + 1 + 1, 0, none⟩), .pointer (some ⟨Bk, 0, none⟩), .pointer (some ⟨Bp, 0, none⟩), .int .i64 (y.1 : Int), .pointer (some ⟨Bq, 0, none⟩), y10, y11, y12, y13, y14, y15, y16, y17, y18, y19, y20, y21, y22, y23, y24, y25, y26, y27, y28, y29, y30, y31, y32, y33, y34, y35, y36, y37, y38, y39, y40, y41, y42, y43, y44], defers := [] })
            (fun y a'' _ X Y row hs hg hr => by
              obtain ⟨Bq, y0, y1, y10, y11, y12, y13, y14, y15, y16, y17, y18, y19, y20, y21, y22, y23, y24, y25, y26, y27, y28, y29, y30, y31, y32, y33, y34, y35, y36, y37, y38, y39, y40, y41, y42, y43, y44, h1, rfl⟩ := hs
              exact ⟨Bq, _, _, _, _, _, _, _, _, _, _, _, _, _, _, _, _, _, _, _, _, _, _, _, _, _, _, _, _, _, _, _, _, _, _, _, _, _, blk_own Bq _ _ () X Y row h1 hg (fun r e => (hr r e).2), rfl⟩)
            ?assign2 ?body2 ?done2 ?stop2
          case assign2 =>
            rintro l2 pre' y W' K hi hK
            have HHK := hide hK
            have HHI := hide hi
            clear hK hi
            unfold encP ptC
            gi_wp2
            exact HHK.out _ _ ((KeepsOthers.alloc _ _).from _) (KC.alloc _ _) ⟨⟨HHI.out.1.1, HHI.out.1.2.trans (KC.alloc _ _)⟩, HHI.out.2.1.alloc (Nat.le_trans HSZ.out HHI.out.2.1.size) _, HHI.out.2.2.trans ((KeepsOthers.alloc _ _).from _)⟩ ⟨_, _, _, _, _, _, _, _, _, _, _, _, _, _, _, _, _, _, _, _, _, _, _, _, _, _, _, _, _, _, _, _, _, _, _, _, _, _, Blk.new _ _ _, rfl⟩
          case body2 =>
            rintro l2 pre' y a'' W' _ _ ⟨⟨hq, hkc2⟩, hBW, hKF⟩ ⟨Bq, y0, y1, y10, y11, y12, y13, y14, y15, y16, y17, y18, y19, y20, y21, y22, y23, y24, y25, y26, y27, y28, y29, y30, y31, y32, y33, y34, y35, y36, y37, y38, y39, y40, y41, y42, y43, y44, bQ, rfl⟩ _
            have HQ := hide hq
            have HK2 := hide hkc2
            have HBW := hide hBW
            have HKF := hide hKF
            have cK0 : W'.cell? ⟨Bk, 0, none⟩ = some (.int .i64 (x.1 : Int)) := (HBK.out.kc hkc2).cell 0
            have cP1 : W'.cell? ⟨Bp, 1, none⟩ = some (.string (bs x.2.b)) := (HBP.out.kc hkc2).cell 1
            have cQ1 : W'.cell? ⟨Bq, 1, none⟩ = some (.string (bs y.2.b)) := bQ.cell 1
            have fR2 : W'.frozen? ⟨w.heap.size + 1 + 1, 0, none⟩ = false := ((HW.out.r.kc HKC.out).kc hkc2).frozen 0
            have cR2 : W'.cell? ⟨w.heap.size + 1 + 1, 0, none⟩ = some (.bool false) := ((HW.out.r.kc HKC.out).kc hkc2).cell 0
            clear hq hkc2 hBW hKF bQ cP cR fR
            by_cases hxy : y.1 = x.1
            · have e4 : ((y.1 : Int) != (x.1 : Int)) = false := by rw [hxy]; simp
              have HG : Hid (∀ z ∈ pre' ++ [y], z.1 ≠ x.1 → ¬ x.2.b <+: z.2.b) := fun z hz => (List.mem_append.1 hz).elim (HQ.out z) (fun e h => by obtain rfl := List.mem_singleton.1 e; exact absurd hxy h)
              clear hxy
              gi_wp2
              refine ⟨trivial, ?_⟩
              gi_wp2
              exact ⟨KeepsFrom.refl _ _, KC.refl _, ⟨HG.out, HK2.out⟩, HBW.out, HKF.out⟩
            · have e4 : ((y.1 : Int) != (x.1 : Int)) = true := by rw [bne_iff_ne]; omega
              have e5 : Lib.hasPrefix (bs y.2.b).data.toList (bs x.2.b).data.toList = x.2.b.isPrefixOf y.2.b := by rw [bs_list, bs_list]; rfl
              cases hpf : x.2.b.isPrefixOf y.2.b with
              | true =>
                rw [hpf] at e5
                have HG := hide (show x.2.b <+: y.2.b from List.isPrefixOf_iff_prefix.1 hpf)
                have HXY := hide hxy
                clear hpf hxy
                gi_wp2_with (refine ⟨trivial, ?_⟩; gi_at_call 74; refine (CallsIn.inRound l2 (CallsIn.inRound l (callsIn_wide.2 (Tryz.strings_HasPrefix _ _ _)))).mono ?_; rintro e w' ⟨rfl, rfl⟩)
                exact ⟨(KeepsOthers.setCell _ _ _).from _, ⟨⟨rfl, y, List.mem_append.2 (.inr (by simp)), HXY.out, HG.out⟩, (((HW.out.r.kc HKC.out).kc HK2.out).set_ 0 _)⟩, HBW.out.setCell (p := ⟨w.heap.size + 1 + 1, 0, none⟩) (by simp; omega) _, HKF.out.trans ((KeepsOthers.setCell _ _ _).from _)⟩
              | false =>
                rw [hpf] at e5
                have HG : Hid (∀ z ∈ pre' ++ [y], z.1 ≠ x.1 → ¬ x.2.b <+: z.2.b) := fun z hz => (List.mem_append.1 hz).elim (HQ.out z) (fun e _ h => by obtain rfl := List.mem_singleton.1 e; rw [List.isPrefixOf_iff_prefix.2 h] at hpf; cases hpf)
                clear hpf hxy
                gi_wp2_with (refine ⟨trivial, ?_⟩; gi_at_call 74; refine (CallsIn.inRound l2 (CallsIn.inRound l (callsIn_wide.2 (Tryz.strings_HasPrefix _ _ _)))).mono ?_; rintro e w' ⟨rfl, rfl⟩)
                exact ⟨KeepsFrom.refl _ _, KC.refl _, ⟨HG.out, HK2.out⟩, HBW.out, HKF.out⟩
          case done2 =>
            rintro ys' W' rfl ⟨⟨hq, hkc2⟩, hBW, hKF⟩
            have HQ := hide hq
            have HK2 := hide hkc2
            have HBW := hide hBW
            have HKF := hide hKF
            clear hq hkc2 hBW hKF
            gi_wp2
            exact ⟨HKF.out, HK2.out, ⟨fun z hz => (List.mem_append.1 hz).elim (HP1.out z) (fun e => by obtain rfl := List.mem_singleton.1 e; exact ⟨HX.out, HQ.out⟩), HKC.out.trans HK2.out⟩, HB1.out.trans HBW.out⟩
          case stop2 =>
            rintro e pre' W' hpre ⟨⟨⟨rfl, y, hy, g1, g2⟩, bR⟩, hBW, hKF⟩
            have HF := hide (show ¬ okX (afterAt ps 0) (nxI 0 (ps.drop 0)) x from fun h => h.2 y (hpre.subset hy) g1 g2)
            have HBR := hide bR
            have HBW := hide hBW
            have HKF := hide hKF
            clear hpre hy g1 g2 bR hBW hKF
            gi_wp2
            exact ⟨HKF.out, ⟨⟨rfl, x, List.mem_append.2 (.inr (by simp)), HF.out⟩, HBR.out⟩, HB1.out.trans HBW.out⟩
    case done =>
      rintro D zs W hD rfl ⟨⟨hp, hkc⟩, hB⟩ hK
      have HT := hide (show toldB (afterAt ps 0) (nxtL (ps.drop 0)) = true from toldB_yes hp)
      have bR := HW.out.r.kc hkc
      have cR : W.cell? ⟨w.heap.size + 1 + 1, 0, none⟩ = some (.bool false) := bR.cell 0
      have fR : W.frozen? ⟨w.heap.size + 1 + 1, 0, none⟩ = false := bR.frozen 0
      have HBR := hide bR
      have HB1 := hide hB
      have HHK := hide hK
      clear hp hkc hB hK bR
      gi_wp2
      have hK' := (KeepsOthers.setCell W ⟨w.heap.size + 1 + 1, 0, none⟩ (.bool true)).same D _ HHK.out rfl
      refine ⟨by simp, .inl ⟨_, _, rfl, run_takeDeferred hK', ?_⟩⟩
      have hc5 := cell_kept (a := ⟨w.heap.size + 1 + 1, 0, none⟩) ((HBR.out.set_ 0 (.bool true)).cell 0) (grownBy_putObj' _ D (.deferred none)) (fun r e => by cases e; exact ⟨_, hK', rfl⟩)
      have hc6 : _ = some (Value.bool true) := hc5
      refine ⟨.bool true, ?_, by rw [HT.out], (HB1.out.setCell (p := ⟨w.heap.size + 1 + 1, 0, none⟩) (by simp; omega) _).trans (belowK_b (w := w) (Nat.le_refl _) _ D _ _ (by have := HW.out.size; omega) hK' rfl rfl)⟩
      simp [results, Tryz.f53, go_sem, hc6]
    case stop =>
      rintro D e pre W hD hpre ⟨⟨⟨rfl, x, hx, hn⟩, bR⟩, hB⟩ hK
      have HT := hide (show toldB (afterAt ps 0) (nxtL (ps.drop 0)) = false from toldB_no fun h => hn (h x (hpre.subset hx)))
      have HBR := hide bR
      have HB1 := hide hB
      have HHK := hide hK
      clear hpre hx hn bR hB hK
      gi_wp2
      refine ⟨by simp, .inl ⟨_, _, rfl, run_takeDeferred HHK.out, ?_⟩⟩
      have hc5 := cell_kept (a := ⟨w.heap.size + 1 + 1, 0, none⟩) (HBR.out.cell 0) (grownBy_putObj' _ D (.deferred none)) (fun r e => by cases e; exact ⟨_, HHK.out, rfl⟩)
      have hc6 : _ = some (Value.bool false) := hc5
      refine ⟨.bool false, ?_, by rw [HT.out], HB1.out.trans (belowK_b (w := w) (Nat.le_refl _) W D _ _ (by have := HW.out.size; omega) HHK.out rfl rfl)⟩
      simp [results, Tryz.f53, go_sem, hc6]
end Go.Proofs.YtdcafoekbnacnaaGreatDoor

/- Package scheme: Valid. -/
set_option linter.unusedVariables false
set_option linter.unusedSimpArgs false
namespace Go.Proofs.YtdcafoekbnacnaaGreatDoor
open Go.RowKit Go.Shelf

/-- the kinds that have been seen, as an array of nine -/
def seenC (l : List Int) : Array Value := ((List.range 9).map fun (j : Nat) => Value.bool (l.contains (Int.ofNat j))).toArray
theorem seenC_at (l : List Int) {j : Nat} (h : j < 9) : (seenC l)[j]? = some (.bool (l.contains (j : Int))) := by
  unfold seenC
  rw [List.getElem?_toArray, List.getElem?_map, List.getElem?_range h]; rfl
theorem seenC_size (l : List Int) : (seenC l).size = 9 := by simp [seenC]
theorem seenC_set (l : List Int) {j : Nat} (h : j < 9) : (seenC l).setIfInBounds j (.bool true) = seenC ((j : Int) :: l) := by
  apply Array.ext_getElem?
  intro i
  rcases Nat.lt_or_ge i 9 with hi | hi
  · rw [Array.getElem?_setIfInBounds, seenC_at _ hi, seenC_at _ hi, seenC_size]
    by_cases e : j = i
    · subst e; rw [if_pos rfl, if_pos h]; simp
    · rw [if_neg e]
      have : ((j : Int) :: l).contains (i : Int) = l.contains (i : Int) := by
        rw [List.contains_cons, beq_eq_false_iff_ne.2 (by omega : (i : Int) ≠ (j : Int)), Bool.false_or]
      rw [this]
  · rw [Array.getElem?_eq_none (by rw [Array.size_setIfInBounds, seenC_size]; exact hi), Array.getElem?_eq_none (by rw [seenC_size]; exact hi)]
def seenK (ps : List Prt) (k : Nat) : List Int := ((ps.take k).map Prt.k).reverse
theorem seenK_succ {ps : List Prt} {k : Nat} {p : Prt} (h : ps[k]? = some p) : seenK ps (k + 1) = p.k :: seenK ps k := by
  unfold seenK
  rw [List.take_add_one, h]; simp
/-- the first loop of Valid -/
structure VLp (w : World) (sv : Array Value) (ps : List Prt) (k : Nat) (wr : World) : Prop where
  s : Blk wr w.heap.size 24 sv
  seen : Blk wr (w.heap.size + 1) 83 (seenC (seenK ps k))
  bel : Below w.heap.size w wr
  pb : partsB [] ps = partsB (seenK ps k) (ps.drop k)
theorem VLp.to {w : World} {sv : Array Value} {ps : List Prt} {k : Nat} {wr w' : World} (h : VLp w sv ps k wr) (hb : Below wr.heap.size wr w') : VLp w sv ps k w' := ⟨h.s.to hb, h.seen.to hb, below_to h.bel (Nat.le_refl _) hb, h.pb⟩
theorem validB_parts {c : List UInt8} {ps : List Prt} (h : partsB [] ps = false) : validB isNm ⟨c, ps⟩ = false := by unfold validB; rw [h]; rfl
set_option maxRecDepth 100000 in
set_option maxHeartbeats 4000000 in
theorem SValid_any (s : Sch) (hl0 : s.ps.length ≤ 8796093022208) (hc0 : s.c.length ≤ 140737488355328) (v : Value) (w : World) (hP : PartsAt w v s.ps) :
    Calls Tryz.prog 22 #[.agg #[.string (bs s.c), v]] w fun e w' => e = .returned (.bool (validB isNm s)) ∧ Below w.heap.size w w' := by
  obtain ⟨c, ps⟩ := s
  dsimp only at hl0 hc0 hP
  obtain ⟨A, cp, rfl, hcp⟩ := hP.slice
  have HP := hide hP
  have H0 : Hid (VLp w #[.string (bs c), .slice A ps.length cp] ps 0 ((w.alloc (.cells #[.string (bs c), .slice A ps.length cp] 24)).alloc (.cells (seenC []) 83))) := by
    refine ⟨(Blk.new w _ _).alloc _, ?_, below_two w _ _, rfl⟩
    have := Blk.new (w.alloc (.cells #[.string (bs c), .slice A ps.length cp] 24)) 83 (seenC [])
    rwa [World.size_alloc] at this
  rw [show seenC [] = #[.bool false, .bool false, .bool false, .bool false, .bool false, .bool false, .bool false, .bool false, .bool false] from rfl] at H0
  clear hP
  go_enter Tryz.func22, Tryz.ntmps22
  go_wp2_with fail
  go_loopw [10] (fun i wr => ∃ k : Nat, k ≤ ps.length ∧ i = .int .i64 (k : Int) ∧ VLp w #[.string (bs c), .slice A ps.length cp] ps k wr) (fun i _ => ps.length - (intOf i).toNat)
  case atStart => exact ⟨0, by omega, rfl, H0.out⟩
  case round =>
    obtain ⟨k, hk, rfl, hV⟩ := hrel
    have HV := hide hV
    clear hV
    by_cases hlt : k < ps.length
    · obtain ⟨p, hp⟩ : ∃ p, ps[k]? = some p := ⟨_, List.getElem?_eq_getElem hlt⟩
      obtain ⟨a, cp', ea, _, hab, c0, c1, c2, c3⟩ := (HP.out.to HV.out.bel).at_ hp
      injection ea with ea _ ec
      subst ec
      obtain rfl := ea
      have HS : Hid (partsB [] ps = (decide (1 ≤ p.k) && (decide (p.k ≤ 8) && (!(seenK ps k).contains p.k && (smallB p.b && (smallB p.a && partsB (seenK ps (k + 1)) (ps.drop (k + 1)))))))) := by
        show _ = _
        rw [HV.out.pb, drop_hd hp, seenK_succ hp]; rfl
      have HPK := hide hp
      clear hp
      by_cases h1 : p.k < 1
      · have HF : Hid (validB isNm ⟨c, ps⟩ = false) := validB_parts (by rw [HS.out, decide_eq_false (by omega : ¬ 1 ≤ p.k)]; rfl)
        go_wp2_with fail
        go_ret
        exact ⟨ret_bool (by rw [HF.out]), below_alloc HV.out.bel (Nat.le_refl _) _⟩
      by_cases h2 : 9 ≤ p.k
      · have HF : Hid (validB isNm ⟨c, ps⟩ = false) := validB_parts (by rw [HS.out, decide_eq_false (by omega : ¬ p.k ≤ 8)]; simp)
        go_wp2_with fail
        go_ret
        exact ⟨ret_bool (by rw [HF.out]), below_alloc HV.out.bel (Nat.le_refl _) _⟩
      obtain ⟨j, hj, hj9⟩ : ∃ j : Nat, p.k = (j : Int) ∧ j < 9 := ⟨p.k.toNat, by omega, by omega⟩
      rw [hj] at c0 HS h1 h2
      have HJ := hide hj
      clear hj
      have HW1 : Hid (VLp w #[.string (bs c), .slice (some a) ps.length cp] ps k (wr.alloc (.cells #[.int .i64 (j : Int), .string (bs p.b), .string (bs p.a), .bool p.need] 41))) := HV.out.to (below_one _ _)
      have cs := (HW1.out.seen.cell j).trans (seenC_at (seenK ps k) hj9)
      rw [decide_eq_true (by omega : 1 ≤ (j : Int)), decide_eq_true (by omega : (j : Int) ≤ 8), Bool.true_and, Bool.true_and] at HS
      cases hcn : (seenK ps k).contains (j : Int) with
      | true =>
        rw [hcn] at cs HS
        have HF : Hid (validB isNm ⟨c, ps⟩ = false) := validB_parts (by rw [HS.out]; rfl)
        clear hcn
        go_wp2_with fail
        go_ret
        exact ⟨ret_bool (by rw [HF.out]), below_alloc HV.out.bel (Nat.le_refl _) _⟩
      | false =>
        rw [hcn] at cs HS
        rw [show (!false) = true from rfl, Bool.true_and] at HS
        clear hcn
        go_wp2_with fail
        have HBX := hide (Blk.new wr 41 #[.int .i64 (j : Int), .string (bs p.b), .string (bs p.a), .bool p.need])
        refine (small_any p.b _).mono ?_
        rintro e w2 ⟨rfl, hb⟩
        have HV2 := hide (HW1.out.to hb)
        have HBX2 := hide (HBX.out.to hb)
        clear hb HV HW1 HBX c0 c1 c2 c3 cs
        have d2 := HBX2.out.cell 2
        cases hb1 : smallB p.b with
        | false =>
          rw [hb1] at HS
          have HF : Hid (validB isNm ⟨c, ps⟩ = false) := validB_parts (by rw [HS.out]; rfl)
          clear hb1
          go_wp2_with fail
          go_ret
          exact ⟨ret_bool (by rw [HF.out]), HV2.out.bel⟩
        | true =>
          rw [hb1, Bool.true_and] at HS
          clear hb1
          go_wp2_with fail
          refine (small_any p.a _).mono ?_
          rintro e w3 ⟨rfl, hb⟩
          have HV3 := hide (HV2.out.to hb)
          have HBX3 := hide (HBX2.out.to hb)
          clear hb HV2 HBX2 d2
          have d0 := HBX3.out.cell 0
          have cs := (HV3.out.seen.cell j).trans (seenC_at (seenK ps k) hj9)
          have csf := HV3.out.seen.frozen j
          cases hb1 : smallB p.a with
          | false =>
            rw [hb1] at HS
            have HF : Hid (validB isNm ⟨c, ps⟩ = false) := validB_parts (by rw [HS.out]; rfl)
            clear hb1
            go_wp2_with fail
            go_ret
            exact ⟨ret_bool (by rw [HF.out]), HV3.out.bel⟩
          | true =>
            rw [hb1, Bool.true_and] at HS
            clear hb1
            go_wp2_with fail
            go_roundw
            case rel => exact ⟨k + 1, by omega, by go_num, HV3.out.s.far (by simp) _, by rw [seenK_succ HPK.out, HJ.out, ← seenC_set _ hj9]; exact HV3.out.seen.set_ _ _, HV3.out.bel.setCell (by simp) _, HS.out⟩
            case measure => simp [intOf]; omega
    · obtain rfl : k = ps.length := by omega
      have HPB : Hid (partsB [] ps = true) := by
        show _ = _
        rw [HV.out.pb, List.drop_length]; rfl
      have cS0 := HV.out.s.cell 0
      have CN := fun w => isName_any c hc0 w
      go_wp2_with fail
      refine (CN _).mono ?_
      rintro e w2 ⟨rfl, hb⟩
      have HV2 := hide (HV.out.to hb)
      clear hb HV cS0 CN
      have cS1 := HV2.out.s.cell 1
      cases hnm : isNm c with
      | false =>
        have HF : Hid (validB isNm ⟨c, ps⟩ = false) := by show _ = _; unfold validB; rw [hnm]; simp
        clear hnm
        go_wp2_with fail
        go_ret
        exact ⟨ret_bool (by rw [HF.out]), HV2.out.bel⟩
      | true =>
        by_cases h1 : ps.length < 1
        · have HF : Hid (validB isNm ⟨c, ps⟩ = false) := by show _ = _; unfold validB; rw [show decide (1 ≤ (⟨c, ps⟩ : Sch).ps.length) = false from decide_eq_false (by dsimp only; omega)]; simp
          have e1 : decide ((ps.length : Int) < 1) = true := by simp; omega
          clear hnm
          go_wp2_with fail
          go_ret
          exact ⟨ret_bool (by rw [HF.out]), HV2.out.bel⟩
        have e1 : decide ((ps.length : Int) < 1) = false := by simp; omega
        by_cases h8 : 8 < ps.length
        · have HF : Hid (validB isNm ⟨c, ps⟩ = false) := by show _ = _; unfold validB; rw [show decide ((⟨c, ps⟩ : Sch).ps.length ≤ 8) = false from decide_eq_false (by dsimp only; omega)]; simp
          have e2 : decide ((8 : Int) < (ps.length : Int)) = true := by simp; omega
          clear hnm
          go_wp2_with fail
          go_ret
          exact ⟨ret_bool (by rw [HF.out]), HV2.out.bel⟩
        have e2 : decide ((8 : Int) < (ps.length : Int)) = false := by simp; omega
        have HVB : Hid (validB isNm ⟨c, ps⟩ = (List.range (ps.length + 1)).all fun i => toldB (afterAt ps i) (nxtL (ps.drop i))) := by
          show _ = _
          unfold validB
          dsimp only
          rw [HPB.out, hnm, decide_eq_true (by omega : 1 ≤ ps.length), decide_eq_true (by omega : ps.length ≤ 8)]; rfl
        clear hnm
        go_wp2_with fail
        clear cS1 e1 e2
        go_loopw [64] (fun i wr => ∃ m : Nat, m ≤ ps.length + 1 ∧ i = .int .i64 (m : Int) ∧ VLp w #[.string (bs c), .slice A ps.length cp] ps ps.length wr ∧ ∀ i, i < m → toldB (afterAt ps i) (nxtL (ps.drop i)) = true) (fun i _ => ps.length + 1 - (intOf i).toNat)
        case atStart => exact ⟨0, by omega, rfl, HV2.out, fun i h => absurd h (by omega)⟩
        case round =>
          obtain ⟨m, hm, rfl, hV, hT⟩ := hrel
          have HV := hide hV
          have HT := hide hT
          have cS0 := HV.out.s.cell 0
          have cS1 := HV.out.s.cell 1
          clear hV hT HV2
          by_cases hlt : m < ps.length + 1
          · have CT := fun w (h : PartsAt w (.slice A ps.length cp) ps) => told_any c (.slice A ps.length cp) ps m (by omega) hl0 w h
            go_wp2_with fail
            refine (CT _ (HP.out.to HV.out.bel)).mono ?_
            rintro e w3 ⟨rfl, hb⟩
            have HV3 := hide (HV.out.to hb)
            clear hb HV cS0 cS1 CT
            cases ht : toldB (afterAt ps m) (nxtL (ps.drop m)) with
            | false =>
              have HF : Hid (validB isNm ⟨c, ps⟩ = false) := by
                show _ = _
                rw [HVB.out, List.all_eq_false]
                exact ⟨m, List.mem_range.2 hlt, by rw [ht]; simp⟩
              clear ht
              go_wp2_with fail
              go_ret
              exact ⟨ret_bool (by rw [HF.out]), HV3.out.bel⟩
            | true =>
              have HT3 : Hid (∀ i, i < m + 1 → toldB (afterAt ps i) (nxtL (ps.drop i)) = true) := by
                intro i hi
                rcases Nat.lt_or_ge i m with h | h
                · exact HT.out i h
                · obtain rfl : i = m := by omega
                  exact ht
              clear ht
              go_wp2_with fail
              go_roundw
              case rel => exact ⟨m + 1, by omega, by go_num, HV3.out, HT3.out⟩
              case measure => simp [intOf]; omega
          · obtain rfl : m = ps.length + 1 := by omega
            have HF : Hid (validB isNm ⟨c, ps⟩ = true) := by
              show _ = _
              rw [HVB.out, List.all_eq_true]
              exact fun i hi => HT.out i (List.mem_range.1 hi)
            go_wp2_with fail
            go_ret
            exact ⟨ret_bool (by rw [HF.out]), HV.out.bel⟩
end Go.Proofs.YtdcafoekbnacnaaGreatDoor

/- Package scheme: marks. -/
set_option linter.unusedVariables false
set_option linter.unusedSimpArgs false
namespace Go.Proofs.YtdcafoekbnacnaaGreatDoor
open Go.RowKit Go.Shelf

def marksL (ps : List Prt) : List UInt8 := ps.flatMap fun p => p.b.take 1 ++ p.a.take 1
theorem head_take (l : List UInt8) (c : UInt8) : c ∈ l.take 1 ↔ l.head? = some c := by
  cases l with
  | nil => simp
  | cons a l => simp; exact eq_comm
theorem mem_marks (ps : List Prt) (c : UInt8) : c ∈ marksL ps ↔ mrk ps c = true := by
  unfold marksL mrk
  rw [List.mem_flatMap, List.any_eq_true]
  constructor
  · rintro ⟨p, hp, h⟩
    refine ⟨p, hp, ?_⟩
    rcases List.mem_append.1 h with h | h
    · rw [(head_take _ _).1 h]; simp
    · rw [(head_take _ _).1 h]; simp
  · rintro ⟨p, hp, h⟩
    refine ⟨p, hp, ?_⟩
    rw [Bool.or_eq_true] at h
    rcases h with h | h
    · exact List.mem_append.2 (.inl ((head_take _ _).2 (eq_of_beq h)))
    · exact List.mem_append.2 (.inr ((head_take _ _).2 (eq_of_beq h)))
theorem marks_len : ∀ ps : List Prt, (marksL ps).length ≤ 2 * ps.length
  | [] => Nat.zero_le _
  | p :: ps => by
    have := marks_len ps
    unfold marksL at this ⊢
    rw [List.flatMap_cons, List.length_append, List.length_append, List.length_cons, List.length_take, List.length_take]
    omega
theorem marks_snoc {ps : List Prt} {k : Nat} {p : Prt} (h : ps[k]? = some p) : marksL (ps.take (k + 1)) = (marksL (ps.take k) ++ p.b.take 1) ++ p.a.take 1 := by
  rw [List.take_add_one, h]
  unfold marksL
  rw [List.flatMap_append]; simp
def addM (o x : List UInt8) : List UInt8 := o ++ x.take 1
/-- a part's two texts, one after the other -/
def mOut (m0 : List UInt8) (p : Prt) : Nat → List UInt8
  | 0 => m0
  | 1 => m0 ++ p.b.take 1
  | _ => (m0 ++ p.b.take 1) ++ p.a.take 1
def mTx (p : Prt) : Nat → List UInt8
  | 0 => p.b
  | _ => p.a
theorem mOut_len (m0 : List UInt8) (p : Prt) (j : Nat) : (mOut m0 p j).length ≤ m0.length + 2 := by
  unfold mOut
  split
  · omega
  · rw [List.length_append, List.length_take]; omega
  · rw [List.length_append, List.length_append, List.length_take, List.length_take]; omega
theorem mOut_succ (m0 : List UInt8) (p : Prt) {j : Nat} (h : j < 2) : mOut m0 p (j + 1) = mOut m0 p j ++ (mTx p j).take 1 := by
  rcases j with _ | _ | j
  · rfl
  · rfl
  · omega
set_option maxRecDepth 100000 in
set_option maxHeartbeats 4000000 in
theorem marks_any (c : List UInt8) (ps : List Prt) (hl0 : ps.length ≤ 8796093022208) (v : Value) (w : World) (hP : PartsAt w v ps) :
    Calls Tryz.prog 58 #[.agg #[.string (bs c), v]] w fun e w' => e = .returned (.string (bs (marksL ps))) ∧ Below w.heap.size w w' := by
  obtain ⟨A, cp, rfl, hcp⟩ := hP.slice
  have HP := hide hP
  have HB0 := hide (below_one w (.cells #[.string (bs c), .slice A ps.length cp] 24))
  clear hP
  go_enter Tryz.func58, Tryz.ntmps58
  go_wp2_with fail
  go_loopw [3, 11] (fun o i wr => ∃ k : Nat, k ≤ ps.length ∧ i = .int .i64 (k : Int) ∧ o = .string (bs (marksL (ps.take k))) ∧ Below w.heap.size w wr) (fun _ i _ => ps.length - (intOf i).toNat)
  case atStart => exact ⟨0, by omega, rfl, rfl, HB0.out⟩
  case round =>
    obtain ⟨k, hk, rfl, rfl, hB⟩ := hrel
    have HB := hide hB
    clear hB
    by_cases hlt : k < ps.length
    · obtain ⟨p, hp⟩ : ∃ p, ps[k]? = some p := ⟨_, List.getElem?_eq_getElem hlt⟩
      obtain ⟨a, cp', ea, _, hab, c0, c1, c2, c3⟩ := (HP.out.to HB.out).at_ hp
      injection ea with ea _ ec
      subst ec
      obtain rfl := ea
      have HM := hide (marks_snoc hp)
      have hlm := marks_len (ps.take k)
      have hlt2 : (ps.take k).length ≤ k := List.length_take_le _ _
      obtain ⟨m0, hm0⟩ : ∃ m, marksL (ps.take k) = m := ⟨_, rfl⟩
      rw [hm0] at HM hlm ⊢
      clear hp hm0
      go_wp2_with fail
      have HB1 := hide (below_alloc HB.out (Nat.le_refl _) (.cells #[.int .i64 p.k, .string (bs p.b), .string (bs p.a), .bool p.need] 41))
      clear c0 c1 c2 c3 HB
      generalize wr.alloc (.cells #[.int .i64 p.k, .string (bs p.b), .string (bs p.a), .bool p.need] 41) = W1 at *
      go_loop [3, 20] (fun o i => ∃ j : Nat, j ≤ 2 ∧ i = .int .i64 (j : Int) ∧ o = .string (bs (mOut m0 p j))) (fun _ i => 2 - (intOf i).toNat)
      case atStart => exact ⟨0, by omega, rfl, rfl⟩
      case round =>
        obtain ⟨j, hj, rfl, rfl⟩ := hrel
        by_cases hj2 : j < 2
        · have HO := hide (mOut_succ m0 p hj2)
          have hlo := mOut_len m0 p j
          have hls : (bs (mOut m0 p j)).size ≤ 140737488355328 := by rw [bs_size]; omega
          have ix : ∀ w, (Instr.index 124 (.agg #[.string (bs p.b), .string (bs p.a)]) (.int .i64 (j : Int))).run Tryz.prog w = .ok (.string (bs (mTx p j))) w := by
            intro w
            rcases j with _ | _ | j
            · kernel_rfl
            · kernel_rfl
            · omega
          obtain ⟨x, hx⟩ : ∃ x, mTx p j = x := ⟨_, rfl⟩
          rw [hx] at HO ix
          generalize mOut m0 p j = o0 at *
          clear hx
          cases hxe : x.isEmpty with
          | true =>
            have e1 : (bs x).toList.isEmpty = true := by rw [bs_toList]; exact hxe
            have HE := hide (List.isEmpty_iff.1 hxe)
            clear hxe
            go_wp2_with fail
            go_round
            case rel => exact ⟨j + 1, by omega, by go_num, by rw [HO.out, HE.out]; simp⟩
            case measure => simp [intOf]; omega
          | false =>
            have e1 : (bs x).toList.isEmpty = false := by rw [bs_toList]; exact hxe
            have hxl : 1 ≤ (bs x).size := by
              rw [bs_size]
              cases x with
              | nil => cases hxe
              | cons a l => simp
            have ex : (bs x).extract 0 1 = bs (x.take 1) := bs_cut x 0 1
            have hxt : (bs (x.take 1)).size ≤ 1 := by rw [bs_size, List.length_take]; omega
            clear hxe
            go_wp2_with fail
            go_round
            case rel => exact ⟨j + 1, by omega, by go_num, by rw [HO.out, ← bs_app]⟩
            case measure => simp [intOf]; omega
        · obtain rfl : j = 2 := by omega
          go_wp2_with fail
          go_roundw
          case rel => exact ⟨k + 1, by omega, by go_num, by rw [HM.out]; rfl, HB1.out⟩
          case measure => simp [intOf]; omega
    · obtain rfl : k = ps.length := by omega
      rw [List.take_length]
      go_wp2_with fail
      go_ret
      exact ⟨rfl, HB.out⟩
end Go.Proofs.YtdcafoekbnacnaaGreatDoor

/- Values that fit, as a test. -/
set_option linter.unusedVariables false
set_option linter.unusedSimpArgs false
namespace Go.Proofs.YtdcafoekbnacnaaGreatDoor
open Go.RowKit Go.Shelf

def trimd (v : List UInt8) : Bool := !(v.head? == some 32) && !(v.getLast? == some 32)
def goodB (num : List UInt8 → Bool) (ps : List Prt) (k : Nat) (v : List UInt8) : Bool := decide (v.length ≤ 60) && (prn v && (!(v.any fun c => mrk ps c) && (trimd v && (!decide (k = 3) || num v))))
def partAt (ps : List Prt) (k : Nat) : Option Prt := ps.find? fun p => p.k == (k : Int)
def fit1 (num : List UInt8 → Bool) (ps : List Prt) (k : Nat) (v : List UInt8) : Bool := match partAt ps k with
  | none => v.isEmpty
  | some p => if v.isEmpty then !p.need else goodB num ps k v
def fitsB (nm num : List UInt8 → Bool) (s : Sch) (f : List (List UInt8)) : Bool := validB nm s && (List.range 9).all fun k => fit1 num s.ps k (f.getD k [])
theorem trimd_iff (v : List UInt8) : trimd v = true ↔ v.head? ≠ some 32 ∧ v.getLast? ≠ some 32 := by unfold trimd; simp
theorem goodB_iff (num : List UInt8 → Bool) (ps : List Prt) (k : Nat) (v : List UInt8) : goodB num ps k v = true ↔ GoodV num ps (k : Int) v := by
  unfold goodB
  simp only [Bool.and_eq_true, decide_eq_true_eq, trimd_iff, Bool.not_eq_true', Bool.or_eq_true, decide_eq_false_iff_not, List.any_eq_false]
  constructor
  · rintro ⟨h1, h2, h3, h4, h5⟩
    exact ⟨h1, h2, fun c hc => by simpa using h3 c hc, h4, fun e => h5.elim (fun h => absurd (by omega) h) id⟩
  · rintro ⟨h1, h2, h3, h4, h5⟩
    refine ⟨h1, h2, fun c hc => by simpa using h3 c hc, h4, ?_⟩
    by_cases e : k = 3
    · exact .inr (h5 (by omega))
    · exact .inl e
theorem partOf_some {ps : List Prt} (h : ps.Pairwise fun x y => x.k ≠ y.k) {p : Prt} (hp : p ∈ ps) {k : Nat} (hk : p.k = (k : Int)) : partAt ps k = some p := by
  unfold partAt
  cases hf : ps.find? (fun p => p.k == (k : Int)) with
  | none =>
    have := List.find?_eq_none.1 hf p hp
    simp [hk] at this
  | some q =>
    have h1 := List.find?_some hf
    have h2 := List.mem_of_find?_eq_some hf
    rw [kinds_eq h h2 hp (by rw [hk]; exact eq_of_beq h1)]
theorem partOf_none {ps : List Prt} {k : Nat} (h : ∀ p ∈ ps, p.k ≠ (k : Int)) : partAt ps k = none := by
  unfold partAt
  rw [List.find?_eq_none]
  intro p hp
  simpa using h p hp
theorem partOf_mem {ps : List Prt} {k : Nat} {p : Prt} (h : partAt ps k = some p) : p ∈ ps ∧ p.k = (k : Int) := ⟨List.mem_of_find?_eq_some h, by have := List.find?_some h; exact eq_of_beq this⟩
theorem partOf_no {ps : List Prt} {k : Nat} (h : partAt ps k = none) : ∀ p ∈ ps, p.k ≠ (k : Int) := fun p hp => by
  have := List.find?_eq_none.1 h p hp
  simpa using this
theorem fitsB_iff (nm num : List UInt8 → Bool) (s : Sch) (f : List (List UInt8)) (hl : f.length = 9) : fitsB nm num s f = true ↔ Fits nm num s f := by
  unfold fitsB
  rw [Bool.and_eq_true, validB_iff, List.all_eq_true]
  constructor
  · rintro ⟨hv, ha⟩
    have hk : ∀ p ∈ s.ps, fit1 num s.ps p.k.toNat (valF f p.k) = true ∧ partAt s.ps p.k.toNat = some p := fun p hp => by
      have hr := (hv.part p hp).1
      exact ⟨ha p.k.toNat (List.mem_range.2 (by omega)), partOf_some hv.nodup hp (by omega)⟩
    refine ⟨hv, hl, fun k h9 hn => ?_, fun p hp hnd => ?_, fun p hp hne => ?_⟩
    · have := ha k (List.mem_range.2 h9)
      unfold fit1 at this
      rw [partOf_none hn] at this
      rw [val_nat]
      exact List.isEmpty_iff.1 this
    · obtain ⟨h1, h2⟩ := hk p hp
      unfold fit1 at h1
      rw [h2] at h1
      intro e
      rw [e] at h1
      simp [hnd] at h1
    · obtain ⟨h1, h2⟩ := hk p hp
      unfold fit1 at h1
      rw [h2] at h1
      dsimp only at h1
      rw [if_neg (by rw [List.isEmpty_iff]; exact hne)] at h1
      have := (goodB_iff _ _ _ _).1 h1
      rwa [show ((p.k.toNat : Nat) : Int) = p.k by have := (hv.part p hp).1; omega] at this
  · intro h
    refine ⟨h.valid, fun k hk => ?_⟩
    have hk9 := List.mem_range.1 hk
    unfold fit1
    cases hp : partAt s.ps k with
    | none =>
      have := h.non k hk9 (partOf_no hp)
      rw [val_nat] at this
      rw [this]; rfl
    | some p =>
      obtain ⟨h1, h2⟩ := partOf_mem hp
      have hv : valF f p.k = f.getD k [] := by rw [h2, val_nat]
      dsimp only
      by_cases he : f.getD k [] = []
      · rw [if_pos (by rw [he]; rfl)]
        cases hn : p.need with
        | false => rfl
        | true => exact absurd (hv.trans he) (h.need p h1 hn)
      · rw [if_neg (by rw [List.isEmpty_iff]; exact he), goodB_iff, ← h2, ← hv]
        exact h.good p h1 (by rw [hv]; exact he)
theorem containsAny_marks (v : List UInt8) (ps : List Prt) : Lib.containsAny v (marksL ps) = v.any fun c => mrk ps c := by
  have hm : ∀ c, (marksL ps).contains c = mrk ps c := fun c => by
    rw [Bool.eq_iff_iff, List.contains_iff_mem]; exact mem_marks ps c
  unfold Lib.containsAny
  have hge := Lib.indexAny_ge (marksL ps) v
  by_cases h : Lib.indexAny v (marksL ps) = -1
  · rw [h, decide_eq_false (by omega)]
    symm
    rw [List.any_eq_false]
    intro c hc hmc
    obtain ⟨i, hi, rfl⟩ := List.getElem_of_mem hc
    -- the first place with a mark
    have : ∀ (l : List UInt8), (∃ c ∈ l, (marksL ps).contains c = true) → Lib.indexAny l (marksL ps) ≠ -1 := by
      intro l
      induction l with
      | nil => rintro ⟨c, hc, _⟩; cases hc
      | cons a l ih =>
        rintro ⟨c, hc, h2⟩
        unfold Lib.indexAny
        split
        · omega
        · rename_i hn
          have h3 : ∃ c ∈ l, (marksL ps).contains c = true := by
            rcases List.mem_cons.1 hc with rfl | hc
            · exact absurd h2 hn
            · exact ⟨c, hc, h2⟩
          have := ih h3
          have hg := Lib.indexAny_ge (marksL ps) l
          rw [if_neg (by rw [beq_iff_eq]; exact this)]
          omega
    exact this v ⟨_, List.getElem_mem hi, by rw [hm]; exact hmc⟩ h
  · obtain ⟨n, hn⟩ : ∃ n : Nat, Lib.indexAny v (marksL ps) = n := ⟨(Lib.indexAny v (marksL ps)).toNat, by omega⟩
    rw [hn, decide_eq_true (by omega)]
    symm
    rw [List.any_eq_true]
    obtain ⟨c, h1, h2, _⟩ := indexAny_some hn
    exact ⟨c, List.mem_of_getElem? h1, by rw [← hm]; exact h2⟩
theorem dw_same {p : UInt8 → Bool} : ∀ {l : List UInt8}, l.dropWhile p = l ↔ ∀ c, l.head? = some c → p c = false
  | [] => by simp
  | c :: l => by
    rw [List.dropWhile_cons]
    by_cases h : p c = true
    · rw [if_pos h]
      constructor
      · intro e
        have := congrArg List.length e
        have h2 := (List.dropWhile_sublist p (l := l)).length_le
        simp at this; omega
      · intro hh; rw [hh c rfl] at h; cases h
    · rw [if_neg h]; simp at h ⊢; exact h
theorem trimB_same (v : List UInt8) : Lib.trimB v 32 = v ↔ trimd v = true := by
  rw [trimd_iff]
  have e : Lib.trimB v 32 = ((v.reverse.dropWhile (· == 32)).reverse).dropWhile (· == 32) := rfl
  have hlen : ∀ l : List UInt8, (l.dropWhile (· == (32 : UInt8))).length ≤ l.length := fun l => (List.dropWhile_sublist _).length_le
  rw [e]
  constructor
  · intro h
    have h1 := congrArg List.length h
    have h2 := hlen ((v.reverse.dropWhile (· == 32)).reverse)
    have h3 := hlen v.reverse
    rw [List.length_reverse] at h2 h3
    have h4 : v.reverse.dropWhile (· == 32) = v.reverse := (List.dropWhile_sublist _).eq_of_length (by rw [List.length_reverse]; omega)
    rw [h4, List.reverse_reverse] at h
    have h5 := dw_same.1 h
    have h6 := dw_same.1 h4
    refine ⟨fun e => by have := h5 32 e; simp at this, fun e => ?_⟩
    rw [← List.head?_reverse] at e
    have := h6 32 e; simp at this
  · rintro ⟨h1, h2⟩
    have h4 : v.reverse.dropWhile (· == 32) = v.reverse := dw_same.2 fun c hc => by
      rw [List.head?_reverse] at hc
      rw [beq_eq_false_iff_ne]; rintro rfl; exact h2 hc
    rw [h4, List.reverse_reverse]
    exact dw_same.2 fun c hc => by rw [beq_eq_false_iff_ne]; rintro rfl; exact h1 hc
end Go.Proofs.YtdcafoekbnacnaaGreatDoor

/- Package scheme: Fits: the part of a kind. -/
set_option linter.unusedVariables false
set_option linter.unusedSimpArgs false
namespace Go.Proofs.YtdcafoekbnacnaaGreatDoor
open Go.RowKit Go.Shelf

instance : Inhabited Prt := ⟨⟨0, [], [], false⟩⟩
theorem PartsAt.lit {w : World} {v : Value} {ps : List Prt} (h : PartsAt w v ps) (hne : ps ≠ []) : ∃ b off c, v = .slice (some ⟨b, off, none⟩) ps.length c ∧ ps.length ≤ c ∧ b < w.heap.size ∧
    ∀ j, j < ps.length → ∀ i u, (ptV ps[j]!)[i]? = some u → w.cell? ⟨b, off + j * 4 + i, none⟩ = some u := by
  have h0 : ps[0]? = some ps[0]! := by
    cases ps with
    | nil => exact absurd rfl hne
    | cons p r => rfl
  obtain ⟨a, c, e, hc, hb, c0, _⟩ := h.at_ h0
  rw [Nat.zero_mul] at c0
  obtain ⟨b, off, sp⟩ := a
  have hsp : sp = none := by
    unfold Addr.add World.cell? at c0
    rw [if_pos rfl] at c0
    dsimp only at c0
    cases sp with
    | none => rfl
    | some x =>
      exfalso
      cases hh : w.heap[b]? with
      | none => rw [hh] at c0; cases c0
      | some o => rw [hh] at c0; cases o <;> simp at c0
  subst hsp
  refine ⟨b, off, c, e, hc, hb, fun j hj i u hu => ?_⟩
  have hj' : ps[j]? = some ps[j]! := by rw [List.getElem!_eq_getElem?_getD, List.getElem?_eq_getElem hj]; rfl
  obtain ⟨A, c', e', _, _, h4⟩ := h
  rw [e] at e'
  injection e' with e1 _ _
  obtain ⟨a', e2, _, hat⟩ := h4 j (ptV ps[j]!) (by rw [List.getElem?_map, hj']; rfl)
  rw [← e1] at e2
  obtain rfl := Option.some.inj e2
  have := hat i u hu
  rw [add_of_add] at this
  unfold Addr.add at this
  split at this
  · rename_i h0
    rw [show off + j * 4 + i = off by omega]
    exact this
  · rw [show off + j * 4 + i = off + (j * 4 + i) by omega]
    exact this
def idxP (ps : List Prt) (k : Nat) : Int := Lib.idxBy (fun _ y => y.k == (k : Int)) (ps.take ps.length) default
theorem idxP_none {ps : List Prt} {k : Nat} (h : partAt ps k = none) : idxP ps k = -1 := by
  have := Lib.idxBy_miss (fun (_ y : Prt) => y.k == (k : Int)) ps ps.length default (fun j hj => by
    have hm : ps[j]! ∈ ps := by rw [List.getElem!_eq_getElem?_getD, List.getElem?_eq_getElem hj]; exact List.getElem_mem hj
    simpa using partOf_no h _ hm)
  exact this
theorem idxP_some {ps : List Prt} {k : Nat} {p : Prt} (h : partAt ps k = some p) : ∃ i : Nat, idxP ps k = (i : Int) ∧ ps[i]? = some p := by
  unfold partAt at h
  obtain ⟨h1, pl, pr, e, h2⟩ := List.find?_eq_some_iff_append.1 h
  have hi : ps[pl.length]? = some p := by rw [e]; simp
  have hl : pl.length < ps.length := by rw [e]; simp
  refine ⟨pl.length, ?_, hi⟩
  refine Lib.idxBy_hit (fun (_ y : Prt) => y.k == (k : Int)) ps ps.length pl.length default hl (Nat.le_refl _) ?_ (fun j hj => ?_)
  · show (ps[pl.length]!.k == (k : Int)) = true
    rw [List.getElem!_eq_getElem?_getD, hi]; exact h1
  · have hj' : ps[j]? = some pl[j] := by rw [e, List.getElem?_append_left hj, List.getElem?_eq_getElem hj]
    show (ps[j]!.k == (k : Int)) = false
    rw [List.getElem!_eq_getElem?_getD, hj']
    have := h2 pl[j] (List.getElem_mem hj)
    simpa using this
theorem fits1_any (p : Prt) (k : Int) (bK : Nat) (w : World) (hK : Blk w bK 3 #[.int .i64 k]) : Calls Tryz.prog 60 #[.agg #[.int .i64 p.k, .string (bs p.b), .string (bs p.a), .bool p.need], .pointer (some ⟨bK, 0, none⟩)] w fun e w' => e = .returned (.bool (p.k == k)) ∧ Below w.heap.size w w' := by
  have HB := hide (below_one w (.cells #[.int .i64 p.k, .string (bs p.b), .string (bs p.a), .bool p.need] 41))
  have cK := (hK.alloc (.cells #[.int .i64 p.k, .string (bs p.b), .string (bs p.a), .bool p.need] 41)).cell 0
  clear hK
  go_enter Tryz.func60, Tryz.ntmps60
  go_wp2_with fail
  go_ret
  exact ⟨rfl, HB.out⟩
theorem index_part (ps : List Prt) (hne : ps ≠ []) (hl0 : ps.length ≤ 8796093022208) (v : Value) (k bK : Nat) (w : World) (hP : PartsAt w v ps) (hK : Blk w bK 3 #[.int .i64 (k : Int)]) :
    Calls Tryz.prog 59 #[v, .func (.func 60) #[] #[.pointer (some ⟨bK, 0, none⟩)]] w fun e w' => e = .returned (.int .i64 (idxP ps k)) ∧ Below w.heap.size w w' := by
  obtain ⟨b, off, c, rfl, _, hb, hat⟩ := hP.lit hne
  exact AnyQ.slices_IndexFunc Tryz.laysH6 4 (fun _ => by kernel_rfl) (fun _ => by kernel_rfl) ptV (fun _ => rfl) (fun p => p.k == (k : Int)) 60 #[.pointer (some ⟨bK, 0, none⟩)] (enters_of Tryz.func60 (by kernel_rfl) rfl) b off ps.length c ps w
    (fun W x hW => (fits1_any x k bK W (hK.to hW)).mono fun e w' ⟨h1, h2⟩ => ⟨h1, below_to hW (Nat.le_refl _) h2⟩) (Nat.le_refl _) (by omega) hb hat
end Go.Proofs.YtdcafoekbnacnaaGreatDoor

/- The plain side of layer 22: house numbers, their order by one key. No program in sight. -/
set_option linter.unusedVariables false
set_option linter.unusedSimpArgs false
namespace Go.Proofs.YtdcafoekbnacnaaGreatDoor

/-- a house number -/
structure HN where
  n : Int
  l : List UInt8
  num : Int
  den : Int
deriving DecidableEq

def partL : List (Int × Int) := [(0, 0), (1, 9), (1, 8), (1, 7), (1, 6), (1, 5), (2, 9), (1, 4), (2, 7), (1, 3), (3, 8), (2, 5), (3, 7), (4, 9), (1, 2), (5, 9), (4, 7), (3, 5), (5, 8), (2, 3), (5, 7), (3, 4), (7, 9), (4, 5), (5, 6), (6, 7), (7, 8), (8, 9)]
/-- the place of a fraction -/
def place (p : Int × Int) : Int := match partL.findIdx? (· == p) with | some i => i | none => -1
theorem place_lt (p : Int × Int) : -1 ≤ place p ∧ place p < 28 := by
  unfold place
  cases h : partL.findIdx? (· == p) with
  | none => simp
  | some i =>
    have := (List.findIdx?_eq_some_iff_getElem.1 h).1
    have e : partL.length = 28 := rfl
    simp; omega
theorem place_some {p : Int × Int} (h : 0 ≤ place p) : partL[(place p).toNat]? = some p := by
  unfold place at h ⊢
  cases hf : partL.findIdx? (· == p) with
  | none => rw [hf] at h; simp at h
  | some i =>
    obtain ⟨h1, h2, _⟩ := List.findIdx?_eq_some_iff_getElem.1 hf
    simp only [Int.toNat_natCast]
    rw [List.getElem?_eq_getElem h1]
    simpa using h2
theorem place_inj {p q : Int × Int} (h : 0 ≤ place p) (e : place p = place q) : p = q := by
  have h1 := place_some h
  have h2 := place_some (p := q) (by omega)
  rw [e] at h1
  rw [h1] at h2
  exact Option.some.inj h2
def letterB (l : List UInt8) : Bool := l.isEmpty || (decide (l.length = 1) && (decide (97 ≤ (l.headD 0).toNat) && decide ((l.headD 0).toNat ≤ 122)))
def HN.valid (h : HN) : Bool := decide (1 ≤ h.n) && decide (h.n ≤ 9999) && letterB h.l && decide (0 ≤ place (h.num, h.den))
/-- the letter's rank -/
def rank (l : List UInt8) : Int := match l with | [] => 0 | c :: _ => (c.toNat : Int) - 96
theorem letterB_iff (l : List UInt8) : letterB l = true ↔ l = [] ∨ ∃ c : UInt8, l = [c] ∧ 97 ≤ c.toNat ∧ c.toNat ≤ 122 := by
  unfold letterB
  match l with
  | [] => simp
  | [c] => simp
  | a :: b :: r => simp
theorem rank_rng {l : List UInt8} (h : letterB l = true) : 0 ≤ rank l ∧ rank l ≤ 26 := by
  rcases (letterB_iff l).1 h with rfl | ⟨c, rfl, h1, h2⟩
  · simp [rank]
  · simp [rank]; omega
/-- the key: numbers are ordered by it -/
def HN.key (h : HN) : Int := (h.n * 27 + rank h.l) * 28 + place (h.num, h.den)
theorem valid_iff (h : HN) : h.valid = true ↔ 1 ≤ h.n ∧ h.n ≤ 9999 ∧ letterB h.l = true ∧ 0 ≤ place (h.num, h.den) := by
  unfold HN.valid
  simp only [Bool.and_eq_true, decide_eq_true_eq, and_assoc]
def sgn (x y : Int) : Int := if x < y then -1 else if y < x then 1 else 0
/-- the first that is not 0 -/
def fst3 (x y z : Int) : Int := if x ≠ 0 then x else if y ≠ 0 then y else if z ≠ 0 then z else 0
/-- what Compare computes of valid numbers -/
def HN.cmp (a b : HN) : Int := fst3 (sgn a.n b.n) (sgn (rank a.l) (rank b.l)) (sgn (place (a.num, a.den)) (place (b.num, b.den)))
def HN.lt (a b : HN) : Bool := a.valid && b.valid && decide (a.key < b.key)
end Go.Proofs.YtdcafoekbnacnaaGreatDoor

/- The plain side of layer 22: the least greater numbers of the four groups; what is between. -/
set_option linter.unusedVariables false
set_option linter.unusedSimpArgs false
namespace Go.Proofs.YtdcafoekbnacnaaGreatDoor

theorem nth_den : ∀ k : Nat, k < 28 → (((partL.getD k (0, 0)).2 = 0 ↔ k = 0) ∧ 0 ≤ (partL.getD k (0, 0)).2 ∧ (partL.getD k (0, 0)).2 ≤ 9 ∧ 0 ≤ (partL.getD k (0, 0)).1 ∧ (partL.getD k (0, 0)).1 ≤ 9) := by decide +kernel
theorem place_den {p : Int × Int} (h : 0 ≤ place p) : (p.2 = 0 ↔ place p = 0) ∧ 0 ≤ p.2 ∧ p.2 ≤ 9 ∧ 0 ≤ p.1 ∧ p.1 ≤ 9 := by
  have h1 := place_some h
  have h2 := place_lt p
  have h3 := nth_den (place p).toNat (by omega)
  rw [List.getD_eq_getElem?_getD, h1] at h3
  simp only [Option.getD_some] at h3
  refine ⟨h3.1.trans ?_, h3.2⟩
  omega

def nextL (l : List UInt8) : Option (List UInt8) := match l with
  | [] => some [97]
  | c :: _ => if c = 122 then none else some [c + 1]
def moreP (a : HN) : Option HN := if place (a.num, a.den) + 1 < 28 then some { a with num := (partL.getD (place (a.num, a.den) + 1).toNat (0, 0)).1, den := (partL.getD (place (a.num, a.den) + 1).toNat (0, 0)).2 } else none
def g0 (a : HN) : HN := ⟨a.n + 1, [], 0, 0⟩
def g1 (a : HN) : HN := match nextL a.l with | some m => ⟨a.n, m, 0, 0⟩ | none => ⟨a.n + 1, [97], 0, 0⟩
def g2 (a : HN) : HN := match moreP a with
  | some x => if a.l = [] then x else ⟨a.n + 1, [], 1, 9⟩
  | none => ⟨a.n + 1, [], 1, 9⟩
def g3 (a : HN) : HN := match (if a.l = [] then none else moreP a) with
  | some x => x
  | none => match nextL a.l with | some m => ⟨a.n, m, 1, 9⟩ | none => ⟨a.n + 1, [97], 1, 9⟩
def group (h : HN) : Int := if h.l = [] then (if h.den = 0 then 0 else 2) else (if h.den = 0 then 1 else 3)
def gs (a : HN) (i : Nat) : HN := if i = 0 then g0 a else if i = 1 then g1 a else if i = 2 then g2 a else g3 a

theorem p00 : place (0, 0) = 0 := by decide +kernel
/-- what a candidate is: its form, that it is greater, and least in its group -/
structure Cand (a x : HN) (i : Int) : Prop where
  letter : letterB x.l = true
  frac : 0 ≤ place (x.num, x.den)
  lo : a.n ≤ x.n
  hi : x.n ≤ a.n + 1
  more : a.key < x.key
  grp : group x = i
  least : ∀ y : HN, y.valid = true → a.key < y.key → group y = i → x.key ≤ y.key
/-- a candidate that is not greater than a valid number is valid -/
theorem Cand.valid {a x y : HN} {i : Int} (h : Cand a x i) (ha : a.valid = true) (hy : y.valid = true) (hk : x.key ≤ y.key) : x.valid = true := by
  obtain ⟨a1, a2, a3, a4⟩ := (valid_iff a).1 ha
  obtain ⟨y1, y2, y3, y4⟩ := (valid_iff y).1 hy
  have hl := h.letter
  have hf := h.frac
  have lo := h.lo
  have rx := rank_rng hl
  have ry := rank_rng y3
  have py := place_lt (y.num, y.den)
  refine (valid_iff x).2 ⟨by omega, ?_, hl, hf⟩
  unfold HN.key at hk
  omega
def between (a b : HN) : Option HN := if (g0 a).lt b then some (g0 a) else if (g1 a).lt b then some (g1 a) else if (g2 a).lt b then some (g2 a) else if (g3 a).lt b then some (g3 a) else none
end Go.Proofs.YtdcafoekbnacnaaGreatDoor

/- The plain side of layer 22: parts, room, sides. -/
set_option linter.unusedVariables false
set_option linter.unusedSimpArgs false
namespace Go.Proofs.YtdcafoekbnacnaaGreatDoor

def whole (n : Int) : HN := ⟨n, [], 0, 0⟩
def HN.rest (h : HN) : HN := { h with num := 0, den := 0 }
def partOf (n : Int) (r : Nat) : HN := ⟨n, [], 1, 2 + ((r % 8 : Nat) : Int)⟩
/-! room -/
def HN.odd (h : HN) : Bool := h.valid && decide (h.n % 2 = 1)
/-! order -/
/-- what Compare returns -/
def cmpV (a b : HN) : Int := if a.valid && b.valid then a.cmp b else 0
def cmpE (a b : HN) : Int := if a.valid && b.valid then 0 else 1
end Go.Proofs.YtdcafoekbnacnaaGreatDoor

/- Walks of package number: parts, place, letter, Valid, Odd. -/
set_option linter.unusedVariables false
set_option linter.unusedSimpArgs false
namespace Go.Proofs.YtdcafoekbnacnaaGreatDoor
open Go.RowKit

def pairCells (l : List (Int × Int)) : List Value := l.flatMap fun p => [.int .i64 p.1, .int .i64 p.2]
def partsA : Array Value := (pairCells partL).toArray
def zero56 : Array Value := (List.replicate 56 (Value.int .i64 0)).toArray
theorem partsA_one : ∀ v ∈ partsA.toList, v.oneCell' = true := by decide +kernel
theorem splice_all {old cs : Array Value} (h : old.size = cs.size) : splice old 0 cs = cs := by
  unfold splice
  have e : old.toList.drop (0 + cs.size) = [] := List.drop_eq_nil_of_le (by simp [h])
  rw [e]; simp

set_option maxHeartbeats 2000000 in
set_option maxRecDepth 100000 in
theorem parts_any (w : World) : Calls Tryz.prog 167 #[] w fun e w' => e = .returned (.agg partsA) ∧ Below w.heap.size w w' := by
  go_enter Tryz.func167, Tryz.ntmps167
  go_wp2_with ((with_reducible show wpList _ _ _ (Oper.mk _ (Op.store 182 (.tmp 0) (.tmp 29)) _ _ _ _ :: _) _ _); refine wpList_store_part rfl 182 (.tmp 0) (.tmp 29) rfl w.heap.size 0 partsA rfl rfl 182 _ (Blk.new _ _ _) (by kernel_rfl) (Nat.le_of_eq (by kernel_rfl)) partsA_one ?_; intro w1 ho hb; rw [splice_all (by kernel_rfl)] at hb; have HB := hide hb; have HO := hide (Only.below (B := w.heap.size) ((Below.refl _ w).alloc (Nat.le_refl _) _) ho (by simp) (Nat.le_refl _)); clear ho hb)
  exact bodyPost_ret (results_cell_blk rfl _ _ w.heap.size 182 _ _ rfl HB.out Tryz.underlying182 rfl (by kernel_rfl)) rfl ⟨rfl, HO.out⟩
end Go.Proofs.YtdcafoekbnacnaaGreatDoor

/- Walks of package number: place, letter, Valid, Odd. -/
set_option linter.unusedVariables false
set_option linter.unusedSimpArgs false
namespace Go.Proofs.YtdcafoekbnacnaaGreatDoor
open Go.RowKit

def nth (k : Nat) : Int × Int := partL.getD k (0, 0)
theorem run_parts : ∀ (k : Nat), k < 28 → ∀ w : World, (Instr.index 182 (.agg partsA) (.int .i64 (k : Int))).run Tryz.prog w = .ok (.agg #[.int .i64 (nth k).1, .int .i64 (nth k).2]) w
  | 0, _, _ => by kernel_rfl
  | 1, _, _ => by kernel_rfl
  | 2, _, _ => by kernel_rfl
  | 3, _, _ => by kernel_rfl
  | 4, _, _ => by kernel_rfl
  | 5, _, _ => by kernel_rfl
  | 6, _, _ => by kernel_rfl
  | 7, _, _ => by kernel_rfl
  | 8, _, _ => by kernel_rfl
  | 9, _, _ => by kernel_rfl
  | 10, _, _ => by kernel_rfl
  | 11, _, _ => by kernel_rfl
  | 12, _, _ => by kernel_rfl
  | 13, _, _ => by kernel_rfl
  | 14, _, _ => by kernel_rfl
  | 15, _, _ => by kernel_rfl
  | 16, _, _ => by kernel_rfl
  | 17, _, _ => by kernel_rfl
  | 18, _, _ => by kernel_rfl
  | 19, _, _ => by kernel_rfl
  | 20, _, _ => by kernel_rfl
  | 21, _, _ => by kernel_rfl
  | 22, _, _ => by kernel_rfl
  | 23, _, _ => by kernel_rfl
  | 24, _, _ => by kernel_rfl
  | 25, _, _ => by kernel_rfl
  | 26, _, _ => by kernel_rfl
  | 27, _, _ => by kernel_rfl
  | n + 28, h, _ => by omega
def noneTo (p : Int × Int) (k : Nat) : Prop := ∀ j, j < k → nth j ≠ p
theorem noneTo_succ {p : Int × Int} {k : Nat} (h : noneTo p k) (hk : nth k ≠ p) : noneTo p (k + 1) := fun j hj => by
  rcases Nat.lt_or_ge j k with h1 | h1
  · exact h j h1
  · obtain rfl : j = k := by omega
    exact hk
theorem place_at {p : Int × Int} {k : Nat} (h : noneTo p k) (hk : k < 28) (e : nth k = p) : place p = k := by
  have hl : partL.length = 28 := rfl
  unfold place
  have : partL.findIdx? (· == p) = some k := by
    rw [List.findIdx?_eq_some_iff_getElem]
    refine ⟨by omega, ?_, fun j hj => ?_⟩
    · have : nth k = partL[k]'(by omega) := by unfold nth; rw [List.getD_eq_getElem?_getD, List.getElem?_eq_getElem]; rfl
      rw [← this, e]; simp
    · have h1 := h j hj
      have : nth j = partL[j]'(by omega) := by unfold nth; rw [List.getD_eq_getElem?_getD, List.getElem?_eq_getElem]; rfl
      rw [this] at h1
      simpa using h1
  rw [this]
theorem place_no {p : Int × Int} (h : noneTo p 28) : place p = -1 := by
  unfold place
  have : partL.findIdx? (· == p) = none := by
    rw [List.findIdx?_eq_none_iff]
    intro x hx
    obtain ⟨j, hj, rfl⟩ := List.getElem_of_mem hx
    have h1 := h j hj
    have : nth j = partL[j] := by unfold nth; rw [List.getD_eq_getElem?_getD, List.getElem?_eq_getElem hj]; rfl
    rw [this] at h1
    simpa using h1
  rw [this]
def PlI (w wr : World) (p : Int × Int) (t : Value) : Prop := ∃ k : Nat, k ≤ 28 ∧ t = .int .i64 k ∧ noneTo p k ∧ Below w.heap.size w wr

set_option maxHeartbeats 2000000 in
set_option maxRecDepth 100000 in
theorem place_any (a b : Int) (w : World) : Calls Tryz.prog 154 #[.int .i64 a, .int .i64 b] w fun e w' => e = .returned (.int .i64 (place (a, b))) ∧ Below w.heap.size w w' := by
  go_enter Tryz.func154, Tryz.ntmps154
  go_wp2_with (go_at_call 167; refine (parts_any _).mono ?_; rintro e w1 ⟨rfl, hb⟩; have HB := hide hb; clear hb)
  go_loopw [8] (fun t wr => PlI w wr (a, b) t) (fun t _ => 28 - (intOf t).toNat)
  case atStart => exact ⟨0, by omega, rfl, fun j hj => by omega, HB.out⟩
  case round =>
    clear HB
    obtain ⟨k, hk, rfl, hno, hb⟩ := hrel
    have HN := hide hno
    have HB := hide hb
    clear hno hb
    by_cases hlt : k < 28
    · have hix := run_parts k hlt
      have hki : (k : Int) < 28 := by omega
      obtain ⟨p1, p2, hp⟩ : ∃ p1 p2, nth k = (p1, p2) := ⟨_, _, rfl⟩
      rw [hp] at hix
      have HP := hide hp
      clear hp
      by_cases h1 : p1 = a ∧ p2 = b
      · obtain ⟨e1, e2⟩ := h1
        have HF : Hid (place (a, b) = k) := place_at HN.out hlt (by rw [HP.out, e1, e2])
        subst e1 e2
        go_wp2
        go_ret
        exact ⟨ret_int HF.out.symm, HB.out.alloc HB.out.size _⟩
      · have HF : Hid (noneTo (a, b) (k + 1)) := noneTo_succ HN.out (by rw [HP.out]; intro e; simp only [Prod.mk.injEq] at e; exact h1 e)
        have hb : ((p1 == a) && (p2 == b)) = false := by
          rw [Bool.and_eq_false_iff]
          rcases Classical.em (p1 = a) with e | e
          · right; simp; intro e2; exact h1 ⟨e, e2⟩
          · left; simpa using e
        go_wp2
        all_goals
          go_roundw
          case rel => first | exact ⟨k + 1, by omega, by go_num, HF.out, HB.out.alloc HB.out.size _⟩ | ((repeat apply Exists.intro); exact ⟨⟨k + 1, by omega, by go_num, HF.out, HB.out.alloc HB.out.size _⟩, rfl⟩)
          case measure => simp [intOf]; try omega
    · have HF : Hid (place (a, b) = -1) := by
        obtain rfl : k = 28 := by omega
        exact place_no HN.out
      have hge : ¬ (k : Int) < 28 := by omega
      go_wp2
      go_ret
      exact ⟨ret_int HF.out.symm, HB.out⟩

/-- a house number as a value -/
def letS (l : List UInt8) : ByteArray := ⟨l.toArray⟩
def hval (h : HN) : Value := .agg #[.int .i64 h.n, .string ⟨h.l.toArray⟩, .int .i64 h.num, .int .i64 h.den]

theorem isEmpty_size (s : ByteArray) : s.toList.isEmpty = decide (s.size = 0) := by
  rw [← decide_eq_emptyBytes]
  congr 1
  apply propext
  constructor
  · rintro rfl; rfl
  · intro h
    apply ByteArray.ext
    apply Array.ext'
    have : s.data.toList.length = 0 := by simpa using h
    rw [List.length_eq_zero_iff] at this
    rw [this]; rfl
theorem list_one (s : ByteArray) (h : s.size = 1) : s.data.toList = [s[0]] := by
  have hl : s.data.toList.length = 1 := by simpa using h
  obtain ⟨c, hc⟩ := List.length_eq_one_iff.1 hl
  have : s[0] = s.data.toList[0]'(by omega) := rfl
  rw [this]
  simp [hc]
set_option maxHeartbeats 2000000 in
theorem letter_any (s : ByteArray) (w : World) (hs : s.size ≤ maxLen) : Calls Tryz.prog 153 #[.string s] w fun e w' => e = .returned (.bool (letterB s.data.toList)) ∧ w = w' := by
  unfold maxLen at hs
  have hl : s.data.toList.length = s.size := by simp
  have he := isEmpty_size s
  rcases Nat.lt_or_ge 0 s.size with h0 | h0
  · rw [decide_eq_false (by omega)] at he
    rcases Nat.lt_or_ge 1 s.size with h1 | h1
    · have HF : Hid (letterB s.data.toList = false) := by
        show _ = _
        rw [← Bool.not_eq_true, letterB_iff]
        rintro (e | ⟨c, e, _⟩)
        · rw [e] at hl; simp at hl; omega
        · rw [e] at hl; simp at hl; omega
      have hs1 : ((s.size : Int) == 1) = false := by simp; omega
      clear hl
      go_enter Tryz.func153, Tryz.ntmps153
      go_wp2
      go_ret
      exact ⟨ret_bool HF.out.symm, rfl⟩
    · have h2 : s.size = 1 := by omega
      have hd := list_one s h2
      have HF : Hid (letterB s.data.toList = (decide ((97 : Int) ≤ (s[0].toNat : Int)) && decide ((s[0].toNat : Int) ≤ (122 : Int)))) := by
        show _ = _
        rw [hd, Bool.eq_iff_iff, letterB_iff]
        simp only [Bool.and_eq_true, decide_eq_true_eq]
        constructor
        · rintro (e | ⟨c, e, c1, c2⟩)
          · cases e
          · injection e with e; subst e; exact ⟨by omega, by omega⟩
        · rintro ⟨c1, c2⟩
          exact .inr ⟨_, rfl, by omega, by omega⟩
      have hs1 : ((s.size : Int) == 1) = true := by simp; omega
      clear hl hd h2
      by_cases c1 : (97 : Int) ≤ (s[0].toNat : Int) <;> by_cases c2 : (s[0].toNat : Int) ≤ (122 : Int)
      all_goals
        first
        | (exfalso; omega)
        | (go_enter Tryz.func153, Tryz.ntmps153
           go_wp2
           go_ret
           exact ⟨ret_bool (by rw [HF.out]; simp [c1, c2]), rfl⟩)
  · rw [decide_eq_true (by omega)] at he
    have HF : Hid (letterB s.data.toList = true) := by
      have : s.data.toList = [] := List.length_eq_zero_iff.1 (by omega)
      show _ = _
      rw [this]; rfl
    clear hl
    go_enter Tryz.func153, Tryz.ntmps153
    go_wp2
    go_ret
    exact ⟨ret_bool HF.out.symm, rfl⟩
end Go.Proofs.YtdcafoekbnacnaaGreatDoor

/- Walks of package number: Valid. -/
set_option linter.unusedVariables false
set_option linter.unusedSimpArgs false
namespace Go.Proofs.YtdcafoekbnacnaaGreatDoor
open Go.RowKit

def hCells (h : HN) : Array Value := #[.int .i64 h.n, .string ⟨h.l.toArray⟩, .int .i64 h.num, .int .i64 h.den]
structure HBox (wc : World) (b : Nat) (h : HN) : Prop where
  blk : Blk wc b 93 (hCells h)
theorem HBox.facts {wc : World} {b : Nat} {h : HN} (H : HBox wc b h) : wc.cell? ⟨b, 0, none⟩ = some (.int .i64 h.n) ∧ wc.cell? ⟨b, 1, none⟩ = some (.string ⟨h.l.toArray⟩) ∧ wc.cell? ⟨b, 2, none⟩ = some (.int .i64 h.num) ∧ wc.cell? ⟨b, 3, none⟩ = some (.int .i64 h.den) :=
  ⟨H.blk.cell 0, H.blk.cell 1, H.blk.cell 2, H.blk.cell 3⟩
theorem HBox.below {w w' : World} {b B : Nat} {h : HN} (H : HBox w b h) (hb : Below B w w') (hB : b < B) : HBox w' b h := ⟨H.blk.below hb hB⟩
theorem HBox.new (w : World) (h : HN) : HBox (w.alloc (.cells #[.int .i64 h.n, .string ⟨h.l.toArray⟩, .int .i64 h.num, .int .i64 h.den] 93)) w.heap.size h := ⟨Blk.new w _ _⟩

def HN.fit (h : HN) : Prop := (ByteArray.mk h.l.toArray).size ≤ maxLen
theorem valid_f1 {h : HN} (h1 : ¬ 1 ≤ h.n) : h.valid = false := by unfold HN.valid; simp [h1]
theorem valid_f2 {h : HN} (h1 : ¬ h.n ≤ 9999) : h.valid = false := by unfold HN.valid; simp [h1]
theorem valid_f3 {h : HN} (h1 : letterB h.l = false) : h.valid = false := by unfold HN.valid; simp [h1]
theorem valid_t {h : HN} (h1 : 1 ≤ h.n) (h2 : h.n ≤ 9999) (h3 : letterB h.l = true) : h.valid = decide (0 ≤ place (h.num, h.den)) := by unfold HN.valid; simp [h1, h2, h3]

set_option maxHeartbeats 2000000 in
theorem Valid_any (h : HN) (w : World) (hl : h.fit) : Calls Tryz.prog 133 #[hval h] w fun e w' => e = .returned (.bool h.valid) ∧ Below w.heap.size w w' := by
  have HB := hide (HBox.new w h)
  have HB0 := hide ((Below.refl w.heap.size w).alloc (Nat.le_refl _) (.cells #[.int .i64 h.n, .string ⟨h.l.toArray⟩, .int .i64 h.num, .int .i64 h.den] 93))
  have HL := hide hl
  clear hl
  by_cases h1 : 1 ≤ h.n
  · by_cases h2 : h.n ≤ 9999
    · cases h3 : letterB h.l
      · have HV := hide (valid_f3 h3)
        go_enter Tryz.func133, Tryz.ntmps133
        unfold hval
        go_wp2_with fail
        refine (letter_any ⟨h.l.toArray⟩ _ HL.out).mono ?_
        rintro e w1 ⟨rfl, rfl⟩
        rw [show letterB (ByteArray.mk h.l.toArray).data.toList = false from h3]
        go_wp2_with fail
        go_ret
        exact ⟨ret_bool HV.out.symm, HB0.out⟩
      · have HV := hide (valid_t h1 h2 h3)
        go_enter Tryz.func133, Tryz.ntmps133
        unfold hval
        go_wp2_with fail
        refine (letter_any ⟨h.l.toArray⟩ _ HL.out).mono ?_
        rintro e w1 ⟨rfl, rfl⟩
        rw [show letterB (ByteArray.mk h.l.toArray).data.toList = true from h3]
        go_wp2_with fail
        refine (place_any h.num h.den _).mono ?_
        rintro e w2 ⟨rfl, hb⟩
        have HB2 := hide (HB0.out.trans (hb.mono HB0.out.size))
        clear hb
        generalize place (h.num, h.den) = p at HV ⊢
        by_cases hp : 0 ≤ p
        all_goals
          go_wp2_with fail
          go_ret
          exact ⟨ret_bool (by rw [HV.out]; try simp [hp]), HB2.out⟩
    · have HV := hide (valid_f2 h2)
      go_enter Tryz.func133, Tryz.ntmps133
      unfold hval
      go_wp2_with fail
      go_ret
      exact ⟨ret_bool HV.out.symm, HB0.out⟩
  · have HV := hide (valid_f1 h1)
    go_enter Tryz.func133, Tryz.ntmps133
    unfold hval
    go_wp2_with fail
    go_ret
    exact ⟨ret_bool HV.out.symm, HB0.out⟩

end Go.Proofs.YtdcafoekbnacnaaGreatDoor

/- The plain side of layer 22: texts of house numbers, and what Parse reads in them. -/
set_option linter.unusedVariables false
set_option linter.unusedSimpArgs false
namespace Go.Proofs.YtdcafoekbnacnaaGreatDoor
open Go

def lowers : List UInt8 := [97, 98, 99, 100, 101, 102, 103, 104, 105, 106, 107, 108, 109, 110, 111, 112, 113, 114, 115, 116, 117, 118, 119, 120, 121, 122]
def atoiV (l : List UInt8) : Int := match Lib.atoiAll l with | .ok v => v | .range => Lib.atoiSat l | _ => 0
def fracP (h : HN) : List UInt8 := if 0 < h.den then [32] ++ Lib.itoa h.num ++ [47] ++ Lib.itoa h.den else []
def textP (h : HN) : List UInt8 := Lib.itoa h.n ++ h.l ++ fracP h
def candP (t : List UInt8) : HN :=
  { n := atoiV (Lib.trimRightS (Lib.cut t [32]).1 lowers), l := (Lib.cut t [32]).1.drop (Lib.trimRightS (Lib.cut t [32]).1 lowers).length,
    num := if (Lib.cut (Lib.cut t [32]).2.1 [47]).2.2 then atoiV (Lib.cut (Lib.cut t [32]).2.1 [47]).1 else 0,
    den := if (Lib.cut (Lib.cut t [32]).2.1 [47]).2.2 then atoiV (Lib.cut (Lib.cut t [32]).2.1 [47]).2.1 else 0 }
def parseP (t : List UInt8) : Option HN := if (candP t).valid && decide (textP (candP t) = t) then some (candP t) else none

/-! digits -/
def isDg (c : UInt8) : Prop := 48 ≤ c.toNat ∧ c.toNat ≤ 57
theorem ofNat_dg {d : Nat} (h : d < 10) : (UInt8.ofNat (48 + d)).toNat = 48 + d := by simp; omega
theorem dec_dg : ∀ (u : Nat), ∀ c ∈ Lib.decDigits u, isDg c := by
  intro u
  induction u using Nat.strongRecOn with
  | ind u ih =>
    intro c hc
    rw [Lib.decDigits] at hc
    split at hc
    · rename_i h
      simp only [List.mem_cons, List.not_mem_nil, or_false] at hc
      subst hc
      unfold isDg
      rw [ofNat_dg h]; omega
    · rename_i h
      rcases List.mem_append.1 hc with hc | hc
      · exact ih (u / 10) (by omega) c hc
      · simp only [List.mem_cons, List.not_mem_nil, or_false] at hc
        subst hc
        unfold isDg
        rw [ofNat_dg (by omega)]; omega
theorem dec_ne (u : Nat) : Lib.decDigits u ≠ [] := by
  rw [Lib.decDigits]
  split <;> simp
def val (acc : Nat) (l : List UInt8) : Nat := l.foldl (fun a c => a * 10 + (c.toNat - 48)) acc
theorem val_snoc (acc : Nat) (l : List UInt8) (c : UInt8) : val acc (l ++ [c]) = val acc l * 10 + (c.toNat - 48) := by simp [val]
theorem val_le : ∀ (l : List UInt8) (acc : Nat), acc ≤ val acc l
  | [], acc => Nat.le_refl _
  | c :: r, acc => by
    have := val_le r (acc * 10 + (c.toNat - 48))
    show acc ≤ val (acc * 10 + (c.toNat - 48)) r
    omega
theorem val_dec : ∀ u : Nat, val 0 (Lib.decDigits u) = u := by
  intro u
  induction u using Nat.strongRecOn with
  | ind u ih =>
    rw [Lib.decDigits]
    split
    · rename_i h
      simp only [val, List.foldl_cons, List.foldl_nil]
      rw [ofNat_dg h]; omega
    · rename_i h
      rw [val_snoc, ih (u / 10) (by omega), ofNat_dg (by omega)]; omega
theorem parse_dg : ∀ (l : List UInt8) (acc : Nat), (∀ c ∈ l, isDg c) → val acc l < 1000000000000000000 → Lib.parseUint10 acc l = .ok (val acc l)
  | [], acc, _, _ => rfl
  | c :: r, acc, hd, hv => by
    obtain ⟨h1, h2⟩ := hd c (by simp)
    have hv' : val (acc * 10 + (c.toNat - 48)) r < 1000000000000000000 := hv
    have := val_le r (acc * 10 + (c.toNat - 48))
    rw [Lib.parseUint10, if_pos ⟨h1, h2⟩, if_neg (by omega), if_neg (by omega), parse_dg r _ (fun c' hc' => hd c' (by simp [hc'])) hv']
    rfl
theorem atoi_dec {u : Nat} (h : u < 1000000000000000000) : Lib.atoiAll (Lib.decDigits u) = .ok (u : Int) := by
  have hd := dec_dg u
  have hne := dec_ne u
  have hv := val_dec u
  have hp := parse_dg (Lib.decDigits u) 0 hd (by omega)
  rw [hv] at hp
  cases hl : Lib.decDigits u with
  | nil => exact absurd hl hne
  | cons c r =>
    rw [hl] at hd hp
    obtain ⟨h1, h2⟩ := hd c (by simp)
    unfold Lib.atoiAll Lib.parseMag
    simp only
    rw [if_neg (show ¬ (c.toNat = 43 ∨ c.toNat = 45) by omega), if_neg (by simp), hp]
    simp only
    rw [if_neg (by omega), if_neg (by omega), if_neg (by omega)]
theorem itoa_dec {n : Int} (h : 0 ≤ n) : Lib.itoa n = Lib.decDigits n.toNat := by unfold Lib.itoa; rw [if_neg (by omega)]
theorem atoiV_itoa {n : Int} (h : 0 ≤ n) (h' : n ≤ 9999) : atoiV (Lib.itoa n) = n := by
  unfold atoiV
  rw [itoa_dec h, atoi_dec (by omega)]
  simp only; omega

/-! cuts -/
theorem index_no {b : UInt8} : ∀ {l : List UInt8}, b ∉ l → Lib.index l [b] = -1
  | [], _ => rfl
  | c :: r, h => by
    simp only [List.mem_cons, not_or] at h
    rw [Lib.index, if_neg (by simp [List.isPrefixOf, h.1]), index_no h.2]
    rfl
theorem index_at {b : UInt8} : ∀ {l : List UInt8} (r : List UInt8), b ∉ l → Lib.index (l ++ b :: r) [b] = l.length
  | [], r, _ => by rw [List.nil_append, Lib.index, if_pos (by simp [List.isPrefixOf])]; rfl
  | c :: l, r, h => by
    simp only [List.mem_cons, not_or] at h
    have ih := index_at r h.2
    rw [List.cons_append, Lib.index, if_neg (by simp [List.isPrefixOf, h.1]), ih, if_neg (by simp)]
    simp
theorem cut_no {b : UInt8} {l : List UInt8} (h : b ∉ l) : Lib.cut l [b] = (l, [], false) := by
  unfold Lib.cut
  rw [index_no h, if_neg (by omega)]
theorem cut_at {b : UInt8} {l : List UInt8} (r : List UInt8) (h : b ∉ l) : Lib.cut (l ++ b :: r) [b] = (l, r, true) := by
  unfold Lib.cut
  rw [index_at r h, if_pos (by omega)]
  have e : (l.length : Int).toNat = l.length := by simp
  rw [e]
  simp
theorem trim_at {l m cs : List UInt8} (hl : l ≠ []) (h1 : ∀ c ∈ l, cs.contains c = false) (h2 : ∀ c ∈ m, cs.contains c = true) : Lib.trimRightS (l ++ m) cs = l := by
  unfold Lib.trimRightS
  rw [List.reverse_append]
  have h3 : ∀ (p q : List UInt8), (∀ c ∈ p, cs.contains c = true) → (p ++ q).dropWhile (cs.contains ·) = q.dropWhile (cs.contains ·) := by
    intro p
    induction p with
    | nil => intro q _; rfl
    | cons c p ih =>
      intro q hp
      rw [List.cons_append, List.dropWhile_cons_of_pos (hp c (by simp))]
      exact ih q fun c' hc' => hp c' (by simp [hc'])
  rw [h3 _ _ (fun c hc => h2 c (by simpa using hc))]
  cases hr : l.reverse with
  | nil => simp at hr; exact absurd hr hl
  | cons c p =>
    have hc : c ∈ l := by
      have : c ∈ l.reverse := by rw [hr]; simp
      simpa using this
    rw [List.dropWhile_cons_of_neg (by rw [h1 c hc]; simp)]
    rw [← hr, List.reverse_reverse]

theorem dg_not {l : List UInt8} (h : ∀ c ∈ l, isDg c) {b : UInt8} (hb : b.toNat < 48 ∨ 57 < b.toNat) : b ∉ l := fun hm => by
  obtain ⟨h1, h2⟩ := h b hm
  omega
theorem lowers_nat : ∀ k : Nat, k < 256 → lowers.contains (UInt8.ofNat k) = (decide (97 ≤ k) && decide (k ≤ 122)) := by decide +kernel
theorem lowers_iff (c : UInt8) : lowers.contains c = (decide (97 ≤ c.toNat) && decide (c.toNat ≤ 122)) := by
  have := lowers_nat c.toNat c.toNat_lt
  rwa [UInt8.ofNat_toNat] at this
theorem itoa_dg {n : Int} (h : 0 ≤ n) : (∀ c ∈ Lib.itoa n, isDg c) ∧ Lib.itoa n ≠ [] := by rw [itoa_dec h]; exact ⟨dec_dg _, dec_ne _⟩

/-- Parse reads a valid number's text as it was written -/
theorem cand_text {a : HN} (ha : a.valid = true) : candP (textP a) = a := by
  obtain ⟨h1, h2, h3, h4⟩ := (valid_iff a).1 ha
  obtain ⟨d1, d2, d3, d4, d5⟩ := place_den h4
  simp only at d1 d2 d3 d4 d5
  obtain ⟨nd, nn⟩ := itoa_dg (n := a.n) (by omega)
  have hl : (∀ c ∈ a.l, lowers.contains c = true) ∧ (32 : UInt8) ∉ a.l := by
    rcases (letterB_iff a.l).1 h3 with e | ⟨c, e, c1, c2⟩
    · rw [e]; simp
    · rw [e]
      refine ⟨fun c' hc' => ?_, fun hm => ?_⟩
      · simp only [List.mem_cons, List.not_mem_nil, or_false] at hc'
        subst hc'
        rw [lowers_iff]; simp [c1, c2]
      · simp only [List.mem_cons, List.not_mem_nil, or_false] at hm
        subst hm
        simp at c1
  have hfr : (32 : UInt8) ∉ Lib.itoa a.n ++ a.l := by
    simp only [List.mem_append, not_or]
    exact ⟨dg_not nd (.inl (by decide)), hl.2⟩
  have htr : Lib.trimRightS (Lib.itoa a.n ++ a.l) lowers = Lib.itoa a.n := trim_at nn (fun c hc => by
    obtain ⟨c1, c2⟩ := nd c hc
    rw [lowers_iff]
    simp; omega) hl.1
  have hcut : Lib.cut (textP a) [32] = (Lib.itoa a.n ++ a.l, (if 0 < a.den then Lib.itoa a.num ++ 47 :: Lib.itoa a.den else []), decide (0 < a.den)) := by
    unfold textP fracP
    by_cases hd : 0 < a.den
    · simp only [if_pos hd]
      have e : Lib.itoa a.n ++ a.l ++ ([32] ++ Lib.itoa a.num ++ [47] ++ Lib.itoa a.den) = (Lib.itoa a.n ++ a.l) ++ 32 :: (Lib.itoa a.num ++ 47 :: Lib.itoa a.den) := by simp
      rw [e, cut_at _ hfr]
      simp [hd]
    · simp only [if_neg hd, List.append_nil]
      rw [cut_no hfr]
      simp [hd]
  unfold candP
  rw [hcut]
  simp only [htr]
  have e1 := atoiV_itoa (n := a.n) (by omega) h2
  have e2 : (Lib.itoa a.n ++ a.l).drop (Lib.itoa a.n).length = a.l := by simp
  rw [e1, e2]
  by_cases hd : 0 < a.den
  · simp only [if_pos hd]
    rw [cut_at _ (dg_not (itoa_dg d4).1 (.inl (by decide)))]
    simp only [if_true]
    rw [atoiV_itoa d4 (by omega), atoiV_itoa d2 (by omega)]
  · simp only [if_neg hd]
    have e0 : a.den = 0 := by omega
    have e3 : Lib.cut [] [47] = ([], [], false) := cut_no (by simp)
    rw [e3]
    simp only [Bool.false_eq_true, if_false]
    have hp := place_inj (p := (a.num, a.den)) (q := (0, 0)) h4 (by rw [p00]; exact d1.1 e0)
    simp only [Prod.mk.injEq] at hp
    cases a
    simp only [HN.mk.injEq, true_and]
    exact ⟨hp.1.symm, hp.2.symm⟩
theorem parse_text {a : HN} (ha : a.valid = true) : parseP (textP a) = some a := by
  unfold parseP
  rw [cand_text ha, ha]
  simp
theorem parse_some {t : List UInt8} {a : HN} (h : parseP t = some a) : a.valid = true ∧ textP a = t := by
  unfold parseP at h
  split at h
  · rename_i hc
    injection h with h
    subst h
    simpa using hc
  · cases h
end Go.Proofs.YtdcafoekbnacnaaGreatDoor

/- Walks of package number: Text. -/
set_option linter.unusedVariables false
set_option linter.unusedSimpArgs false
namespace Go.Proofs.YtdcafoekbnacnaaGreatDoor
open Go.RowKit

theorem Glob.below {w w' : World} {B : Nat} (h : Glob w) (hb : Below B w w') (hB : w.heap.size ≤ B) : Glob w' := h.belowB hb (Nat.le_trans h.top hB)
theorem dec_len (u : Nat) : (Lib.decDigits u).length ≤ u + 1 := by
  induction u using Nat.strongRecOn with
  | ind u ih =>
    rw [Lib.decDigits]
    split
    · simp
    · have := ih (u / 10) (by omega)
      simp; omega
theorem itoa_len {n : Int} (h : 0 ≤ n) (h' : n ≤ 9999) : (Lib.itoa n).length ≤ 10000 := by
  rw [itoa_dec h]
  have := dec_len n.toNat
  omega
def HN.short (h : HN) : Prop := (bs h.l).size ≤ maxLen
theorem letter_size {l : List UInt8} (h : letterB l = true) : (ByteArray.mk l.toArray).size ≤ 1 := by
  show l.toArray.size ≤ 1
  rcases (letterB_iff l).1 h with rfl | ⟨c, rfl, _⟩ <;> simp
theorem bs_fit {h : HN} (h1 : 1 ≤ h.n) (h2 : h.n ≤ 9999) (hl : letterB h.l = true) : (bs (Lib.itoa h.n)).size + (ByteArray.mk h.l.toArray).size ≤ 10001 := by
  have := itoa_len (n := h.n) (by omega) h2
  have := letter_size hl
  rw [bs_size]
  omega
theorem bs_fit' {h : HN} (h1 : 1 ≤ h.n) (h2 : h.n ≤ 9999) (hl : letterB h.l = true) : (bs (Lib.itoa h.n)).size + h.l.length ≤ 10001 := by
  have := bs_fit h1 h2 hl
  have e : (ByteArray.mk h.l.toArray).size = h.l.length := bs_size h.l
  omega
theorem itoa_size {n : Int} (h : 0 ≤ n) (h' : n ≤ 9999) : (bs (Lib.itoa n)).size ≤ 10000 := by rw [bs_size]; exact itoa_len h h'
theorem ret_str {a b : ByteArray} {c : Value} (h : a = b) : Ending.returned (.tuple #[.string a, c]) = .returned (.tuple #[.string b, c]) := by rw [h]
set_option maxHeartbeats 4000000 in
theorem Text_any (h : HN) (w : World) (hl : h.fit) (hg : Glob w) : Calls Tryz.prog 104 #[hval h] w fun e w' => e = .returned (.tuple #[.string (if h.valid then bs (textP h) else bs []), .int .i64 (if h.valid then 0 else 1)]) ∧ Below w.heap.size w w' := by
  have HB := hide (HBox.new w h)
  have HB0 := hide ((Below.refl w.heap.size w).alloc (Nat.le_refl _) (.cells #[.int .i64 h.n, .string ⟨h.l.toArray⟩, .int .i64 h.num, .int .i64 h.den] 93))
  have HL := hide hl
  clear hl
  cases h1 : h.valid
  · have H1 := hide h1
    clear h1
    simp only [Bool.false_eq_true, if_false]
    go_enter Tryz.func104, Tryz.ntmps104
    unfold hval
    go_wp2_with fail
    refine (Valid_any h _ HL.out).mono ?_
    rintro e w1 ⟨rfl, hb⟩
    have HB1 := hide (HB0.out.trans (hb.mono HB0.out.size))
    clear hb
    rw [H1.out]
    go_wp2_with fail
    go_ret2
    exact ⟨rfl, HB1.out⟩
  · obtain ⟨n1, n2, l1, p1⟩ := (valid_iff h).1 h1
    obtain ⟨d1, d2, d3, d4, d5⟩ := place_den p1
    have H1 := hide h1
    have HP := hide (And.intro l1 d1)
    clear h1 l1 d1 p1
    simp only [if_true]
    go_enter Tryz.func104, Tryz.ntmps104
    unfold hval
    go_wp2_with fail
    refine (Valid_any h _ HL.out).mono ?_
    rintro e w1 ⟨rfl, hb⟩
    have HB1 := hide (HB0.out.trans (hb.mono HB0.out.size))
    have HX1 := hide (HB.out.below hb (by simp))
    have HG1 := hide (hg.below HB1.out (Nat.le_refl _))
    have HS1 : Hid (w.heap.size < w1.heap.size) := by have := hb.size; simp at this; exact this
    clear hb
    rw [H1.out]
    go_wp2_with fail
    obtain ⟨U, hU, g, hgu, hi⟩ := the_class (fun w' => Below w1.heap.size w1 w') (Below.refl w1.heap.size w1)
    have q0 := fun u => (HX1.out.below (hgu u) HS1.out).facts.1
    have q1 := fun u => (HX1.out.below (hgu u) HS1.out).facts.2.1
    have z1 : ¬ 9223372036854775807 < (bs (Lib.itoa h.n)).size + (ByteArray.mk h.l.toArray).size := by have := bs_fit n1 n2 HP.out.1; omega
    refine wp_region_class g (by kernel_rfl) (by kernel_rfl) (hi _ (Below.refl w1.heap.size w1).drew) ?_
    repeat (go_big_quiet_step (first
      | exact class_call hi ((Itoa_any _ (by omega) (by omega) _ (HG1.out.below (hgu _) (Nat.le_refl _))).mono (fun _ _ h => ⟨h.1, (hgu _).trans (h.2.mono (hgu _).size)⟩))))
    refine wpQuiet_nil ?_
    intro w2 hw2
    obtain ⟨u, rfl⟩ := hw2
    have HB2 := hide (HB1.out.trans ((hgu u).mono HB1.out.size))
    have HX2 := hide (HX1.out.below (hgu u) HS1.out)
    have HG2 := hide (HG1.out.below (hgu u) (Nat.le_refl _))
    have HS2 : Hid (w.heap.size < (g u).heap.size) := by have := (hgu u).size; have := HS1.out; simp only [Hid]; omega
    clear q0 q1 hi HB1 HX1 HG1 HS1 hgu z1
    obtain ⟨_, _, c2, c3⟩ := HX2.out.facts
    generalize g u = w2 at *
    clear g
    by_cases hd : 0 < h.den
    · have HV : Hid (textP h = Lib.itoa h.n ++ h.l ++ ([32] ++ Lib.itoa h.num ++ [47] ++ Lib.itoa h.den)) := by show _ = _; unfold textP fracP; rw [if_pos hd]
      go_wp2_with fail
      obtain ⟨U, hU, g, hgu, hi⟩ := the_class (fun w' => Below w2.heap.size w2 w') (Below.refl w2.heap.size w2)
      have q0 := fun u => (HX2.out.below (hgu u) HS2.out).facts.2.2.1
      have q1 := fun u => (HX2.out.below (hgu u) HS2.out).facts.2.2.2
      have z1 : (bs (Lib.itoa h.n)).size + h.l.length ≤ 10001 := bs_fit' n1 n2 HP.out.1
      have z2 := itoa_size d4 (by omega)
      have z3 := itoa_size d2 (by omega)
      refine wp_region_class g (by kernel_rfl) (by kernel_rfl) (hi _ (Below.refl w2.heap.size w2).drew) ?_
      repeat (go_big_quiet_step (first
        | exact class_call hi ((Itoa_any _ (by omega) (by omega) _ (HG2.out.below (hgu _) (Nat.le_refl _))).mono (fun _ _ h => ⟨h.1, (hgu _).trans (h.2.mono (hgu _).size)⟩))))
      refine wpQuiet_nil ?_
      intro w3 hw3
      obtain ⟨u, rfl⟩ := hw3
      have HB3 := hide (HB2.out.trans ((hgu u).mono HB2.out.size))
      clear q0 q1 hi HB2 HX2 HG2 HS2 hgu z1 z2 z3
      generalize g u = w3 at *
      clear g
      go_wp2_with fail
      go_ret2
      refine ⟨?_, HB3.out⟩
      refine ret_str ?_
      rw [HV.out]
      simp only [← bs_app]
      rfl
    · have HV : Hid (textP h = Lib.itoa h.n ++ h.l) := by show _ = _; unfold textP fracP; rw [if_neg hd]; simp
      go_wp2_with fail
      go_ret2
      refine ⟨?_, HB2.out⟩
      refine ret_str ?_
      rw [HV.out]
      simp only [← bs_app]
      rfl
end Go.Proofs.YtdcafoekbnacnaaGreatDoor

/- Walks of package number: Parse. -/
set_option linter.unusedVariables false
set_option linter.unusedSimpArgs false
namespace Go.Proofs.YtdcafoekbnacnaaGreatDoor
open Go.RowKit Go.Shelf

theorem hNew2 (w : World) (a b : HN) : HBox ((w.alloc (.cells #[.int .i64 a.n, .string ⟨a.l.toArray⟩, .int .i64 a.num, .int .i64 a.den] 93)).alloc (.cells #[.int .i64 b.n, .string ⟨b.l.toArray⟩, .int .i64 b.num, .int .i64 b.den] 93)) w.heap.size a ∧
    HBox ((w.alloc (.cells #[.int .i64 a.n, .string ⟨a.l.toArray⟩, .int .i64 a.num, .int .i64 a.den] 93)).alloc (.cells #[.int .i64 b.n, .string ⟨b.l.toArray⟩, .int .i64 b.num, .int .i64 b.den] 93)) (w.heap.size + 1) b := by
  refine ⟨(HBox.new w a).below (Below.alloc (Below.refl _ _) (Nat.le_refl _) _) (by simp), ?_⟩
  have := HBox.new (w.alloc (.cells #[.int .i64 a.n, .string ⟨a.l.toArray⟩, .int .i64 a.num, .int .i64 a.den] 93)) b
  simpa using this
theorem Atoi_any (l : List UInt8) (hl : l.length ≤ 100000) (w : World) (hg : Glob w) : Calls Tryz.prog 103 #[.string (bs l)] w fun e w' => ∃ err, e = .returned (.tuple #[.int .i64 (atoiV l), err]) ∧ Below w.heap.size w w' := by
  have hs := bs_size l
  cases h : Lib.atoiAll l with
  | ok v =>
    refine (Tryz.strconv_Atoi_ok (bs l) (by omega) v (by rw [bs_list]; exact h) w).mono ?_
    rintro e w' ⟨rfl, hw⟩
    refine ⟨.nilIface, by unfold atoiV; rw [h], ?_⟩
    rcases hw with rfl | ⟨t, rfl⟩
    · exact Below.refl _ _
    · exact Lib.bytesWorld_below _ _ _
  | range =>
    obtain ⟨ev, h1, h2⟩ := hg.rng
    refine (Tryz.strconv_Atoi_range (bs l) (by omega) (by rw [bs_list]; exact h) ev w h1 h2).mono ?_
    rintro e w' ⟨N, rfl, _, _, hb⟩
    exact ⟨_, by unfold atoiV; rw [h, bs_list], hb⟩
  | _ =>
    obtain ⟨ev, h1, h2⟩ := hg.syn
    refine (Tryz.strconv_Atoi_bad (bs l) (by omega) (by rw [bs_list, h]; simp) (by rw [bs_list, h]; simp) ev w h1 h2).mono ?_
    rintro e w' ⟨N, rfl, _, _, hb⟩
    exact ⟨_, by unfold atoiV; rw [h], hb⟩
theorem Cut_any (l s : List UInt8) (hl : l.length ≤ 100000) (w : World) (hg : Glob w) : Calls Tryz.prog 101 #[.string (bs l), .string (bs s)] w fun e w' => e = .returned (.tuple #[.string (bs (Lib.cut l s).1), .string (bs (Lib.cut l s).2.1), .bool (Lib.cut l s).2.2]) ∧ Below w.heap.size w w' := by
  have hs := bs_size l
  obtain ⟨m, hm⟩ := hg.len
  refine (Tryz.strings_Cut (bs l) (bs s) m w (by omega) hm).mono ?_
  rintro e w' ⟨rfl, n, rfl⟩
  refine ⟨?_, below_drewN (Below.refl _ _) n⟩
  rw [bs_list, bs_list]; rfl
theorem Trim_any (l : List UInt8) (hl : l.length ≤ 100000) (w : World) : Calls Tryz.prog 102 #[.string (bs l), .string (bs lowers)] w fun e w' => e = .returned (.string (bs (Lib.trimRightS l lowers))) ∧ Below w.heap.size w w' := by
  have hs := bs_size l
  refine (Any.strings_TrimRight_laid Tryz.lays162 (by kernel_rfl) (bs l) (bs lowers) w (by omega) (by rw [bs_size]; decide) (fun j b h => ?_)).mono ?_
  · rw [bs_list] at h
    have : b ∈ lowers := List.mem_of_getElem? h
    have h2 := lowers_iff b
    rw [List.contains_iff_mem.2 this] at h2
    have h3 := h2.symm
    simp only [Bool.and_eq_true, decide_eq_true_eq] at h3
    omega
  · rintro e w' ⟨rfl, hb⟩
    rw [bs_list, bs_list]
    exact ⟨rfl, hb⟩
theorem cut_len (l s : List UInt8) : (Lib.cut l s).1.length ≤ l.length ∧ (Lib.cut l s).2.1.length ≤ l.length := by
  unfold Lib.cut
  split <;> simp
  omega
theorem trim_pre (l cs : List UInt8) : Lib.trimRightS l cs <+: l := by
  unfold Lib.trimRightS
  have h := List.dropWhile_suffix (fun c => cs.contains c) (l := l.reverse)
  have := List.reverse_prefix.2 h
  simpa using this
theorem Glob.below8 {w w' : World} {B : Nat} (h : Glob w) (hb : Below B w w') (hB : Tryz.prog.globals.size ≤ B) : Glob w' := h.belowB hb hB
def outP (t : List UInt8) : HN := (parseP t).getD ⟨0, [], 0, 0⟩
def errP (t : List UInt8) : Int := if (parseP t).isSome then 0 else 5
theorem results_cell_tmp {P : Program} {fn : Func} {p u : Tmp} {ty : TypeId} (h : fn.results = #[.cell p ty, .tmp u]) (tmps : Array Value) (w : World) (g : Nat) (t : TypeId) (cs : Array Value) (d : TypeDesc)
    (hp : tmps.getD p undef = .pointer (some ⟨g, 0, none⟩)) (hg : Blk w g t cs)
    (hu : P.underlying ty = some d) (hd : (match d with | .struct _ | .array _ _ => true | _ => false) = true) (hi : (P.info? ty).map (·.size) = some cs.size) :
    (results fn tmps).run P w = .ok (.tuple #[.agg cs, tmps.getD u undef]) w := by
  have hp' : tmps[p]?.getD undef = .pointer (some ⟨g, 0, none⟩) := by simpa using hp
  simp [results, h, hp', asAddr, run_loadVar_row w g t ty cs (0, 0) d hg hu hd hi]
theorem ret_hn {a b : HN} {x y : Int} (h : a = b) (h' : x = y) : Ending.returned (.tuple #[.agg (hCells a), .int .i64 x]) = .returned (.tuple #[hval b, .int .i64 y]) := by rw [h, h']; rfl
theorem parse_bad {t : List UInt8} {c : HN} (h : candP t = c) (hv : c.valid = false) : outP t = ⟨0, [], 0, 0⟩ ∧ errP t = 5 := by
  unfold outP errP parseP
  rw [h, hv]; exact ⟨rfl, rfl⟩
theorem parse_ne {t : List UInt8} {c : HN} (h : candP t = c) (hv : c.valid = true) (he : ¬ textP c = t) : outP t = ⟨0, [], 0, 0⟩ ∧ errP t = 5 := by
  unfold outP errP parseP
  rw [h, hv]; simp [he]
theorem parse_ok {t : List UInt8} {c : HN} (h : candP t = c) (hv : c.valid = true) (he : textP c = t) : outP t = c ∧ errP t = 0 := by
  unfold outP errP parseP
  rw [h, hv]; simp [he]
set_option maxHeartbeats 1500000 in
theorem Parse_any (t : List UInt8) (w : World) (ht : t.length ≤ 100000) (hg : Glob w) : Calls Tryz.prog 64 #[.string (bs t)] w fun e w' => e = .returned (.tuple #[hval (outP t), .int .i64 (errP t)]) ∧ Below w.heap.size w w' := by
  have hg8 := hg.top
  have HA := hide (hNew2 w ⟨0, [], 0, 0⟩ ⟨0, [], 0, 0⟩).1
  have HB := hide (hNew2 w ⟨0, [], 0, 0⟩ ⟨0, [], 0, 0⟩).2
  have HB0 := hide (((Below.refl w.heap.size w).alloc (Nat.le_refl _) (.cells #[.int .i64 0, .string (bs []), .int .i64 0, .int .i64 0] 93)).alloc (by simp) (.cells #[.int .i64 0, .string (bs []), .int .i64 0, .int .i64 0] 93))
  go_enter Tryz.func64, Tryz.ntmps64
  obtain ⟨F, R, isR, HC⟩ : ∃ F R isR, Hid (Lib.cut t [32] = (F, R, isR)) := ⟨_, _, _, rfl⟩
  obtain ⟨N, M, isM, HD⟩ : ∃ N M isM, Hid (Lib.cut R [47] = (N, M, isM)) := ⟨_, _, _, rfl⟩
  obtain ⟨D, HT⟩ : ∃ D, Hid (Lib.trimRightS F lowers = D) := ⟨_, rfl⟩
  go_wp2_with fail
  refine (Cut_any t [32] ht _ ((hg.alloc _).alloc _)).mono ?_
  simp only [HC.out]
  rintro e w1 ⟨rfl, hb⟩
  have HB1 := hide (HB0.out.trans (hb.mono HB0.out.size))
  have HX1 := hide (HB.out.below hb (by simp))
  have HY1 := hide (HA.out.below hb (by simp; omega))
  have HG1 := hide (hg.below HB1.out (Nat.le_refl _))
  have HS1 : Hid (w.heap.size + 1 < w1.heap.size) := by have := hb.size; simp at this; exact this
  have lF : F.length ≤ 100000 := by have := (cut_len t [32]).1; rw [HC.out] at this; simp only at this; omega
  have lR : R.length ≤ 100000 := by have := (cut_len t [32]).2; rw [HC.out] at this; simp only at this; omega
  clear hb hg HA HB HB0
  go_wp2_with fail
  refine (Trim_any F lF _).mono ?_
  simp only [HT.out]
  rintro e w2 ⟨rfl, hb⟩
  have HB2 := hide (HB1.out.trans (hb.mono HB1.out.size))
  have HX2 := hide (HX1.out.below hb HS1.out)
  have HG2 := hide (HG1.out.below hb (Nat.le_refl _))
  have HY2 := hide (HY1.out.below hb (by have := HS1.out; omega))
  have HS2 : Hid (w.heap.size + 1 < w2.heap.size) := by have := hb.size; have := HS1.out; simp only [Hid]; omega
  have lD : D.length ≤ F.length := by have := (trim_pre F lowers).length_le; rw [HT.out] at this; exact this
  clear hb HG1 HX1 HY1 HB1 HS1
  go_wp2_with fail
  refine (Atoi_any D (by omega) _ HG2.out).mono ?_
  rintro e w3 ⟨er, rfl, hb⟩
  have HB3 := hide (HB2.out.trans (hb.mono HB2.out.size))
  have HX3 := hide (HX2.out.below hb HS2.out)
  have HG3 := hide (HG2.out.below hb (Nat.le_refl _))
  have HY3 := hide (HY2.out.below hb (by have := HS2.out; omega))
  have HS3 : Hid (w.heap.size + 1 < w3.heap.size) := by have := hb.size; have := HS2.out; simp only [Hid]; omega
  clear hb HG2 HX2 HB2 HS2 HY2
  have lFs := bs_size F
  have lDs := bs_size D
  obtain ⟨c0, c1, _, _⟩ := HX3.out.facts
  have f0 := HX3.out.blk.frozen 0
  have f1 := HX3.out.blk.frozen 1
  have HT0 : Hid (Tryz.prog.globals.size ≤ w.heap.size) := hg8
  go_wp2_with fail
  rw [bs_drop]
  obtain ⟨L, HLL⟩ : ∃ L, Hid (F.drop D.length = L) := ⟨_, rfl⟩
  rw [HLL.out]
  have HX4 := hide (HBox.mk ((HX3.out.blk.set_ 0 (.int .i64 (atoiV D))).set_ 1 (.string (bs L))) : HBox _ _ ⟨atoiV D, L, 0, 0⟩)
  have HY4 := hide (HBox.mk ((HY3.out.blk.far (p := ⟨w.heap.size + 1, 0, none⟩) (by simp) (.int .i64 (atoiV D))).far (p := ⟨w.heap.size + 1, 1, none⟩) (by simp) (.string (bs L))) : HBox _ _ ⟨0, [], 0, 0⟩)
  have HB4 := hide ((HB3.out.setCell (p := ⟨w.heap.size + 1, 0, none⟩) (by simp) (.int .i64 (atoiV D))).setCell (p := ⟨w.heap.size + 1, 1, none⟩) (by simp) (.string (bs L)))
  have HG4 := hide (HG3.out.below8 (((Below.refl w.heap.size w3).setCell (p := ⟨w.heap.size + 1, 0, none⟩) (by simp) (.int .i64 (atoiV D))).setCell (p := ⟨w.heap.size + 1, 1, none⟩) (by simp) (.string (bs L))) HT0.out)
  have HS4 : Hid (w.heap.size + 1 < ((w3.setCell ⟨w.heap.size + 1, 0, none⟩ (.int .i64 (atoiV D))).setCell ⟨w.heap.size + 1, 1, none⟩ (.string (bs L))).heap.size) := by
    have := HX4.out.blk.lt; exact this
  generalize (w3.setCell ⟨w.heap.size + 1, 0, none⟩ (.int .i64 (atoiV D))).setCell ⟨w.heap.size + 1, 1, none⟩ (.string (bs L)) = w4 at *
  clear HX3 HY3 HB3 HG3 HS3 c0 c1 f0 f1
  refine (Cut_any R [47] lR _ HG4.out).mono ?_
  simp only [HD.out]
  rintro e w5 ⟨rfl, hb⟩
  have HB5 := hide (HB4.out.trans (hb.mono HB4.out.size))
  have HX5 := hide (HX4.out.below hb HS4.out)
  have HY5 := hide (HY4.out.below hb (by have := HS4.out; omega))
  have HG5 := hide (HG4.out.below hb (Nat.le_refl _))
  have HS5 : Hid (w.heap.size + 1 < w5.heap.size) := by have := hb.size; have := HS4.out; simp only [Hid]; omega
  have lN : N.length ≤ 100000 := by have := (cut_len R [47]).1; rw [HD.out] at this; simp only at this; omega
  have lM : M.length ≤ 100000 := by have := (cut_len R [47]).2; rw [HD.out] at this; simp only at this; omega
  clear hb HB4 HX4 HY4 HG4 HS4
  have HFT : Hid (∀ a b c, HN.fit ⟨a, L, b, c⟩) := fun a b c => by
    have : (bs L).size = L.length := bs_size L
    have h2 : L.length ≤ F.length := by rw [← HLL.out]; simp
    show (bs L).size ≤ maxLen
    unfold maxLen; omega
  cases isM
  · have HCC : Hid (candP t = ⟨atoiV D, L, 0, 0⟩) := by
      show _ = _
      unfold candP; simp only [HC.out, HD.out, HT.out, HLL.out]; rfl
    have HP0 := hide (parse_bad (t := t) (c := ⟨atoiV D, L, 0, 0⟩))
    have HP1 := hide (parse_ne (t := t) (c := ⟨atoiV D, L, 0, 0⟩))
    have HP2 := hide (parse_ok (t := t) (c := ⟨atoiV D, L, 0, 0⟩))
    obtain ⟨c0, c1, c2, c3⟩ := HX5.out.facts
    go_wp2_with fail
    refine (Text_any ⟨atoiV D, L, 0, 0⟩ _ (HFT.out _ _ _) HG5.out).mono ?_
    rintro e w7 ⟨rfl, hb⟩
    have HB7 := hide (HB5.out.trans (hb.mono HB5.out.size))
    have HX7 := hide (HX5.out.below hb HS5.out)
    have HY7 := hide (HY5.out.below hb (by have := HS5.out; omega))
    have HS7 : Hid (w.heap.size + 1 < w7.heap.size) := by have := hb.size; have := HS5.out; simp only [Hid]; omega
    clear hb HB5 HX5 HY5 HG5 HS5 c0 c1 c2 c3
    obtain ⟨y0, y1, y2, y3⟩ := HY7.out.facts
    have f0 := HY7.out.blk.frozen 0
    have f1 := HY7.out.blk.frozen 1
    have f2 := HY7.out.blk.frozen 2
    have f3 := HY7.out.blk.frozen 3
    cases hv : HN.valid ⟨atoiV D, L, 0, 0⟩
    · have HQ := hide (HP0.out HCC.out hv)
      clear HP0 HP1 HP2 hv
      simp only [Bool.false_eq_true, if_false]
      go_wp2_with fail
      have HZ := hide (HBox.mk ((((HY7.out.blk.set_ 0 (.int .i64 0)).set_ 1 (.string ⟨#[]⟩)).set_ 2 (.int .i64 0)).set_ 3 (.int .i64 0)) : HBox _ _ ⟨0, [], 0, 0⟩)
      have HW := hide ((((HB7.out.setCell (p := ⟨w.heap.size, 0, none⟩) (Nat.le_refl _) (.int .i64 0)).setCell (p := ⟨w.heap.size, 1, none⟩) (Nat.le_refl _) (.string ⟨#[]⟩)).setCell (p := ⟨w.heap.size, 2, none⟩) (Nat.le_refl _) (.int .i64 0)).setCell (p := ⟨w.heap.size, 3, none⟩) (Nat.le_refl _) (.int .i64 0))
      generalize (((w7.setCell ⟨w.heap.size, 0, none⟩ (.int .i64 0)).setCell ⟨w.heap.size, 1, none⟩ (.string ⟨#[]⟩)).setCell ⟨w.heap.size, 2, none⟩ (.int .i64 0)).setCell ⟨w.heap.size, 3, none⟩ (.int .i64 0) = w8 at *
      refine bodyPost_ret (results_cell_tmp rfl _ _ w.heap.size 93 _ _ rfl HZ.out.blk Tryz.underlying93 rfl (by kernel_rfl)) rfl ?_
      exact ⟨ret_hn HQ.out.1.symm HQ.out.2.symm, HW.out⟩
    · simp only [if_true]
      by_cases he : textP ⟨atoiV D, L, 0, 0⟩ = t
      · have HQ := hide (HP2.out HCC.out hv he)
        clear HP0 HP1 HP2 hv
        rw [he]
        obtain ⟨c0, c1, c2, c3⟩ := HX7.out.facts
        go_wp2_with fail
        have HZ := hide (HBox.mk ((((HY7.out.blk.set_ 0 (.int .i64 (atoiV D))).set_ 1 (.string ⟨L.toArray⟩)).set_ 2 (.int .i64 0)).set_ 3 (.int .i64 0)) : HBox _ _ ⟨atoiV D, L, 0, 0⟩)
        have HW := hide ((((HB7.out.setCell (p := ⟨w.heap.size, 0, none⟩) (Nat.le_refl _) (.int .i64 (atoiV D))).setCell (p := ⟨w.heap.size, 1, none⟩) (Nat.le_refl _) (.string ⟨L.toArray⟩)).setCell (p := ⟨w.heap.size, 2, none⟩) (Nat.le_refl _) (.int .i64 0)).setCell (p := ⟨w.heap.size, 3, none⟩) (Nat.le_refl _) (.int .i64 0))
        generalize (((w7.setCell ⟨w.heap.size, 0, none⟩ (.int .i64 (atoiV D))).setCell ⟨w.heap.size, 1, none⟩ (.string ⟨L.toArray⟩)).setCell ⟨w.heap.size, 2, none⟩ (.int .i64 0)).setCell ⟨w.heap.size, 3, none⟩ (.int .i64 0) = w8 at *
        refine bodyPost_ret (results_cell_tmp rfl _ _ w.heap.size 93 _ _ rfl HZ.out.blk Tryz.underlying93 rfl (by kernel_rfl)) rfl ?_
        exact ⟨ret_hn HQ.out.1.symm HQ.out.2.symm, HW.out⟩
      · have HQ := hide (HP1.out HCC.out hv he)
        have hne : bs (textP ⟨atoiV D, L, 0, 0⟩) ≠ bs t := fun h => he (bs_inj h)
        have hnb : ((bs (textP ⟨atoiV D, L, 0, 0⟩)).toList == (bs t).toList) = false := by rw [ByteArray.toList_eq, ByteArray.toList_eq, bs_list, bs_list]; simpa using he
        clear he
        clear HP0 HP1 HP2 hv
        go_wp2_with fail
        have HZ := hide (HBox.mk ((((HY7.out.blk.set_ 0 (.int .i64 0)).set_ 1 (.string ⟨#[]⟩)).set_ 2 (.int .i64 0)).set_ 3 (.int .i64 0)) : HBox _ _ ⟨0, [], 0, 0⟩)
        have HW := hide ((((HB7.out.setCell (p := ⟨w.heap.size, 0, none⟩) (Nat.le_refl _) (.int .i64 0)).setCell (p := ⟨w.heap.size, 1, none⟩) (Nat.le_refl _) (.string ⟨#[]⟩)).setCell (p := ⟨w.heap.size, 2, none⟩) (Nat.le_refl _) (.int .i64 0)).setCell (p := ⟨w.heap.size, 3, none⟩) (Nat.le_refl _) (.int .i64 0))
        generalize (((w7.setCell ⟨w.heap.size, 0, none⟩ (.int .i64 0)).setCell ⟨w.heap.size, 1, none⟩ (.string ⟨#[]⟩)).setCell ⟨w.heap.size, 2, none⟩ (.int .i64 0)).setCell ⟨w.heap.size, 3, none⟩ (.int .i64 0) = w8 at *
        refine bodyPost_ret (results_cell_tmp rfl _ _ w.heap.size 93 _ _ rfl HZ.out.blk Tryz.underlying93 rfl (by kernel_rfl)) rfl ?_
        exact ⟨ret_hn HQ.out.1.symm HQ.out.2.symm, HW.out⟩
  · have HCC : Hid (candP t = ⟨atoiV D, L, atoiV N, atoiV M⟩) := by
      show _ = _
      unfold candP; simp only [HC.out, HD.out, HT.out, HLL.out]; rfl
    go_wp2_with fail
    refine (Atoi_any N lN _ HG5.out).mono ?_
    rintro e w6 ⟨er2, rfl, hb⟩
    have HB6 := hide (HB5.out.trans (hb.mono HB5.out.size))
    have HX6 := hide (HX5.out.below hb HS5.out)
    have HY6 := hide (HY5.out.below hb (by have := HS5.out; omega))
    have HG6 := hide (HG5.out.below hb (Nat.le_refl _))
    have HS6 : Hid (w.heap.size + 1 < w6.heap.size) := by have := hb.size; have := HS5.out; simp only [Hid]; omega
    clear hb HB5 HX5 HY5 HG5 HS5
    obtain ⟨_, _, c2, _⟩ := HX6.out.facts
    have f2 := HX6.out.blk.frozen 2
    go_wp2_with fail
    have HX8 := hide (HBox.mk (HX6.out.blk.set_ 2 (.int .i64 (atoiV N))) : HBox _ _ ⟨atoiV D, L, atoiV N, 0⟩)
    have HY8 := hide (HBox.mk (HY6.out.blk.far (p := ⟨w.heap.size + 1, 2, none⟩) (by simp) (.int .i64 (atoiV N))) : HBox _ _ ⟨0, [], 0, 0⟩)
    have HB8 := hide (HB6.out.setCell (p := ⟨w.heap.size + 1, 2, none⟩) (by simp) (.int .i64 (atoiV N)))
    have HG8 := hide (HG6.out.below8 ((Below.refl w.heap.size w6).setCell (p := ⟨w.heap.size + 1, 2, none⟩) (by simp) (.int .i64 (atoiV N))) HT0.out)
    have HS8 : Hid (w.heap.size + 1 < (w6.setCell ⟨w.heap.size + 1, 2, none⟩ (.int .i64 (atoiV N))).heap.size) := by have := HX8.out.blk.lt; exact this
    generalize w6.setCell ⟨w.heap.size + 1, 2, none⟩ (.int .i64 (atoiV N)) = w8 at *
    clear HX6 HY6 HB6 HG6 HS6 c2 f2
    refine (Atoi_any M lM _ HG8.out).mono ?_
    rintro e w9 ⟨er3, rfl, hb⟩
    have HB9 := hide (HB8.out.trans (hb.mono HB8.out.size))
    have HX9 := hide (HX8.out.below hb HS8.out)
    have HY9 := hide (HY8.out.below hb (by have := HS8.out; omega))
    have HG9 := hide (HG8.out.below hb (Nat.le_refl _))
    have HS9 : Hid (w.heap.size + 1 < w9.heap.size) := by have := hb.size; have := HS8.out; simp only [Hid]; omega
    clear hb HB8 HX8 HY8 HG8 HS8
    obtain ⟨a0, a1, a2, a3⟩ := HX9.out.facts
    have f3 := HX9.out.blk.frozen 3
    have HXb := hide (HBox.mk (HX9.out.blk.set_ 3 (.int .i64 (atoiV M))) : HBox _ _ ⟨atoiV D, L, atoiV N, atoiV M⟩)
    have HYb := hide (HBox.mk (HY9.out.blk.far (p := ⟨w.heap.size + 1, 3, none⟩) (by simp) (.int .i64 (atoiV M))) : HBox _ _ ⟨0, [], 0, 0⟩)
    have HBb := hide (HB9.out.setCell (p := ⟨w.heap.size + 1, 3, none⟩) (by simp) (.int .i64 (atoiV M)))
    have HGb := hide (HG9.out.below8 ((Below.refl w.heap.size w9).setCell (p := ⟨w.heap.size + 1, 3, none⟩) (by simp) (.int .i64 (atoiV M))) HT0.out)
    have HSb : Hid (w.heap.size + 1 < (w9.setCell ⟨w.heap.size + 1, 3, none⟩ (.int .i64 (atoiV M))).heap.size) := by have := HXb.out.blk.lt; exact this
    clear HX9 HY9 HB9 HG9 HS9
    have HP0 := hide (parse_bad (t := t) (c := ⟨atoiV D, L, atoiV N, atoiV M⟩))
    have HP1 := hide (parse_ne (t := t) (c := ⟨atoiV D, L, atoiV N, atoiV M⟩))
    have HP2 := hide (parse_ok (t := t) (c := ⟨atoiV D, L, atoiV N, atoiV M⟩))
    obtain ⟨c0, c1, c2, c3⟩ := HXb.out.facts
    go_wp2_with fail
    refine (Text_any ⟨atoiV D, L, atoiV N, atoiV M⟩ _ (HFT.out _ _ _) HGb.out).mono ?_
    rintro e w7 ⟨rfl, hb⟩
    have HB7 := hide (HBb.out.trans (hb.mono HBb.out.size))
    have HX7 := hide (HXb.out.below hb HSb.out)
    have HY7 := hide (HYb.out.below hb (by have := HSb.out; omega))
    have HS7 : Hid (w.heap.size + 1 < w7.heap.size) := by have := hb.size; have := HSb.out; simp only [Hid]; omega
    clear hb HBb HXb HYb HGb HSb c0 c1 c2 c3
    obtain ⟨y0, y1, y2, y3⟩ := HY7.out.facts
    have f0 := HY7.out.blk.frozen 0
    have f1 := HY7.out.blk.frozen 1
    have f2 := HY7.out.blk.frozen 2
    have f3 := HY7.out.blk.frozen 3
    cases hv : HN.valid ⟨atoiV D, L, atoiV N, atoiV M⟩
    · have HQ := hide (HP0.out HCC.out hv)
      clear HP0 HP1 HP2 hv
      simp only [Bool.false_eq_true, if_false]
      go_wp2_with fail
      have HZ := hide (HBox.mk ((((HY7.out.blk.set_ 0 (.int .i64 0)).set_ 1 (.string ⟨#[]⟩)).set_ 2 (.int .i64 0)).set_ 3 (.int .i64 0)) : HBox _ _ ⟨0, [], 0, 0⟩)
      have HW := hide ((((HB7.out.setCell (p := ⟨w.heap.size, 0, none⟩) (Nat.le_refl _) (.int .i64 0)).setCell (p := ⟨w.heap.size, 1, none⟩) (Nat.le_refl _) (.string ⟨#[]⟩)).setCell (p := ⟨w.heap.size, 2, none⟩) (Nat.le_refl _) (.int .i64 0)).setCell (p := ⟨w.heap.size, 3, none⟩) (Nat.le_refl _) (.int .i64 0))
      generalize (((w7.setCell ⟨w.heap.size, 0, none⟩ (.int .i64 0)).setCell ⟨w.heap.size, 1, none⟩ (.string ⟨#[]⟩)).setCell ⟨w.heap.size, 2, none⟩ (.int .i64 0)).setCell ⟨w.heap.size, 3, none⟩ (.int .i64 0) = w8 at *
      refine bodyPost_ret (results_cell_tmp rfl _ _ w.heap.size 93 _ _ rfl HZ.out.blk Tryz.underlying93 rfl (by kernel_rfl)) rfl ?_
      exact ⟨ret_hn HQ.out.1.symm HQ.out.2.symm, HW.out⟩
    · simp only [if_true]
      by_cases he : textP ⟨atoiV D, L, atoiV N, atoiV M⟩ = t
      · have HQ := hide (HP2.out HCC.out hv he)
        clear HP0 HP1 HP2 hv
        rw [he]
        obtain ⟨c0, c1, c2, c3⟩ := HX7.out.facts
        go_wp2_with fail
        have HZ := hide (HBox.mk ((((HY7.out.blk.set_ 0 (.int .i64 (atoiV D))).set_ 1 (.string ⟨L.toArray⟩)).set_ 2 (.int .i64 (atoiV N))).set_ 3 (.int .i64 (atoiV M))) : HBox _ _ ⟨atoiV D, L, atoiV N, atoiV M⟩)
        have HW := hide ((((HB7.out.setCell (p := ⟨w.heap.size, 0, none⟩) (Nat.le_refl _) (.int .i64 (atoiV D))).setCell (p := ⟨w.heap.size, 1, none⟩) (Nat.le_refl _) (.string ⟨L.toArray⟩)).setCell (p := ⟨w.heap.size, 2, none⟩) (Nat.le_refl _) (.int .i64 (atoiV N))).setCell (p := ⟨w.heap.size, 3, none⟩) (Nat.le_refl _) (.int .i64 (atoiV M)))
        generalize (((w7.setCell ⟨w.heap.size, 0, none⟩ (.int .i64 (atoiV D))).setCell ⟨w.heap.size, 1, none⟩ (.string ⟨L.toArray⟩)).setCell ⟨w.heap.size, 2, none⟩ (.int .i64 (atoiV N))).setCell ⟨w.heap.size, 3, none⟩ (.int .i64 (atoiV M)) = w8 at *
        refine bodyPost_ret (results_cell_tmp rfl _ _ w.heap.size 93 _ _ rfl HZ.out.blk Tryz.underlying93 rfl (by kernel_rfl)) rfl ?_
        exact ⟨ret_hn HQ.out.1.symm HQ.out.2.symm, HW.out⟩
      · have HQ := hide (HP1.out HCC.out hv he)
        have hne : bs (textP ⟨atoiV D, L, atoiV N, atoiV M⟩) ≠ bs t := fun h => he (bs_inj h)
        have hnb : ((bs (textP ⟨atoiV D, L, atoiV N, atoiV M⟩)).toList == (bs t).toList) = false := by rw [ByteArray.toList_eq, ByteArray.toList_eq, bs_list, bs_list]; simpa using he
        clear he
        clear HP0 HP1 HP2 hv
        go_wp2_with fail
        have HZ := hide (HBox.mk ((((HY7.out.blk.set_ 0 (.int .i64 0)).set_ 1 (.string ⟨#[]⟩)).set_ 2 (.int .i64 0)).set_ 3 (.int .i64 0)) : HBox _ _ ⟨0, [], 0, 0⟩)
        have HW := hide ((((HB7.out.setCell (p := ⟨w.heap.size, 0, none⟩) (Nat.le_refl _) (.int .i64 0)).setCell (p := ⟨w.heap.size, 1, none⟩) (Nat.le_refl _) (.string ⟨#[]⟩)).setCell (p := ⟨w.heap.size, 2, none⟩) (Nat.le_refl _) (.int .i64 0)).setCell (p := ⟨w.heap.size, 3, none⟩) (Nat.le_refl _) (.int .i64 0))
        generalize (((w7.setCell ⟨w.heap.size, 0, none⟩ (.int .i64 0)).setCell ⟨w.heap.size, 1, none⟩ (.string ⟨#[]⟩)).setCell ⟨w.heap.size, 2, none⟩ (.int .i64 0)).setCell ⟨w.heap.size, 3, none⟩ (.int .i64 0) = w8 at *
        refine bodyPost_ret (results_cell_tmp rfl _ _ w.heap.size 93 _ _ rfl HZ.out.blk Tryz.underlying93 rfl (by kernel_rfl)) rfl ?_
        exact ⟨ret_hn HQ.out.1.symm HQ.out.2.symm, HW.out⟩
end Go.Proofs.YtdcafoekbnacnaaGreatDoor

/- Package scheme: Fits. -/
set_option linter.unusedVariables false
set_option linter.unusedSimpArgs false
namespace Go.Proofs.YtdcafoekbnacnaaGreatDoor
open Go.RowKit Go.Shelf

def numB (t : List UInt8) : Bool := decide (errP t = 0)
/-- the loop of Fits -/
structure FLp (w : World) (sv : Array Value) (wr : World) : Prop where
  s : Blk wr w.heap.size 24 sv
  bel : Below w.heap.size w wr
theorem FLp.to {w : World} {sv : Array Value} {wr w' : World} (h : FLp w sv wr) (hb : Below wr.heap.size wr w') : FLp w sv w' := ⟨h.s.to hb, below_to h.bel (Nat.le_refl _) hb⟩
theorem fitsB_no {nm num : List UInt8 → Bool} {s : Sch} {f : List (List UInt8)} {k : Nat} (hk : k < 9) (h : fit1 num s.ps k (f.getD k []) = false) : fitsB nm num s f = false := by
  unfold fitsB
  rw [Bool.and_eq_false_iff]
  right
  rw [List.all_eq_false]
  exact ⟨k, List.mem_range.2 hk, by rw [h]; simp⟩
theorem fit1_none {num : List UInt8 → Bool} {ps : List Prt} {k : Nat} {v : List UInt8} (h : partAt ps k = none) : fit1 num ps k v = v.isEmpty := by unfold fit1; rw [h]
theorem fit1_some {num : List UInt8 → Bool} {ps : List Prt} {k : Nat} {v : List UInt8} {p : Prt} (h : partAt ps k = some p) : fit1 num ps k v = if v.isEmpty then !p.need else goodB num ps k v := by unfold fit1; rw [h]
theorem marks_ascii {nm : List UInt8 → Bool} {s : Sch} (h : validB nm s = true) : ∀ (j : Nat) (b : UInt8), (marksL s.ps)[j]? = some b → b.toNat < 128 := fun j b hb => by
  have hm := (mem_marks _ _).1 (List.mem_of_getElem? hb)
  unfold mrk at hm
  obtain ⟨p, hp, h1⟩ := List.any_eq_true.1 hm
  obtain ⟨_, h2, h3⟩ := ((validB_iff nm s).1 h).part p hp
  have hs : ∀ (l : List UInt8), smallB l = true → l.head? = some b → b.toNat < 128 := fun l hl hh => by
    unfold smallB prn at hl
    simp only [Bool.and_eq_true, List.all_eq_true, decide_eq_true_eq] at hl
    have := hl.2.1 b (List.mem_of_mem_head? hh)
    omega
  rw [Bool.or_eq_true] at h1
  rcases h1 with h1 | h1
  · exact hs _ h2 (eq_of_beq h1)
  · exact hs _ h3 (eq_of_beq h1)
theorem prn_ascii {v : List UInt8} (h : prn v = true) : ∀ (j : Nat) (b : UInt8), v[j]? = some b → b.toNat < 128 := fun j b hb => by
  unfold prn at h
  simp only [List.all_eq_true, Bool.and_eq_true, decide_eq_true_eq] at h
  have := h b (List.mem_of_getElem? hb)
  omega
theorem index_fields (f0 f1 f2 f3 f4 f5 f6 f7 f8 : List UInt8) : ∀ (k : Nat), k < 9 → ∀ w, (Instr.index 26 (.agg #[.string (bs f0), .string (bs f1), .string (bs f2), .string (bs f3), .string (bs f4), .string (bs f5), .string (bs f6), .string (bs f7), .string (bs f8)]) (.int .i64 (k : Int))).run Tryz.prog w = .ok (.string (bs ([f0, f1, f2, f3, f4, f5, f6, f7, f8].getD k []))) w
  | 0, _, w => by kernel_rfl
  | 1, _, w => by kernel_rfl
  | 2, _, w => by kernel_rfl
  | 3, _, w => by kernel_rfl
  | 4, _, w => by kernel_rfl
  | 5, _, w => by kernel_rfl
  | 6, _, w => by kernel_rfl
  | 7, _, w => by kernel_rfl
  | 8, _, w => by kernel_rfl
  | k + 9, h, _ => absurd h (by omega)
set_option maxRecDepth 100000 in
set_option maxHeartbeats 8000000 in
theorem Fits_any (s : Sch) (hl0 : s.ps.length ≤ 8796093022208) (hc0 : s.c.length ≤ 140737488355328) (v : Value) (f0 f1 f2 f3 f4 f5 f6 f7 f8 : List UInt8) (w : World) (hP : PartsAt w v s.ps) (hg : Glob w) :
    Calls Tryz.prog 24 #[.agg #[.string (bs s.c), v], .agg #[.string (bs f0), .string (bs f1), .string (bs f2), .string (bs f3), .string (bs f4), .string (bs f5), .string (bs f6), .string (bs f7), .string (bs f8)]] w fun e w' => e = .returned (.bool (fitsB isNm numB s [f0, f1, f2, f3, f4, f5, f6, f7, f8])) ∧ Below w.heap.size w w' := by
  obtain ⟨c, ps⟩ := s
  dsimp only at hl0 hc0 hP
  obtain ⟨A, cp, rfl, hcp⟩ := hP.slice
  have HP := hide hP
  have HG := hide hg
  have H0 : Hid (FLp w #[.string (bs c), .slice A ps.length cp] ((w.alloc (.cells #[.string (bs c), .slice A ps.length cp] 24)).alloc (.cells #[.string (bs f0), .string (bs f1), .string (bs f2), .string (bs f3), .string (bs f4), .string (bs f5), .string (bs f6), .string (bs f7), .string (bs f8)] 26))) := ⟨(Blk.new w _ _).alloc _, below_two w _ _⟩
  have CV := fun w (h : PartsAt w (.slice A ps.length cp) ps) => SValid_any ⟨c, ps⟩ hl0 hc0 (.slice A ps.length cp) w h
  have CM := fun w (h : PartsAt w (.slice A ps.length cp) ps) => marks_any c ps hl0 (.slice A ps.length cp) w h
  clear hP hg
  go_enter Tryz.func24, Tryz.ntmps24
  go_wp2_with fail
  refine (CV _ (HP.out.to H0.out.bel)).mono ?_
  rintro e w2 ⟨rfl, hb⟩
  have hB := Blk.new (w.alloc (.cells #[.string (bs c), .slice A ps.length cp] 24)) 26 #[.string (bs f0), .string (bs f1), .string (bs f2), .string (bs f3), .string (bs f4), .string (bs f5), .string (bs f6), .string (bs f7), .string (bs f8)]
  rw [World.size_alloc] at hB
  have HBF := hide (hB.to hb)
  have HV2 := hide (H0.out.to hb)
  clear hb H0 CV hB
  cases hv : validB isNm ⟨c, ps⟩ with
  | false =>
    have HF : Hid (fitsB isNm numB ⟨c, ps⟩ [f0, f1, f2, f3, f4, f5, f6, f7, f8] = false) := by show _ = _; unfold fitsB; rw [hv]; rfl
    clear hv
    go_wp2_with fail
    go_ret
    exact ⟨ret_bool (by rw [HF.out]), HV2.out.bel⟩
  | true =>
    have HMA : Hid (∀ (j : Nat) (b : UInt8), (marksL ps)[j]? = some b → b.toNat < 128) := marks_ascii hv
    have hval := (validB_iff _ _).1 hv
    have hne : ps ≠ [] := by have := hval.n1; dsimp only at this; intro e; rw [e] at this; simp at this
    have hl8 : ps.length ≤ 8 := hval.n8
    have HNE := hide hne
    have HVB := hide hv
    clear hv hval hne
    have cS0 := HV2.out.s.cell 0
    have cS1 := HV2.out.s.cell 1
    go_wp2_with fail
    refine (CM _ (HP.out.to HV2.out.bel)).mono ?_
    rintro e w3 ⟨rfl, hb⟩
    have HV3 := hide (HV2.out.to hb)
    have hlt1 := (Array.getElem?_eq_some_iff.1 HBF.out).1
    have k0 := (hb.cell (p := ⟨w.heap.size + 1, 0, none⟩) hlt1).trans (HBF.out.cell 0)
    have k1 := (hb.cell (p := ⟨w.heap.size + 1, 1, none⟩) hlt1).trans (HBF.out.cell 1)
    have k2 := (hb.cell (p := ⟨w.heap.size + 1, 2, none⟩) hlt1).trans (HBF.out.cell 2)
    have k3 := (hb.cell (p := ⟨w.heap.size + 1, 3, none⟩) hlt1).trans (HBF.out.cell 3)
    have k4 := (hb.cell (p := ⟨w.heap.size + 1, 4, none⟩) hlt1).trans (HBF.out.cell 4)
    have k5 := (hb.cell (p := ⟨w.heap.size + 1, 5, none⟩) hlt1).trans (HBF.out.cell 5)
    have k6 := (hb.cell (p := ⟨w.heap.size + 1, 6, none⟩) hlt1).trans (HBF.out.cell 6)
    have k7 := (hb.cell (p := ⟨w.heap.size + 1, 7, none⟩) hlt1).trans (HBF.out.cell 7)
    have k8 := (hb.cell (p := ⟨w.heap.size + 1, 8, none⟩) hlt1).trans (HBF.out.cell 8)
    clear hb HV2 CM cS0 cS1 HBF hlt1
    go_wp2_with fail
    clear k0 k1 k2 k3 k4 k5 k6 k7 k8
    have ix := index_fields f0 f1 f2 f3 f4 f5 f6 f7 f8
    have HIX := hide ix
    have HFG : Hid (∀ k, k < 9 → fit1 numB ps k ([f0, f1, f2, f3, f4, f5, f6, f7, f8].getD k []) = false → fitsB isNm numB ⟨c, ps⟩ [f0, f1, f2, f3, f4, f5, f6, f7, f8] = false) := fun k hk h => fitsB_no hk h
    have HTG : Hid ((∀ k, k < 9 → fit1 numB ps k ([f0, f1, f2, f3, f4, f5, f6, f7, f8].getD k []) = true) → fitsB isNm numB ⟨c, ps⟩ [f0, f1, f2, f3, f4, f5, f6, f7, f8] = true) := fun h => by
      unfold fitsB
      rw [HVB.out, Bool.true_and, List.all_eq_true]
      exact fun k hk => h k (List.mem_range.1 hk)
    obtain ⟨fl, hfl⟩ : ∃ fl, [f0, f1, f2, f3, f4, f5, f6, f7, f8] = fl := ⟨_, rfl⟩
    rw [hfl] at HIX HFG HTG
    have HFL := hide hfl
    clear hfl ix
    go_loopw [17] (fun i wr => ∃ k : Nat, k ≤ 9 ∧ i = .int .i64 (k : Int) ∧ FLp w #[.string (bs c), .slice A ps.length cp] wr ∧ ∀ j, j < k → fit1 numB ps j (fl.getD j []) = true) (fun i _ => 9 - (intOf i).toNat)
    case atStart => exact ⟨0, by omega, rfl, HV3.out, fun j h => absurd h (by omega)⟩
    case round =>
      obtain ⟨k, hk, rfl, hV, hT⟩ := hrel
      have HV := hide hV
      have HT := hide hT
      clear hV hT HV3
      by_cases hlt : k < 9
      · have ix := HIX.out k hlt
        have HFK : Hid (fit1 numB ps k (fl.getD k []) = false → fitsB isNm numB ⟨c, ps⟩ fl = false) := HFG.out k hlt
        have HTK : Hid (fit1 numB ps k (fl.getD k []) = true → ∀ j, j < k + 1 → fit1 numB ps j (fl.getD j []) = true) := fun h j hj => by
          rcases Nat.lt_or_ge j k with h' | h'
          · exact HT.out j h'
          · obtain rfl : j = k := by omega
            exact h
        obtain ⟨x, hx⟩ : ∃ x, fl.getD k [] = x := ⟨_, rfl⟩
        rw [hx] at ix HFK
        rw [hx] at HTK
        clear hx HIX
        have cS1 : (wr.alloc (.cells #[.int .i64 (k : Int)] 3)).cell? ⟨w.heap.size, 1, none⟩ = some (.slice A ps.length cp) := (HV.out.s.alloc _).cell 1
        have CI := fun h => index_part ps HNE.out hl0 (.slice A ps.length cp) k wr.heap.size (wr.alloc (.cells #[.int .i64 (k : Int)] 3)) h (Blk.new wr _ _)
        go_wp2_with fail
        refine (CI (HP.out.to (below_alloc HV.out.bel (Nat.le_refl _) _))).mono ?_
        rintro e w4 ⟨rfl, hb⟩
        have HV4 : Hid (FLp w #[.string (bs c), .slice A ps.length cp] w4) := (HV.out.to (below_one _ _)).to hb
        have HK4 := hide ((Blk.new wr 3 #[.int .i64 (k : Int)]).to hb)
        clear hb HV cS1 CI ix
        cases hpo : partAt ps k with
        | none =>
          have HID := hide (idxP_none hpo)
          have HF1 := hide (fit1_none (num := numB) (v := x) hpo)
          rw [HID.out]
          rw [HF1.out] at HFK HTK
          clear hpo
          cases hxe : x.isEmpty with
          | true =>
            have e1 : (bs x).toList.isEmpty = true := by rw [bs_toList]; exact hxe
            have HT2 := hide (HTK.out hxe)
            clear hxe
            go_wp2_with fail
            go_roundw
            case rel => exact ⟨k + 1, by omega, by go_num, HV4.out, HT2.out⟩
            case measure => simp [intOf]; omega
          | false =>
            have e1 : (bs x).toList.isEmpty = false := by rw [bs_toList]; exact hxe
            have HF := hide (HFK.out hxe)
            clear hxe
            go_wp2_with fail
            go_ret
            exact ⟨ret_bool (by rw [HFL.out, HF.out]), HV4.out.bel⟩
        | some p =>
          obtain ⟨i, hi, hip⟩ := idxP_some hpo
          have HF1 := hide (fit1_some (num := numB) (v := x) hpo)
          rw [hi]
          rw [HF1.out] at HFK HTK
          have hilt : i < ps.length := (List.getElem?_eq_some_iff.1 hip).1
          clear hpo hi
          cases hxe : x.isEmpty with
          | true =>
            have e1 : (bs x).toList.isEmpty = true := by rw [bs_toList]; exact hxe
            rw [hxe, if_pos rfl] at HFK HTK
            obtain ⟨a, cp', ea, _, hab, c0, c1, c2, c3⟩ := (HP.out.to HV4.out.bel).at_ hip
            injection ea with ea _ ec
            subst ec
            obtain rfl := ea
            have cS1 := HV4.out.s.cell 1
            clear hxe hip
            cases hn : p.need with
            | true =>
              rw [hn] at c3 HFK
              have HF := hide (HFK.out rfl)
              clear hn
              go_wp2_with fail
              go_ret
              exact ⟨ret_bool (by rw [HFL.out, HF.out]), HV4.out.bel⟩
            | false =>
              rw [hn] at c3 HTK
              have HT2 := hide (HTK.out rfl)
              clear hn
              go_wp2_with fail
              go_roundw
              case rel => exact ⟨k + 1, by omega, by go_num, HV4.out, HT2.out⟩
              case measure => simp [intOf]; omega
          | false =>
            have e1 : (bs x).toList.isEmpty = false := by rw [bs_toList]; exact hxe
            rw [hxe, if_neg (by decide)] at HFK HTK
            clear hxe hip
            have HGB : Hid (goodB numB ps k x = (decide (x.length ≤ 60) && (prn x && (!(x.any fun c => mrk ps c) && (trimd x && (!decide (k = 3) || numB x)))))) := rfl
            have hsz := bs_size x
            by_cases h60 : 60 < x.length
            · have HF := hide (HFK.out (by rw [HGB.out, decide_eq_false (by omega)]; rfl))
              have e2 : (60 : Int) < ((bs x).size : Int) := by rw [hsz]; omega
              clear hsz
              go_wp2_with fail
              go_ret
              exact ⟨ret_bool (by rw [HFL.out, HF.out]), HV4.out.bel⟩
            rw [decide_eq_true (by omega : x.length ≤ 60), Bool.true_and] at HGB
            have e2 : decide ((60 : Int) < ((bs x).size : Int)) = false := by rw [hsz]; simp; omega
            have e0 : decide ((i : Int) < 0) = false := by simp
            have HSZ := hide hsz
            clear hsz
            go_wp2_with fail
            refine (printable_any x _).mono ?_
            rintro e w5 ⟨rfl, hb⟩
            have HV5 := hide (HV4.out.to hb)
            have HK5 := hide (HK4.out.to hb)
            clear hb HV4 HK4 e1
            cases hpr : prn x with
            | false =>
              rw [hpr] at HGB
              have HF := hide (HFK.out (by rw [HGB.out]; rfl))
              clear hpr
              go_wp2_with fail
              go_ret
              exact ⟨ret_bool (by rw [HFL.out, HF.out]), HV5.out.bel⟩
            | true =>
              rw [hpr, Bool.true_and] at HGB
              have HXA := hide (prn_ascii hpr)
              clear hpr
              have CA := fun w => Tryz.strings_ContainsAny_laid (bs x) (bs (marksL ps)) w (by rw [bs_size]; omega) (by rw [bs_size]; have := marks_len ps; omega) (by rw [bs_list]; exact HXA.out) (by rw [bs_list]; exact HMA.out)
              rw [bs_list, bs_list, containsAny_marks] at CA
              go_wp2_with fail
              refine (CA _).mono ?_
              rintro e w6 ⟨rfl, hb⟩
              have HV6 := hide (HV5.out.to hb)
              have HK6 := hide (HK5.out.to hb)
              clear hb HV5 HK5 CA
              cases hma : (x.any fun c => mrk ps c) with
              | true =>
                rw [hma] at HGB
                have HF := hide (HFK.out (by rw [HGB.out]; rfl))
                clear hma
                go_wp2_with fail
                go_ret
                exact ⟨ret_bool (by rw [HFL.out, HF.out]), HV6.out.bel⟩
              | false =>
                rw [hma, Bool.not_false, Bool.true_and] at HGB
                clear hma
                have CT := fun w => Tryz.strings_Trim_one (bs x) 32 (by decide) w (by rw [bs_size]; omega)
                rw [bs_list] at CT
                go_wp2_with fail
                refine (CT _).mono ?_
                rintro e w7 ⟨rfl, hb⟩
                have hb' : Below w6.heap.size w6 w7 := by rcases hb with rfl | rfl; exact Below.refl _ _; exact (Below.refl _ _).drew
                have HV7 := hide (HV6.out.to hb')
                have HK7 := hide (HK6.out.to hb')
                clear hb hb' HV6 HK6 CT
                cases htr : trimd x with
                | false =>
                  rw [htr] at HGB
                  have e4 : (Lib.trimB x 32 == (bs x).toList) = false := by
                    rw [bs_toList, beq_eq_false_iff_ne]; intro e; rw [trimB_same x] at e; rw [htr] at e; cases e
                  have HF := hide (HFK.out (by rw [HGB.out]; rfl))
                  clear htr
                  go_wp2_with fail
                  go_ret
                  exact ⟨ret_bool (by rw [HFL.out, HF.out]), HV7.out.bel⟩
                | true =>
                  rw [htr, Bool.true_and] at HGB
                  have e4 : (⟨(Lib.trimB x 32).toArray⟩ : ByteArray) = bs x := by rw [(trimB_same x).2 htr]; rfl
                  have e5 : ((bs x).toList == (bs x).toList) = true := by simp
                  rw [e4]
                  clear htr e4
                  have CP := fun w h => Parse_any x w (by omega) h
                  go_wp2_with fail
                  refine (CP _ (HG.out.to HV7.out.bel)).mono ?_
                  rintro e w8 ⟨rfl, hb⟩
                  have HV8 := hide (HV7.out.to hb)
                  have HK8 := hide (HK7.out.to hb)
                  clear hb HV7 HK7 CP
                  have cK : (w8.alloc (.cells #[.int .i64 (outP x).n, .string ⟨(outP x).l.toArray⟩, .int .i64 (outP x).num, .int .i64 (outP x).den] 93)).cell? ⟨wr.heap.size, 0, none⟩ = some (.int .i64 (k : Int)) := (HK8.out.alloc _).cell 0
                  have HV9 := hide (HV8.out.to (below_one w8 (.cells #[.int .i64 (outP x).n, .string ⟨(outP x).l.toArray⟩, .int .i64 (outP x).num, .int .i64 (outP x).den] 93)))
                  unfold hval
                  have hnum : numB x = decide (errP x = 0) := rfl
                  by_cases hk3 : k = 3
                  · have e6 : ((k : Int) == 3) = true := by rw [hk3]; rfl
                    by_cases he : errP x = 0
                    · have e7 : (errP x != 0) = false := by rw [he]; rfl
                      have HT2 := hide (HTK.out (by rw [HGB.out, hnum, decide_eq_true he]; simp))
                      clear he hk3 hnum
                      go_wp2_with fail
                      go_roundw
                      case rel => exact ⟨k + 1, by omega, by go_num, HV9.out, HT2.out⟩
                      case measure => simp [intOf]; omega
                    · have e7 : (errP x != 0) = true := by rw [bne_iff_ne]; exact he
                      have HF := hide (HFK.out (by rw [HGB.out, hnum, decide_eq_false he, decide_eq_true hk3]; rfl))
                      clear he hk3 hnum
                      go_wp2_with fail
                      go_ret
                      exact ⟨ret_bool (by rw [HFL.out, HF.out]), HV9.out.bel⟩
                  · have e6 : ((k : Int) == 3) = false := by rw [beq_eq_false_iff_ne]; omega
                    have HT2 := hide (HTK.out (by rw [HGB.out, decide_eq_false hk3]; rfl))
                    clear hk3 hnum
                    go_wp2_with fail
                    go_roundw
                    case rel => exact ⟨k + 1, by omega, by go_num, HV9.out, HT2.out⟩
                    case measure => simp [intOf]; omega
      · obtain rfl : k = 9 := by omega
        have HF := hide (HTG.out HT.out)
        go_wp2_with fail
        go_ret
        exact ⟨ret_bool (by rw [HFL.out, HF.out]), HV.out.bel⟩
end Go.Proofs.YtdcafoekbnacnaaGreatDoor

/- Builders whose frame reaches above them. -/
set_option linter.unusedVariables false
set_option linter.unusedSimpArgs false
namespace Go.Proofs.YtdcafoekbnacnaaGreatDoor
open Go.RowKit Go.Shelf

theorem WriteString_k (B b : Nat) (vs : List Value) (s : ByteArray) (w : World) (h : Lib.IsBuilderF 61 5 B b vs w) (hlen : vs.length + s.size ≤ 140737488355328) (hBw : B ≤ w.heap.size) :
    Calls Tryz.prog 39 #[.pointer (some ⟨b, 0, none⟩), .string s] w fun e w' => e = .returned (.tuple #[.int .i64 s.size, .nilIface]) ∧ (Lib.BuilderAtF 61 5 B b (.pointer (some ⟨b, 0, none⟩)) (vs ++ Lib.strCells s) w' ∧ Below B w w' ∧ Lib.OthersKept 5 (some b) w w') :=
  Any.Builder_WriteString_k Tryz.lays166 Tryz.Builder_Extra_166 B b vs s w h hlen hBw
theorem BString_k (B b : Nat) (l : List UInt8) (w : World) (h : Lib.IsBuilderF 61 5 B b (Lib.byteCells l) w) (hBw : B ≤ w.heap.size) :
    Calls Tryz.prog 41 #[.pointer (some ⟨b, 0, none⟩)] w fun e w' => e = .returned (.string ⟨l.toArray⟩) ∧ Below B w w' ∧ Lib.OthersKept 5 (some b) w w' :=
  (Any.Builder_String_any_k Tryz.lays169 Tryz.Builder_Extra_169 B b l w h hBw).mono fun e w' h => ⟨h.1, h.2.2⟩
theorem BuilderAtF.keep {T e : TypeId} {B b : Nat} {p : Value} {vs : List Value} {w w' : World} (h : Lib.BuilderAtF T e B b p vs w) (hk : ∀ (k : Nat) (c : Array Value) (t : TypeId) (fz : Nat × Nat), w.heap[k]? = some (Obj.cells c t fz) → w'.heap[k]? = some (Obj.cells c t fz)) : Lib.BuilderAtF T e B b p vs w' := by
  obtain ⟨h1, v, h2, h3, h4⟩ := h
  refine ⟨h1, v, hk _ _ _ _ h2, ⟨h3.1, ?_⟩, h4⟩
  rcases h3.2 with h5 | ⟨g, cap, cur, fz, h5, h6, h7, h8⟩
  · exact .inl h5
  · exact .inr ⟨g, cap, cur, fz, h5, h6, hk _ _ _ _ h7, h8⟩
theorem IsBuilderF.keep {T e : TypeId} {B b : Nat} {vs : List Value} {w w' : World} (h : Lib.IsBuilderF T e B b vs w) (hk : ∀ (k : Nat) (c : Array Value) (t : TypeId) (fz : Nat × Nat), w.heap[k]? = some (Obj.cells c t fz) → w'.heap[k]? = some (Obj.cells c t fz)) : Lib.IsBuilderF T e B b vs w' :=
  h.elim (fun x => .inl (BuilderAtF.keep x hk)) (fun x => .inr (BuilderAtF.keep x hk))
theorem IsBuilderF.to {T e : TypeId} {B b : Nat} {vs : List Value} {w w' : World} (h : Lib.IsBuilderF T e B b vs w) (hb : Below w.heap.size w w') : Lib.IsBuilderF T e B b vs w' :=
  IsBuilderF.keep h fun k c t fz hk => (hb.block k (Array.getElem?_eq_some_iff.1 hk).1).trans hk
theorem IsBuilderF.own {T e : TypeId} {B b : Nat} {vs : List Value} {w w' : World} {row : Option Nat} (h : Lib.IsBuilderF T e B b vs w) (hg : w.grownBy w' row) (hr : ∀ r, row = some r → ∃ o : Obj, w.heap[r]? = some o ∧ o.isCells = false) : Lib.IsBuilderF T e B b vs w' :=
  IsBuilderF.keep h fun k c t fz hk => (hg.block k (Array.getElem?_eq_some_iff.1 hk).1 (fun e => by obtain ⟨o, ho, hc⟩ := hr k e.symm; rw [hk] at ho; cases ho; cases hc)).trans hk
theorem IsBuilderF.blk {T e : TypeId} {B b : Nat} {vs : List Value} {w : World} (h : Lib.IsBuilderF T e B b vs w) : ∃ cs, Blk w b T cs := by
  rcases h with ⟨_, v, h, _⟩ | ⟨_, v, h, _⟩
  · exact ⟨_, h⟩
  · exact ⟨_, h⟩
theorem blk_kept {b g : Nat} {t : TypeId} {cs : Array Value} {w w' : World} (h : Blk w g t cs) (hk : Lib.OthersKept 5 (some b) w w') (hg : g ≠ b) (ht : t ≠ 5) : Blk w' g t cs :=
  hk g _ h (fun e => hg (Option.some.inj e)) (fun c fz e => by cases e; exact ht rfl)
end Go.Proofs.YtdcafoekbnacnaaGreatDoor

/- Package scheme: Text. -/
set_option linter.unusedVariables false
set_option linter.unusedSimpArgs false
namespace Go.Proofs.YtdcafoekbnacnaaGreatDoor
open Go.RowKit Go.Shelf

/-- the builder of Text, with what lies beside it -/
structure TS0 (w : World) (b0 : Nat) (sv : Array Value) (L : List UInt8) (W : World) : Prop where
  bld : Lib.IsBuilderF 61 5 b0 b0 (Lib.byteCells L) W
  s : Blk W w.heap.size 24 sv
  bel : Below w.heap.size w W
  lt : b0 < W.heap.size
  ne : w.heap.size < b0
theorem TS0.to {w : World} {b0 : Nat} {sv : Array Value} {L : List UInt8} {W W' : World} (h : TS0 w b0 sv L W) (hb : Below W.heap.size W W') : TS0 w b0 sv L W' :=
  ⟨IsBuilderF.to h.bld hb, h.s.to hb, below_to h.bel (Nat.le_refl _) hb, Nat.lt_of_lt_of_le h.lt hb.size, h.ne⟩
theorem twrite (w : World) (b0 : Nat) (sv : Array Value) (L l : List UInt8) (s : ByteArray) (hs : s = bs l) (W : World) (h : TS0 w b0 sv L W) (hlen : L.length + l.length ≤ 140737488355328) :
    Calls Tryz.prog 39 #[.pointer (some ⟨b0, 0, none⟩), .string s] W fun e w' => e = .returned (.tuple #[.int .i64 s.size, .nilIface]) ∧ TS0 w b0 sv (L ++ l) w' ∧ ∀ g t cs, Blk W g t cs → g ≠ b0 → t ≠ 5 → Blk w' g t cs := by
  subst hs
  refine (WriteString_k b0 b0 _ (bs l) W h.bld (by rw [bs_size]; simpa [Lib.byteCells] using hlen) (Nat.le_of_lt h.lt)).mono ?_
  rintro e w' ⟨rfl, hI, hb, hk⟩
  refine ⟨rfl, ⟨?_, blk_kept h.s hk (by have := h.ne; omega) (by decide), h.bel.trans (hb.mono (Nat.le_of_lt h.ne)), Nat.lt_of_lt_of_le h.lt hb.size, h.ne⟩, fun g t cs hB hg ht => blk_kept hB hk hg ht⟩
  rw [byteCells_app, ← strCells_bs l]
  exact .inr hI
def needT (p : Prt) : List UInt8 := if p.need then wNeed ++ [32] else []
def schT (c : List UInt8) (ps : List Prt) : List UInt8 := wScheme ++ [32] ++ c ++ [32, 123, 10] ++ ps.flatMap partT
def textV (s : Sch) : List UInt8 := if validB isNm s then textS s else []
def textE (s : Sch) : Int := if validB isNm s then 0 else 1
end Go.Proofs.YtdcafoekbnacnaaGreatDoor

/- Package scheme: the parser: its memory; sees. -/
set_option linter.unusedVariables false
set_option linter.unusedSimpArgs false
namespace Go.Proofs.YtdcafoekbnacnaaGreatDoor
open Go.RowKit Go.Shelf

def tkV (x : Tk) : List Value := [.int .i64 x.k, .int .i64 x.a, .int .i64 x.n, .string (bs x.s)]
def TksAt (w : World) (v : Value) (l : List Tk) : Prop := RowsAt w 4 v (l.map tkV)
theorem TksAt.to {w w' : World} {v : Value} {l : List Tk} (h : TksAt w v l) (hb : Below w.heap.size w w') : TksAt w' v l := RowsAt.to h hb
theorem TksAt.slice {w : World} {v : Value} {l : List Tk} (h : TksAt w v l) : ∃ A c, v = .slice A l.length c ∧ l.length ≤ c := by
  obtain ⟨A, c, h1, h2, _⟩ := h
  rw [List.length_map] at h1 h2
  exact ⟨A, c, h1, h2⟩
/-- the first token, at its place -/
theorem TksAt.hd {w : World} {v : Value} {t : Tk} {r : List Tk} (h : TksAt w v (t :: r)) : ∃ b o c, v = .slice (some ⟨b, o, none⟩) (r.length + 1) c ∧ r.length + 1 ≤ c ∧ b < w.heap.size ∧
    w.cell? ⟨b, o, none⟩ = some (.int .i64 t.k) ∧ w.cell? ⟨b, o + 1, none⟩ = some (.int .i64 t.a) ∧ w.cell? ⟨b, o + 2, none⟩ = some (.int .i64 t.n) ∧ w.cell? ⟨b, o + 3, none⟩ = some (.string (bs t.s)) := by
  obtain ⟨a, c, h1, h2, h3, _, h4⟩ := RowsAt.at_ h (k := 0) (x := tkV t) rfl
  rw [List.length_map, List.length_cons] at h1 h2
  have c0 := h4 0 _ rfl
  obtain ⟨b, o, sp⟩ := a
  have hsp : sp = none := by
    unfold Addr.add World.cell? at c0
    simp only [Nat.zero_mul, if_true] at c0
    cases sp with
    | none => rfl
    | some x =>
      exfalso
      cases hh : w.heap[b]? with
      | none => simp [hh] at c0
      | some o => cases o <;> simp [hh] at c0
  subst hsp
  refine ⟨b, o, c, h1, h2, h3, ?_, ?_, ?_, ?_⟩
  · have := h4 0 _ rfl; simpa [Addr.add] using this
  · have := h4 1 _ rfl; simpa [Addr.add] using this
  · have := h4 2 _ rfl; simpa [Addr.add] using this
  · have := h4 3 _ rfl; simpa [Addr.add] using this
/-- the parser in its block -/
structure PAt (bP B : Nat) (n : Int) (v : Value) (l : List Tk) (W : World) : Prop where
  p : Blk W bP 74 #[v, .int .i64 n]
  t : TksAt W v l
  lo : ∀ b o m c, v = .slice (some ⟨b, o, none⟩) m c → l ≠ [] → b < B
theorem PAt.to {bP B : Nat} {n : Int} {v : Value} {l : List Tk} {W W' : World} (h : PAt bP B n v l W) (hb : Below W.heap.size W W') : PAt bP B n v l W' := ⟨h.p.to hb, h.t.to hb, h.lo⟩
def PSt (bP B : Nat) (n : Int) (l : List Tk) (W : World) : Prop := ∃ v, PAt bP B n v l W
theorem PSt.to {bP B : Nat} {n : Int} {l : List Tk} {W W' : World} (h : PSt bP B n l W) (hb : Below W.heap.size W W') : PSt bP B n l W' := h.imp fun v h => h.to hb
end Go.Proofs.YtdcafoekbnacnaaGreatDoor

/- Package scheme: the parser: take. -/
set_option linter.unusedVariables false
set_option linter.unusedSimpArgs false
namespace Go.Proofs.YtdcafoekbnacnaaGreatDoor
open Go.RowKit Go.Shelf

def faultV (e a : Int) : Value := .iface 70 (.agg #[.int .i64 e, .int .i64 a])
def faultE (e a : Int) : Ending := .panicked [{ v := faultV e a, recovered := false }]
theorem RowsAt.only {w w' : World} {g size n c : Nat} {A : Option Addr} {ls : List (List Value)} (h : RowsAt w size (.slice A n c) ls) (ho : Only w w' g) (hne : ls ≠ [] → ∀ a, A = some a → a.block ≠ g) : RowsAt w' size (.slice A n c) ls := by
  obtain ⟨A', c', h1, h2, h3, h4⟩ := h
  injection h1 with e1 e2 e3
  subst e1 e3
  refine ⟨A, c, by rw [e2], h2, h3, fun k x hx => ?_⟩
  obtain ⟨a, e, hl, hc⟩ := h4 k x hx
  have hk : ls ≠ [] := fun e => by rw [e] at hx; simp at hx
  exact ⟨a, e, Nat.lt_of_lt_of_le hl ho.size, fun j u hu => (ho.cell (by rw [block_of_add, block_of_add]; exact hl) (by rw [block_of_add, block_of_add]; exact hne hk a e)).trans (hc j u hu)⟩
theorem Only.trans {a b c : World} {g : Nat} (h : Only a b g) (k : Only b c g) : Only a c g :=
  ⟨k.os.trans h.os, k.tape.trans h.tape, k.output.trans h.output, Nat.le_trans h.size k.size, fun i hi hne => (k.block i (Nat.lt_of_lt_of_le hi h.size) hne).trans (h.block i hi hne)⟩
theorem Only.of_below {w w' : World} (g : Nat) (h : Below w.heap.size w w') : Only w w' g := ⟨h.os, h.tape, h.output, h.size, fun i hi _ => h.block i hi⟩
theorem Only.alloc {w w' : World} {g : Nat} (h : Only w w' g) (o : Obj) : Only w (w'.alloc o) g := h.trans (Only.of_below g (below_one w' o))
def TakeR (bP B : Nat) (n : Int) (w : World) (r : PR Tk) (e : Ending) (w' : World) : Prop := match r with
  | .ok t l => e = .returned (.agg (tcells t)) ∧ PSt bP B n l w' ∧ Only w w' bP
  | .err x a => e = faultE x a ∧ Only w w' bP
end Go.Proofs.YtdcafoekbnacnaaGreatDoor

/- Package scheme: the parser: between. -/
set_option linter.unusedVariables false
set_option linter.unusedSimpArgs false
namespace Go.Proofs.YtdcafoekbnacnaaGreatDoor
open Go.RowKit Go.Shelf

/-- what a function of the parser gives -/
def ResR {α : Type} (enc : α → Value) (bP B : Nat) (n : Int) (w : World) (r : PR α) (e : Ending) (w' : World) : Prop := match r with
  | .ok t l => e = .returned (enc t) ∧ PSt bP B n l w' ∧ Only w w' bP
  | .err x a => e = faultE x a ∧ Only w w' bP
theorem PSt.only {bP B : Nat} {n : Int} {l : List Tk} {w : World} (h : PSt bP B n l w) : bP < w.heap.size := by obtain ⟨v, h, _, _⟩ := h; exact h.lt
end Go.Proofs.YtdcafoekbnacnaaGreatDoor

/- Package scheme: the parser: ground for part. -/
set_option linter.unusedVariables false
set_option linter.unusedSimpArgs false
namespace Go.Proofs.YtdcafoekbnacnaaGreatDoor
open Go.RowKit Go.Shelf

def wordsC : Array Value := (wordsL.map fun l => Value.string (bs l)).toArray
end Go.Proofs.YtdcafoekbnacnaaGreatDoor

/- Package scheme: the parser: part. -/
set_option linter.unusedVariables false
set_option linter.unusedSimpArgs false
namespace Go.Proofs.YtdcafoekbnacnaaGreatDoor
open Go.RowKit Go.Shelf

theorem Only.set_new {w W : World} {g b : Nat} (h : Only w W g) (hb : w.heap.size ≤ b) (i : Nat) (v : Value) : Only w (W.setCell ⟨b, i, none⟩ v) g :=
  ⟨h.os, h.tape, h.output, by simpa using h.size, fun k hk hne => (Below.heap_setCell W ⟨b, i, none⟩ v k (by show k ≠ b; omega)).trans (h.block k hk hne)⟩
theorem PSt.setNew {bP B : Nat} {n : Int} {l : List Tk} {W : World} {b i : Nat} {v : Value} (h : PSt bP B n l W) (hb : b ≠ bP) (hl : l ≠ [] → ∀ v', PAt bP B n v' l W → ∀ b' o c, v' = .slice (some ⟨b', o, none⟩) l.length c → b' ≠ b) : PSt bP B n l (W.setCell ⟨b, i, none⟩ v) := by
  obtain ⟨v', hp⟩ := h
  refine ⟨v', hp.p.far (p := ⟨b, i, none⟩) (Ne.symm hb) _, ?_, hp.lo⟩
  obtain ⟨A, c, rfl, hc⟩ := hp.t.slice
  cases l with
  | nil => exact ⟨A, c, rfl, Nat.zero_le _, by simp, fun k x h => by simp at h⟩
  | cons t r =>
    obtain ⟨b', o, c', e, _⟩ := hp.t.hd
    have hne := hl (by simp) _ hp b' o c' e
    have e2 := e
    injection e2 with e2 _ _
    subst e2
    exact RowsAt.only hp.t (Only.set_ (Only.refl W b) i v) (fun _ a ha => by cases ha; exact hne)
/-- the parts and the parser keep apart -/
theorem PartsAt.apart {w : World} {v : Value} {ps : List Prt} {bP : Nat} {n : Int} {u : Value} (h : PartsAt w v ps) (hp : Blk w bP 74 #[u, .int .i64 n]) {A : Option Addr} {m c : Nat} (e : v = .slice A m c) : ps ≠ [] → ∀ a, A = some a → a.block ≠ bP := by
  intro hne a ha
  obtain ⟨b, off, c', e2, _, hb, hat⟩ := h.lit hne
  rw [e, ha] at e2
  injection e2 with e3 _ _
  injection e3 with e3
  subst e3
  rintro rfl
  have hl : 0 < ps.length := by cases ps with | nil => exact absurd rfl hne | cons p r => simp
  have := hat 0 hl 3 _ rfl
  rw [hp.cell, Array.getElem?_eq_none (by simp)] at this
  cases this
theorem PartsAt.only {w W : World} {v : Value} {ps : List Prt} {bP : Nat} {n : Int} {u : Value} (h : PartsAt w v ps) (hp : Blk w bP 74 #[u, .int .i64 n]) (ho : Only w W bP) : PartsAt W v ps := by
  obtain ⟨A, c, rfl, _⟩ := h.slice
  exact RowsAt.only h ho (fun hne a ha => h.apart hp rfl (by intro e; rw [e] at hne; exact hne rfl) a ha)
def ptVal (p : Prt) : Value := .agg (ptC p)
def zPrt : Prt := ⟨0, [], [], false⟩
/-- part under way: the result's box, the part's box, the parser -/
structure PtS (bP B : Nat) (n : Int) (w : World) (l : List Tk) (q p : Prt) (W : World) : Prop where
  st : PSt bP B n l W
  r : Blk W w.heap.size 41 (ptC q)
  x : Blk W (w.heap.size + 1) 41 (ptC p)
  on : Only w W bP
  lt : bP < w.heap.size
theorem PtS.to {bP B : Nat} {n : Int} {w W W' : World} {l : List Tk} {q p : Prt} (h : PtS bP B n w l q p W) (hb : Below W.heap.size W W') : PtS bP B n w l q p W' :=
  ⟨h.st.to hb, h.r.to hb, h.x.to hb, h.on.trans (Only.of_below bP hb), h.lt⟩
theorem PtS.step {bP B : Nat} {n : Int} {w W W' : World} {l l' : List Tk} {q p : Prt} (h : PtS bP B n w l q p W) (hs : PSt bP B n l' W') (ho : Only W W' bP) : PtS bP B n w l' q p W' :=
  ⟨hs, ho.blk h.r (by have := h.lt; omega), ho.blk h.x (by have := h.lt; omega), h.on.trans ho, h.lt⟩
theorem tok_ne {W : World} {bP B b b' o c : Nat} {n : Int} {l : List Tk} {p : Prt} {v' : Value} (hx : Blk W b 41 (ptC p)) (hl : l ≠ []) (hp : PAt bP B n v' l W) (hv : v' = .slice (some ⟨b', o, none⟩) l.length c) : b' ≠ b := by
  intro hb
  cases l with
  | nil => exact hl rfl
  | cons t r =>
    obtain ⟨b2, o2, c2, e2, _, _, _, c1, _, c3⟩ := hp.t.hd
    rw [hv] at e2
    injection e2 with e3 _ _
    injection e3 with e3
    injection e3 with e4 e5 _
    subst e4 e5 hb
    rcases Nat.eq_zero_or_pos o with h0 | h0
    · subst h0
      have := (hx.cell 1).symm.trans c1
      simp [ptC] at this
    · have := (hx.cell (o + 3)).symm.trans c3
      rw [Array.getElem?_eq_none (by simp [ptC]; omega)] at this
      cases this
theorem PtS.set {bP B : Nat} {n : Int} {w W : World} {l : List Tk} {q p p' : Prt} {i : Nat} {u : Value} (h : PtS bP B n w l q p W) (e : (ptC p).setIfInBounds i u = ptC p') : PtS bP B n w l q p' (W.setCell ⟨w.heap.size + 1, i, none⟩ u) :=
  ⟨h.st.setNew (by have := h.lt; omega) fun hl v' hp b' o c hv => tok_ne h.x hl hp hv, h.r.far (p := ⟨w.heap.size + 1, i, none⟩) (by show w.heap.size ≠ w.heap.size + 1; omega) _, by rw [← e]; exact h.x.set_ i u, h.on.set_new (by omega) i u, h.lt⟩
end Go.Proofs.YtdcafoekbnacnaaGreatDoor

/- A region that draws its order: .. and facts that hold until an operation is run. -/
set_option linter.unusedVariables false
set_option linter.unusedSimpArgs false
namespace Go.Proofs.YtdcafoekbnacnaaGreatDoor
open Go Go.RowKit

section
variable {P : Program} {ops : Array Oper} {Q : Exit → Act → World → Prop} {md : Region.Mode} {C : World → Prop} {a0 : Act}
/-- operation k waits for i, by however many steps -/
def waitsT (md : Region.Mode) (ops : Array Oper) : Nat → Nat → Nat → Bool
  | 0, _, _ => false
  | f + 1, k, i => match ops[k]? with
    | none => false
    | some o => o.after.any fun e => Region.binds md e && (e.on == i || waitsT md ops f e.on i)
/-- what operation i owes -/
def Owes2 (P : Program) (ops : Array Oper) (Q : Exit → Act → World → Prop) (C : World → Prop) (a0 : Act) (V : List (Option Value)) (Fs Ns : List (Nat × (Act → World → Prop))) (Rel : Nat → World → World → Prop) (i : Nat) (o : Oper) : Prop :=
  ∀ (a : Act) (w : World) (K : Act → World → Prop), C w → Same ops a0 a → (∀ e ∈ o.after, Region.binds .any e = true → Kn ops V Fs e.on a w) → (∀ p ∈ Ns, p.1 = i → p.2 a w) →
    (∀ v w', Rel i w w' → (∀ v0, V[i]? = some (some v0) → v = v0) → (∀ p ∈ Fs, p.1 = i → p.2 (a.put o.dst v) w') → K (a.put o.dst v) w') →
    if Region.wanted o (yielded ops a.tmps) then o.wp P a w K Q else K (a.put o.dst undef) w
def AllOwe2 (P : Program) (ops : Array Oper) (Q : Exit → Act → World → Prop) (C : World → Prop) (a0 : Act) (V : List (Option Value)) (Fs Ns : List (Nat × (Act → World → Prop))) (Rel : Nat → World → World → Prop) : List Oper → Nat → Prop
  | [], _ => True
  | o :: l, k => Owes2 P ops Q C a0 V Fs Ns Rel k o ∧ AllOwe2 P ops Q C a0 V Fs Ns Rel l (k + 1)
theorem AllOwe2.at {V : List (Option Value)} {Fs Ns : List (Nat × (Act → World → Prop))} {Rel : Nat → World → World → Prop} : ∀ (l : List Oper) (k : Nat), AllOwe2 P ops Q C a0 V Fs Ns Rel l k → ∀ (j : Nat) (o : Oper), l[j]? = some o → Owes2 P ops Q C a0 V Fs Ns Rel (k + j) o
  | [], _, _, j, o, ho => by simp at ho
  | x :: l, k, h, 0, o, ho => by
    simp only [List.getElem?_cons_zero, Option.some.injEq] at ho
    subst ho
    exact h.1
  | x :: l, k, h, j + 1, o, ho => by
    simp only [List.getElem?_cons_succ] at ho
    have := AllOwe2.at l (k + 1) h.2 j o ho
    rwa [show k + 1 + j = k + (j + 1) by omega] at this
end
section
variable {ops : Array Oper} {n : Nat} {Rel : Nat → World → World → Prop}
end
end Go.Proofs.YtdcafoekbnacnaaGreatDoor

/- A drawn region whose relations know the frame ahead of and behind an operation. -/
set_option linter.unusedVariables false
set_option linter.unusedSimpArgs false
namespace Go.Proofs.YtdcafoekbnacnaaGreatDoor
open Go Go.RowKit

/-- the region is fit for it -/
def looseB3 (ops : Array Oper) (n : Nat) (js : List Nat) : Bool :=
  (List.range ops.size).all fun i => match ops[i]? with
    | none => true
    | some o => (o.after.all fun e => !Region.binds .any e || decide (e.on < i)) &&
      (match o.dst with
       | none => true
       | some d => decide (d < n) && (List.range ops.size).all fun j => (i == j) || (match ops[j]? with
          | none => true
          | some oj => (oj.dst != some d) && (!js.contains j || !(oj.looksAt ops).contains d || Region.waitsFor .any ops j i)))
section
variable {P : Program} {ops : Array Oper} {Q : Exit → Act → World → Prop} {md : Region.Mode} {C : World → Prop} {a0 : Act}
/-- what operation i owes -/
def Owes3 (P : Program) (ops : Array Oper) (Q : Exit → Act → World → Prop) (C : World → Prop) (a0 : Act) (V : List (Option Value)) (Fs Ns : List (Nat × (Act → World → Prop))) (Rel : Nat → Act → Act → World → World → Prop) (i : Nat) (o : Oper) : Prop :=
  ∀ (a : Act) (w : World) (K : Act → World → Prop), C w → Same ops a0 a → (∀ e ∈ o.after, Region.binds .any e = true → Kn ops V Fs e.on a w) → (∀ p ∈ Ns, p.1 = i → p.2 a w) →
    (∀ v w', Rel i a (a.put o.dst v) w w' → (∀ v0, V[i]? = some (some v0) → v = v0) → (∀ p ∈ Fs, p.1 = i → p.2 (a.put o.dst v) w') → K (a.put o.dst v) w') →
    if Region.wanted o (yielded ops a.tmps) then o.wp P a w K Q else K (a.put o.dst undef) w
def AllOwe3 (P : Program) (ops : Array Oper) (Q : Exit → Act → World → Prop) (C : World → Prop) (a0 : Act) (V : List (Option Value)) (Fs Ns : List (Nat × (Act → World → Prop))) (Rel : Nat → Act → Act → World → World → Prop) : List Oper → Nat → Prop
  | [], _ => True
  | o :: l, k => Owes3 P ops Q C a0 V Fs Ns Rel k o ∧ AllOwe3 P ops Q C a0 V Fs Ns Rel l (k + 1)
theorem AllOwe3.at {V : List (Option Value)} {Fs Ns : List (Nat × (Act → World → Prop))} {Rel : Nat → Act → Act → World → World → Prop} : ∀ (l : List Oper) (k : Nat), AllOwe3 P ops Q C a0 V Fs Ns Rel l k → ∀ (j : Nat) (o : Oper), l[j]? = some o → Owes3 P ops Q C a0 V Fs Ns Rel (k + j) o
  | [], _, _, j, o, ho => by simp at ho
  | x :: l, k, h, 0, o, ho => by
    simp only [List.getElem?_cons_zero, Option.some.injEq] at ho
    subst ho
    exact h.1
  | x :: l, k, h, j + 1, o, ho => by
    simp only [List.getElem?_cons_succ] at ho
    have := AllOwe3.at l (k + 1) h.2 j o ho
    rwa [show k + 1 + j = k + (j + 1) by omega] at this
end
section
variable {ops : Array Oper} {n : Nat} {Rel : Nat → Act → Act → World → World → Prop}
end
section
variable {ops : Array Oper} {Rel : Nat → Act → Act → World → World → Prop}
end
end Go.Proofs.YtdcafoekbnacnaaGreatDoor

/- As XLo3, but an operation owes its fact out of the facts of all that it waits for, by however many steps; a fact need not be kept by what it waits for so. -/
set_option linter.unusedVariables false
set_option linter.unusedSimpArgs false
namespace Go.Proofs.YtdcafoekbnacnaaGreatDoor
open Go Go.RowKit

section
variable {P : Program} {ops : Array Oper} {Q : Exit → Act → World → Prop} {md : Region.Mode} {C : World → Prop} {a0 : Act}
/-- what operation i owes -/
def Owes4 (P : Program) (ops : Array Oper) (Q : Exit → Act → World → Prop) (C : World → Prop) (a0 : Act) (V : List (Option Value)) (Fs Ns : List (Nat × (Act → World → Prop))) (Rel : Nat → Act → Act → World → World → Prop) (i : Nat) (o : Oper) : Prop :=
  ∀ (a : Act) (w : World) (K : Act → World → Prop), C w → Same ops a0 a → (∀ j, waitsT .any ops ops.size i j = true → Kn ops V Fs j a w) → (∀ p ∈ Ns, p.1 = i → p.2 a w) →
    (∀ v w', Rel i a (a.put o.dst v) w w' → (∀ v0, V[i]? = some (some v0) → v = v0) → (∀ p ∈ Fs, p.1 = i → p.2 (a.put o.dst v) w') → K (a.put o.dst v) w') →
    if Region.wanted o (yielded ops a.tmps) then o.wp P a w K Q else K (a.put o.dst undef) w
def AllOwe4 (P : Program) (ops : Array Oper) (Q : Exit → Act → World → Prop) (C : World → Prop) (a0 : Act) (V : List (Option Value)) (Fs Ns : List (Nat × (Act → World → Prop))) (Rel : Nat → Act → Act → World → World → Prop) : List Oper → Nat → Prop
  | [], _ => True
  | o :: l, k => Owes4 P ops Q C a0 V Fs Ns Rel k o ∧ AllOwe4 P ops Q C a0 V Fs Ns Rel l (k + 1)
theorem AllOwe4.at {V : List (Option Value)} {Fs Ns : List (Nat × (Act → World → Prop))} {Rel : Nat → Act → Act → World → World → Prop} : ∀ (l : List Oper) (k : Nat), AllOwe4 P ops Q C a0 V Fs Ns Rel l k → ∀ (j : Nat) (o : Oper), l[j]? = some o → Owes4 P ops Q C a0 V Fs Ns Rel (k + j) o
  | [], _, _, j, o, ho => by simp at ho
  | x :: l, k, h, 0, o, ho => by
    simp only [List.getElem?_cons_zero, Option.some.injEq] at ho
    subst ho
    exact h.1
  | x :: l, k, h, j + 1, o, ho => by
    simp only [List.getElem?_cons_succ] at ho
    have := AllOwe4.at l (k + 1) h.2 j o ho
    rwa [show k + 1 + j = k + (j + 1) by omega] at this
end
section
variable {ops : Array Oper} {n : Nat} {Rel : Nat → Act → Act → World → World → Prop}
end
end Go.Proofs.YtdcafoekbnacnaaGreatDoor

/- Worlds that differ at one block; rows under a store elsewhere. -/
set_option linter.unusedVariables false
set_option linter.unusedSimpArgs false
namespace Go.Proofs.YtdcafoekbnacnaaGreatDoor
open Go.RowKit

theorem RowsAt.store {w : World} {size : Nat} {A : Option Addr} {n c : Nat} {ls : List (List Value)} (h : RowsAt w size (.slice A n c) ls) {p : Addr} (hp : ∀ a, A = some a → a.block ≠ p.block) (u : Value) : RowsAt (w.setCell p u) size (.slice A n c) ls := by
  obtain ⟨A', c', h1, h2, h3, h4⟩ := h
  have e := h1
  injection e with e1 e2 e3
  subst e1
  refine ⟨A, c', h1, h2, h3, fun k x hx => ?_⟩
  obtain ⟨a, ha, hl, hc⟩ := h4 k x hx
  refine ⟨a, ha, by simpa [World.setCell] using hl, fun j v hv => ?_⟩
  rw [World.cell?_setCell_other _ _ _ _ (fun h => hp a ha (by rw [h, block_of_add, block_of_add]))]
  exact hc j v hv
/-- all is as it was but for the blocks p and q -/
structure Two (p q : Nat) (w w' : World) : Prop where
  os : w'.os = w.os
  tape : w'.tape = w.tape
  output : w'.output = w.output
  size : w.heap.size ≤ w'.heap.size
  block : ∀ k, k < w.heap.size → k ≠ p → k ≠ q → w'.heap[k]? = w.heap[k]?
section
variable {p q : Nat} {a w w' : World}
theorem Two.refl (p q : Nat) (w : World) : Two p q w w := ⟨rfl, rfl, rfl, Nat.le_refl _, fun _ _ _ _ => rfl⟩
theorem Two.trans {b c : World} (h : Two p q a b) (k : Two p q b c) : Two p q a c := ⟨k.os.trans h.os, k.tape.trans h.tape, k.output.trans h.output, Nat.le_trans h.size k.size, fun i hi h1 h2 => (k.block i (Nat.lt_of_lt_of_le hi h.size) h1 h2).trans (h.block i hi h1 h2)⟩
theorem Two.of (h : Below w.heap.size w w') : Two p q w w' := ⟨h.os, h.tape, h.output, h.size, fun k hk _ _ => h.block k hk⟩
theorem Two.to {w2 : World} (h : Two p q w w') (h' : Below w'.heap.size w' w2) : Two p q w w2 := h.trans (Two.of h')
theorem Two.drewN (h : Two p q a w) (n : Nat) : Two p q a (w.drewN n) := ⟨h.os, h.tape, h.output, h.size, h.block⟩
theorem Two.blk {g : Nat} {t : TypeId} {cs : Array Value} (H : Blk w g t cs) (hb : Two p q w w') (h1 : g ≠ p) (h2 : g ≠ q) : Blk w' g t cs := (hb.block g H.lt h1 h2).trans H
theorem Two.below {B : Nat} (h : Two p q w w') (hB : B ≤ w.heap.size) (h1 : B ≤ p) (h2 : B ≤ q) : Below B w w' := ⟨h.os, h.tape, h.output, h.size, fun k hk => h.block k (by omega) (by omega) (by omega)⟩
end
end Go.Proofs.YtdcafoekbnacnaaGreatDoor

/- append to a row that is one's own: the elder value still reads as before; worlds that differ at two blocks. -/
set_option linter.unusedVariables false
set_option linter.unusedSimpArgs false
namespace Go.Proofs.YtdcafoekbnacnaaGreatDoor
open Go Go.RowKit

section
variable {P : Program} (w : World)
end
/-- the block that an append may write, or another one -/
def rowOr (v : Value) (p : Nat) : Nat := v.ownBlock.getD p
section
variable {p q : Nat} {a w w' : World}
theorem Two.grown {v : Value} (h : w.grownBy w' v.ownBlock) : Two p (rowOr v p) w w' := by
  refine ⟨h.os, h.tape, h.output, h.size, fun k hk h1 h2 => h.block k hk fun e => ?_⟩
  unfold rowOr at h2
  rw [← e] at h2
  exact h2 rfl
end
/-- a slice of texts, whose array is not the block g -/
def FarB (v : Value) (g : Option Nat) : Prop := v.ownBlock = none ∨ v.ownBlock ≠ g
theorem TextsAt.two {p q : Nat} {w w' : World} {v : Value} {ls : List (List UInt8)} (h : TextsAt w v ls) (hb : Two p q w w') (h1 : v.ownBlock ≠ some p) (h2 : v.ownBlock ≠ some q) : TextsAt w' v ls := by
  obtain ⟨A, c, rfl, h3, h4, h5⟩ := h
  refine ⟨A, c, rfl, h3, h4, fun k x hx => ?_⟩
  obtain ⟨ad, e, hl, hc⟩ := h5 k x hx
  subst e
  refine ⟨ad, rfl, Nat.lt_of_lt_of_le hl hb.size, fun j u hu => ?_⟩
  rw [← hc j u hu]
  refine World.cell?_of_block ?_
  have e : ((ad.add (k * 1)).add j).block = ad.block := by rw [block_of_add, block_of_add]
  rw [e]
  exact hb.block _ hl (fun e => h1 (by rw [← e]; rfl)) (fun e => h2 (by rw [← e]; rfl))
end Go.Proofs.YtdcafoekbnacnaaGreatDoor

/- Package scheme: the parser: scheme. -/
set_option linter.unusedVariables false
set_option linter.unusedSimpArgs false
namespace Go.Proofs.YtdcafoekbnacnaaGreatDoor
open Go.RowKit Go.Shelf

/-- scheme under way -/
structure ScS (bP B : Nat) (n : Int) (w : World) (l : List Tk) (c : List UInt8) (v : Value) (ps : List Prt) (W : World) : Prop where
  st : PSt bP B n l W
  r : Blk W w.heap.size 24 #[.string ⟨#[]⟩, .slice none 0 0]
  s : Blk W (w.heap.size + 1) 24 #[.string (bs c), v]
  own : W.ownsRow (w.heap.size + 2) 41 4 v ps.length (ps.map ptV).flatten
  nil : ps = [] → v = .slice none 0 0
  on : Only w W bP
  lt : bP < w.heap.size
  lo : B ≤ w.heap.size
theorem ownsRow_only {B g : Nat} {e : TypeId} {s n : Nat} {v : Value} {xs : List Value} {w w' : World} (h : w.ownsRow B e s v n xs) (ho : Only w w' g) (h1 : v.ownBlock ≠ some g) : w'.ownsRow B e s v n xs :=
  h.kept ho (.inr h1)
theorem own_ge {B : Nat} {e : TypeId} {s n : Nat} {v : Value} {xs : List Value} {w : World} (h : w.ownsRow B e s v n xs) {g : Nat} (hg : g < B) : v.ownBlock ≠ some g := fun e => by have := (World.ownsRow.lt h g e).1; omega
theorem ScS.step {bP B : Nat} {n : Int} {w : World} {l l' : List Tk} {c : List UInt8} {v : Value} {ps : List Prt} {W W' : World} (h : ScS bP B n w l c v ps W) (hs : PSt bP B n l' W') (ho : Only W W' bP) : ScS bP B n w l' c v ps W' :=
  ⟨hs, ho.blk h.r (by have := h.lt; omega), ho.blk h.s (by have := h.lt; omega), ownsRow_only h.own ho (own_ge h.own (by have := h.lt; omega)), h.nil, h.on.trans ho, h.lt, h.lo⟩
theorem ScS.to {bP B : Nat} {n : Int} {w : World} {l : List Tk} {c : List UInt8} {v : Value} {ps : List Prt} {W W' : World} (h : ScS bP B n w l c v ps W) (hb : Below W.heap.size W W') : ScS bP B n w l c v ps W' :=
  h.step (h.st.to hb) (Only.of_below bP hb)
theorem PSt.grown {bP B : Nat} {n : Int} {l : List Tk} {W W' : World} {row : Option Nat} (h : PSt bP B n l W) (hg : W.grownBy W' row) (hr : ∀ k, row = some k → B ≤ k ∧ k ≠ bP) : PSt bP B n l W' := by
  obtain ⟨v', hp⟩ := h
  have hblk : Blk W' bP 74 #[v', .int .i64 n] := (hg.block bP hp.p.lt (fun e => (hr bP e.symm).2 rfl)).trans hp.p
  refine ⟨v', hblk, ?_, hp.lo⟩
  obtain ⟨A, c, rfl, hc⟩ := hp.t.slice
  cases l with
  | nil => exact ⟨A, c, rfl, Nat.zero_le _, by simp, fun k x h => by simp at h⟩
  | cons t r =>
    obtain ⟨b', o, c', e, _, hb', _⟩ := hp.t.hd
    have hlo := hp.lo b' o _ c' e (by simp)
    have e2 := e
    injection e2 with e2 _ _
    subst e2
    cases row with
    | none => exact RowsAt.only hp.t (g := W.heap.size) ⟨hg.os, hg.tape, hg.output, hg.size, fun i hi _ => hg.block i hi (by simp)⟩ (fun _ a ha => by cases ha; show b' ≠ _; omega)
    | some k => exact RowsAt.only hp.t hg (fun _ a ha => by cases ha; have := (hr k rfl).1; show b' ≠ k; omega)
theorem ScS.parts {bP B : Nat} {n : Int} {w : World} {l : List Tk} {c : List UInt8} {v : Value} {ps : List Prt} {W : World} (h : ScS bP B n w l c v ps W) : PartsAt W v ps := by
  refine RowsAt.of_own (B := w.heap.size + 2) (e := 41) ?_ (by rw [List.length_map]; exact h.own)
  intro x hx
  obtain ⟨p, _, rfl⟩ := List.mem_map.1 hx; rfl
def SchR (bP B : Nat) (n : Int) (w : World) (r : PR Sch) (e : Ending) (w' : World) : Prop := match r with
  | .ok s l => (∃ v, e = .returned (.agg #[.string (bs s.c), v]) ∧ PartsAt w' v s.ps) ∧ Only w w' bP
  | .err x a => e = faultE x a ∧ Only w w' bP
/-- the loop of scheme -/
structure ScL (bP B : Nat) (n : Int) (w : World) (l3 : List Tk) (c : List UInt8) (g : Nat) (wr : World) (l : List Tk) (v : Value) (ps : List Prt) (f : Nat) : Prop where
  s : ScS bP B n w l c v ps wr
  fu : l.length < f
  eq : partsP n (l3.length + 1) [] l3 = partsP n f ps l
  le : ps.length + l.length ≤ l3.length
  g : l.length ≤ g
theorem Only.grown {w W W' : World} {g : Nat} {row : Option Nat} (h : Only w W g) (hg : W.grownBy W' row) (hr : ∀ k, row = some k → w.heap.size ≤ k) : Only w W' g :=
  ⟨hg.os.trans h.os, hg.tape.trans h.tape, hg.output.trans h.output, Nat.le_trans h.size hg.size, fun i hi hne => (hg.block i (Nat.lt_of_lt_of_le hi h.size) (fun e => by have := hr i e.symm; omega)).trans (h.block i hi hne)⟩
/-- what a round of scheme leaves alone -/
structure ScC (bP : Nat) (w wr W : World) : Prop where
  r : Blk W w.heap.size 24 #[.string ⟨#[]⟩, .slice none 0 0]
  on : Only w W bP
  sz : wr.heap.size ≤ W.heap.size
end Go.Proofs.YtdcafoekbnacnaaGreatDoor

/- Package scheme: Parse: what is deferred. -/
set_option linter.unusedVariables false
set_option linter.unusedSimpArgs false
namespace Go.Proofs.YtdcafoekbnacnaaGreatDoor
open Go.RowKit Go.Shelf

/-- the three results in their blocks -/
structure PR3 (b0 b1 b2 : Nat) (c v : Value) (x y : Int) (w : World) : Prop where
  s : Blk w b0 24 #[c, v]
  e : Blk w b1 30 #[.int .i64 x]
  a : Blk w b2 3 #[.int .i64 y]
  n1 : b0 ≠ b1
  n2 : b0 ≠ b2
  n3 : b1 ≠ b2
theorem PR3.to {b0 b1 b2 : Nat} {c v : Value} {x y : Int} {w w' : World} (h : PR3 b0 b1 b2 c v x y w) (hb : Below w.heap.size w w') : PR3 b0 b1 b2 c v x y w' := ⟨h.s.to hb, h.e.to hb, h.a.to hb, h.n1, h.n2, h.n3⟩
theorem PR3.only {b0 b1 b2 g : Nat} {c v : Value} {x y : Int} {w w' : World} (h : PR3 b0 b1 b2 c v x y w) (ho : Only w w' g) (h0 : b0 ≠ g) (h1 : b1 ≠ g) (h2 : b2 ≠ g) : PR3 b0 b1 b2 c v x y w' := ⟨ho.blk h.s h0, ho.blk h.e h1, ho.blk h.a h2, h.n1, h.n2, h.n3⟩
/-- nothing but the three results was written -/
def Kept3 (b0 b1 b2 : Nat) (w w' : World) : Prop := ∀ (B : Nat) (a : World), Below B a w → B ≤ b0 → B ≤ b1 → B ≤ b2 → Below B a w'
theorem PR3.put {b0 b1 b2 : Nat} {c v : Value} {x y : Int} {w : World} (h : PR3 b0 b1 b2 c v x y w) (c' v' : Value) (e a : Int) : PR3 b0 b1 b2 c' v' e a ((((w.setCell ⟨b0, 0, none⟩ c').setCell ⟨b0, 1, none⟩ v').setCell ⟨b1, 0, none⟩ (.int .i64 e)).setCell ⟨b2, 0, none⟩ (.int .i64 a)) :=
  ⟨(((h.s.set_ 0 c').set_ 1 v').far (p := ⟨b1, 0, none⟩) h.n1 _).far (p := ⟨b2, 0, none⟩) h.n2 _, (((h.e.far (p := ⟨b0, 0, none⟩) (Ne.symm h.n1) _).far (p := ⟨b0, 1, none⟩) (Ne.symm h.n1) _).set_ 0 (.int .i64 e)).far (p := ⟨b2, 0, none⟩) h.n3 _,
    (((h.a.far (p := ⟨b0, 0, none⟩) (Ne.symm h.n2) _).far (p := ⟨b0, 1, none⟩) (Ne.symm h.n2) _).far (p := ⟨b1, 0, none⟩) (Ne.symm h.n3) _).set_ 0 (.int .i64 a), h.n1, h.n2, h.n3⟩
def SParseR (t : List UInt8) (w : World) (e : Ending) (w' : World) : Prop := ∃ v, e = .returned (.tuple #[.agg #[.string (bs (parseS isNm t).1.c), v], .int .i64 (parseS isNm t).2.1, .int .i64 (parseS isNm t).2.2]) ∧ PartsAt w' v (parseS isNm t).1.ps ∧ Below w.heap.size w w'
end Go.Proofs.YtdcafoekbnacnaaGreatDoor

/- Chapters 23, 24: sizes (ref23 Few, Short). -/
set_option linter.unusedVariables false
set_option linter.unusedSimpArgs false
namespace Go.Proofs.YtdcafoekbnacnaaGreatDoor
open Go.RowKit Go.Shelf

def smP (p : Prt) : Bool := decide (p.b.length ≤ 60) && decide (p.a.length ≤ 60)
def fewB (s : Sch) : Bool := (s.ps.take 10).all smP && (decide (s.ps.length ≤ 10) && decide (s.c.length ≤ 60))
theorem all_take_no {ps : List Prt} {k : Nat} {p : Prt} {f : Prt → Bool} (hp : ps[k]? = some p) (hk : k < 10) (h : f p = false) : (ps.take 10).all f = false := by
  rw [List.all_eq_false]
  exact ⟨p, List.mem_of_getElem? (i := k) (by rw [List.getElem?_take_of_lt hk]; exact hp), by rw [h]; decide⟩
theorem all_take_yes {ps : List Prt} {k : Nat} {f : Prt → Bool} (h : ∀ j p, j < k → ps[j]? = some p → f p = true) (hk : 10 ≤ k ∨ ps.length ≤ k) : (ps.take 10).all f = true := by
  rw [List.all_eq_true]
  intro p hp
  obtain ⟨j, hj, rfl⟩ := List.getElem_of_mem hp
  rw [List.length_take] at hj
  refine h j _ (by omega) ?_
  rw [List.getElem_take]
  exact List.getElem?_eq_getElem (by omega)
set_option maxRecDepth 100000 in
set_option maxHeartbeats 2000000 in
theorem Few_any (s : Sch) (hl0 : s.ps.length ≤ 8796093022208) (v : Value) (w : World) (hP : PartsAt w v s.ps) :
    Calls Tryz.prog 16 #[.agg #[.string (bs s.c), v]] w fun e w' => e = .returned (.bool (fewB s)) ∧ Below w.heap.size w w' := by
  obtain ⟨c, ps⟩ := s
  dsimp only at hl0 hP
  obtain ⟨A, cp, rfl, hcp⟩ := hP.slice
  have HB := hide (below_one w (.cells #[.string (bs c), .slice A ps.length cp] 24))
  have HS := hide (Blk.new w 24 #[.string (bs c), .slice A ps.length cp])
  have HP := hide (hP.to HB.out)
  have hcs := bs_size c
  clear hP
  go_enter Tryz.func16, Tryz.ntmps16
  go_wp2_with fail
  generalize w.alloc (.cells #[.string (bs c), .slice A ps.length cp] 24) = w1 at *
  have s0 := HS.out.cell 0
  have s1 := HS.out.cell 1
  go_loop [3] (fun i => ∃ k : Nat, k ≤ ps.length ∧ k ≤ 10 ∧ i = .int .i64 (k : Int) ∧ ∀ j p, j < k → ps[j]? = some p → smP p = true) (fun i => ps.length - (intOf i).toNat)
  case atStart => exact ⟨0, by omega, by omega, rfl, fun j p h => absurd h (by omega)⟩
  case round =>
    obtain ⟨k, hk, hk10, rfl, hA⟩ := hrel
    have HA := hide hA
    clear hA
    by_cases hlt : k < ps.length
    · have e1 : decide ((k : Int) < (ps.length : Int)) = true := by simp; omega
      by_cases h10 : k < 10
      · have e2 : decide ((k : Int) < 10) = true := by simp; omega
        obtain ⟨p, hp⟩ : ∃ p, ps[k]? = some p := ⟨_, List.getElem?_eq_getElem hlt⟩
        obtain ⟨a, cp', ea, _, hab, c0, c1, c2, c3⟩ := HP.out.at_ hp
        injection ea with ea _ ec
        subst ec
        obtain rfl := ea
        have hbs := bs_size p.b
        have has := bs_size p.a
        have HPK := hide hp
        clear hp
        by_cases hb : 60 < p.b.length
        · have e3 : decide ((60 : Int) < ((bs p.b).size : Int)) = true := by rw [hbs]; simp; omega
          have HF : Hid (fewB ⟨c, ps⟩ = false) := by show _ = _; unfold fewB; rw [all_take_no HPK.out h10 (by unfold smP; rw [decide_eq_false (by omega)]; rfl)]; rfl
          clear hbs has hcs
          go_wp2_with fail
          go_ret
          exact ⟨ret_bool (by rw [HF.out]), HB.out⟩
        have e3 : decide ((60 : Int) < ((bs p.b).size : Int)) = false := by rw [hbs]; simp; omega
        by_cases ha : 60 < p.a.length
        · have e4 : decide ((60 : Int) < ((bs p.a).size : Int)) = true := by rw [has]; simp; omega
          have HF : Hid (fewB ⟨c, ps⟩ = false) := by show _ = _; unfold fewB; rw [all_take_no HPK.out h10 (by unfold smP; rw [decide_eq_false (show ¬ p.a.length ≤ 60 by omega)]; simp)]; rfl
          clear hbs has hcs
          go_wp2_with fail
          go_ret
          exact ⟨ret_bool (by rw [HF.out]), HB.out⟩
        have e4 : decide ((60 : Int) < ((bs p.a).size : Int)) = false := by rw [has]; simp; omega
        have HA2 : Hid (∀ j q, j < k + 1 → ps[j]? = some q → smP q = true) := fun j q hj hq => by
          rcases Nat.lt_or_ge j k with h | h
          · exact HA.out j q h hq
          · obtain rfl : j = k := by omega
            rw [HPK.out] at hq
            cases hq
            unfold smP
            rw [decide_eq_true (by omega), decide_eq_true (by omega)]; rfl
        clear hbs has hcs
        go_wp2_with fail
        go_round
        case rel => exact ⟨k + 1, by omega, by omega, by go_num, HA2.out⟩
        case measure => simp [intOf]; omega
      · have e2 : decide ((k : Int) < 10) = false := by simp; omega
        have HF : Hid (fewB ⟨c, ps⟩ = false) := by show _ = _; unfold fewB; rw [show decide ((⟨c, ps⟩ : Sch).ps.length ≤ 10) = false from decide_eq_false (by dsimp only; omega)]; simp
        have e5 : decide ((ps.length : Int) ≤ 10) = false := by simp; omega
        clear hcs
        go_wp2_with fail
        go_ret
        exact ⟨ret_bool (by rw [HF.out]), HB.out⟩
    · have e1 : decide ((k : Int) < (ps.length : Int)) = false := by simp; omega
      have e5 : decide ((ps.length : Int) ≤ 10) = true := by simp; omega
      have HF : Hid (fewB ⟨c, ps⟩ = decide (c.length ≤ 60)) := by
        show _ = _
        unfold fewB
        rw [all_take_yes HA.out (.inr (by omega)), show decide ((⟨c, ps⟩ : Sch).ps.length ≤ 10) = true from decide_eq_true (by dsimp only; omega)]; rfl
      by_cases hc : c.length ≤ 60
      · have e6 : decide (((bs c).size : Int) ≤ 60) = true := by rw [hcs]; simp; omega
        rw [decide_eq_true hc] at HF
        clear hcs
        go_wp2_with fail
        go_ret
        exact ⟨ret_bool (by rw [HF.out]), HB.out⟩
      · have e6 : decide (((bs c).size : Int) ≤ 60) = false := by rw [hcs]; simp; omega
        rw [decide_eq_false hc] at HF
        clear hcs
        go_wp2_with fail
        go_ret
        exact ⟨ret_bool (by rw [HF.out]), HB.out⟩
theorem fields_at (f0 f1 f2 f3 f4 f5 f6 f7 f8 : List UInt8) : ∀ (k : Nat), k < 9 → (#[Value.string (bs f0), .string (bs f1), .string (bs f2), .string (bs f3), .string (bs f4), .string (bs f5), .string (bs f6), .string (bs f7), .string (bs f8)] : Array Value)[k]? = some (.string (bs ([f0, f1, f2, f3, f4, f5, f6, f7, f8].getD k [])))
  | 0, _ => rfl
  | 1, _ => rfl
  | 2, _ => rfl
  | 3, _ => rfl
  | 4, _ => rfl
  | 5, _ => rfl
  | 6, _ => rfl
  | 7, _ => rfl
  | 8, _ => rfl
  | k + 9, h => absurd h (by omega)
def shortF (f : List (List UInt8)) : Bool := (List.range 9).all fun k => decide ((f.getD k []).length ≤ 100)
set_option maxRecDepth 100000 in
set_option maxHeartbeats 2000000 in
theorem Short_any (f0 f1 f2 f3 f4 f5 f6 f7 f8 : List UInt8) (w : World) :
    Calls Tryz.prog 17 #[.agg #[.string (bs f0), .string (bs f1), .string (bs f2), .string (bs f3), .string (bs f4), .string (bs f5), .string (bs f6), .string (bs f7), .string (bs f8)]] w fun e w' => e = .returned (.bool (shortF [f0, f1, f2, f3, f4, f5, f6, f7, f8])) ∧ Below w.heap.size w w' := by
  have HB := hide (below_one w (.cells #[.string (bs f0), .string (bs f1), .string (bs f2), .string (bs f3), .string (bs f4), .string (bs f5), .string (bs f6), .string (bs f7), .string (bs f8)] 26))
  have HS := hide (Blk.new w 26 #[.string (bs f0), .string (bs f1), .string (bs f2), .string (bs f3), .string (bs f4), .string (bs f5), .string (bs f6), .string (bs f7), .string (bs f8)])
  have HA := hide (fields_at f0 f1 f2 f3 f4 f5 f6 f7 f8)
  go_enter Tryz.func17, Tryz.ntmps17
  go_wp2_with fail
  generalize w.alloc (.cells #[.string (bs f0), .string (bs f1), .string (bs f2), .string (bs f3), .string (bs f4), .string (bs f5), .string (bs f6), .string (bs f7), .string (bs f8)] 26) = w1 at *
  have HC : Hid (∀ k, k < 9 → w1.cell? ⟨w.heap.size, k, none⟩ = some (.string (bs ([f0, f1, f2, f3, f4, f5, f6, f7, f8].getD k [])))) := fun k hk => (HS.out.cell k).trans (HA.out k hk)
  obtain ⟨fl, hfl⟩ : ∃ fl, [f0, f1, f2, f3, f4, f5, f6, f7, f8] = fl := ⟨_, rfl⟩
  have HFL := hide hfl
  rw [hfl] at HC
  clear HS HA hfl
  go_loop [3] (fun i => ∃ k : Nat, k ≤ 9 ∧ i = .int .i64 (k : Int) ∧ ∀ j, j < k → (fl.getD j []).length ≤ 100) (fun i => 9 - (intOf i).toNat)
  case atStart => exact ⟨0, by omega, rfl, fun j h => absurd h (by omega)⟩
  case round =>
    obtain ⟨k, hk, rfl, hT⟩ := hrel
    have HT := hide hT
    clear hT
    by_cases hlt : k < 9
    · have ck := HC.out k hlt
      have hz := bs_size (fl.getD k [])
      by_cases h1 : 100 < (fl.getD k []).length
      · have e1 : decide ((100 : Int) < ((bs (fl.getD k [])).size : Int)) = true := by rw [hz]; exact decide_eq_true (by omega)
        have HF : Hid (shortF fl = false) := by
          show _ = _
          unfold shortF
          rw [List.all_eq_false]
          exact ⟨k, List.mem_range.2 hlt, by rw [decide_eq_false (by omega)]; decide⟩
        clear hz
        generalize fl.getD k [] = x at *
        go_wp2_with fail
        go_ret
        exact ⟨ret_bool (by rw [HFL.out, HF.out]), HB.out⟩
      · have e1 : decide ((100 : Int) < ((bs (fl.getD k [])).size : Int)) = false := by rw [hz]; exact decide_eq_false (by omega)
        have HT2 : Hid (∀ j, j < k + 1 → (fl.getD j []).length ≤ 100) := fun j hj => by
          rcases Nat.lt_or_ge j k with h | h
          · exact HT.out j h
          · obtain rfl : j = k := by omega
            omega
        clear hz
        generalize hx : fl.getD k [] = x at ck e1
        clear hx h1
        go_wp2_with fail
        go_round
        case rel => exact ⟨k + 1, by omega, by go_num, HT2.out⟩
        case measure => simp [intOf]; omega
    · obtain rfl : k = 9 := by omega
      have HF : Hid (shortF fl = true) := by
        show _ = _
        unfold shortF
        rw [List.all_eq_true]
        exact fun j hj => decide_eq_true (HT.out j (List.mem_range.1 hj))
      go_wp2_with fail
      go_ret
      exact ⟨ret_bool (by rw [HFL.out, HF.out]), HB.out⟩
end Go.Proofs.YtdcafoekbnacnaaGreatDoor

/- Chapters 23, 24: values as they are written. -/
set_option linter.unusedVariables false
set_option linter.unusedSimpArgs false
namespace Go.Proofs.YtdcafoekbnacnaaGreatDoor
open Go.RowKit Go.Shelf

theorem writL_snoc {f : List (List UInt8)} {ps : List Prt} {k : Nat} {p : Prt} (h : ps[k]? = some p) : writL f (ps.take (k + 1)) = writL f (ps.take k) ++ (if valF f p.k = [] then [] else p.b ++ (valF f p.k ++ p.a)) := by
  rw [List.take_add_one, h, writL_app]
  congr 1
  show writL f [p] = _
  unfold writL
  split <;> simp [writL]
theorem writL_len {f : List (List UInt8)} (hf : ∀ k, (f.getD k []).length ≤ 100) : ∀ ps : List Prt, (∀ p ∈ ps, p.b.length ≤ 60 ∧ p.a.length ≤ 60) → (writL f ps).length ≤ 220 * ps.length
  | [], _ => by simp [writL]
  | p :: ps, h => by
    have ih := writL_len hf ps (fun q hq => h q (List.mem_cons_of_mem _ hq))
    have := h p (List.mem_cons_self ..)
    have hv : (valF f p.k).length ≤ 100 := hf _
    unfold writL
    split
    · rw [List.nil_append, List.length_cons]; omega
    · simp only [List.length_append, List.length_cons]; omega
end Go.Proofs.YtdcafoekbnacnaaGreatDoor

/- Chapters 23, 24: values as they are written. -/
set_option linter.unusedVariables false
set_option linter.unusedSimpArgs false
namespace Go.Proofs.YtdcafoekbnacnaaGreatDoor
open Go.RowKit Go.Shelf

set_option maxRecDepth 100000 in
set_option maxHeartbeats 4000000 in
theorem rWritten_any (c : List UInt8) (ps : List Prt) (hl0 : ps.length ≤ 10) (v : Value) (f0 f1 f2 f3 f4 f5 f6 f7 f8 : List UInt8) (hk : ∀ p ∈ ps, 1 ≤ p.k ∧ p.k ≤ 8) (hs : ∀ p ∈ ps, p.b.length ≤ 60 ∧ p.a.length ≤ 60) (hf : ∀ k, ([f0, f1, f2, f3, f4, f5, f6, f7, f8].getD k []).length ≤ 100) (w : World) (hP : PartsAt w v ps) :
    Calls Tryz.prog 38 #[.agg #[.string (bs c), v], .agg #[.string (bs f0), .string (bs f1), .string (bs f2), .string (bs f3), .string (bs f4), .string (bs f5), .string (bs f6), .string (bs f7), .string (bs f8)]] w fun e w' => e = .returned (.string (bs (writL [f0, f1, f2, f3, f4, f5, f6, f7, f8] ps))) ∧ Below w.heap.size w w' := by
  obtain ⟨A, cp, rfl, hcp⟩ := hP.slice
  have HP := hide hP
  have HKK := hide hk
  have HSS := hide hs
  have HB := hide (below_two w (.cells #[.string (bs c), .slice A ps.length cp] 24) (.cells #[.string (bs f0), .string (bs f1), .string (bs f2), .string (bs f3), .string (bs f4), .string (bs f5), .string (bs f6), .string (bs f7), .string (bs f8)] 26))
  have HS := hide ((Blk.new w 24 #[.string (bs c), .slice A ps.length cp]).alloc (.cells #[.string (bs f0), .string (bs f1), .string (bs f2), .string (bs f3), .string (bs f4), .string (bs f5), .string (bs f6), .string (bs f7), .string (bs f8)] 26))
  have hF := Blk.new (w.alloc (.cells #[.string (bs c), .slice A ps.length cp] 24)) 26 #[.string (bs f0), .string (bs f1), .string (bs f2), .string (bs f3), .string (bs f4), .string (bs f5), .string (bs f6), .string (bs f7), .string (bs f8)]
  rw [World.size_alloc] at hF
  have HF := hide hF
  have HA := hide (fields_at f0 f1 f2 f3 f4 f5 f6 f7 f8)
  have HFF := hide hf
  clear hP hk hs hF hf
  go_enter Tryz.func38, Tryz.ntmps38
  go_wp2_with fail
  generalize (w.alloc (.cells #[.string (bs c), .slice A ps.length cp] 24)).alloc (.cells #[.string (bs f0), .string (bs f1), .string (bs f2), .string (bs f3), .string (bs f4), .string (bs f5), .string (bs f6), .string (bs f7), .string (bs f8)] 26) = w1 at *
  have HFC : Hid (∀ W, Below w1.heap.size w1 W → ∀ k, k < 9 → W.cell? ⟨w.heap.size + 1, k, none⟩ = some (.string (bs ([f0, f1, f2, f3, f4, f5, f6, f7, f8].getD k [])))) := fun W hW k hk => ((HF.out.to hW).cell k).trans (HA.out k hk)
  obtain ⟨fl, hfl⟩ : ∃ fl, [f0, f1, f2, f3, f4, f5, f6, f7, f8] = fl := ⟨_, rfl⟩
  have HFL := hide hfl
  rw [hfl] at HFC HFF
  have hg1 : w.heap.size + 1 < w1.heap.size := HF.out.lt
  clear HA HF hfl
  go_loopw [5, 6] (fun o i wr => ∃ k : Nat, k ≤ ps.length ∧ i = .int .i64 (k : Int) ∧ o = .string (bs (writL fl (ps.take k))) ∧ Below w1.heap.size w1 wr) (fun _ i _ => ps.length - (intOf i).toNat)
  case atStart => exact ⟨0, by omega, rfl, rfl, Below.refl _ _⟩
  case round =>
    obtain ⟨k, hk, rfl, rfl, hB⟩ := hrel
    have HBw := hide hB
    have s1 := (HS.out.to hB).cell 1
    clear hB
    by_cases hlt : k < ps.length
    · obtain ⟨p, hp⟩ : ∃ p, ps[k]? = some p := ⟨_, List.getElem?_eq_getElem hlt⟩
      obtain ⟨a, cp', ea, _, hab, c0, c1, c2, c3⟩ := (HP.out.to (HB.out.trans (HBw.out.mono HB.out.size))).at_ hp
      injection ea with ea _ ec
      subst ec
      obtain rfl := ea
      have hkp := HKK.out p (List.mem_of_getElem? hp)
      have hsp := HSS.out p (List.mem_of_getElem? hp)
      have HW := hide (writL_snoc (f := fl) hp)
      have hlen := writL_len HFF.out (ps.take k) (fun q hq => HSS.out q (List.mem_of_mem_take hq))
      have hlk : (ps.take k).length ≤ k := List.length_take_le _ _
      clear hp
      obtain ⟨j, hj, hj9⟩ : ∃ j : Nat, p.k = (j : Int) ∧ j < 9 := ⟨p.k.toNat, by omega, by omega⟩
      have hj1 : 1 ≤ j := by omega
      rw [hj] at c0 HW
      clear hj hkp
      rw [show valF fl (j : Int) = fl.getD j [] from val_nat fl j] at HW
      have hx100 := HFF.out j
      have ck := HFC.out (wr.alloc (.cells #[.int .i64 (j : Int), .string (bs p.b), .string (bs p.a), .bool p.need] 41)) (below_alloc HBw.out (Nat.le_refl _) _) j hj9
      obtain ⟨o, ho⟩ : ∃ o, writL fl (ps.take k) = o := ⟨_, rfl⟩
      rw [ho] at hlen HW ⊢
      obtain ⟨x, hx⟩ : ∃ x, fl.getD j [] = x := ⟨_, rfl⟩
      rw [hx] at ck HW hx100
      clear ho hx
      have hBp := Blk.new wr 41 #[.int .i64 (j : Int), .string (bs p.b), .string (bs p.a), .bool p.need]
      have HBX := hide (below_alloc HBw.out (Nat.le_refl _) (.cells #[.int .i64 (j : Int), .string (bs p.b), .string (bs p.a), .bool p.need] 41))
      have hzo : (bs o).size ≤ 2200 := by rw [bs_size]; omega
      have hzx : (bs x).size ≤ 100 := by rw [bs_size]; exact hx100
      have hzb : (bs p.b).size ≤ 60 := by rw [bs_size]; exact hsp.1
      have hza : (bs p.a).size ≤ 60 := by rw [bs_size]; exact hsp.2
      have HBP := hide hBp
      clear hBp hlen hx100 hsp
      by_cases hxe : x = []
      · have e1 : (bs x).toList.isEmpty = true := by rw [bs_toList, hxe]; rfl
        rw [if_pos hxe, List.append_nil] at HW
        clear hxe
        go_wp2_with fail
        go_roundw
        case rel => exact ⟨k + 1, by omega, by go_num, by rw [HW.out], HBX.out⟩
        case measure => simp [intOf]; omega
      · have e1 : (bs x).toList.isEmpty = false := by rw [bs_toList]; cases x with | nil => exact absurd rfl hxe | cons a l => rfl
        rw [if_neg hxe] at HW
        clear hxe
        have hs1 : (bs o ++ bs p.b).size ≤ 2260 := by rw [bs_app, bs_size, List.length_append, ← bs_size, ← bs_size]; omega
        have hs2 : (bs o ++ bs p.b ++ bs x).size ≤ 2360 := by rw [bs_app, bs_app, bs_size, List.length_append, List.length_append, ← bs_size, ← bs_size, ← bs_size]; omega
        go_wp2_with fail
        clear c0 c1 c2 c3 s1
        have p0 := HBP.out.cell 0
        have p1 := HBP.out.cell 1
        have p2 := HBP.out.cell 2
        generalize wr.alloc (.cells #[.int .i64 (j : Int), .string (bs p.b), .string (bs p.a), .bool p.need] 41) = w5 at *
        go_quiet (fail)
        go_wp2_with fail
        go_roundw
        case rel => exact ⟨k + 1, by omega, by go_num, by rw [HW.out, ← bs_app, ← bs_app, ← bs_app, ← ByteArray.append_assoc, ← ByteArray.append_assoc], below_drewN HBX.out _⟩
        case measure => simp [intOf]; omega
    · obtain rfl : k = ps.length := by omega
      rw [List.take_length]
      go_wp2_with fail
      go_ret
      exact ⟨by rw [HFL.out]; rfl, HB.out.trans (HBw.out.mono HB.out.size)⟩
end Go.Proofs.YtdcafoekbnacnaaGreatDoor

/- Chapters 23, 24: equal schemes (ref23 Same). -/
set_option linter.unusedVariables false
set_option linter.unusedSimpArgs false
namespace Go.Proofs.YtdcafoekbnacnaaGreatDoor
open Go.RowKit Go.Shelf

def samP (p q : Prt) : Bool := decide (p.k = q.k) && (decide (p.b = q.b) && (decide (p.a = q.a) && decide (p.need = q.need)))
def samL : List Prt → List Prt → Bool
  | [], [] => true
  | p :: l, q :: r => samP p q && samL l r
  | _, _ => false
def sameB (s t : Sch) : Bool := decide (s.c = t.c) && samL s.ps t.ps
end Go.Proofs.YtdcafoekbnacnaaGreatDoor

/- Chapter 23: marked. -/
set_option linter.unusedVariables false
set_option linter.unusedSimpArgs false
namespace Go.Proofs.YtdcafoekbnacnaaGreatDoor
open Go.RowKit Go.Shelf

def hitB (p : Prt) (c : UInt8) : Bool := (p.b.head? == some c) || (p.a.head? == some c)
theorem mrk_hit (ps : List Prt) (c : UInt8) : mrk ps c = ps.any fun p => hitB p c := rfl
theorem idx0 (x : UInt8) (r : List UInt8) (w : World) : (Instr.index 9 (.string (bs (x :: r))) (.int .i64 0)).run Tryz.prog w = .ok (.int .u8 (x.toNat : Int)) w := index_bs (x :: r) 0 x rfl w
theorem mrk_yes {ps : List Prt} {k : Nat} {p : Prt} {c : UInt8} (hp : ps[k]? = some p) (h : hitB p c = true) : mrk ps c = true := by
  rw [mrk_hit, List.any_eq_true]; exact ⟨p, List.mem_of_getElem? hp, h⟩
end Go.Proofs.YtdcafoekbnacnaaGreatDoor

/- Chapters 23, 24: the examples of the chapters, computed. -/
set_option linter.unusedVariables false
set_option linter.unusedSimpArgs false
namespace Go.Proofs.YtdcafoekbnacnaaGreatDoor
open Go.RowKit Go.Shelf

def exS : Sch := ⟨[97, 97], [⟨4, [], [], true⟩, ⟨3, [44, 32], [], true⟩, ⟨1, [47], [], false⟩, ⟨8, [59, 32], [], true⟩, ⟨7, [45, 32], [], true⟩]⟩
def exV (street number unit code : List UInt8) : List (List UInt8) := [[], unit, [], number, street, [], [], [120], code]
theorem ex_valid : validB isNm exS = true := by decide +kernel
def exT1 : List UInt8 := [115, 99, 104, 101, 109, 101, 32, 97, 32, 123, 32, 110, 101, 101, 100, 32, 115, 116, 114, 101, 101, 116, 59, 32, 110, 117, 109, 98, 101, 114, 32, 98, 101, 102, 111, 114, 101, 32, 34, 32, 34, 59, 32, 125]
def exP1 : Sch := ⟨[97], [⟨4, [], [], true⟩, ⟨3, [32], [], false⟩]⟩
def exT2 : List UInt8 := [115, 99, 104, 101, 109, 101, 32, 97, 32, 123, 32, 115, 116, 114, 101, 101, 116, 59, 32, 110, 117, 109, 98, 101, 114, 59, 32, 125]
def exT3 : List UInt8 := [115, 99, 104, 101, 109, 101, 32, 97, 32, 123, 32, 115, 116, 114, 101, 101, 116, 59, 32, 115, 116, 114, 101, 101, 116, 59, 32, 125]
def exT4 : List UInt8 := [115, 99, 104, 101, 109, 101, 32, 97, 32, 123, 32, 114, 111, 97, 100, 59, 32, 125]
end Go.Proofs.YtdcafoekbnacnaaGreatDoor

/- Chapter 23: example, values. -/
set_option linter.unusedVariables false
set_option linter.unusedSimpArgs false
namespace Go.Proofs.YtdcafoekbnacnaaGreatDoor
open Go.RowKit Go.Shelf

theorem short_facts {f : List (List UInt8)} (hl : f.length = 9) (h : shortF f = true) : ∀ k, (f.getD k []).length ≤ 100 := fun k => by
  rcases Nat.lt_or_ge k 9 with hk | hk
  · exact of_decide_eq_true (List.all_eq_true.1 h k (List.mem_range.2 hk))
  · rw [List.getD_eq_getElem?_getD, List.getElem?_eq_none (by omega)]; exact Nat.zero_le _
def exC : Array Value := #[.int .i64 4, .string ⟨#[]⟩, .string ⟨#[]⟩, .bool true, .int .i64 3, .string ⟨#[44, 32]⟩, .string ⟨#[]⟩, .bool true, .int .i64 1, .string ⟨#[47]⟩, .string ⟨#[]⟩, .bool false, .int .i64 8, .string ⟨#[59, 32]⟩, .string ⟨#[]⟩, .bool true, .int .i64 7, .string ⟨#[45, 32]⟩, .string ⟨#[]⟩, .bool true]
end Go.Proofs.YtdcafoekbnacnaaGreatDoor

/- Chapter 23: head. -/
set_option linter.unusedVariables false
set_option linter.unusedSimpArgs false
namespace Go.Proofs.YtdcafoekbnacnaaGreatDoor
open Go.RowKit Go.Shelf

end Go.Proofs.YtdcafoekbnacnaaGreatDoor

/- What a row of the seat gives: the variables' cells. -/
set_option linter.unusedVariables false
set_option linter.unusedSimpArgs false
namespace Go.Proofs.YtdcafoekbnacnaaGreatDoor
open Go.RowKit

theorem iface_of_trod {H : Type} {enc : TypeId × Value → H} {P : Program} {w : World} {base : Nat} {sp : Nat → Bool} {held : Bool} {fuel : Nat} {t : TypeId} {ms : Array (String × TypeId)} {cs : List Value} {y : DataW H} {p : List MemPlace}
    (ht : P.underlying t = some (.interface ms)) (h : DataW.trod enc P w base sp held fuel t cs = some (y, p)) : ∃ v, cs = [v] ∧ (v = .nilIface ∨ ∃ te pe, v = .iface te pe) := by
  cases fuel with
  | zero => simp [DataW.trod] at h
  | succ fuel =>
    match cs, h with
    | [], h => simp [DataW.trod, ht] at h
    | [v], h =>
      refine ⟨v, rfl, ?_⟩
      cases v <;> simp [DataW.trod, ht] at h <;> simp
    | _ :: _ :: _, h => simp [DataW.trod, ht] at h
theorem iface_head {P : Program} {n : String} {d : DataW Unit} {r : List (String × DataW Unit)} {W : World} {g : Nat} {ti : TypeId} {ms : Array (String × TypeId)}
    (h : laidMet P ((n, d) :: r) W) (hg : P.globalNamed n = some g) (ht : (P.globals[g]?).map (·.type) = some ti) (hi : P.underlying ti = some (.interface ms)) :
    ∃ ev, W.cell? ⟨g, 0, none⟩ = some ev ∧ (ev = .nilIface ∨ ∃ te pe, ev = .iface te pe) := by
  obtain ⟨ps, ⟨g0, t0, cs0, f0, p0, q0, hg0, ht0, hv0, hd0, _, e0⟩, _, _⟩ := h
  obtain rfl := Option.some.inj (hg.symm.trans hg0)
  obtain rfl := Option.some.inj (ht.symm.trans ht0)
  obtain ⟨v, hv, hc⟩ := iface_of_trod hi hd0
  obtain rfl : cs0 = #[v] := by cases cs0; simpa using hv
  exact ⟨v, by simpa using World.var?_cell hg0 hv0 0, hc⟩
theorem int_of_shape {P : Program} {w : World} {g : Nat} {t : TypeId} {zero : Array Value} (h : w.ShapedOpen P) (hg : g < P.globals.size)
    (h0 : ((begin P (fun _ _ => 0) default).world.heap[g]?).bind Obj.row? = some (zero, t)) (hz : zero.size = 1)
    (hb : P.buildable t = true) (hc : P.cellTypes P.depth t = some [t]) (hu : P.underlying t = some (.int .i64)) : ∃ p, w.cell? ⟨g, 0, none⟩ = some (.int .i64 p) := by
  obtain ⟨cs, hh, hs, hr⟩ := h.1 g zero t hg h0
  obtain ⟨ts, hts, _, hall⟩ := hr hb
  rw [hc] at hts
  cases hts
  have h1 : 0 < cs.size := by omega
  obtain ⟨u, hu', hok⟩ := hall 0 cs[0] (by simp [h1])
  have : u = t := by simpa using hu'.symm
  subst this
  have hcell : w.cell? ⟨g, 0, none⟩ = some cs[0] := by simp [World.cell?, hh, h1]
  rw [hcell]
  unfold Cell.ok at hok
  rw [hu] at hok
  cases hv : cs[0] <;> rw [hv] at hok <;> simp at hok
  obtain ⟨rfl, _⟩ := hok
  exact ⟨_, rfl⟩
theorem glob_of {w : World} (hs : w.ShapedOpen Tryz.prog) {r : List (String × DataW Unit)}
    (hL : laidMet Tryz.prog (("math/bits.deBruijn32tab", Rows.laid_math_bits_deBruijn32tab) :: ("math/bits.deBruijn64tab", Rows.laid_math_bits_deBruijn64tab) :: ("internal/strconv.uint64pow10", Rows.laid_internal_strconv_uint64pow10) :: ("unicode/utf8.acceptRanges", Rows.laid_unicode_utf8_acceptRanges) :: ("strconv.ErrRange", Rows.laid_strconv_ErrRange) :: ("strconv.ErrSyntax", Rows.laid_strconv_ErrSyntax) :: r) w) : Glob w := by
  have h2 := hL.tail
  have h3 := h2.tail
  have h5 := h3.tail.tail
  refine ⟨?_, ?_, ?_, ?_, ?_, ?_⟩
  · obtain ⟨⟨z, ty⟩, h0⟩ := Option.isSome_iff_exists.1 (show (((begin Tryz.prog (fun _ _ => 0) default).world.heap[Tryz.prog.globals.size - 1]?).bind Obj.row?).isSome = true by kernel_rfl)
    obtain ⟨cs, h, _⟩ := hs.1 (Tryz.prog.globals.size - 1) z ty (of_decide_eq_true (by kernel_rfl)) h0
    have hz : 0 < Tryz.prog.globals.size := of_decide_eq_true (by kernel_rfl)
    rcases Nat.lt_or_ge (Tryz.prog.globals.size - 1) w.heap.size with h' | h'
    · generalize Tryz.prog.globals.size = n at *; omega
    · rw [Array.getElem?_eq_none h'] at h; cases h
  · exact int_of_shape (g := 2) (t := 3) (zero := #[.int .i64 0]) hs (of_decide_eq_true (by kernel_rfl)) (by kernel_rfl) rfl (by kernel_rfl) (by kernel_rfl) Tryz.underlying3
  · exact iface_head (g := 5) (ti := 63) h5.tail (by kernel_rfl) (by kernel_rfl) Tryz.underlying63
  · exact iface_head (g := 6) (ti := 63) h5 (by kernel_rfl) (by kernel_rfl) Tryz.underlying63
  · exact Lib.tabIs_of_head (t := 217) (e := 5) (n := 64) (g := 9) (by kernel_rfl) (by kernel_rfl) Tryz.underlying217 Tryz.underlying5 (by kernel_rfl) (by kernel_rfl) h2
  · exact Lib.tabIs_of_head (t := 212) (e := 174) (n := 20) (g := 7) (by kernel_rfl) (by kernel_rfl) Tryz.underlying212 Tryz.underlying174 (by kernel_rfl) (by kernel_rfl) h3
open Go.ChangeShapes Go.WideShapes Go.Deep
end Go.Proofs.YtdcafoekbnacnaaGreatDoor

/- Slices of records and of texts that came in. -/
set_option linter.unusedVariables false
set_option linter.unusedSimpArgs false
namespace Go.Proofs.YtdcafoekbnacnaaGreatDoor
open Go.RowKit Go.ChangeShapes Go.WideShapes Go.Deep

theorem reachC {n : Nat} (h : n ≤ reachBytes) : n ≤ 140737488351232 := by unfold reachBytes at h; omega
theorem rows_came {α : Type} {w : World} {a : Addr} {n c size : Nat} (enc : α → List Value) (Q : α → Prop) (hs : ∀ x, (enc x).length = size) (h0 : 0 < size) (hc : n ≤ c)
    (h : ∀ i, i < n → ∃ x : α, Q x ∧ ∀ j u, (enc x)[j]? = some u → w.cell? (a.add (i * size + j)) = some u) : ∃ ls : List α, ls.length = n ∧ (∀ x ∈ ls, Q x) ∧ RowsAt w size (.slice (some a) n c) (ls.map enc) := by
  have hex : ∀ m, m ≤ n → ∃ ls : List α, ls.length = m ∧ (∀ x ∈ ls, Q x) ∧ ∀ (i : Nat) x, ls[i]? = some x → ∀ j u, (enc x)[j]? = some u → w.cell? (a.add (i * size + j)) = some u := by
    intro m
    induction m with
    | zero => exact fun _ => ⟨[], rfl, by simp, by simp⟩
    | succ m ih =>
      intro hm
      obtain ⟨ls, h1, h2, h3⟩ := ih (by omega)
      obtain ⟨x, hq, hx⟩ := h m (by omega)
      refine ⟨ls ++ [x], by simp [h1], fun y hy => ?_, fun i y hy j u hu => ?_⟩
      · rcases List.mem_append.1 hy with hy | hy
        · exact h2 y hy
        · rw [List.mem_singleton.1 hy]; exact hq
      · rcases Nat.lt_or_ge i ls.length with hi | hi
        · rw [List.getElem?_append_left hi] at hy
          exact h3 i y hy j u hu
        · rw [List.getElem?_append_right hi] at hy
          have hz : i - ls.length = 0 := by
            rcases Nat.eq_zero_or_pos (i - ls.length) with hz | hz
            · exact hz
            · rw [List.getElem?_eq_none (by simp only [List.length_cons, List.length_nil]; omega)] at hy; cases hy
          rw [hz] at hy
          simp at hy
          subst hy
          obtain rfl : i = m := by omega
          exact hx j u hu
  obtain ⟨ls, h1, h2, h3⟩ := hex n (Nat.le_refl _)
  refine ⟨ls, h1, h2, some a, c, by rw [List.length_map, h1], by rw [List.length_map]; omega, fun x hx => ?_, fun k x hx => ?_⟩
  · obtain ⟨y, _, rfl⟩ := List.mem_map.1 hx
    exact hs y
  · rw [List.getElem?_map, Option.map_eq_some_iff] at hx
    obtain ⟨y, hy, rfl⟩ := hx
    have hk := h3 k y hy
    refine ⟨a, rfl, ?_, fun j u hu => by rw [add_of_add]; exact hk j u hu⟩
    have hl : 0 < (enc y).length := by rw [hs]; exact h0
    have := World.block_lt_of_cell? w _ (hk 0 _ (List.getElem?_eq_getElem hl))
    rwa [block_of_add] at this
end Go.Proofs.YtdcafoekbnacnaaGreatDoor

/- Schemes and fields that came in. -/
set_option linter.unusedVariables false
set_option linter.unusedSimpArgs false
namespace Go.Proofs.YtdcafoekbnacnaaGreatDoor
open Go.RowKit Go.ChangeShapes Go.WideShapes Go.Deep

theorem len_of {s : ByteArray} (h : s.size ≤ reachBytes) : s.data.toList.length ≤ 140737488355328 := by
  have := reachC h
  have h3 := Lib.size_eq s
  omega
section
variable {H : Type} {enc : TypeId × Value → H} {P : Program} {w : World} {t e : TypeId} {cs : List Value}
theorem CameC.bool (ht : P.underlying t = some .bool) (h : CameC enc P w t cs) : ∃ b, cs = [.bool b] := by
  obtain ⟨n, d, p, h, _⟩ := h
  obtain ⟨z, h1, _⟩ := DataW.trod_bool ht h
  exact ⟨z, h1⟩
theorem CameC.arr {n : Nat} (ht : P.underlying t = some (.array n e)) (h : CameC enc P w t cs) : cs.length = P.cellsOf t ∧ ∀ i, i < n → CameC enc P w e ((cs.drop (i * P.cellsOf e)).take (P.cellsOf e)) := by
  obtain ⟨m, d, p, h, hw⟩ := h
  obtain ⟨xs, k, _, hx, hl, hlen, hf⟩ := DataW.trod_array ht h
  obtain ⟨rfl, rfl⟩ := Prod.mk.injEq .. ▸ hx
  refine ⟨hl, fun i hi => ?_⟩
  have hg : xs[i]? = some (xs[i]'(by omega)) := List.getElem?_eq_getElem (by omega)
  have h1 := hf i hi
  rw [hg] at h1
  refine ⟨k, (xs[i]'(by omega)).1, (xs[i]'(by omega)).2, h1, fun q hq => hw q ?_⟩
  simp only [DataW.weights, ht]
  exact weights_all (List.mem_map.2 ⟨_, List.getElem_mem (by omega), rfl⟩) q hq
theorem okWide_array {P : Program} {w : World} {r : Reach} {base : Nat} {v : Value} {n : Nat} (ht : P.underlying t = some (.array n e)) (h : Value.okWide P w r base t v) : ∃ cs, v = .agg cs ∧ cs.size = P.cellsOf t := by
  simp only [Value.okWide, ht] at h
  obtain ⟨cs, h1, h2, _⟩ := h
  exact ⟨cs, h1, h2⟩
end
theorem came_fields {H : Type} {enc : TypeId × Value → H} {w : World} {cs : List Value} (h : CameC enc Tryz.prog w 26 cs) :
    ∃ f0 f1 f2 f3 f4 f5 f6 f7 f8 : List UInt8, cs = [.string (bs f0), .string (bs f1), .string (bs f2), .string (bs f3), .string (bs f4), .string (bs f5), .string (bs f6), .string (bs f7), .string (bs f8)] := by
  obtain ⟨h1, h2⟩ := h.arr Tryz.underlying26
  have k1 : Tryz.prog.cellsOf 9 = 1 := by kernel_rfl
  have h1' : cs.length = 9 := h1.trans (by kernel_rfl)
  rw [k1] at h2
  match cs, h1' with
  | [y0, y1, y2, y3, y4, y5, y6, y7, y8], _ =>
    obtain ⟨s0, g0, _⟩ := (h2 0 (by decide)).string Tryz.underlying9
    obtain ⟨s1, g1, _⟩ := (h2 1 (by decide)).string Tryz.underlying9
    obtain ⟨s2, g2, _⟩ := (h2 2 (by decide)).string Tryz.underlying9
    obtain ⟨s3, g3, _⟩ := (h2 3 (by decide)).string Tryz.underlying9
    obtain ⟨s4, g4, _⟩ := (h2 4 (by decide)).string Tryz.underlying9
    obtain ⟨s5, g5, _⟩ := (h2 5 (by decide)).string Tryz.underlying9
    obtain ⟨s6, g6, _⟩ := (h2 6 (by decide)).string Tryz.underlying9
    obtain ⟨s7, g7, _⟩ := (h2 7 (by decide)).string Tryz.underlying9
    obtain ⟨s8, g8, _⟩ := (h2 8 (by decide)).string Tryz.underlying9
    simp at g0 g1 g2 g3 g4 g5 g6 g7 g8
    subst g0 g1 g2 g3 g4 g5 g6 g7 g8
    exact ⟨s0.data.toList, s1.data.toList, s2.data.toList, s3.data.toList, s4.data.toList, s5.data.toList, s6.data.toList, s7.data.toList, s8.data.toList, rfl⟩
theorem came_part {H : Type} {enc : TypeId × Value → H} {w : World} {cs : List Value} (h : CameC enc Tryz.prog w 41 cs) : ∃ p : Prt, cs = ptV p ∧ True := by
  obtain ⟨h1, h2⟩ := h.fields Tryz.underlying41 (by kernel_rfl) (by kernel_rfl)
  obtain ⟨v0, e0, c0⟩ := h2 0 _ rfl
  obtain ⟨v1, e1, c1⟩ := h2 1 _ rfl
  obtain ⟨v2, e2, c2⟩ := h2 2 _ rfl
  obtain ⟨v3, e3, c3⟩ := h2 3 _ rfl
  obtain ⟨k0, g0, _⟩ := c0.int Tryz.underlying3
  obtain ⟨s1, g1, l1⟩ := c1.string Tryz.underlying9
  obtain ⟨s2, g2, l2⟩ := c2.string Tryz.underlying9
  obtain ⟨b3, g3⟩ := c3.bool Tryz.underlying4
  simp only [List.cons.injEq, and_true] at g0 g1 g2 g3
  subst g0 g1 g2 g3
  have h1' : cs.length = 4 := h1
  match cs, h1' with
  | [y0, y1, y2, y3], _ =>
    simp only [List.getElem?_cons_zero, List.getElem?_cons_succ, Option.some.injEq] at e0 e1 e2 e3
    exact ⟨⟨k0, s1.data.toList, s2.data.toList, b3⟩, by rw [e0, e1, e2, e3]; rfl, trivial⟩
theorem came_parts {H : Type} {enc : TypeId × Value → H} {w : World} {cs : List Value} (h : CameC enc Tryz.prog w 22 cs) :
    ∃ (v : Value) (ps : List Prt), cs = [v] ∧ PartsAt w v ps ∧ ps.length ≤ 8796093022208 := by
  rcases h.slice Tryz.underlying22 with rfl | ⟨a, n, c, rfl, hn, hb, _, hi⟩
  · exact ⟨_, [], rfl, RowsAt.nil _ _, by simp⟩
  · have h1 : Tryz.prog.cellsOf 41 = 4 := by kernel_rfl
    have h2 : Tryz.prog.bytesOf 41 = 48 := by kernel_rfl
    rw [h1] at hi
    rw [h2] at hb
    obtain ⟨ls, e, hq, hr⟩ := rows_came (w := w) (a := a) (c := c) (size := 4) ptV (fun x => True) (fun _ => rfl) (by decide) hn fun i hi' => by
      obtain ⟨cs', hl, hat, hcm⟩ := hi i hi'
      obtain ⟨l, rfl, hf⟩ := came_part hcm
      refine ⟨l, hf, fun j u hu => ?_⟩
      rw [hat j (by rcases Nat.lt_or_ge j 4 with h | h; exact h; rw [List.getElem?_eq_none (by simpa [ptV] using h)] at hu; cases hu)]
      exact hu
    refine ⟨_, ls, rfl, e ▸ hr, ?_⟩
    have := reachC hb
    omega
theorem came_scheme {H : Type} {enc : TypeId × Value → H} {w : World} {cs : List Value} (h : CameC enc Tryz.prog w 24 cs) :
    ∃ (v : Value) (s : Sch), cs = [.string (bs s.c), v] ∧ PartsAt w v s.ps ∧ s.ps.length ≤ 8796093022208 ∧ s.c.length ≤ 140737488355328 := by
  obtain ⟨h1, h2⟩ := h.fields Tryz.underlying24 (by kernel_rfl) (by kernel_rfl)
  obtain ⟨v0, e0, c0⟩ := h2 0 _ rfl
  obtain ⟨v1, e1, c1⟩ := h2 1 _ rfl
  obtain ⟨s0, g0, l0⟩ := c0.string Tryz.underlying9
  obtain ⟨u, ps, g1, hP, hl⟩ := came_parts c1
  simp only [List.cons.injEq, and_true] at g0 g1
  subst g0 g1
  have h1' : cs.length = 2 := h1
  match cs, h1' with
  | [y0, y1], _ =>
    simp only [List.getElem?_cons_zero, List.getElem?_cons_succ, Option.some.injEq] at e0 e1
    exact ⟨v1, ⟨s0.data.toList, ps⟩, by rw [e0, e1]; rfl, hP, hl, len_of l0⟩
end Go.Proofs.YtdcafoekbnacnaaGreatDoor

/- A copy of parts: append to an empty row. -/
set_option linter.unusedVariables false
set_option linter.unusedSimpArgs false
namespace Go.Proofs.YtdcafoekbnacnaaGreatDoor
open Go.RowKit Go.Shelf
attribute [local go_sem] Oper.semAt_some

/-- a row of parts that the call has made, all of its own -/
def OwnP (w : World) (B : Nat) (v : Value) (ps : List Prt) : Prop := w.ownsRow B 41 4 v ps.length (ps.map ptV).flatten
theorem ptV_len {ps : List Prt} : ∀ x ∈ ps.map ptV, x.length = 4 := fun x hx => by obtain ⟨y, _, rfl⟩ := List.mem_map.1 hx; rfl
theorem OwnP.parts {w : World} {B : Nat} {v : Value} {ps : List Prt} (h : OwnP w B v ps) : PartsAt w v ps := by
  unfold OwnP at h
  exact RowsAt.of_own ptV_len (by rw [List.length_map]; exact h)
end Go.Proofs.YtdcafoekbnacnaaGreatDoor

/- Boxes made at the entry of a function. -/
set_option linter.unusedVariables false
set_option linter.unusedSimpArgs false
namespace Go.Proofs.YtdcafoekbnacnaaGreatDoor
open Go.RowKit

theorem box1 (w : World) (T1 : TypeId) (c1 : Array Value) : Blk (w.alloc (.cells c1 T1)) w.heap.size T1 c1 ∧ Below w.heap.size w (w.alloc (.cells c1 T1)) := ⟨Blk.new _ _ _, below_one _ _⟩
theorem box2 (w : World) (T1 : TypeId) (c1 : Array Value) (T2 : TypeId) (c2 : Array Value) :
    Blk ((w.alloc (.cells c1 T1)).alloc (.cells c2 T2)) w.heap.size T1 c1 ∧ Blk ((w.alloc (.cells c1 T1)).alloc (.cells c2 T2)) (w.heap.size + 1) T2 c2 ∧ Below w.heap.size w ((w.alloc (.cells c1 T1)).alloc (.cells c2 T2)) := by
  refine ⟨(box1 w T1 c1).1.to (below_one _ _), ?_, below_two _ _ _⟩
  have := Blk.new (w.alloc (.cells c1 T1)) T2 c2
  simpa using this
theorem box3 (w : World) (T1 : TypeId) (c1 : Array Value) (T2 : TypeId) (c2 : Array Value) (T3 : TypeId) (c3 : Array Value) :
    Blk (((w.alloc (.cells c1 T1)).alloc (.cells c2 T2)).alloc (.cells c3 T3)) w.heap.size T1 c1 ∧ Blk (((w.alloc (.cells c1 T1)).alloc (.cells c2 T2)).alloc (.cells c3 T3)) (w.heap.size + 1) T2 c2 ∧
    Blk (((w.alloc (.cells c1 T1)).alloc (.cells c2 T2)).alloc (.cells c3 T3)) (w.heap.size + 1 + 1) T3 c3 ∧ Below w.heap.size w (((w.alloc (.cells c1 T1)).alloc (.cells c2 T2)).alloc (.cells c3 T3)) := by
  obtain ⟨h1, h2, h3⟩ := box2 w T1 c1 T2 c2
  refine ⟨h1.to (below_one _ _), h2.to (below_one _ _), ?_, below_alloc h3 (Nat.le_refl _) _⟩
  have := Blk.new ((w.alloc (.cells c1 T1)).alloc (.cells c2 T2)) T3 c3
  simpa using this
end Go.Proofs.YtdcafoekbnacnaaGreatDoor

/- Chapter 23: plain facts for the walks of the laws; values compared. -/
set_option linter.unusedVariables false
set_option linter.unusedSimpArgs false
namespace Go.Proofs.YtdcafoekbnacnaaGreatDoor
open Go.RowKit Go.Shelf
attribute [local go_sem] Oper.semAt_some

theorem few_facts {s : Sch} (h : fewB s = true) : s.ps.length ≤ 10 ∧ (∀ p ∈ s.ps, p.b.length ≤ 60 ∧ p.a.length ≤ 60) ∧ s.c.length ≤ 60 := by
  unfold fewB at h
  simp only [Bool.and_eq_true, decide_eq_true_eq, List.all_eq_true] at h
  obtain ⟨h1, h2, h3⟩ := h
  rw [List.take_of_length_le h2] at h1
  refine ⟨h2, fun p hp => ?_, h3⟩
  have := h1 p hp
  unfold smP at this
  simpa using this
theorem fits_kinds {s : Sch} {f : List (List UInt8)} (hl : f.length = 9) (h : fitsB isNm numB s f = true) : ∀ p ∈ s.ps, 1 ≤ p.k ∧ p.k ≤ 8 := fun p hp => (((fitsB_iff isNm numB s f hl).1 h).valid.part p hp).1
theorem bs_ne {a b : List UInt8} (h : a ≠ b) : ((bs a).toList == (bs b).toList) = false := by rw [beq_eq_false_iff_ne, bs_toList, bs_toList]; exact h
set_option maxRecDepth 100000 in
set_option maxHeartbeats 2000000 in
theorem fields_eq (f0 f1 f2 f3 f4 f5 f6 f7 f8 g0 g1 g2 g3 g4 g5 g6 g7 g8 : List UInt8) (w : World) : (binOp .eql 26 (.agg #[.string (bs f0), .string (bs f1), .string (bs f2), .string (bs f3), .string (bs f4), .string (bs f5), .string (bs f6), .string (bs f7), .string (bs f8)]) (.agg #[.string (bs g0), .string (bs g1), .string (bs g2), .string (bs g3), .string (bs g4), .string (bs g5), .string (bs g6), .string (bs g7), .string (bs g8)])).run Tryz.prog w = .ok (.bool (decide ([f0, f1, f2, f3, f4, f5, f6, f7, f8] = [g0, g1, g2, g3, g4, g5, g6, g7, g8]))) w := by
  have hi : (Tryz.prog.info? 9).isSome = true := by kernel_rfl
  obtain ⟨i, hi⟩ := Option.isSome_iff_exists.1 hi
  rw [run_eql_struct, show (10000 : Nat) = 9999 + 1 from rfl, run_equalIn_array w 9999 _ _ Tryz.underlying26 hi, show Tryz.prog.cellsOf 9 = 1 by kernel_rfl, show List.range 9 = [0, 1, 2, 3, 4, 5, 6, 7, 8] from rfl]
  simp only [Op.eqItems]
  by_cases e0 : f0 = g0
  rotate_left
  · have t0 := bs_ne e0
    rw [decide_eq_false (by simp [e0])]
    go_simp
  subst e0
  by_cases e1 : f1 = g1
  rotate_left
  · have t1 := bs_ne e1
    rw [decide_eq_false (by simp [e1])]
    go_simp
  subst e1
  by_cases e2 : f2 = g2
  rotate_left
  · have t2 := bs_ne e2
    rw [decide_eq_false (by simp [e2])]
    go_simp
  subst e2
  by_cases e3 : f3 = g3
  rotate_left
  · have t3 := bs_ne e3
    rw [decide_eq_false (by simp [e3])]
    go_simp
  subst e3
  by_cases e4 : f4 = g4
  rotate_left
  · have t4 := bs_ne e4
    rw [decide_eq_false (by simp [e4])]
    go_simp
  subst e4
  by_cases e5 : f5 = g5
  rotate_left
  · have t5 := bs_ne e5
    rw [decide_eq_false (by simp [e5])]
    go_simp
  subst e5
  by_cases e6 : f6 = g6
  rotate_left
  · have t6 := bs_ne e6
    rw [decide_eq_false (by simp [e6])]
    go_simp
  subst e6
  by_cases e7 : f7 = g7
  rotate_left
  · have t7 := bs_ne e7
    rw [decide_eq_false (by simp [e7])]
    go_simp
  subst e7
  by_cases e8 : f8 = g8
  rotate_left
  · have t8 := bs_ne e8
    rw [decide_eq_false (by simp [e8])]
    go_simp
  subst e8
  rw [decide_eq_true rfl]
  go_simp
end Go.Proofs.YtdcafoekbnacnaaGreatDoor
