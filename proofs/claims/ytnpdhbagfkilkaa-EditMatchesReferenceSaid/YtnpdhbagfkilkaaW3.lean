/- Walks: edit.Valid. -/
import Derived.Test.YtnpdhbagfkilkaaW2
import Derived.Test.YtnpdhbagfkilkaaMaps
import Derived.Test.YtnpdhbagfkilkaaPlain
set_option linter.unusedVariables false
set_option linter.unusedSimpArgs false
namespace Go.Proofs.Ytnpdhbagfkilkaa
open Go.RowKit

/-- weights as a value -/
def wval (W : Wt) (A : Option Addr) (n c : Nat) : Value := .agg #[.int .i64 W.ins, .int .i64 W.del, .int .i64 W.chg, .int .i64 W.swp, .slice A n c]
def nearCells (l : List (Int × Int × Int)) : List Value := l.flatMap fun n => [.int .i64 n.1, .int .i64 n.2.1, .int .i64 n.2.2]
def Near (w : World) (B : Nat) (A : Option Addr) (n : Nat) (l : List (Int × Int × Int)) : Prop := l.length = n ∧ Reads w B 3 A n (nearCells l)

theorem nearCells_get (l : List (Int × Int × Int)) (k : Nat) (hk : k < l.length) :
    (nearCells l)[k * 3]? = some (.int .i64 l[k].1) ∧ (nearCells l)[k * 3 + 1]? = some (.int .i64 l[k].2.1) ∧ (nearCells l)[k * 3 + 2]? = some (.int .i64 l[k].2.2) := by
  induction l generalizing k with
  | nil => simp at hk
  | cons x l ih =>
    cases k with
    | zero => simp [nearCells]
    | succ k =>
      have := ih k (by simpa using hk)
      simp only [nearCells, List.flatMap_cons] at this ⊢
      rw [List.getElem?_append_right (by simp; omega), List.getElem?_append_right (by simp; omega), List.getElem?_append_right (by simp; omega)]
      simp only [List.length_cons, List.length_nil, List.getElem_cons_succ]
      rw [show (k + 1) * 3 - (0 + 1 + 1 + 1) = k * 3 from by omega, show (k + 1) * 3 + 1 - (0 + 1 + 1 + 1) = k * 3 + 1 from by omega, show (k + 1) * 3 + 2 - (0 + 1 + 1 + 1) = k * 3 + 2 from by omega]
      exact this
theorem Near.at_ {w : World} {B n k : Nat} {A : Option Addr} {l : List (Int × Int × Int)} (h : Near w B A n l) (hk : k < n) :
    ∃ ad n1 n2 n3, ∃ hl : k < l.length, A = some ad ∧ ad.block < B ∧ l[k] = (n1, n2, n3) ∧ w.cell? (ad.add (k * 3)) = some (.int .i64 n1) ∧ w.cell? ⟨(ad.add (k * 3)).block, (ad.add (k * 3)).off + 1, none⟩ = some (.int .i64 n2) ∧ w.cell? ⟨(ad.add (k * 3)).block, (ad.add (k * 3)).off + 2, none⟩ = some (.int .i64 n3) := by
  obtain ⟨hlen, hr⟩ := h
  obtain ⟨ad, e, hb, hc⟩ := Reads.at_ hr hk
  have hl : k < l.length := by omega
  obtain ⟨g0, g1, g2⟩ := nearCells_get l k hl
  obtain ⟨u0, a0, c0⟩ := hc 0 (by omega)
  obtain ⟨u1, a1, c1⟩ := hc 1 (by omega)
  obtain ⟨u2, a2, c2⟩ := hc 2 (by omega)
  rw [Nat.add_zero, g0] at a0
  rw [g1] at a1
  rw [g2] at a2
  have e0 : (ad.add (k * 3)).add 0 = ad.add (k * 3) := by rw [add_of_add, Nat.add_zero]
  rw [e0] at c0
  exact ⟨ad, _, _, _, hl, e, hb, rfl, c0.trans a0.symm, c1.trans a1.symm, c2.trans a2.symm⟩
theorem Near.below {w w' : World} {B C n : Nat} {A : Option Addr} {l : List (Int × Int × Int)} (h : Near w B A n l) (hb : Below C w w') (hB : B ≤ C) : Near w' B A n l := ⟨h.1, Reads.below h.2 hb hB⟩
theorem Near.more {w : World} {B C n : Nat} {A : Option Addr} {l : List (Int × Int × Int)} (h : Near w B A n l) (hB : B ≤ C) : Near w C A n l := ⟨h.1, Reads.more h.2 hB⟩

def numsOk (W : Wt) (k : Nat) : Prop := ∀ j, j < k → 0 ≤ W.num j ∧ W.num j ≤ 1000
theorem numsOk_succ {W : Wt} {k : Nat} (h : numsOk W k) (h1 : 0 ≤ W.num k) (h2 : W.num k ≤ 1000) : numsOk W (k + 1) := fun j hj => by
  rcases Nat.lt_or_ge j k with h' | h'
  · exact h j h'
  · obtain rfl : j = k := by omega
    exact ⟨h1, h2⟩

theorem arr2int : WideMaps.ArrKey Try.prog 64 3 2 := ⟨Try.underlying64, by kernel_rfl, by kernel_rfl, by kernel_rfl⟩
theorem law2int : KeySem Try.prog 64 (fun v => ∃ l, keyOf Try.prog 64 v = some l) := KeySem.of_keyed (Maps.Keyed.of_law arr2int.law)
theorem types_two : ∃ m, Try.prog.types.size = m + 2 := by
  have h : 2 ≤ Try.prog.types.size := of_decide_eq_true (by kernel_rfl)
  exact ⟨_, (Nat.sub_add_cancel h).symm⟩
def S2int (v : Value) : Prop := ∃ l, keyOf Try.prog 64 v = some l
def seenOf (l : List (Int × Int × Int)) : List (Value × Value) := l.map fun n => (pairKey .i64 n.1 n.2.1, .bool true)

structure SeenRel (wr w : World) (W : Wt) (A : Option Addr) (n c k : Nat) : Prop where
  blk : Blk wr w.heap.size 24 #[.int .i64 W.ins, .int .i64 W.del, .int .i64 W.chg, .int .i64 W.swp, .slice A n c]
  map : MapIs S2int wr (w.heap.size + 1) (seenOf (W.near.take k))
  bel : Below w.heap.size w wr
  good : ∀ x ∈ W.near.take k, W.nearOk x = true
theorem SeenRel.start (w : World) (W : Wt) (A : Option Addr) (n c : Nat) : SeenRel ((w.alloc (.cells #[.int .i64 W.ins, .int .i64 W.del, .int .i64 W.chg, .int .i64 W.swp, .slice A n c] 24)).alloc (.map #[] 0)) w W A n c 0 :=
  ⟨(Blk.new _ _ _).alloc _, by simpa [seenOf] using MapIs.new S2int (w.alloc (.cells #[.int .i64 W.ins, .int .i64 W.del, .int .i64 W.chg, .int .i64 W.swp, .slice A n c] 24)), ((Below.refl _ _).alloc (Nat.le_refl _) _).alloc (by simp) _, by simp⟩

theorem wf_small {x : Int} (h1 : -9223372036854775808 ≤ x) (h2 : x ≤ 9223372036854775807) : (Lit.int .i64 x).wf = true := WalkArith.wf_i64 ⟨h1, h2⟩
theorem seenOf_has {l : List (Int × Int × Int)} {x : Value} (h : ¬ lacks (seenOf l) x) : has (seenOf l) x (.bool true) := by
  unfold lacks at h
  unfold has
  simp only [Classical.not_forall, Classical.not_not] at h
  obtain ⟨y, hy, e⟩ := h
  obtain ⟨n, hn, rfl⟩ := List.mem_map.1 hy
  rw [← e]
  exact hy
theorem seenOf_mem {l : List (Int × Int × Int)} {n1 n2 n3 : Int} (h : has (seenOf l) (pairKey .i64 n1 n2) (.bool true)) : Wt.pr (n1, n2, n3) ∈ l.map Wt.pr := by
  obtain ⟨n, hn, e⟩ := List.mem_map.1 h
  refine List.mem_map.2 ⟨n, hn, ?_⟩
  have := pairKey_inj (Prod.mk.inj e).1
  simp [Wt.pr, this]
theorem seenOf_apart {l : List (Int × Int × Int)} (h : (seenOf l).Pairwise fun x y => x.1 ≠ y.1) : (l.map Wt.pr).Pairwise (· ≠ ·) := by
  rw [seenOf, List.pairwise_map] at h
  rw [List.pairwise_map]
  refine h.imp (fun {a b} hab e => hab ?_)
  simp only [Wt.pr, Prod.mk.injEq] at e
  simp [e]
theorem SeenRel.step {wr w : World} {W : Wt} {A : Option Addr} {n c k : Nat} (h : SeenRel wr w W A n c k) (o1 o2 : Obj) (hl : k < W.near.length) {n1 n2 n3 : Int} (hat : W.near[k] = (n1, n2, n3)) (hg : W.nearOk W.near[k] = true)
    (hS : S2int (pairKey .i64 n1 n2)) (hs : lacks (seenOf (W.near.take k)) (pairKey .i64 n1 n2)) :
    SeenRel (putMap ((wr.alloc o1).alloc o2) (w.heap.size + 1) (seenOf (W.near.take k) ++ [(pairKey .i64 n1 n2, .bool true)])) w W A n c (k + 1) := by
  have hlt := h.map.lt
  have htake : W.near.take (k + 1) = W.near.take k ++ [(n1, n2, n3)] := by rw [List.take_succ_eq_append_getElem hl, hat]
  refine ⟨putMap_blk ((h.blk.alloc o1).alloc o2) (by omega), ?_, putMap_below ((h.bel.alloc (by omega) o1).alloc (by simp; omega) o2) (by omega), ?_⟩
  · have e : seenOf (W.near.take (k + 1)) = seenOf (W.near.take k) ++ [(pairKey .i64 n1 n2, .bool true)] := by rw [htake]; simp [seenOf]
    rw [e]
    exact ((h.map.alloc o1).alloc o2).append_is hS hs
  · rw [htake]
    intro x hx
    rcases List.mem_append.1 hx with h1 | h1
    · exact h.good x h1
    · rw [List.mem_singleton.1 h1, ← hat]; exact hg

set_option maxHeartbeats 400000 in
theorem valid_try (W : Wt) (A : Option Addr) (n c : Nat) (X : Nat) (w : World) (hN : Near w X A n W.near) (hX : X ≤ w.heap.size) (hn : n ≤ 140737488355328) :
    Calls Try.prog 20 #[wval W A n c] w fun e w' => e = .returned (.bool W.valid) ∧ Below w.heap.size w w' := by
  have HN := hide hN
  clear hN
  obtain ⟨I, D, C, S, near⟩ := W
  have i0 : ∀ w, (Instr.index 60 (.agg #[.int .i64 I, .int .i64 D, .int .i64 C, .int .i64 S]) (.int .i64 0)).run Try.prog w = .ok (.int .i64 I) w := fun _ => by kernel_rfl
  have i1 : ∀ w, (Instr.index 60 (.agg #[.int .i64 I, .int .i64 D, .int .i64 C, .int .i64 S]) (.int .i64 1)).run Try.prog w = .ok (.int .i64 D) w := fun _ => by kernel_rfl
  have i2 : ∀ w, (Instr.index 60 (.agg #[.int .i64 I, .int .i64 D, .int .i64 C, .int .i64 S]) (.int .i64 2)).run Try.prog w = .ok (.int .i64 C) w := fun _ => by kernel_rfl
  have i3 : ∀ w, (Instr.index 60 (.agg #[.int .i64 I, .int .i64 D, .int .i64 C, .int .i64 S]) (.int .i64 3)).run Try.prog w = .ok (.int .i64 S) w := fun _ => by kernel_rfl
  have hmm := @run_makeMap Try.prog
  go_enter Try.func20, Try.ntmps20
  unfold wval
  go_wp2
  go_loop [18] (fun i => ∃ k : Nat, k ≤ 4 ∧ i = .int .i64 k ∧ numsOk ⟨I, D, C, S, near⟩ k) (fun i => 4 - (intOf i).toNat)
  case atStart => exact ⟨0, by omega, rfl, fun j hj => by omega⟩
  case round =>
    obtain ⟨k, hk, rfl, hnum⟩ := hrel
    have Hnum := hide hnum
    clear hnum
    by_cases hlt : k < 4
    · have hx : ∃ x : Int, (∀ w, (Instr.index 60 (.agg #[.int .i64 I, .int .i64 D, .int .i64 C, .int .i64 S]) (.int .i64 k)).run Try.prog w = .ok (.int .i64 x) w) ∧ Wt.num ⟨I, D, C, S, near⟩ k = x := by
        match k, hlt with
        | 0, _ => exact ⟨I, i0, rfl⟩
        | 1, _ => exact ⟨D, i1, rfl⟩
        | 2, _ => exact ⟨C, i2, rfl⟩
        | 3, _ => exact ⟨S, i3, rfl⟩
      clear i0 i1 i2 i3
      obtain ⟨x, ix, ex⟩ := hx
      have Ex := hide ex
      clear ex
      by_cases h1 : x < 0
      · have HF := hide (Wt.bad_num (W := ⟨I, D, C, S, near⟩) hlt (.inl (by rw [Ex.out]; exact h1)))
        go_wp2
        go_ret
        exact ⟨ret_bool (by rw [HF.out]), (Below.refl _ _).alloc (Nat.le_refl _) _⟩
      · by_cases h2 : 1000 < x
        · have HF := hide (Wt.bad_num (W := ⟨I, D, C, S, near⟩) hlt (.inr (by rw [Ex.out]; exact h2)))
          go_wp2
          go_ret
          exact ⟨ret_bool (by rw [HF.out]), (Below.refl _ _).alloc (Nat.le_refl _) _⟩
        · go_wp2
          go_round
          case rel => exact ⟨k + 1, by omega, by go_num, numsOk_succ Hnum.out (by rw [Ex.out]; omega) (by rw [Ex.out]; omega)⟩
          case measure => simp [intOf]; omega
    · obtain rfl : k = 4 := by omega
      clear i0 i1 i2 i3
      go_wp2
      go_loopw [32] (fun i wr => ∃ k : Nat, k ≤ n ∧ i = .int .i64 k ∧ SeenRel wr w ⟨I, D, C, S, near⟩ A n c k) (fun i _ => n - (intOf i).toNat)
      case atStart => exact ⟨0, by omega, rfl, SeenRel.start w ⟨I, D, C, S, near⟩ A n c⟩
      case round =>
        obtain ⟨k, hk, rfl, hrel⟩ := hrel
        obtain ⟨hblk, hmap, hbel, hgood⟩ := hrel
        by_cases hlt : k < n
        · obtain ⟨ad, n1, n2, n3, hl, rfl, hadb, hat, c1, c2, c3⟩ := (HN.out.below hbel hX).at_ hlt
          have d2 : wr.cell? ⟨w.heap.size, 2, none⟩ = some (.int .i64 C) := hblk.cell 2
          have hz : w.heap.size + 1 < wr.heap.size := hmap.lt
          have hz' : w.heap.size < wr.heap.size := by omega
          have HL := hide HN.out.1
          have Hat := hide hat
          have Hgood := hide hgood
          have hbad : ∀ b : Bool, Wt.nearOk ⟨I, D, C, S, near⟩ (n1, n2, n3) = b → Hid (Wt.nearOk ⟨I, D, C, S, near⟩ near[k] = b) := fun b hb => by rw [hat]; exact hb
          have Hbad := hide hbad
          clear hat hgood hbad
          by_cases t1 : n1 < 32
          · have HF := hide (Wt.bad_near hl (Hbad.out false (by simp [Wt.nearOk]; omega)).out)
            clear Hbad
            go_wp2
            go_ret
            exact ⟨ret_bool (by rw [HF.out]), (hbel.alloc (by omega) _).alloc (by simp; omega) _⟩
          by_cases t2 : 126 < n2
          · have HF := hide (Wt.bad_near hl (Hbad.out false (by simp [Wt.nearOk]; omega)).out)
            clear Hbad
            go_wp2
            go_ret
            exact ⟨ret_bool (by rw [HF.out]), (hbel.alloc (by omega) _).alloc (by simp; omega) _⟩
          by_cases t3 : n2 ≤ n1
          · have HF := hide (Wt.bad_near hl (Hbad.out false (by simp [Wt.nearOk]; omega)).out)
            clear Hbad
            go_wp2
            go_ret
            exact ⟨ret_bool (by rw [HF.out]), (hbel.alloc (by omega) _).alloc (by simp; omega) _⟩
          by_cases t4 : n3 < 0
          · have HF := hide (Wt.bad_near hl (Hbad.out false (by simp [Wt.nearOk]; omega)).out)
            clear Hbad
            go_wp2
            go_ret
            exact ⟨ret_bool (by rw [HF.out]), (hbel.alloc (by omega) _).alloc (by simp; omega) _⟩
          by_cases t5 : C < n3
          · have HF := hide (Wt.bad_near hl (Hbad.out false (by simp [Wt.nearOk]; omega)).out)
            clear Hbad
            go_wp2
            go_ret
            exact ⟨ret_bool (by rw [HF.out]), (hbel.alloc (by omega) _).alloc (by simp; omega) _⟩
          have HG := hide (Hbad.out true (by simp [Wt.nearOk]; omega)).out
          clear Hbad
          have hS : S2int (pairKey .i64 n1 n2) := keyOf_pair arr2int Try.underlying3 types_two (wf_small (by omega) (by omega)) (wf_small (by omega) (by omega))
          by_cases hs : lacks (seenOf (near.take k)) (pairKey .i64 n1 n2)
          · have hlk : ∀ o1 o2 : Obj, (Instr.lookup 61 (.map (some (w.heap.size + 1))) (.agg #[.int .i64 n1, .int .i64 n2]) false).run Try.prog ((wr.alloc o1).alloc o2) = .ok (.bool false) ((wr.alloc o1).alloc o2) :=
              fun o1 o2 => run_lookup_lacks ((hmap.alloc o1).alloc o2) law2int Try.underlying61 (by kernel_rfl) hS hs
            have hup : ∀ o1 o2 : Obj, (Instr.mapUpdate 61 (.map (some (w.heap.size + 1))) (.agg #[.int .i64 n1, .int .i64 n2]) (.bool true)).run Try.prog ((wr.alloc o1).alloc o2) = .ok () (putMap ((wr.alloc o1).alloc o2) (w.heap.size + 1) (seenOf (near.take k) ++ [(pairKey .i64 n1 n2, .bool true)])) :=
              fun o1 o2 => run_update_new ((hmap.alloc o1).alloc o2) law2int Try.underlying61 hS hs
            have Hnew : Hid (∀ o1 o2 : Obj, SeenRel (putMap ((wr.alloc o1).alloc o2) (w.heap.size + 1) (seenOf (near.take k) ++ [(pairKey .i64 n1 n2, .bool true)])) w ⟨I, D, C, S, near⟩ (some ad) n c (k + 1)) :=
              fun o1 o2 => SeenRel.step ⟨hblk, hmap, hbel, Hgood.out⟩ o1 o2 hl Hat.out HG.out hS hs
            clear hmap hblk
            go_wp2
            go_roundw
            case rel => exact ⟨k + 1, by omega, by go_num, Hnew.out _ _⟩
            case measure => simp [intOf]; omega
          · have hex : has (seenOf (near.take k)) (pairKey .i64 n1 n2) (.bool true) := seenOf_has hs
            have hlk : ∀ o1 o2 : Obj, (Instr.lookup 61 (.map (some (w.heap.size + 1))) (.agg #[.int .i64 n1, .int .i64 n2]) false).run Try.prog ((wr.alloc o1).alloc o2) = .ok (.bool true) ((wr.alloc o1).alloc o2) :=
              fun o1 o2 => run_lookup_has ((hmap.alloc o1).alloc o2) law2int Try.underlying61 (z := .bool false) (by kernel_rfl) hS hex
            have HF := hide (Wt.bad_seen (W := ⟨I, D, C, S, near⟩) hl (by rw [Hat.out]; exact seenOf_mem hex))
            go_wp2
            go_ret
            exact ⟨ret_bool (by rw [HF.out]), (hbel.alloc (by omega) _).alloc (by simp; omega) _⟩
        · obtain rfl : k = n := by omega
          have HL := HN.out.1
          have ha := hmap.apart
          have d4 : wr.cell? ⟨w.heap.size, 4, none⟩ = some (.slice A k c) := hblk.cell 4
          have HF := hide (Wt.good_all (W := ⟨I, D, C, S, near⟩) Hnum.out (by rwa [List.take_of_length_le (by simp; omega)] at hgood) (by rw [List.take_of_length_le (by simp; omega)] at ha; exact seenOf_apart ha))
          have HL' := hide HL
          clear HL ha hgood
          go_wp2
          go_ret
          exact ⟨ret_bool (by rw [HF.out]; simp [HL'.out]; omega), hbel⟩
end Go.Proofs.Ytnpdhbagfkilkaa
