/- Walks: edit.open. -/
import Derived.Test.YtnpdhbagfkilkaaW3
set_option linter.unusedVariables false
set_option linter.unusedSimpArgs false
namespace Go.Proofs.Ytnpdhbagfkilkaa
open Go.RowKit

theorem arr2byte : WideMaps.ArrKey Try.prog 71 5 2 := ⟨Try.underlying71, by kernel_rfl, by kernel_rfl, by kernel_rfl⟩
def S2byte (v : Value) : Prop := ∃ l, keyOf Try.prog 71 v = some l
theorem law2byte : KeySem Try.prog 71 S2byte := KeySem.of_keyed (Maps.Keyed.of_law arr2byte.law)
def nearMap (l : List (Int × Int × Int)) : List (Value × Value) := l.flatMap fun n => [(pairKey .u8 n.1 n.2.1, .int .i64 n.2.2), (pairKey .u8 n.2.1 n.1, .int .i64 n.2.2)]
theorem wf_byte {x : Int} (h1 : 0 ≤ x) (h2 : x ≤ 255) : (Lit.int .u8 x).wf = true := by
  simp [Lit.wf, IntKind.min, IntKind.max, IntKind.signed, IntKind.bits]; omega
theorem S2byte_of {a b : Int} (h1 : 0 ≤ a) (h2 : a ≤ 255) (h3 : 0 ≤ b) (h4 : b ≤ 255) : S2byte (pairKey .u8 a b) :=
  keyOf_pair arr2byte Try.underlying5 types_two (wf_byte h1 h2) (wf_byte h3 h4)

def edCells (W : Wt) (A : Option Addr) (n c m : Nat) (x y : ByteArray) : Array Value := #[.int .i64 W.ins, .int .i64 W.del, .int .i64 W.chg, .int .i64 W.swp, .slice A n c, .map (some m), .string x, .string y]

structure OpenRel (wr w : World) (W : Wt) (A : Option Addr) (n c : Nat) (x y : ByteArray) (k : Nat) : Prop where
  blk : Blk wr (w.heap.size + 2) 70 (edCells W A n c (w.heap.size + 1) x y)
  map : MapIs S2byte wr (w.heap.size + 1) (nearMap (W.near.take k))
  bel : Below w.heap.size w wr

theorem OpenRel.start (w : World) (W : Wt) (A : Option Addr) (n c : Nat) (x y : ByteArray) : OpenRel (((w.alloc (.cells #[.int .i64 W.ins, .int .i64 W.del, .int .i64 W.chg, .int .i64 W.swp, .slice A n c] 24)).alloc (.map #[] 0)).alloc (.cells (edCells W A n c (w.heap.size + 1) x y) 70)) w W A n c x y 0 := by
  have h1 := MapIs.new S2byte (w.alloc (.cells #[.int .i64 W.ins, .int .i64 W.del, .int .i64 W.chg, .int .i64 W.swp, .slice A n c] 24))
  have h2 := Blk.new ((w.alloc (.cells #[.int .i64 W.ins, .int .i64 W.del, .int .i64 W.chg, .int .i64 W.swp, .slice A n c] 24)).alloc (.map #[] 0)) 70 (edCells W A n c (w.heap.size + 1) x y)
  exact ⟨by simpa using h2, by simpa [nearMap] using h1.alloc _, (((Below.refl _ _).alloc (Nat.le_refl _) _).alloc (by simp) _).alloc (by simp; omega) _⟩

theorem nearMap_lacks {W : Wt} (hW : W.valid = true) {k : Nat} (hk : k < W.near.length) {n1 n2 n3 : Int} (hat : W.near[k] = (n1, n2, n3)) :
    lacks (nearMap (W.near.take k)) (pairKey .u8 n1 n2) ∧ lacks (nearMap (W.near.take k)) (pairKey .u8 n2 n1) := by
  have hn := Wt.valid_near hW
  have ha := Wt.valid_apart hW
  have hk1 := hn _ (List.getElem_mem hk)
  rw [hat] at hk1
  dsimp only at hk1
  rw [List.pairwise_iff_getElem] at ha
  have main : ∀ y ∈ nearMap (W.near.take k), y.1 ≠ pairKey .u8 n1 n2 ∧ y.1 ≠ pairKey .u8 n2 n1 := by
    intro y hy
    obtain ⟨p, hp, hy⟩ := List.mem_flatMap.1 hy
    obtain ⟨i, hi, rfl⟩ := List.mem_take_iff_getElem.1 hp
    have hi1 := hn _ (List.getElem_mem (show i < W.near.length by omega))
    have hne := ha i k (by simp; omega) (by simpa using hk) (by omega)
    simp only [List.getElem_map, Wt.pr, hat, ne_eq, Prod.mk.injEq] at hne
    simp only [List.mem_cons, List.not_mem_nil, or_false] at hy
    rcases hy with rfl | rfl
    · exact ⟨fun e => hne (pairKey_inj e), fun e => by have := pairKey_inj e; omega⟩
    · exact ⟨fun e => by have := pairKey_inj e; omega, fun e => hne ⟨(pairKey_inj e).2, (pairKey_inj e).1⟩⟩
  exact ⟨fun y hy => (main y hy).1, fun y hy => (main y hy).2⟩

/-- the four steps on the map's block -/
def openWorld (w : World) (m : Nat) (l : List (Value × Value)) (k1 k2 c : Value) : World :=
  putMap (putMap (putMap (putMap w m (l ++ [(k1, .int .i64 0)])) m (l ++ [(k1, c)])) m (l ++ [(k1, c)] ++ [(k2, .int .i64 0)])) m (l ++ [(k1, c)] ++ [(k2, c)])

def opW3 (W2 : World) (m : Nat) (l : List (Value × Value)) (n1 n2 : Int) : World := putMap W2 m (l ++ [(pairKey .u8 n1 n2, .int .i64 0)])
def opW4 (W2 : World) (m : Nat) (l : List (Value × Value)) (n1 n2 n3 : Int) : World := putMap (opW3 W2 m l n1 n2) m (l ++ [(pairKey .u8 n1 n2, .int .i64 n3)])
def opW5 (W2 : World) (m : Nat) (l : List (Value × Value)) (n1 n2 n3 : Int) : World := putMap (opW4 W2 m l n1 n2 n3) m (l ++ [(pairKey .u8 n1 n2, .int .i64 n3)] ++ [(pairKey .u8 n2 n1, .int .i64 0)])
def opW6 (W2 : World) (m : Nat) (l : List (Value × Value)) (n1 n2 n3 : Int) : World := putMap (opW5 W2 m l n1 n2 n3) m (l ++ [(pairKey .u8 n1 n2, .int .i64 n3)] ++ [(pairKey .u8 n2 n1, .int .i64 n3)])
theorem open_facts {wr w : World} {W : Wt} {A : Option Addr} {n c k : Nat} {x y : ByteArray} (h : OpenRel wr w W A n c x y k) (hl : k < W.near.length) {n1 n2 n3 : Int} (hat : W.near[k] = (n1, n2, n3))
    (hlk : lacks (nearMap (W.near.take k)) (pairKey .u8 n1 n2) ∧ lacks (nearMap (W.near.take k)) (pairKey .u8 n2 n1)) (v1 : 32 ≤ n1) (v2 : n2 ≤ 126) (v3 : n1 < n2) (q : Nat) {U : World}
    (e : (wr.alloc (.cells #[.int .i64 n1, .int .i64 n2, .int .i64 n3] 63)).drewN q = U) (m : Nat) (em : m = w.heap.size + 1) (l : List (Value × Value)) (el : l = nearMap (W.near.take k)) :
    ((Instr.mapEntry 68 (.map (some m)) (.agg #[.int .u8 n1, .int .u8 n2])).run Try.prog U.drew = .ok (.tuple #[.int .i64 0, .int .i64 l.length]) (opW3 U.drew m l n1 n2) ∧
     (Instr.entryStore 68 (.map (some m)) (.int .i64 l.length) (.int .i64 n3)).run Try.prog (opW3 U.drew m l n1 n2) = .ok () (opW4 U.drew m l n1 n2 n3) ∧
     (Instr.mapEntry 68 (.map (some m)) (.agg #[.int .u8 n2, .int .u8 n1])).run Try.prog (opW4 U.drew m l n1 n2 n3) = .ok (.tuple #[.int .i64 0, .int .i64 (l.length + 1)]) (opW5 U.drew m l n1 n2 n3) ∧
     (Instr.entryStore 68 (.map (some m)) (.int .i64 (l.length + 1)) (.int .i64 n3)).run Try.prog (opW5 U.drew m l n1 n2 n3) = .ok () (opW6 U.drew m l n1 n2 n3)) ∧
    (U.cell? ⟨w.heap.size + 1 + 1, 5, none⟩ = some (.map (some m)) ∧ (opW3 U.drew m l n1 n2).cell? ⟨w.heap.size + 1 + 1, 5, none⟩ = some (.map (some m)) ∧ (opW4 U.drew m l n1 n2 n3).cell? ⟨w.heap.size + 1 + 1, 5, none⟩ = some (.map (some m)) ∧ (opW5 U.drew m l n1 n2 n3).cell? ⟨w.heap.size + 1 + 1, 5, none⟩ = some (.map (some m))) ∧
    (U.cell? ⟨wr.heap.size, 2, none⟩ = some (.int .i64 n3) ∧ (opW3 U.drew m l n1 n2).cell? ⟨wr.heap.size, 2, none⟩ = some (.int .i64 n3) ∧ (opW4 U.drew m l n1 n2 n3).cell? ⟨wr.heap.size, 2, none⟩ = some (.int .i64 n3) ∧ (opW5 U.drew m l n1 n2 n3).cell? ⟨wr.heap.size, 2, none⟩ = some (.int .i64 n3)) ∧
    OpenRel (opW6 U.drew m l n1 n2 n3) w W A n c x y (k + 1) := by
  subst em el
  let m := w.heap.size + 1
  let l := nearMap (W.near.take k)
  let k1 := pairKey .u8 n1 n2
  let k2 := pairKey .u8 n2 n1
  let W2 := U.drew
  let W3 := opW3 U.drew m l n1 n2
  let W4 := opW4 U.drew m l n1 n2 n3
  let W5 := opW5 U.drew m l n1 n2 n3
  let W6 := opW6 U.drew m l n1 n2 n3
  have hz := h.map.lt
  have hz2 := h.blk.lt
  have hk1 : S2byte k1 := S2byte_of (by omega) (by omega) (by omega) (by omega)
  have hk2 : S2byte k2 := S2byte_of (by omega) (by omega) (by omega) (by omega)
  have hne : k1 ≠ k2 := fun e => by have := pairKey_inj e; omega
  have M2 : MapIs S2byte W2 m l := by
    have h1 : MapIs S2byte U m l := by rw [← e]; exact (h.map.alloc _).drewN q
    exact ⟨h1.heap, h1.keys, h1.apart⟩
  have M3 : MapIs S2byte W3 m (l ++ [(k1, .int .i64 0)]) := M2.append_is hk1 hlk.1
  have g3 : (l ++ [(k1, Value.int .i64 0)])[l.length]? = some (k1, .int .i64 0) := by simp
  have s3 : (l ++ [(k1, Value.int .i64 0)]).set l.length (k1, .int .i64 n3) = l ++ [(k1, .int .i64 n3)] := by simp
  have M4 : MapIs S2byte W4 m (l ++ [(k1, .int .i64 n3)]) := by have := M3.set_is (v := .int .i64 n3) g3; rwa [s3] at this
  have l4 : lacks (l ++ [(k1, Value.int .i64 n3)]) k2 := by
    intro z hz
    rcases List.mem_append.1 hz with h1 | h1
    · exact hlk.2 z h1
    · rw [List.mem_singleton.1 h1]; exact hne
  have M5 : MapIs S2byte W5 m (l ++ [(k1, .int .i64 n3)] ++ [(k2, .int .i64 0)]) := M4.append_is hk2 l4
  have g5 : (l ++ [(k1, Value.int .i64 n3)] ++ [(k2, Value.int .i64 0)])[l.length + 1]? = some (k2, .int .i64 0) := by simp
  have s5 : (l ++ [(k1, Value.int .i64 n3)] ++ [(k2, Value.int .i64 0)]).set (l.length + 1) (k2, .int .i64 n3) = l ++ [(k1, .int .i64 n3)] ++ [(k2, .int .i64 n3)] := by simp
  have M6 : MapIs S2byte W6 m (l ++ [(k1, .int .i64 n3)] ++ [(k2, .int .i64 n3)]) := by have := M5.set_is (v := .int .i64 n3) g5; rwa [s5] at this
  have hz0 : ∀ w, (zeroValue 3).run Try.prog w = .ok (.int .i64 0) w := fun _ => by kernel_rfl
  have c2 : U.cell? ⟨w.heap.size + 1 + 1, 5, none⟩ = some (.map (some m)) := by
    rw [← e]
    exact (h.blk.alloc _).cell 5
  have d2 : U.cell? ⟨wr.heap.size, 2, none⟩ = some (.int .i64 n3) := by
    rw [← e]
    exact (Blk.new wr 63 _).cell 2
  have p3 : ∀ p, W3.cell? p = U.cell? p := putMap_cell W2 m _ M2
  have p4 : ∀ p, W4.cell? p = U.cell? p := fun p => (putMap_cell W3 m _ M3 p).trans (p3 p)
  have p5 : ∀ p, W5.cell? p = U.cell? p := fun p => (putMap_cell W4 m _ M4 p).trans (p4 p)
  refine ⟨⟨run_mapEntry_new M2 law2byte Try.underlying68 (hz0 _) hk1 hlk.1, ?_, ?_, ?_⟩, ⟨c2, (p3 _).trans c2, (p4 _).trans c2, (p5 _).trans c2⟩, ⟨d2, (p3 _).trans d2, (p4 _).trans d2, (p5 _).trans d2⟩, ?_⟩
  · have := run_entryStore (P := Try.prog) (t := 68) (v := .int .i64 n3) M3 g3
    rw [s3] at this
    exact this
  · have := run_mapEntry_new M4 law2byte Try.underlying68 (hz0 _) hk2 l4
    have e2 : ((l ++ [(k1, Value.int .i64 n3)]).length : Int) = (l.length : Int) + 1 := by simp
    rw [e2] at this
    exact this
  · have := run_entryStore (P := Try.prog) (t := 68) (v := .int .i64 n3) M5 g5
    rw [s5] at this
    have e2 : ((l.length + 1 : Nat) : Int) = (l.length : Int) + 1 := by simp
    rw [e2] at this
    exact this
  · have hb2 : Blk W2 (w.heap.size + 2) 70 (edCells W A n c (w.heap.size + 1) x y) := by
      have h1 : Blk U (w.heap.size + 2) 70 (edCells W A n c (w.heap.size + 1) x y) := by rw [← e]; exact h.blk.alloc _
      exact h1
    have hl2 : Below w.heap.size w W2 := by
      have h1 : Below w.heap.size w U := by rw [← e]; exact below_drewN (h.bel.alloc (by omega) _) q
      exact h1.drew
    refine ⟨putMap_blk (putMap_blk (putMap_blk (putMap_blk hb2 (by omega)) (by omega)) (by omega)) (by omega), ?_, putMap_below (putMap_below (putMap_below (putMap_below hl2 (by omega)) (by omega)) (by omega)) (by omega)⟩
    have et : nearMap (W.near.take (k + 1)) = l ++ [(k1, .int .i64 n3)] ++ [(k2, .int .i64 n3)] := by
      rw [List.take_succ_eq_append_getElem hl, hat]
      simp [nearMap, l, k1, k2]
    rw [et]
    exact M6

set_option maxHeartbeats 400000 in
theorem open_any (W : Wt) (hW : W.valid = true) (x y : ByteArray) (A : Option Addr) (n c : Nat) (X : Nat) (w : World) (hN : Near w X A n W.near) (hX : X ≤ w.heap.size) :
    Calls Try.prog 27 #[wval W A n c, .string x, .string y] w fun e w' => e = .returned (.pointer (some ⟨w.heap.size + 2, 0, none⟩)) ∧ OpenRel w' w W A n c x y n := by
  have HN := hide hN
  clear hN
  have HW := hide hW
  clear hW
  have hn200 : n ≤ 200 := by rw [← HN.out.1]; exact Wt.valid_len HW.out
  obtain ⟨I, D, C, S, near⟩ := W
  have hmm := @run_makeMap Try.prog
  go_enter Try.func27, Try.ntmps27
  unfold wval
  go_wp2
  go_loopw [21] (fun i wr => ∃ k : Nat, k ≤ n ∧ i = .int .i64 k ∧ OpenRel wr w ⟨I, D, C, S, near⟩ A n c x y k) (fun i _ => n - (intOf i).toNat)
  case atStart => exact ⟨0, by omega, rfl, OpenRel.start w ⟨I, D, C, S, near⟩ A n c x y⟩
  case round =>
    obtain ⟨k, hk, rfl, hrel⟩ := hrel
    by_cases hlt : k < n
    · obtain ⟨ad, n1, n2, n3, hl, rfl, hadb, hat, c1, c2, c3⟩ := (HN.out.below hrel.bel hX).at_ hlt
      have hz : w.heap.size + 1 < wr.heap.size := hrel.map.lt
      have hz' : w.heap.size + 2 < wr.heap.size := hrel.blk.lt
      have d1 : wr.cell? ⟨w.heap.size + 2, 5, none⟩ = some (.map (some (w.heap.size + 1))) := hrel.blk.cell 5
      have hv := Wt.valid_near HW.out _ (List.getElem_mem hl)
      simp only [hat] at hv
      obtain ⟨v1, v2, v3, v4, v5⟩ := hv
      have Hlk := hide (nearMap_lacks HW.out hl hat)
      have Hat := hide hat
      have Hrel := hide hrel
      clear hat hrel
      go_wp2
      go_quiet (fail)
      go_wp2
      generalize hU : World.drewN (World.alloc wr (Obj.cells #[Value.int IntKind.i64 n1, Value.int IntKind.i64 n2, Value.int IntKind.i64 n3] 63)) nq = U
      obtain ⟨l, el⟩ : ∃ l, l = nearMap (near.take k) := ⟨_, rfl⟩
      obtain ⟨⟨q1, q2, q3, q4⟩, ⟨r1, r2, r3, r4⟩, ⟨s1, s2, s3, s4⟩, hfin⟩ := open_facts (W := ⟨I, D, C, S, near⟩) Hrel.out hl Hat.out Hlk.out v1 v2 v3 nq hU _ rfl l el
      have Hfin := hide hfin
      clear hfin hU el c1 c2 c3 d1
      go_region
      go_wp2
      go_roundw
      case rel => exact ⟨k + 1, by omega, by go_num, Hfin.out⟩
      case measure => simp [intOf]; omega
    · obtain rfl : k = n := by omega
      have Hrel := hide hrel
      clear hrel
      go_wp2
      go_ret
      exact ⟨rfl, Hrel.out⟩
end Go.Proofs.Ytnpdhbagfkilkaa
