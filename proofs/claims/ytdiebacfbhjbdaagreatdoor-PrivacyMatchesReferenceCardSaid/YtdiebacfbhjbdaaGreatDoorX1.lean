/- Package lexer: the classes of bytes; the walk of classes. -/
import Derived.Test.YtdiebacfbhjbdaaGreatDoorIn
import Derived.Test.YtdiebacfbhjbdaaGreatDoorBs
import Derived.Test.YtdiebacfbhjbdaaGreatDoorLaws
import Derived.Outline
set_option linter.unusedVariables false
set_option linter.unusedSimpArgs false
namespace Go.Proofs.YtdiebacfbhjbdaaGreatDoor
open Go.RowKit

/-- other 0, blank 1, hash 2, letter 3, digit 4, under 5, quote 6, mark 7, angle 8, symbol 9 -/
def clsN (c : Nat) : Int := if 97 ≤ c ∧ c ≤ 122 ∨ 65 ≤ c ∧ c ≤ 90 then 3 else if 48 ≤ c ∧ c ≤ 57 then 4 else if c = 95 then 5 else if c = 32 ∨ c = 9 ∨ c = 10 then 1 else if c = 35 then 2 else if c = 34 then 6 else if c = 33 then 7 else if c = 60 ∨ c = 62 then 8 else
  if c = 59 ∨ c = 44 ∨ c = 46 ∨ c = 58 ∨ c = 40 ∨ c = 41 ∨ c = 91 ∨ c = 93 ∨ c = 123 ∨ c = 125 ∨ c = 61 ∨ c = 43 ∨ c = 45 then 9 else 0
def clsB (c : UInt8) : Int := clsN c.toNat
def setL (L : List Int) (l : List UInt8) (v : Int) : List Int := l.foldl (fun L c => L.set c.toNat v) L
theorem setL_len (v : Int) : ∀ (l : List UInt8) (L : List Int), (setL L l v).length = L.length
  | [], L => rfl
  | c :: l, L => by show (setL (L.set c.toNat v) l v).length = _; rw [setL_len v l]; simp
theorem setL_snoc (L : List Int) (l : List UInt8) (c : UInt8) (v : Int) : setL L (l ++ [c]) v = (setL L l v).set c.toNat v := by simp [setL]
def tx0 : List Int := (List.range 256).map fun _ => 0
def alphaT : List UInt8 := [97, 98, 99, 100, 101, 102, 103, 104, 105, 106, 107, 108, 109, 110, 111, 112, 113, 114, 115, 116, 117, 118, 119, 120, 121, 122, 65, 66, 67, 68, 69, 70, 71, 72, 73, 74, 75, 76, 77, 78, 79, 80, 81, 82, 83, 84, 85, 86, 87, 88, 89, 90]
def tx1 : List Int := setL tx0 alphaT 3
def tx2 : List Int := setL tx1 [48, 49, 50, 51, 52, 53, 54, 55, 56, 57] 4
def tx3 : List Int := setL tx2 [95] 5
def tx4 : List Int := setL tx3 [32, 9, 10] 1
def tx5 : List Int := setL tx4 [35] 2
def tx6 : List Int := setL tx5 [34] 6
def tx7 : List Int := setL tx6 [33] 7
def tx8 : List Int := setL tx7 [60, 62] 8
def tx9 : List Int := setL tx8 [59, 44, 46, 58, 40, 41, 91, 93, 123, 125, 61, 43, 45] 9
def clsL : List Int := (List.range 256).map clsN
theorem tx0_len : tx0.length = 256 := by simp [tx0]
theorem tx1_len : tx1.length = 256 := by unfold tx1; rw [setL_len]; exact tx0_len
theorem tx2_len : tx2.length = 256 := by unfold tx2; rw [setL_len]; exact tx1_len
theorem tx3_len : tx3.length = 256 := by unfold tx3; rw [setL_len]; exact tx2_len
theorem tx4_len : tx4.length = 256 := by unfold tx4; rw [setL_len]; exact tx3_len
theorem tx5_len : tx5.length = 256 := by unfold tx5; rw [setL_len]; exact tx4_len
theorem tx6_len : tx6.length = 256 := by unfold tx6; rw [setL_len]; exact tx5_len
theorem tx7_len : tx7.length = 256 := by unfold tx7; rw [setL_len]; exact tx6_len
theorem tx8_len : tx8.length = 256 := by unfold tx8; rw [setL_len]; exact tx7_len
theorem tx9_len : tx9.length = 256 := by unfold tx9; rw [setL_len]; exact tx8_len
theorem tx9_all : tx9 = clsL := by decide +kernel
theorem clsL_at (c : UInt8) : clsL[c.toNat]? = some (clsB c) := by
  have h := c.toNat_lt
  unfold clsL clsB
  rw [List.getElem?_map, List.getElem?_range h]; rfl
theorem clsL_len : clsL.length = 256 := by simp [clsL]
theorem intC_size (L : List Int) : (intC L).size = L.length := by simp [intC]
theorem intC_one (L : List Int) : ∀ v ∈ (intC L).toList, v.oneCell' = true := by
  intro v hv
  unfold intC at hv
  simp only [List.mem_map] at hv
  obtain ⟨c, _, rfl⟩ := hv
  rfl
def SeI (L : List Int) (l : List UInt8) (cl : Int) (bx : Nat) (T : TypeId) (w wr : World) (i : Value) : Prop := ∃ k : Nat, k ≤ l.length ∧ i = .int .i64 (k : Int) ∧ Blk wr bx T (intC (setL L (l.take k) cl)) ∧ Only w wr bx
theorem Only.set_ {w w' : World} {b : Nat} (h : Only w w' b) (i : Nat) (v : Value) : Only w (w'.setCell ⟨b, i, none⟩ v) b := by
  refine ⟨h.os, h.tape, h.output, by simpa [World.setCell] using h.size, fun k hk hne => ?_⟩
  have h1 := h.block k hk hne
  have hkb : k ≠ b := fun e => hne (by rw [e])
  rw [← h1]
  exact Below.heap_setCell w' ⟨b, i, none⟩ v k hkb
set_option maxRecDepth 100000 in
set_option maxHeartbeats 4000000 in
theorem set_any (L : List Int) (hL : L.length = 256) (l : List UInt8) (hl : l.length ≤ 1000) (cl : Int) (bx : Nat) (T : TypeId) (w : World) (h : Blk w bx T (intC L)) :
    Calls Tryz.prog 128 #[.string (bs l), .int .i64 cl, .pointer (some ⟨bx, 0, none⟩)] w fun e w' => e = .returned (.tuple #[]) ∧ Blk w' bx T (intC (setL L l cl)) ∧ Only w w' bx := by
  have HB := hide h
  clear h
  have hsz : (bs l).size = l.length := bs_size l
  go_enter Tryz.func128, Tryz.ntmps128
  go_wp2_with fail
  go_loopw [5] (fun i wr => SeI L l cl bx T w wr i) (fun i _ => l.length - (intOf i).toNat)
  case atStart => exact ⟨0, by omega, rfl, HB.out, Only.refl _ _⟩
  case round =>
    obtain ⟨k, hk, rfl, hB, hO⟩ := hrel
    have HB1 := hide hB
    have HO := hide hO
    clear hB hO
    by_cases hlt : k < l.length
    · obtain ⟨c, hc⟩ : ∃ c, l[k]? = some c := ⟨_, List.getElem?_eq_getElem hlt⟩
      have ci := index_bs l k c hc
      have c0 := c.toNat_lt
      obtain ⟨x, hx⟩ : ∃ x, (setL L (l.take k) cl)[c.toNat]? = some x := ⟨_, List.getElem?_eq_getElem (by rw [setL_len, hL]; exact c0)⟩
      have ck := (HB1.out.cell c.toNat).trans (intC_at hx)
      have cf := HB1.out.frozen c.toNat
      have HT : Hid (setL L (l.take (k + 1)) cl = (setL L (l.take k) cl).set c.toNat cl) := by
        show _ = _
        rw [List.take_add_one, hc]
        exact setL_snoc _ _ _ _
      clear hc hx
      go_wp2_with fail
      go_roundw
      case rel => exact ⟨k + 1, by omega, by go_num, by rw [HT.out, ← intC_set]; exact HB1.out.set_ _ _, HO.out.set_ _ _⟩
      case measure => simp [intOf]; omega
    · obtain rfl : k = l.length := by omega
      rw [List.take_length] at HB1
      go_wp2_with fail
      go_end0
      exact ⟨rfl, HB1.out, HO.out⟩
theorem splice_all' {old cs : Array Value} (h : cs.size = old.size) : splice old 0 cs = cs := by
  unfold splice
  rw [Nat.zero_add, List.take_zero, List.nil_append, h]
  rw [show old.size = old.toList.length from rfl, List.drop_length, List.append_nil]
set_option maxRecDepth 100000 in
set_option maxHeartbeats 8000000 in
theorem classes_any (w : World) : Calls Tryz.prog 103 #[] w fun e w' => e = .returned (.agg (intC clsL)) ∧ Below w.heap.size w w' := by
  have H0 := hide ((Blk.new w 129 (intC tx0)).alloc (.cells (intC tx0) 129))
  have H1 : Hid (Blk ((w.alloc (.cells (intC tx0) 129)).alloc (.cells (intC tx0) 129)) (w.heap.size + 1) 129 (intC tx0)) := by have := Blk.new (w.alloc (.cells (intC tx0) 129)) 129 (intC tx0); show Blk _ _ _ _; simpa using this
  have HB := hide (below_two w (.cells (intC tx0) 129) (.cells (intC tx0) 129))
  go_enter Tryz.func103, Tryz.ntmps103
  go_wp2_with fail
  rw [show Tryz.zeroCells129 = intC tx0 by kernel_rfl]
  generalize hw1 : (w.alloc (.cells (intC tx0) 129)).alloc (.cells (intC tx0) 129) = w0 at *
  clear hw1
  obtain ⟨b1, hb1⟩ : ∃ b1, Hid (w.heap.size + 1 = b1) := ⟨_, rfl⟩
  rw [hb1.out] at H1 ⊢
  obtain ⟨b0, hb0⟩ : ∃ b0, Hid (w.heap.size = b0) := ⟨_, rfl⟩
  rw [hb0.out] at H0 ⊢
  have hne : b0 ≠ b1 := by have h0 := hb0.out; have h1 := hb1.out; omega
  have hge : w.heap.size ≤ b1 := by have h1 := hb1.out; omega
  have HN := hide hne
  have HG := hide hge
  clear hne hge
  refine (set_any tx0 tx0_len alphaT (by decide) 3 b1 129 w0 H1.out).mono ?_
  rintro e w1 ⟨rfl, hB, hO⟩
  have HBn := hide (Only.below HB.out hO HB.out.size HG.out)
  have H0n := hide (hO.blk H0.out HN.out)
  have H1n : Hid (Blk w1 b1 129 (intC tx1)) := hB
  clear hB hO HB H0 H1
  have HB := HBn
  have H0 := H0n
  have H1 := H1n
  clear HBn H0n H1n
  go_wp2_with fail
  refine (set_any tx1 tx1_len [48, 49, 50, 51, 52, 53, 54, 55, 56, 57] (by decide) 4 b1 129 w1 H1.out).mono ?_
  rintro e w2 ⟨rfl, hB, hO⟩
  have HBn := hide (Only.below HB.out hO HB.out.size HG.out)
  have H0n := hide (hO.blk H0.out HN.out)
  have H1n : Hid (Blk w2 b1 129 (intC tx2)) := hB
  clear hB hO HB H0 H1
  have HB := HBn
  have H0 := H0n
  have H1 := H1n
  clear HBn H0n H1n
  go_wp2_with fail
  refine (set_any tx2 tx2_len [95] (by decide) 5 b1 129 w2 H1.out).mono ?_
  rintro e w3 ⟨rfl, hB, hO⟩
  have HBn := hide (Only.below HB.out hO HB.out.size HG.out)
  have H0n := hide (hO.blk H0.out HN.out)
  have H1n : Hid (Blk w3 b1 129 (intC tx3)) := hB
  clear hB hO HB H0 H1
  have HB := HBn
  have H0 := H0n
  have H1 := H1n
  clear HBn H0n H1n
  go_wp2_with fail
  refine (set_any tx3 tx3_len [32, 9, 10] (by decide) 1 b1 129 w3 H1.out).mono ?_
  rintro e w4 ⟨rfl, hB, hO⟩
  have HBn := hide (Only.below HB.out hO HB.out.size HG.out)
  have H0n := hide (hO.blk H0.out HN.out)
  have H1n : Hid (Blk w4 b1 129 (intC tx4)) := hB
  clear hB hO HB H0 H1
  have HB := HBn
  have H0 := H0n
  have H1 := H1n
  clear HBn H0n H1n
  go_wp2_with fail
  refine (set_any tx4 tx4_len [35] (by decide) 2 b1 129 w4 H1.out).mono ?_
  rintro e w5 ⟨rfl, hB, hO⟩
  have HBn := hide (Only.below HB.out hO HB.out.size HG.out)
  have H0n := hide (hO.blk H0.out HN.out)
  have H1n : Hid (Blk w5 b1 129 (intC tx5)) := hB
  clear hB hO HB H0 H1
  have HB := HBn
  have H0 := H0n
  have H1 := H1n
  clear HBn H0n H1n
  go_wp2_with fail
  refine (set_any tx5 tx5_len [34] (by decide) 6 b1 129 w5 H1.out).mono ?_
  rintro e w6 ⟨rfl, hB, hO⟩
  have HBn := hide (Only.below HB.out hO HB.out.size HG.out)
  have H0n := hide (hO.blk H0.out HN.out)
  have H1n : Hid (Blk w6 b1 129 (intC tx6)) := hB
  clear hB hO HB H0 H1
  have HB := HBn
  have H0 := H0n
  have H1 := H1n
  clear HBn H0n H1n
  go_wp2_with fail
  refine (set_any tx6 tx6_len [33] (by decide) 7 b1 129 w6 H1.out).mono ?_
  rintro e w7 ⟨rfl, hB, hO⟩
  have HBn := hide (Only.below HB.out hO HB.out.size HG.out)
  have H0n := hide (hO.blk H0.out HN.out)
  have H1n : Hid (Blk w7 b1 129 (intC tx7)) := hB
  clear hB hO HB H0 H1
  have HB := HBn
  have H0 := H0n
  have H1 := H1n
  clear HBn H0n H1n
  go_wp2_with fail
  refine (set_any tx7 tx7_len [60, 62] (by decide) 8 b1 129 w7 H1.out).mono ?_
  rintro e w8 ⟨rfl, hB, hO⟩
  have HBn := hide (Only.below HB.out hO HB.out.size HG.out)
  have H0n := hide (hO.blk H0.out HN.out)
  have H1n : Hid (Blk w8 b1 129 (intC tx8)) := hB
  clear hB hO HB H0 H1
  have HB := HBn
  have H0 := H0n
  have H1 := H1n
  clear HBn H0n H1n
  go_wp2_with fail
  refine (set_any tx8 tx8_len [59, 44, 46, 58, 40, 41, 91, 93, 123, 125, 61, 43, 45] (by decide) 9 b1 129 w8 H1.out).mono ?_
  rintro e w9 ⟨rfl, hB, hO⟩
  have HBn := hide (Only.below HB.out hO HB.out.size HG.out)
  have H0n := hide (hO.blk H0.out HN.out)
  have H1n : Hid (Blk w9 b1 129 (intC tx9)) := hB
  clear hB hO HB H0 H1
  have HB := HBn
  have H0 := H0n
  have H1 := H1n
  clear HBn H0n H1n
  have hi : (Tryz.prog.info? 129).map (·.size) = some (intC clsL).size := by rw [intC_size, clsL_len]; kernel_rfl
  have hB1 : Blk w9 b1 129 (intC clsL) := by rw [← tx9_all]; exact H1.out
  have hs0 : 0 + (intC clsL).size ≤ (intC tx0).size := by rw [intC_size, intC_size, clsL_len, tx0_len]; decide
  go_wp2_with (first | ((with_reducible show wpList _ _ _ (Oper.mk _ (Op.load 129 _) _ _ _ _ :: _) _ _); refine wpList_load_all rfl 129 (.tmp 1) rfl b1 rfl 129 (intC clsL) _ hB1 Tryz.underlying129 rfl hi ?_) | ((with_reducible show wpList _ _ _ (Oper.mk _ (Op.store 129 _ _) _ _ _ _ :: _) _ _); refine wpList_store_part rfl 129 (.tmp 0) (.tmp 22) rfl b0 0 (intC clsL) rfl rfl 129 (intC tx0) H0.out hi hs0 (intC_one _) ?_; intro wz ho hb2))
  rw [splice_all' (by rw [intC_size, intC_size, clsL_len, tx0_len])] at hb2
  refine bodyPost_ret (results_cell_blk rfl _ _ b0 129 (intC clsL) _ rfl hb2 Tryz.underlying129 rfl hi) rfl ⟨rfl, ?_⟩
  exact Only.below HB.out ho HB.out.size (by have h0 := hb0.out; omega)
end Go.Proofs.YtdiebacfbhjbdaaGreatDoor
