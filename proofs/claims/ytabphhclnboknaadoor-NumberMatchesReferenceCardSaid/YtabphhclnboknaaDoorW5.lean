/- Walks of package number: Text. -/
import Derived.Test.YtabphhclnboknaaDoorW4
import Derived.Test.YtabphhclnboknaaDoorN4
set_option linter.unusedVariables false
set_option linter.unusedSimpArgs false
namespace Go.Proofs.YtabphhclnboknaaDoor
open Go.RowKit

/-- what the package's variables hold -/
structure Glob (w : World) : Prop where
  top : 8 ≤ w.heap.size
  len : ∃ m, w.cell? ⟨0, 0, none⟩ = some (.int .i64 m)
  syn : ∃ ev, w.cell? ⟨1, 0, none⟩ = some ev ∧ (ev = .nilIface ∨ ∃ te pe, ev = .iface te pe)
  rng : ∃ ev, w.cell? ⟨2, 0, none⟩ = some ev ∧ (ev = .nilIface ∨ ∃ te pe, ev = .iface te pe)
  tab : Lib.TabIs Tryd.prog w "internal/strconv.uint64pow10" .u64 Lib.pow10Tab
theorem pow10_at : Tryd.prog.globalNamed "internal/strconv.uint64pow10" = some 3 := by kernel_rfl
theorem var_below {P : Program} {w w' : World} {n : String} {g B : Nat} {cs : Array Value} (h : w.var? P n = some cs) (hg : P.globalNamed n = some g) (hb : Below B w w') (hlt : g < B) : w'.var? P n = some cs := by
  unfold World.var? at h ⊢
  rw [hg] at h ⊢
  simp only [Option.bind_some] at h ⊢
  rw [hb.block g hlt]
  exact h
theorem Glob.below {w w' : World} {B : Nat} (h : Glob w) (hb : Below B w w') (hB : w.heap.size ≤ B) : Glob w' := by
  obtain ⟨h1, ⟨m, h2⟩, ⟨e1, h3, h4⟩, ⟨e2, h5, h6⟩, h7⟩ := h
  exact ⟨Nat.le_trans h1 hb.size, ⟨m, by rw [hb.cell (by simp only; omega)]; exact h2⟩, ⟨e1, by rw [hb.cell (by simp only; omega)]; exact h3, h4⟩, ⟨e2, by rw [hb.cell (by simp only; omega)]; exact h5, h6⟩, var_below h7 pow10_at hb (by omega)⟩
theorem Glob.alloc {w : World} (h : Glob w) (o : Obj) : Glob (w.alloc o) := h.below ((Below.refl w.heap.size w).alloc (Nat.le_refl _) o) (Nat.le_refl _)

def bs (l : List UInt8) : ByteArray := ⟨l.toArray⟩
theorem dec_len (u : Nat) : (Lib.decDigits u).length ≤ u + 1 := by
  induction u using Nat.strongRecOn with
  | ind u ih =>
    rw [Lib.decDigits]
    split
    · simp
    · have := ih (u / 10) (by omega)
      simp; omega
theorem itoa_len {n : Int} (h : 0 ≤ n) (h' : n ≤ 9999) : (Lib.itoa n).length ≤ 10000 := by
  rw [itoa_dec h]
  have := dec_len n.toNat
  omega
theorem below_grow {B : Nat} {a w : World} (h : Below B a w) (hB : B ≤ w.heap.size) (os : Array Obj) : Below B a (Sort.grow w os) :=
  ⟨h.os, h.tape, h.output, by simp; have := h.size; omega, fun k hk => by
    rw [← h.block k hk]
    show (w.heap ++ os)[k]? = w.heap[k]?
    rw [Array.getElem?_append_left (by omega)]⟩
theorem Itoa_any (n : Int) (h0 : 0 ≤ n) (h1 : n ≤ 9999) (w : World) (hg : Glob w) : Calls Tryd.prog 32 #[.int .i64 n] w fun e w' => e = .returned (.string (bs (Lib.itoa n))) ∧ Below w.heap.size w w' :=
  (Tryd.strconv_Itoa n (by omega) (by omega) w hg.tab).mono fun e w' ⟨h, k, os, h'⟩ => ⟨h, h' ▸ below_grow (below_drewN (Below.refl _ w) k) (Nat.le_refl _) os⟩

def HN.short (h : HN) : Prop := (bs h.l).size ≤ maxLen
theorem bs_size (l : List UInt8) : (bs l).size = l.length := by simp [bs, ByteArray.size]
theorem letter_size {l : List UInt8} (h : letterB l = true) : (ByteArray.mk l.toArray).size ≤ 1 := by
  show l.toArray.size ≤ 1
  rcases (letterB_iff l).1 h with rfl | ⟨c, rfl, _⟩ <;> simp
theorem bs_fit {h : HN} (h1 : 1 ≤ h.n) (h2 : h.n ≤ 9999) (hl : letterB h.l = true) : (bs (Lib.itoa h.n)).size + (ByteArray.mk h.l.toArray).size ≤ 10001 := by
  have := itoa_len (n := h.n) (by omega) h2
  have := letter_size hl
  rw [bs_size]
  omega
theorem bs_fit' {h : HN} (h1 : 1 ≤ h.n) (h2 : h.n ≤ 9999) (hl : letterB h.l = true) : (bs (Lib.itoa h.n)).size + h.l.length ≤ 10001 := by
  have := bs_fit h1 h2 hl
  have e : (ByteArray.mk h.l.toArray).size = h.l.length := bs_size h.l
  omega
theorem itoa_size {n : Int} (h : 0 ≤ n) (h' : n ≤ 9999) : (bs (Lib.itoa n)).size ≤ 10000 := by rw [bs_size]; exact itoa_len h h'
theorem ret_str {a b : ByteArray} {c : Value} (h : a = b) : Ending.returned (.tuple #[.string a, c]) = .returned (.tuple #[.string b, c]) := by rw [h]
theorem bs_app (l m : List UInt8) : bs l ++ bs m = bs (l ++ m) := by
  apply ByteArray.ext
  simp [bs]
set_option maxHeartbeats 4000000 in
theorem Text_any (h : HN) (w : World) (hl : h.fit) (hg : Glob w) : Calls Tryd.prog 13 #[hval h] w fun e w' => e = .returned (.tuple #[.string (if h.valid then bs (textP h) else bs []), .int .i64 (if h.valid then 0 else 1)]) ∧ Below w.heap.size w w' := by
  have HB := hide (HBox.new w h)
  have HB0 := hide ((Below.refl w.heap.size w).alloc (Nat.le_refl _) (.cells #[.int .i64 h.n, .string ⟨h.l.toArray⟩, .int .i64 h.num, .int .i64 h.den] 23))
  have HL := hide hl
  clear hl
  cases h1 : h.valid
  · have H1 := hide h1
    clear h1
    simp only [Bool.false_eq_true, if_false]
    go_enter Tryd.func13, Tryd.ntmps13
    unfold hval
    go_wp2_with fail
    refine (Valid_any h _ HL.out).mono ?_
    rintro e w1 ⟨rfl, hb⟩
    have HB1 := hide (HB0.out.trans (hb.mono HB0.out.size))
    clear hb
    rw [H1.out]
    go_wp2_with fail
    go_ret2
    exact ⟨rfl, HB1.out⟩
  · obtain ⟨n1, n2, l1, p1⟩ := (valid_iff h).1 h1
    obtain ⟨d1, d2, d3, d4, d5⟩ := place_den p1
    have H1 := hide h1
    have HP := hide (And.intro l1 d1)
    clear h1 l1 d1 p1
    simp only [if_true]
    go_enter Tryd.func13, Tryd.ntmps13
    unfold hval
    go_wp2_with fail
    refine (Valid_any h _ HL.out).mono ?_
    rintro e w1 ⟨rfl, hb⟩
    have HB1 := hide (HB0.out.trans (hb.mono HB0.out.size))
    have HX1 := hide (HB.out.below hb (by simp))
    have HG1 := hide (hg.below HB1.out (Nat.le_refl _))
    have HS1 : Hid (w.heap.size < w1.heap.size) := by have := hb.size; simp at this; exact this
    clear hb
    rw [H1.out]
    go_wp2_with fail
    obtain ⟨U, hU, g, hgu, hi⟩ := the_class (fun w' => Below w1.heap.size w1 w') (Below.refl w1.heap.size w1)
    have q0 := fun u => (HX1.out.below (hgu u) HS1.out).facts.1
    have q1 := fun u => (HX1.out.below (hgu u) HS1.out).facts.2.1
    have z1 : ¬ 9223372036854775807 < (bs (Lib.itoa h.n)).size + (ByteArray.mk h.l.toArray).size := by have := bs_fit n1 n2 HP.out.1; omega
    refine wp_region_class g (by kernel_rfl) (by kernel_rfl) (hi _ (Below.refl w1.heap.size w1).drew) ?_
    repeat (go_big_quiet_step (first
      | exact class_call hi ((Itoa_any _ (by omega) (by omega) _ (HG1.out.below (hgu _) (Nat.le_refl _))).mono (fun _ _ h => ⟨h.1, (hgu _).trans (h.2.mono (hgu _).size)⟩))))
    refine wpQuiet_nil ?_
    intro w2 hw2
    obtain ⟨u, rfl⟩ := hw2
    have HB2 := hide (HB1.out.trans ((hgu u).mono HB1.out.size))
    have HX2 := hide (HX1.out.below (hgu u) HS1.out)
    have HG2 := hide (HG1.out.below (hgu u) (Nat.le_refl _))
    have HS2 : Hid (w.heap.size < (g u).heap.size) := by have := (hgu u).size; have := HS1.out; simp only [Hid]; omega
    clear q0 q1 hi HB1 HX1 HG1 HS1 hgu z1
    obtain ⟨_, _, c2, c3⟩ := HX2.out.facts
    generalize g u = w2 at *
    clear g
    by_cases hd : 0 < h.den
    · have HV : Hid (textP h = Lib.itoa h.n ++ h.l ++ ([32] ++ Lib.itoa h.num ++ [47] ++ Lib.itoa h.den)) := by show _ = _; unfold textP fracP; rw [if_pos hd]
      go_wp2_with fail
      obtain ⟨U, hU, g, hgu, hi⟩ := the_class (fun w' => Below w2.heap.size w2 w') (Below.refl w2.heap.size w2)
      have q0 := fun u => (HX2.out.below (hgu u) HS2.out).facts.2.2.1
      have q1 := fun u => (HX2.out.below (hgu u) HS2.out).facts.2.2.2
      have z1 : (bs (Lib.itoa h.n)).size + h.l.length ≤ 10001 := bs_fit' n1 n2 HP.out.1
      have z2 := itoa_size d4 (by omega)
      have z3 := itoa_size d2 (by omega)
      refine wp_region_class g (by kernel_rfl) (by kernel_rfl) (hi _ (Below.refl w2.heap.size w2).drew) ?_
      repeat (go_big_quiet_step (first
        | exact class_call hi ((Itoa_any _ (by omega) (by omega) _ (HG2.out.below (hgu _) (Nat.le_refl _))).mono (fun _ _ h => ⟨h.1, (hgu _).trans (h.2.mono (hgu _).size)⟩))))
      refine wpQuiet_nil ?_
      intro w3 hw3
      obtain ⟨u, rfl⟩ := hw3
      have HB3 := hide (HB2.out.trans ((hgu u).mono HB2.out.size))
      clear q0 q1 hi HB2 HX2 HG2 HS2 hgu z1 z2 z3
      generalize g u = w3 at *
      clear g
      go_wp2_with fail
      go_ret2
      refine ⟨?_, HB3.out⟩
      refine ret_str ?_
      rw [HV.out]
      simp only [← bs_app]
      rfl
    · have HV : Hid (textP h = Lib.itoa h.n ++ h.l) := by show _ = _; unfold textP fracP; rw [if_neg hd]; simp
      go_wp2_with fail
      go_ret2
      refine ⟨?_, HB2.out⟩
      refine ret_str ?_
      rw [HV.out]
      simp only [← bs_app]
      rfl
end Go.Proofs.YtabphhclnboknaaDoor
