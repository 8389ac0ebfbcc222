/- Walks of package number: next, more. -/
import Derived.Test.YtabphhclnboknaaDoorW6
set_option linter.unusedVariables false
set_option linter.unusedSimpArgs false
namespace Go.Proofs.YtabphhclnboknaaDoor
open Go.RowKit

def nextS (l : List UInt8) : List UInt8 := (nextL l).getD []
theorem ret_sb {a b : ByteArray} {x y : Bool} (h : a = b) (h' : x = y) : Ending.returned (.tuple #[.string a, .bool x]) = .returned (.tuple #[.string b, .bool y]) := by rw [h, h']
theorem enc_small : ∀ k : Nat, k < 128 → Utf8.encode (k : Int) = ⟨#[UInt8.ofNat k]⟩ := by decide +kernel
theorem enc_next {c : UInt8} {m : List UInt8} (hm : m = [c + 1]) (h1 : 97 ≤ c.toNat) (h2 : c.toNat ≤ 122) (hc : ¬ c = 122) : Utf8.encode (((c.toNat : Int) + 1) % 256) = bs m := by
  rw [hm, show ((c.toNat : Int) + 1) % 256 = ((c.toNat + 1 : Nat) : Int) by omega, enc_small _ (by omega)]
  have : UInt8.ofNat (c.toNat + 1) = c + 1 := by
    apply UInt8.toNat_inj.1
    rw [UInt8.toNat_add]
    simp
  rw [this]; rfl
set_option maxHeartbeats 2000000 in
theorem next_any (h : HN) (w : World) (hl : letterB h.l = true) : Calls Tryd.prog 39 #[hval h] w fun e w' => e = .returned (.tuple #[.string (bs (nextS h.l)), .bool (nextL h.l).isSome]) ∧ Below w.heap.size w w' := by
  obtain ⟨n, l, p, q⟩ := h
  simp only at hl ⊢
  have HB0 := hide ((Below.refl w.heap.size w).alloc (Nat.le_refl _) (.cells #[.int .i64 n, .string ⟨l.toArray⟩, .int .i64 p, .int .i64 q] 23))
  rcases (letterB_iff l).1 hl with rfl | ⟨c, rfl, h1, h2⟩
  · clear hl
    go_enter Tryd.func39, Tryd.ntmps39
    unfold hval
    go_wp2_with fail
    go_ret2
    exact ⟨rfl, HB0.out⟩
  · clear hl
    have he : ((ByteArray.mk [c].toArray).toList == (ByteArray.mk #[]).toList) = false := by rw [ByteArray.toList_eq, ByteArray.toList_eq]; simp
    have he2 : (ByteArray.mk [c].toArray).toList.isEmpty = false := by rw [ByteArray.toList_eq]; simp
    by_cases hc : c = 122
    · subst hc
      go_enter Tryd.func39, Tryd.ntmps39
      unfold hval
      go_wp2_with fail
      go_ret2
      exact ⟨rfl, HB0.out⟩
    · have hz : (c == 122) = false := by simpa using hc
      have HV : Hid (nextS [c] = [c + 1] ∧ (nextL [c]).isSome = true) := by show _ ∧ _; unfold nextS nextL; simp [hc]
      go_enter Tryd.func39, Tryd.ntmps39
      unfold hval
      go_wp2_with fail
      go_ret2
      refine ⟨ret_sb (enc_next ?_ h1 h2 hc) HV.out.2.symm, HB0.out⟩
      exact HV.out.1
theorem partsA_at : ∀ k : Nat, k < 28 → partsA[k * 2]? = some (.int .i64 (nth k).1) ∧ partsA[k * 2 + 1]? = some (.int .i64 (nth k).2)
  | 0, _ => ⟨by kernel_rfl, by kernel_rfl⟩
  | 1, _ => ⟨by kernel_rfl, by kernel_rfl⟩
  | 2, _ => ⟨by kernel_rfl, by kernel_rfl⟩
  | 3, _ => ⟨by kernel_rfl, by kernel_rfl⟩
  | 4, _ => ⟨by kernel_rfl, by kernel_rfl⟩
  | 5, _ => ⟨by kernel_rfl, by kernel_rfl⟩
  | 6, _ => ⟨by kernel_rfl, by kernel_rfl⟩
  | 7, _ => ⟨by kernel_rfl, by kernel_rfl⟩
  | 8, _ => ⟨by kernel_rfl, by kernel_rfl⟩
  | 9, _ => ⟨by kernel_rfl, by kernel_rfl⟩
  | 10, _ => ⟨by kernel_rfl, by kernel_rfl⟩
  | 11, _ => ⟨by kernel_rfl, by kernel_rfl⟩
  | 12, _ => ⟨by kernel_rfl, by kernel_rfl⟩
  | 13, _ => ⟨by kernel_rfl, by kernel_rfl⟩
  | 14, _ => ⟨by kernel_rfl, by kernel_rfl⟩
  | 15, _ => ⟨by kernel_rfl, by kernel_rfl⟩
  | 16, _ => ⟨by kernel_rfl, by kernel_rfl⟩
  | 17, _ => ⟨by kernel_rfl, by kernel_rfl⟩
  | 18, _ => ⟨by kernel_rfl, by kernel_rfl⟩
  | 19, _ => ⟨by kernel_rfl, by kernel_rfl⟩
  | 20, _ => ⟨by kernel_rfl, by kernel_rfl⟩
  | 21, _ => ⟨by kernel_rfl, by kernel_rfl⟩
  | 22, _ => ⟨by kernel_rfl, by kernel_rfl⟩
  | 23, _ => ⟨by kernel_rfl, by kernel_rfl⟩
  | 24, _ => ⟨by kernel_rfl, by kernel_rfl⟩
  | 25, _ => ⟨by kernel_rfl, by kernel_rfl⟩
  | 26, _ => ⟨by kernel_rfl, by kernel_rfl⟩
  | 27, _ => ⟨by kernel_rfl, by kernel_rfl⟩
  | n + 28, h => by omega
set_option maxHeartbeats 2000000 in
theorem more_any (h : HN) (w : World) : Calls Tryd.prog 41 #[hval h] w fun e w' => e = .returned (.tuple #[hval ((moreP h).getD h), .bool (moreP h).isSome]) ∧ Below w.heap.size w w' := by
  have HB := hide (HBox.new w h)
  have HB0 := hide ((Below.refl w.heap.size w).alloc (Nat.le_refl _) (.cells #[.int .i64 h.n, .string ⟨h.l.toArray⟩, .int .i64 h.num, .int .i64 h.den] 23))
  unfold hval
  go_enter Tryd.func41, Tryd.ntmps41
  go_wp2_with fail
  refine (parts_any _).mono ?_
  rintro e w1 ⟨rfl, hb⟩
  have HB1 := hide ((HB0.out.alloc HB0.out.size _).trans (hb.mono (by simp; omega)))
  have HX1 := hide ((hNew2 w h ⟨0, [], 0, 0⟩).1.below hb (by simp; omega))
  have HY1 := hide ((hNew2 w h ⟨0, [], 0, 0⟩).2.below hb (by simp))
  have HS1 : Hid (w.heap.size + 1 < w1.heap.size) := by have := hb.size; simp at this; exact this
  clear hb HB HB0
  go_wp2_with ((with_reducible show wpList _ _ _ (Oper.mk _ (Op.store 66 (.tmp 4) (.tmp 6)) _ _ _ _ :: _) _ _); refine wpList_store_part rfl 66 (.tmp 4) (.tmp 6) rfl w1.heap.size 0 partsA rfl rfl 66 _ (Blk.new _ _ _) (by kernel_rfl) (Nat.le_of_eq (by kernel_rfl)) partsA_one ?_; intro w1b ho hb; rw [splice_all (by kernel_rfl)] at hb; have HZ1 := hide hb; have HB1b := hide (Only.below (B := w.heap.size) (HB1.out.alloc HB1.out.size _) ho (by have := HB1.out.size; simp; omega) HB1.out.size); have HX1b := hide (HBox.mk (ho.blk (HX1.out.blk.alloc _) (by have := HS1.out; omega))); have HY1b := hide (HBox.mk (h := ⟨0, [], 0, 0⟩) (ho.blk (HY1.out.blk.alloc _) (by have := HS1.out; omega))); have HS1b := hide (And.intro HS1.out hb.lt); obtain ⟨x0, x1, x2, x3⟩ := HX1b.out.facts; clear HB1 HX1 HY1 HS1 ho hb)
  refine (place_any _ _ _).mono ?_
  rintro e w2 ⟨rfl, hb⟩
  have HB2 := hide (HB1b.out.trans (hb.mono HB1b.out.size))
  have HX2 := hide (HX1b.out.below hb (by have := HS1b.out; omega))
  have HY2 := hide (HY1b.out.below hb (by have := HS1b.out; omega))
  have HZ2 := hide (HZ1.out.below hb (by have := HS1b.out; omega))
  have HS2 : Hid (w.heap.size + 1 < w2.heap.size) := by have := hb.size; have := HS1b.out; simp only [Hid]; omega
  clear hb HB1b HX1b HY1b HS1b HZ1 x0 x1 x2 x3
  have HP : Hid (moreP h = if place (h.num, h.den) + 1 < 28 then some { h with num := (partL.getD (place (h.num, h.den) + 1).toNat (0, 0)).1, den := (partL.getD (place (h.num, h.den) + 1).toNat (0, 0)).2 } else none) := rfl
  have hpl := place_lt (h.num, h.den)
  generalize place (h.num, h.den) = p at *
  have hw : IntKind.i64.wrap (p + 1) = p + 1 := by rw [IntKind.wrap_i64]; omega
  by_cases hk : p + 1 < 28
  · have hp1 : 0 ≤ p + 1 := by omega
    obtain ⟨k, hk2, hk3⟩ : ∃ k : Nat, (p + 1).toNat = k ∧ k < 28 := ⟨_, rfl, by omega⟩
    have HV : Hid (moreP h = some { h with num := (nth k).1, den := (nth k).2 }) := by rw [Hid, HP.out, if_pos hk, hk2]; rfl
    have z0 : w2.cell? ⟨w1.heap.size, (p + 1).toNat * 2, none⟩ = some (.int .i64 (nth k).1) := by rw [hk2]; exact (HZ2.out.cell _).trans (partsA_at k hk3).1
    have z1 : w2.cell? ⟨w1.heap.size, (p + 1).toNat * 2 + 1, none⟩ = some (.int .i64 (nth k).2) := by rw [hk2]; exact (HZ2.out.cell _).trans (partsA_at k hk3).2
    obtain ⟨x0, x1, x2, x3⟩ := HX2.out.facts
    have e2 := HX2.out.blk.frozen 2
    have e3 := HX2.out.blk.frozen 3
    clear hk2 hk3
    go_wp2_with fail
    go_region
    all_goals
      have HX3 := hide (HBox.mk (((HX2.out.blk.set_ 2 (.int .i64 (nth k).1)).set_ 3 (.int .i64 (nth k).2)).drew) : HBox _ _ ⟨h.n, h.l, (nth k).1, (nth k).2⟩)
      have HY3 := hide (HBox.mk (h := ⟨0, [], 0, 0⟩) (((HY2.out.blk.far (p := ⟨w.heap.size, 2, none⟩) (by simp) (.int .i64 (nth k).1)).far (p := ⟨w.heap.size, 3, none⟩) (by simp) (.int .i64 (nth k).2)).drew))
      have HB3 := hide (((HB2.out.setCell (p := ⟨w.heap.size, 2, none⟩) (Nat.le_refl _) (.int .i64 (nth k).1)).setCell (p := ⟨w.heap.size, 3, none⟩) (Nat.le_refl _) (.int .i64 (nth k).2)).drew)
      clear z0 z1 x0 x1 x2 x3 e2 e3
      generalize ((w2.setCell ⟨w.heap.size, 2, none⟩ (.int .i64 (nth k).1)).setCell ⟨w.heap.size, 3, none⟩ (.int .i64 (nth k).2)).drew = w3 at *
      obtain ⟨x0, x1, x2, x3⟩ := HX3.out.facts
      obtain ⟨y0, y1, y2, y3⟩ := HY3.out.facts
      have f0 := HY3.out.blk.frozen 0
      have f1 := HY3.out.blk.frozen 1
      have f2 := HY3.out.blk.frozen 2
      have f3 := HY3.out.blk.frozen 3
      go_wp2_with fail
      have HZ := hide (HBox.mk ((((HY3.out.blk.set_ 0 (.int .i64 h.n)).set_ 1 (.string ⟨h.l.toArray⟩)).set_ 2 (.int .i64 (nth k).1)).set_ 3 (.int .i64 (nth k).2)) : HBox _ _ ⟨h.n, h.l, (nth k).1, (nth k).2⟩)
      have HW := hide ((((HB3.out.setCell (p := ⟨w.heap.size + 1, 0, none⟩) (by simp) (.int .i64 h.n)).setCell (p := ⟨w.heap.size + 1, 1, none⟩) (by simp) (.string ⟨h.l.toArray⟩)).setCell (p := ⟨w.heap.size + 1, 2, none⟩) (by simp) (.int .i64 (nth k).1)).setCell (p := ⟨w.heap.size + 1, 3, none⟩) (by simp) (.int .i64 (nth k).2))
      generalize (((w3.setCell ⟨w.heap.size + 1, 0, none⟩ (.int .i64 h.n)).setCell ⟨w.heap.size + 1, 1, none⟩ (.string ⟨h.l.toArray⟩)).setCell ⟨w.heap.size + 1, 2, none⟩ (.int .i64 (nth k).1)).setCell ⟨w.heap.size + 1, 3, none⟩ (.int .i64 (nth k).2) = w8 at *
      refine bodyPost_ret (results_cell_tmp rfl _ _ (w.heap.size + 1) 23 _ _ rfl HZ.out.blk Tryd.underlying23 rfl (by kernel_rfl)) rfl ?_
      refine ⟨?_, HW.out⟩
      rw [HV.out]; rfl
  · have HV : Hid (moreP h = none) := by rw [Hid, HP.out, if_neg hk]
    obtain ⟨x0, x1, x2, x3⟩ := HX2.out.facts
    obtain ⟨y0, y1, y2, y3⟩ := HY2.out.facts
    have f0 := HY2.out.blk.frozen 0
    have f1 := HY2.out.blk.frozen 1
    have f2 := HY2.out.blk.frozen 2
    have f3 := HY2.out.blk.frozen 3
    go_wp2_with fail
    have HZ := hide (HBox.mk ((((HY2.out.blk.set_ 0 (.int .i64 h.n)).set_ 1 (.string ⟨h.l.toArray⟩)).set_ 2 (.int .i64 h.num)).set_ 3 (.int .i64 h.den)) : HBox _ _ ⟨h.n, h.l, h.num, h.den⟩)
    have HW := hide ((((HB2.out.setCell (p := ⟨w.heap.size + 1, 0, none⟩) (by simp) (.int .i64 h.n)).setCell (p := ⟨w.heap.size + 1, 1, none⟩) (by simp) (.string ⟨h.l.toArray⟩)).setCell (p := ⟨w.heap.size + 1, 2, none⟩) (by simp) (.int .i64 h.num)).setCell (p := ⟨w.heap.size + 1, 3, none⟩) (by simp) (.int .i64 h.den))
    generalize (((w2.setCell ⟨w.heap.size + 1, 0, none⟩ (.int .i64 h.n)).setCell ⟨w.heap.size + 1, 1, none⟩ (.string ⟨h.l.toArray⟩)).setCell ⟨w.heap.size + 1, 2, none⟩ (.int .i64 h.num)).setCell ⟨w.heap.size + 1, 3, none⟩ (.int .i64 h.den) = w8 at *
    refine bodyPost_ret (results_cell_tmp rfl _ _ (w.heap.size + 1) 23 _ _ rfl HZ.out.blk Tryd.underlying23 rfl (by kernel_rfl)) rfl ?_
    refine ⟨?_, HW.out⟩
    rw [HV.out]; rfl
end Go.Proofs.YtabphhclnboknaaDoor
