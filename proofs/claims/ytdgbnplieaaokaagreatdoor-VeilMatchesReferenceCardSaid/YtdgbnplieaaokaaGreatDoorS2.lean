/- Walks of the reference of layer 1: Joined, List, Digit, Is. -/
import Derived.Test.YtdgbnplieaaokaaGreatDoorS1
import Derived.Test.YtdgbnplieaaokaaGreatDoorSl
import Derived.IntWalk
import Derived.Laws.AppendOwnNone
import Derived.Lib.AppendStr
import Derived.OwnWalk
set_option linter.unusedVariables false
set_option linter.unusedSimpArgs false
namespace Go.Proofs.YtdgbnplieaaokaaGreatDoor
open Go.RowKit

theorem TextsAt.slice {w : World} {v : Value} {ls : List (List UInt8)} (h : TextsAt w v ls) : ∃ A c, v = .slice A ls.length c ∧ ls.length ≤ c := by
  obtain ⟨A, c, h1, h2, _⟩ := h
  exact ⟨A, c, by rw [h1, List.length_map], by simpa using h2⟩
theorem TextsAt.at_ {w : World} {A : Option Addr} {n c : Nat} {ls : List (List UInt8)} (h : TextsAt w (.slice A n c) ls) {k : Nat} {x : List UInt8} (hx : ls[k]? = some x) : ∃ a, A = some a ∧ a.block < w.heap.size ∧ w.cell? (a.add k) = some (.string (bs x)) := by
  obtain ⟨a, c', h1, _, h3, _, h5⟩ := RowsAt.at_ h (k := k) (x := strV x) (by rw [List.getElem?_map, hx]; rfl)
  injection h1 with e1
  refine ⟨a, e1, h3, ?_⟩
  have := h5 0 _ rfl
  rwa [add_of_add, Nat.add_zero, Nat.mul_one] at this
theorem drop_at' {α : Type} {l : List α} {k : Nat} {x : α} (h : l[k]? = some x) : l.drop k = x :: l.drop (k + 1) := by
  obtain ⟨hlt, e⟩ := List.getElem?_eq_some_iff.1 h
  rw [List.drop_eq_getElem_cons hlt, e]
theorem own_to4 {w w' : World} {base : Nat} {e : TypeId} {size n : Nat} {v : Value} {xs : List Value} (h : w.ownsRow base e size v n xs) (hb : Below w.heap.size w w') : w'.ownsRow base e size v n xs :=
  h.kept (show w.grownBy w' none from ⟨hb.os, hb.tape, hb.output, hb.size, fun i hi _ => hb.block i hi⟩) (by cases v.ownBlock <;> simp)
theorem cells_new4 {W : World} {xs : List Value} {ty : TypeId} {b : Nat} (hb : b = W.heap.size) : ∀ (j : Nat) (u : Value), xs[j]? = some u → (W.alloc (.cells xs.toArray ty)).cell? ((⟨b, 0, none⟩ : Addr).add j) = some u := by
  subst hb
  intro j u hu
  rw [show (⟨W.heap.size, 0, none⟩ : Addr).add j = ⟨W.heap.size, j, none⟩ by unfold Addr.add; split <;> simp_all]
  refine ((Blk.new W ty xs.toArray).cell j).trans ?_
  simpa using hu
theorem own_sl4 {w : World} {B : Nat} {e : TypeId} {s n : Nat} {v : Value} {xs : List Value} (h : w.ownsRow B e s v n xs) : ∃ A c, v = .slice A n c := by
  obtain ⟨_, h⟩ := h
  rcases h with ⟨hv, h0⟩ | ⟨g, cap, cur, hv, _⟩
  · exact ⟨none, 0, by rw [hv, h0]⟩
  · exact ⟨_, _, hv⟩
def lenS (ls : List (List UInt8)) : Nat := (ls.map List.length).sum
theorem lenS_snoc {ls : List (List UInt8)} {k : Nat} {x : List UInt8} (h : ls[k]? = some x) : lenS (ls.take (k + 1)) = lenS (ls.take k) + x.length := by unfold lenS; rw [List.take_add_one, h]; simp
theorem lenS_le (ls : List (List UInt8)) (k : Nat) : lenS (ls.take k) ≤ lenS ls := by
  have : lenS ls = lenS (ls.take k) + lenS (ls.drop k) := by unfold lenS; rw [← List.sum_append_nat, ← List.map_append, List.take_append_drop]
  omega
def JoB (w : World) (B : Nat) (v : Value) (J : List UInt8) : Prop := w.ownsRow B 5 1 v J.length (Lib.byteCells J)
set_option maxRecDepth 100000 in
set_option maxHeartbeats 300000 in
theorem rJoined_any (ls : List (List UInt8)) (hn : ls.length ≤ 1000) (hs : lenS ls ≤ 100000000000) (hl : (joinD ls).length ≤ 140737488355328) (v : Value) (w : World) (hv : TextsAt w v ls) :
    Calls Tryz.prog 40 #[v] w fun e w' => e = .returned (.string (bs (joinD ls))) ∧ Below w.heap.size w w' := by
  obtain ⟨A, c, rfl, _⟩ := hv.slice
  obtain ⟨i0, hi0, hz0, hz1, hz2⟩ := info_parts (show (Tryz.prog.info? 5).map (fun i => (i.zero, i.size, i.bytes)) = some (some (.int .u8 0), 1, 1) by kernel_rfl)
  have HS := hide hv
  have HT := hide hl
  clear hv hl
  go_enter Tryz.func40, Tryz.ntmps40
  go_wp2_with fail
  go_loopw [3, 4] (fun n i wr => ∃ k m : Nat, i = .int .i64 (k : Int) ∧ n = .int .i64 (m : Int) ∧ (k ≤ ls.length ∧ m ≤ 100000021000) ∧ Hid (m = lenS (ls.take k) + 21 * k) ∧ wr = w) (fun _ i _ => ls.length - (intOf i).toNat)
  case atStart => exact ⟨0, 0, rfl, rfl, ⟨by omega, by omega⟩, rfl, rfl⟩
  case round =>
    obtain ⟨k, m, rfl, rfl, ⟨hk, hm⟩, HM, hw⟩ := hrel
    obtain rfl : w = wr := hw.symm
    clear hw
    by_cases hlt : k < ls.length
    · have e1 : decide ((k : Int) < (ls.length : Int)) = true := decide_eq_true (by omega)
      obtain ⟨x, hx⟩ : ∃ x, ls[k]? = some x := ⟨_, List.getElem?_eq_getElem hlt⟩
      obtain ⟨a, rfl, ha, c0⟩ := HS.out.at_ hx
      have hz : (bs x).size = x.length := bs_size _
      have HL := hide (lenS_snoc hx)
      have HLE := hide (lenS_le ls (k + 1))
      have hxl : x.length ≤ 100000000000 := by have h1 := HL.out; have h2 := HLE.out; omega
      clear hx
      go_wp2_with fail
      refine ⟨⟨k + 1, m + (x.length + 21), by go_num, by go_num, ⟨by omega, ?_⟩, ?_, trivial⟩, ?_⟩
      · have h1 := HL.out; have h2 := HLE.out; have h3 := HM.out; omega
      · show _ = _
        have h1 := HL.out; have h3 := HM.out; omega
      · simp [intOf]; omega
    · obtain rfl : k = ls.length := by omega
      have e1 : decide ((ls.length : Int) < (ls.length : Int)) = false := by simp
      go_wp2_with (refine wpList_make_own _ rfl (.const (.int .i64 0)) (.tmp 21) 59 rfl w.heap.size 5 i0 (.int .u8 0) 1 Tryz.underlying59 hi0 hz0 hz1 .i64 .i64 (m : Int) m rfl rfl rfl (by rw [hz2]; omega) (by simp only [maxLen]; omega) (Nat.le_refl _) ?_; intro w2 hown2 hgr2)
      have HO2 := hide hown2
      have HB2 : Hid (Below w.heap.size w w2) := (Below.refl _ _).grown hgr2 (Nat.le_refl _) (fun k h => by cases h)
      clear hown2 hgr2
      have hne0 : Value.slice (some ⟨w.heap.size, 0, none⟩) 0 m ≠ .slice none 0 0 := by intro h; injection h with h; cases h
      generalize Value.slice (some ⟨w.heap.size, 0, none⟩) 0 m = out0 at *
      go_loopw [5, 6] (fun out i w3 => ∃ k : Nat, i = .int .i64 (k : Int) ∧ k ≤ ls.length ∧ Aside (Below w.heap.size w w3) ∧ Aside (JoB w3 w.heap.size out (joinD (ls.take k))) ∧ Aside (out ≠ .slice none 0 0)) (fun _ i _ => ls.length - (intOf i).toNat)
      case atStart => exact ⟨0, rfl, by omega, HB2.out, HO2.out, hne0⟩
      case round =>
        obtain ⟨k, rfl, hk2, hB, hO, hne⟩ := hrel
        have HB : Hid (Below w.heap.size w wr) := hB
        have HO : Hid (wr.ownsRow w.heap.size 5 1 _ (joinD (ls.take k)).length (Lib.byteCells (joinD (ls.take k)))) := hO
        have HNE : Hid (_ ≠ Value.slice none 0 0) := hne
        clear hB hO hne hne0 HO2 HB2
        by_cases hlt : k < ls.length
        · have e1 : decide ((k : Int) < (ls.length : Int)) = true := decide_eq_true (by omega)
          obtain ⟨x, hx⟩ : ∃ x, ls[k]? = some x := ⟨_, List.getElem?_eq_getElem hlt⟩
          obtain ⟨a, rfl, ha, c0⟩ := (TextsAt.to HS.out HB.out).at_ hx
          have hz : (bs x).size = x.length := bs_size _
          have HJ : Hid (joinD (ls.take (k + 1)) = joinD (ls.take k) ++ (Lib.decDigits x.length ++ [58] ++ x)) := by
            show _ = _
            rw [List.take_add_one, hx]
            have h := joinD_snoc (ls.take k) x
            rw [show Lib.itoa (x.length : Int) = Lib.decDigits x.length by unfold Lib.itoa; rw [if_neg (by omega)]; simp] at h
            exact h
          have HLN : Hid ((joinD (ls.take k)).length + ((Lib.decDigits x.length).length + 1 + x.length) ≤ 140737488355328) := by
            have h1 : joinD ls = joinD (ls.take (k + 1)) ++ joinD (ls.drop (k + 1)) := by unfold joinD; rw [← List.flatMap_append, List.take_append_drop]
            have h2 := HT.out
            rw [h1, HJ.out] at h2
            simp only [List.length_append, List.length_cons, List.length_nil] at h2
            show _ ≤ _
            omega
          have hxl : x.length ≤ 9223372036854775807 := by have := HLN.out; omega
          have CD := fun w => rDecimal_any x.length hxl w
          have hz2' : (bs (Lib.decDigits x.length)).size = (Lib.decDigits x.length).length := bs_size _
          have HXx := hide hx
          clear hx
          generalize joinD (ls.take k) = J at *
          generalize Lib.decDigits x.length = D at *
          have b0 : J.length + (bs D).size ≤ 140737488355328 := by have := HLN.out; rw [hz2']; omega
          have b1 : J.length + (bs D).size + 1 ≤ 140737488355328 := by have := HLN.out; rw [hz2']; omega
          have b2 : J.length + (bs D).size + 1 + (bs x).size ≤ 140737488355328 := by have := HLN.out; rw [hz2', hz]; omega
          have b3 : w.heap.size ≤ wr.heap.size := HB.out.size
          have HB0 := hide b0
          have HB1 := hide b1
          have HB2 := hide b2
          have HB3 := hide b3
          clear b0 b1 b2 b3 hz2'
          go_wp2_with (first | ((with_reducible refine (CD _).mono ?_); rintro e w' ⟨rfl, rfl⟩) | (at_builtin; (refine Lib.wpList_append_own_string _ rfl (.tmp 29) (.tmp 35) 59 9 rfl w.heap.size 5 i0 Tryz.underlying59 Tryz.underlying9 hi0 hz0 hz1 hz2 _ J.length (Lib.byteCells J) rfl HO.out (bs D) rfl (by have := HB0.out; simp only [maxLen]; omega) (by have := HB0.out; omega) HB3.out ?_); intro v1 w11 hown1 hgr1 hiff1) | (at_builtin; (refine wpList_append_own _ rfl (.tmp 37) (.tmp 38) _ rfl w.heap.size 5 i0 (.int .u8 0) 1 1 Tryz.underlying59 hi0 hz0 hz1 hz2 rfl (by omega) _ (J.length + (bs D).size) (Lib.byteCells J ++ Lib.strCells (bs D)) rfl (own_to4 hown1 (below_one _ _)) ⟨_, 0, none⟩ 1 1 [.int .u8 58] rfl rfl (cells_new4 (xs := [.int .u8 58]) rfl) (by intro u hu; rw [List.mem_singleton.1 hu]; rfl) (by have := HB1.out; simp only [maxLen]; omega) (by have := HB1.out; omega) (Nat.le_trans HB3.out (Nat.le_trans hgr1.size (below_one _ _).size)) ?_); intro v2 w12 hown2 hgr2 hiff2; have HB11 := hide (HB.out.grown hgr1 HB3.out (fun k h => (HO.out.lt k h).1)); have HB12 := hide ((below_alloc HB11.out (Nat.le_refl _) (.cells #[.int .u8 58] 5)).grown hgr2 (Nat.le_trans HB11.out.size (below_one _ _).size) (fun k h => (hown1.lt k h).1)); obtain ⟨a2, ea2, _, hcx⟩ := (TextsAt.to HS.out HB12.out).at_ HXx.out; obtain rfl := Option.some.inj ea2) | (at_builtin; (refine Lib.wpList_append_own_string _ rfl (.tmp 40) (.tmp 44) 59 9 rfl w.heap.size 5 i0 Tryz.underlying59 Tryz.underlying9 hi0 hz0 hz1 hz2 _ (J.length + (bs D).size + 1) (Lib.byteCells J ++ Lib.strCells (bs D) ++ [Value.int IntKind.u8 58]) rfl hown2 (bs x) rfl (by have := HB2.out; simp only [maxLen]; omega) (by have := HB2.out; omega) HB12.out.size ?_); intro v3 w13 hown3 hgr3 hiff3; have HB13 := hide (HB12.out.grown hgr3 HB12.out.size (fun k h => (hown2.lt k h).1)); have HO13 := hide hown3; have HN13 : Hid (v3 ≠ Value.slice none 0 0) := fun h => by (have h2 := (hiff3.1 h).1; have h3 := (hiff2.1 h2).2; omega)))
          have HF13 : Hid (JoB w13 w.heap.size v3 (joinD (ls.take (k + 1)))) := by
            have h := HO13.out
            rw [strCells_bs, strCells_bs, bs_size, bs_size, ← byteCells_app, show [Value.int IntKind.u8 58] = Lib.byteCells [58] from rfl, ← byteCells_app, ← byteCells_app] at h
            show JoB _ _ _ _
            rw [HJ.out]
            unfold JoB
            have e5 : J ++ (D ++ ([58] : List UInt8) ++ x) = J ++ D ++ [58] ++ x := by simp
            have e6 : (J ++ D ++ ([58] : List UInt8) ++ x).length = J.length + D.length + 1 + x.length := by simp only [List.length_append, List.length_cons, List.length_nil]
            rw [e5, e6]
            exact h
          refine ⟨⟨k + 1, by go_num, by omega, HB13.out, HF13.out, HN13.out⟩, ?_⟩
          simp [intOf]; omega
        · obtain rfl : k = ls.length := by omega
          rw [List.take_length] at HO
          have e1 : decide ((ls.length : Int) < (ls.length : Int)) = false := by simp
          obtain ⟨A2, c2, rfl⟩ := own_sl4 HO.out
          have hcv : (convert 59 9 (.slice A2 (joinD ls).length c2)).run Tryz.prog wr = .ok (.string (bs (joinD ls))) wr := by
            have h := HO.out
            obtain ⟨_, h⟩ := h
            rcases h with ⟨hv, _⟩ | ⟨g, cap, cur, hv, hgB, hg, h1, h2, h3, h4⟩
            · exact absurd hv HNE.out
            · injection hv with e1 e2 e3
              subst e1
              refine conv_bytes (P := Tryz.prog) wr 59 5 9 Tryz.underlying59 Tryz.underlying5 Tryz.underlying9 g 0 (joinD ls) _ _ rfl (fun i c hc => ?_)
              rw [Nat.zero_add]
              refine (Blk.cell (cs := cur) hg i).trans ?_
              have hi : i < (joinD ls).length := (List.getElem?_eq_some_iff.1 hc).1
              have h5 : (cur.toList.take ((joinD ls).length * 1))[i]? = some (.int .u8 (c.toNat : Int)) := by rw [h4]; simp [Lib.byteCells, hc]
              rw [List.getElem?_take, if_pos (by omega)] at h5
              simpa using h5
          go_wp2_with fail
          go_ret
          exact ⟨rfl, HB.out⟩
set_option maxHeartbeats 400000 in
theorem rList_any (ls : List (List UInt8)) (hn : ls.length ≤ 1000) (hs : lenS ls ≤ 100000000000) (hl : (joinD ls).length ≤ 140737488355328) (v : Value) (w : World) (hv : TextsAt w v ls) :
    Calls Tryz.prog 23 #[v] w fun e w' => e = .returned (.string (bs (listD ls))) ∧ Below w.heap.size w w' := by
  have CJ := rJoined_any ls hn hs hl v w hv
  have CS := fun w => rSum_any (joinD ls) hl w
  clear hv
  go_enter Tryz.func23, Tryz.ntmps23
  go_wp2_with (first | ((with_reducible refine CJ.mono ?_); rintro e w1 ⟨rfl, hb⟩) | ((with_reducible refine (CS _).mono ?_); rintro e w' ⟨rfl, rfl⟩))
  go_ret
  exact ⟨rfl, by assumption⟩
def digV (c : UInt8) : Int := if 48 ≤ c.toNat ∧ c.toNat ≤ 57 then (c.toNat : Int) - 48 else if 97 ≤ c.toNat ∧ c.toNat ≤ 102 then (c.toNat : Int) - 87 else -1
set_option maxHeartbeats 1000000 in
theorem rDigit_any (c : UInt8) (w : World) : Calls Tryz.prog 38 #[.int .u8 (c.toNat : Int)] w fun e w' => e = .returned (.int .i64 (digV c)) ∧ w' = w := by
  have hc := c.toNat_lt
  have HV : Hid (digV c = if 48 ≤ c.toNat ∧ c.toNat ≤ 57 then (c.toNat : Int) - 48 else if 97 ≤ c.toNat ∧ c.toNat ≤ 102 then (c.toNat : Int) - 87 else -1) := rfl
  generalize c.toNat = n at *
  have hc' : n < 256 := hc
  by_cases h1 : 48 ≤ n ∧ n ≤ 57
  · rw [if_pos h1] at HV
    have a1 : (48 : Int) ≤ (n : Int) := by omega
    have a2 : (n : Int) ≤ 57 := by omega
    clear h1 hc
    go_enter Tryz.func38, Tryz.ntmps38
    go_wp2_with fail
    go_ret
    exact ⟨ret_int HV.out.symm, rfl⟩
  · rw [if_neg h1] at HV
    by_cases h2 : 97 ≤ n ∧ n ≤ 102
    · rw [if_pos h2] at HV
      have a1 : (97 : Int) ≤ (n : Int) := by omega
      have a2 : (n : Int) ≤ 102 := by omega
      clear h1 h2 hc
      go_enter Tryz.func38, Tryz.ntmps38
      go_wp2_with fail
      go_ret
      exact ⟨ret_int (by rw [HV.out]; omega), rfl⟩
    · rw [if_neg h2] at HV
      clear hc
      go_enter Tryz.func38, Tryz.ntmps38
      go_wp2_with fail
      all_goals first
        | omega
        | (go_ret; exact ⟨ret_int (by rw [HV.out]), rfl⟩)
theorem digV_hex (c : UInt8) : decide (digV c < 0) = !isHex c := by
  have hc := c.toNat_lt
  unfold digV isHex
  generalize c.toNat = n at *
  by_cases h1 : 48 ≤ n ∧ n ≤ 57
  · rw [if_pos h1, decide_eq_false (by omega), decide_eq_true h1.1, decide_eq_true h1.2]; rfl
  · rw [if_neg h1]
    by_cases h2 : 97 ≤ n ∧ n ≤ 102
    · rw [if_pos h2, decide_eq_false (by omega), decide_eq_true h2.1, decide_eq_true h2.2]; simp
    · rw [if_neg h2]
      have e1 : (decide (48 ≤ n) && decide (n ≤ 57)) = false := by rw [← Bool.not_eq_true]; simpa using h1
      have e2 : (decide (97 ≤ n) && decide (n ≤ 102)) = false := by rw [← Bool.not_eq_true]; simpa using h2
      rw [e1, e2]; rfl
set_option maxRecDepth 100000 in
set_option maxHeartbeats 1000000 in
theorem rIs_any (l : List UInt8) (hl : l.length ≤ 140737488355328) (w : World) : Calls Tryz.prog 19 #[.string (bs l)] w fun e w' => e = .returned (.bool (isD l)) ∧ w' = w := by
  have hsz : (bs l).size = l.length := bs_size l
  have HV : Hid (isD l = (decide (l.length = 16) && l.all isHex)) := rfl
  go_enter Tryz.func19, Tryz.ntmps19
  go_wp2_with fail
  go_loopw [3] (fun i wr => ∃ k : Nat, i = .int .i64 (k : Int) ∧ (k ≤ l.length ∧ k ≤ 16) ∧ Hid (l.all isHex = (l.drop k).all isHex) ∧ wr = w) (fun i _ => l.length - (intOf i).toNat)
  case atStart => exact ⟨0, rfl, ⟨by omega, by omega⟩, rfl, rfl⟩
  case round =>
    obtain ⟨k, rfl, ⟨hk, hk16⟩, HA, rfl⟩ := hrel
    by_cases hlt : k < l.length ∧ k < 16
    · obtain ⟨h1, h2⟩ := hlt
      have e1 : decide ((k : Int) < (l.length : Int)) = true := decide_eq_true (by omega)
      have e2 : decide ((k : Int) < 16) = true := decide_eq_true (by omega)
      obtain ⟨c, hc⟩ : ∃ c, l[k]? = some c := ⟨_, List.getElem?_eq_getElem h1⟩
      have ci := index_bs l k c hc
      have CD := fun w => rDigit_any c w
      have HD := hide (drop_at' hc)
      have HX := hide (digV_hex c)
      clear hc
      generalize digV c = d at *
      cases hx : isHex c with
      | true =>
        have e3 : decide (d < 0) = false := by rw [HX.out, hx]; rfl
        have HN : Hid (l.all isHex = (l.drop (k + 1)).all isHex) := by show _ = _; rw [HA.out, HD.out, List.all_cons, hx]; rfl
        clear hx
        go_wp2_with ((with_reducible refine (CD _).mono ?_); rintro e w' ⟨rfl, rfl⟩)
        refine ⟨⟨k + 1, by go_num, ⟨by omega, by omega⟩, HN.out, trivial⟩, ?_⟩
        simp [intOf]; omega
      | false =>
        have e3 : decide (d < 0) = true := by rw [HX.out, hx]; rfl
        have HN : Hid (isD l = false) := by show _ = _; rw [HV.out, HA.out, HD.out, List.all_cons, hx]; simp
        clear hx
        go_wp2_with ((with_reducible refine (CD _).mono ?_); rintro e w' ⟨rfl, rfl⟩)
        go_ret
        exact ⟨ret_bool (by rw [HN.out]), rfl⟩
    · have HN : Hid (isD l = ((l.length : Int) == 16)) := by
        show _ = _
        by_cases h16 : l.length = 16
        · rw [HV.out, HA.out, List.drop_of_length_le (by omega), decide_eq_true h16, h16]; rfl
        · rw [HV.out, decide_eq_false h16]
          symm
          rw [Bool.false_and, beq_eq_false_iff_ne]; omega
      by_cases h1 : k < l.length
      · have e1 : decide ((k : Int) < (l.length : Int)) = true := decide_eq_true (by omega)
        have e2 : decide ((k : Int) < 16) = false := decide_eq_false (by omega)
        clear hlt
        go_wp2_with fail
        go_ret
        exact ⟨ret_bool (by rw [HN.out]), rfl⟩
      · have e1 : decide ((k : Int) < (l.length : Int)) = false := decide_eq_false (by omega)
        clear hlt
        go_wp2_with fail
        go_ret
        exact ⟨ret_bool (by rw [HN.out]), rfl⟩
end Go.Proofs.YtdgbnplieaaokaaGreatDoor
