/- Walk of chapter 46: LabelReads. -/
import Derived.Test.YtldicibhfmnjnaaGreatDoorE1
set_option linter.unusedVariables false
set_option linter.unusedSimpArgs false
namespace Go.Proofs.YtldicibhfmnjnaaGreatDoor
open Go.RowKit
theorem read_else {s : List UInt8} (h : readE s ≠ 0) : readP s = [] := by
  unfold readE at h
  unfold readP
  cases hR : canR s with
  | false => rw [if_neg (by simp)]
  | true =>
    rw [hR, if_pos rfl] at h
    rw [if_pos rfl]
    cases hv : readV s with
    | none => rfl
    | some v => rw [hv] at h; simp at h
def ReI (t : List UInt8) (wz wr : World) (i : Value) : Prop := ∃ k : Nat, k ≤ t.length ∧ i = .int .i64 (k : Int) ∧ (∀ c ∈ t.take k, c ≠ 63) ∧ wz = wr
theorem take_step {t : List UInt8} {k : Nat} {c : UInt8} (hc : t[k]? = some c) (h : ∀ x ∈ t.take k, x ≠ 63) (hne : c ≠ 63) : ∀ x ∈ t.take (k + 1), x ≠ 63 := by
  intro x hx
  rw [List.take_add_one, hc] at hx
  rcases List.mem_append.1 hx with h' | h'
  · exact h x h'
  · have : x = c := by simpa using h'
    rw [this]; exact hne
set_option maxRecDepth 100000 in
set_option maxHeartbeats 4000000 in
theorem reads_any (p t : List UInt8) (w : World) (hg : Glob w) : Calls Tryz.prog 4 #[.string (bs p), .string (bs t)] w fun e w' => e = .returned (.bool true) ∧ Below w.heap.size w w' := by
  have CH := head_any w hg
  have hz : (bs p).size = p.length := bs_size p
  have hzt : (bs t).size = t.length := bs_size t
  have hbe : (bs []).toList.isEmpty = true := by rw [bs_toList]; rfl
  by_cases hp : p.length ≤ 100
  · have d1 : decide (100 < (p.length : Int)) = false := by simp; omega
    by_cases ht : t.length ≤ 100
    · have d2 : decide (100 < (t.length : Int)) = false := by simp; omega
      have CT := fun w => Read_any t (by omega) w
      have CW := fun w => Write_any p (by omega) w
      have HX : Hid (readP t = [] ∨ readE t = 0) := by show _ ∨ _; by_cases h : readE t = 0; exact .inr h; exact .inl (read_else h)
      have CW2 := fun (h : ((∀ c ∈ t, c ≠ 63) ∧ readE t = 0)) w => Write_any (readP t) (by have := read_write h.1 h.2; have hc := this.1; unfold canW at hc; simp at hc; omega) w
      have HW2 : Hid (∀ (h : (∀ c ∈ t, c ≠ 63) ∧ readE t = 0), writeP (readP t) = t ∧ writeE (readP t) = 0) := fun h => by
        have := read_write h.1 h.2
        have h2 := write_ok this.1
        exact ⟨by rw [h2.2]; exact this.2, h2.1⟩
      cases hcan : canW p with
      | true =>
        have HCAN := hide hcan
        rw [(write_ok hcan).1, (write_ok hcan).2] at CW
        have CR := fun w => Read_any (prt p) (by rw [prt_len]; omega) w
        rw [(read_prt hcan).1, (read_prt hcan).2] at CR
        have hzs : (bs (prt p)).size = p.length + 2 := by rw [bs_size, prt_len]
        have hcut : (bs (prt p)).extract 0 p.length = bs p := by
          rw [bs_cut, List.drop_zero, Nat.sub_zero]
          unfold prt
          rw [List.take_left']
          rfl
        clear hcan HCAN
        generalize bs (prt p) = S at *
        go_enter Tryz.func4, Tryz.ntmps4
        go_wp2_with fail
        refine CH.mono ?_
        rintro e w0 ⟨rfl, hb⟩
        have HB0 := hide hb
        clear hb CH hg
        go_wp2_with fail
        refine (CW _).mono ?_
        rintro e w1 ⟨rfl, hb⟩
        have HB1 := hide (below_to HB0.out (Nat.le_refl _) hb)
        clear hb CW HB0
        go_wp2_with fail
        refine (CR _).mono ?_
        rintro e w2 ⟨rfl, hb⟩
        have HB2 := hide (below_to HB1.out (Nat.le_refl _) hb)
        clear hb CR HB1
        generalize bs p = X at *
        go_wp2_with fail
        refine (CT _).mono ?_
        rintro e wz ⟨rfl, hb⟩
        have HBz := hide (below_to HB2.out (Nat.le_refl _) hb)
        clear hb CT
        go_wp2_with fail
        go_loopw [12] (fun i wr => ReI t wz wr i) (fun i _ => t.length - (intOf i).toNat)
        case atStart => exact ⟨0, by omega, rfl, by simp, rfl⟩
        case round =>
          obtain ⟨k, hk, rfl, hno, rfl⟩ := hrel
          have HNO := hide hno
          clear hno
          by_cases hlt : k < t.length
          · have e1 : decide ((k : Int) < (t.length : Int)) = true := by simp; omega
            obtain ⟨c, hc⟩ : ∃ c, t[k]? = some c := ⟨_, List.getElem?_eq_getElem hlt⟩
            have HCc := hide hc
            have ci := index_bs t k c hc
            clear hc
            by_cases h63 : c = 63
            · subst h63
              clear HCc
              go_wp2_with fail
              go_ret
              exact ⟨rfl, HBz.out⟩
            · have hcn : ((c.toNat : Int) == 63) = false := by
                rw [beq_eq_false_iff_ne]
                intro h
                exact h63 (UInt8.toNat_inj.1 (by show c.toNat = 63; omega))
              have HN := hide h63
              clear h63
              go_wp2_with fail
              refine ⟨⟨k + 1, by omega, by go_num, take_step HCc.out HNO.out HN.out, rfl⟩, ?_⟩
              simp [intOf]; omega
          · obtain rfl : k = t.length := by omega
            have e1 : decide ((t.length : Int) < (t.length : Int)) = false := by simp
            have hno : ∀ c ∈ t, c ≠ 63 := by have := HNO.out; rw [List.take_length] at this; exact this
            by_cases hE : readE t = 0
            · have CW3 := CW2 ⟨hno, hE⟩
              have h2 := HW2.out ⟨hno, hE⟩
              rw [h2.1, h2.2] at CW3
              clear HW2 CW2 h2 HX hno HNO
              rw [hE]
              clear hE
              generalize bs (readP t) = R at *
              generalize bs t = T at *
              go_wp2_with fail
              refine (CW3 _).mono ?_
              rintro e wy ⟨rfl, hb⟩
              have HBy := hide (below_to HBz.out (Nat.le_refl _) hb)
              clear hb CW3
              go_wp2_with fail
              go_ret
              exact ⟨rfl, HBy.out⟩
            · have hR : readP t = [] := HX.out.resolve_right hE
              rw [hR]
              have hEd : (readE t == 0) = false := by rw [beq_eq_false_iff_ne]; exact hE
              clear HW2 CW2 HX hno HNO hR hE
              generalize readE t = E at *
              go_wp2_with fail
              go_ret
              exact ⟨rfl, HBz.out⟩
      | false =>
        rw [(write_no hcan).1, (write_no hcan).2] at CW
        clear hcan
        go_enter Tryz.func4, Tryz.ntmps4
        go_wp2_with fail
        refine CH.mono ?_
        rintro e w0 ⟨rfl, hb⟩
        have HB0 := hide hb
        clear hb CH hg
        go_wp2_with fail
        refine (CW _).mono ?_
        rintro e w1 ⟨rfl, hb⟩
        have HB1 := hide (below_to HB0.out (Nat.le_refl _) hb)
        clear hb CW HB0
        go_wp2_with fail
        refine (CT _).mono ?_
        rintro e wz ⟨rfl, hb⟩
        have HBz := hide (below_to HB1.out (Nat.le_refl _) hb)
        clear hb CT
        go_wp2_with fail
        go_loopw [12] (fun i wr => ReI t wz wr i) (fun i _ => t.length - (intOf i).toNat)
        case atStart => exact ⟨0, by omega, rfl, by simp, rfl⟩
        case round =>
          obtain ⟨k, hk, rfl, hno, rfl⟩ := hrel
          have HNO := hide hno
          clear hno
          by_cases hlt : k < t.length
          · have e1 : decide ((k : Int) < (t.length : Int)) = true := by simp; omega
            obtain ⟨c, hc⟩ : ∃ c, t[k]? = some c := ⟨_, List.getElem?_eq_getElem hlt⟩
            have HCc := hide hc
            have ci := index_bs t k c hc
            clear hc
            by_cases h63 : c = 63
            · subst h63
              clear HCc
              go_wp2_with fail
              go_ret
              exact ⟨rfl, HBz.out⟩
            · have hcn : ((c.toNat : Int) == 63) = false := by
                rw [beq_eq_false_iff_ne]
                intro h
                exact h63 (UInt8.toNat_inj.1 (by show c.toNat = 63; omega))
              have HN := hide h63
              clear h63
              go_wp2_with fail
              refine ⟨⟨k + 1, by omega, by go_num, take_step HCc.out HNO.out HN.out, rfl⟩, ?_⟩
              simp [intOf]; omega
          · obtain rfl : k = t.length := by omega
            have e1 : decide ((t.length : Int) < (t.length : Int)) = false := by simp
            have hno : ∀ c ∈ t, c ≠ 63 := by have := HNO.out; rw [List.take_length] at this; exact this
            by_cases hE : readE t = 0
            · have CW3 := CW2 ⟨hno, hE⟩
              have h2 := HW2.out ⟨hno, hE⟩
              rw [h2.1, h2.2] at CW3
              clear HW2 CW2 h2 HX hno HNO
              rw [hE]
              clear hE
              generalize bs (readP t) = R at *
              generalize bs t = T at *
              go_wp2_with fail
              refine (CW3 _).mono ?_
              rintro e wy ⟨rfl, hb⟩
              have HBy := hide (below_to HBz.out (Nat.le_refl _) hb)
              clear hb CW3
              go_wp2_with fail
              go_ret
              exact ⟨rfl, HBy.out⟩
            · have hR : readP t = [] := HX.out.resolve_right hE
              rw [hR]
              have hEd : (readE t == 0) = false := by rw [beq_eq_false_iff_ne]; exact hE
              clear HW2 CW2 HX hno HNO hR hE
              generalize readE t = E at *
              go_wp2_with fail
              go_ret
              exact ⟨rfl, HBz.out⟩
    · have d2 : decide (100 < (t.length : Int)) = true := by simp; omega
      go_enter Tryz.func4, Tryz.ntmps4
      go_wp2_with fail
      refine CH.mono ?_
      rintro e w0 ⟨rfl, hb⟩
      have HB0 := hide hb
      clear hb CH hg
      go_wp2_with fail
      go_ret
      exact ⟨rfl, HB0.out⟩
  · have d1 : decide (100 < (p.length : Int)) = true := by simp; omega
    go_enter Tryz.func4, Tryz.ntmps4
    go_wp2_with fail
    refine CH.mono ?_
    rintro e w0 ⟨rfl, hb⟩
    have HB0 := hide hb
    clear hb CH hg
    go_wp2_with fail
    go_ret
    exact ⟨rfl, HB0.out⟩
end Go.Proofs.YtldicibhfmnjnaaGreatDoor
