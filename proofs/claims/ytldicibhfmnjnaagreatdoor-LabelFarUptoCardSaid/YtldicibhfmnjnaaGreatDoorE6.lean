/- Walk of chapter 46: LabelFar. -/
import Derived.Test.YtldicibhfmnjnaaGreatDoorE4
set_option linter.unusedVariables false
set_option linter.unusedSimpArgs false
namespace Go.Proofs.YtldicibhfmnjnaaGreatDoor
open Go.RowKit
def FaI (s t : List UInt8) (w wr : World) (n i : Value) : Prop := ∃ m k : Nat, n = .int .i64 (m : Int) ∧ i = .int .i64 (k : Int) ∧ k ≤ s.length ∧ (m ≤ k ∧ diffs s t = m + diffs (s.drop k) (t.drop k)) ∧ Below w.heap.size w wr
theorem diffs_step {s t : List UInt8} {k : Nat} {x y : UInt8} (hx : s[k]? = some x) (hy : t[k]? = some y) : diffs (s.drop k) (t.drop k) = (if x = y then 0 else 1) + diffs (s.drop (k + 1)) (t.drop (k + 1)) := by
  have f : ∀ (l : List UInt8) (z : UInt8), l[k]? = some z → l.drop k = z :: l.drop (k + 1) := fun l z h => by
    have hk : k < l.length := by rcases Nat.lt_or_ge k l.length with h' | h'; exact h'; rw [List.getElem?_eq_none h'] at h; cases h
    rw [List.drop_eq_getElem_cons hk]
    rw [List.getElem?_eq_getElem hk] at h
    rw [Option.some.inj h]
  rw [f s x hx, f t y hy]
  simp only [diffs]
set_option maxRecDepth 100000 in
set_option maxHeartbeats 4000000 in
theorem far_any (p q : List UInt8) (hp : p.length ≤ 1099511627776) (hq : q.length ≤ 1099511627776) (w : World) (hg : Glob w) : Calls Tryz.prog 8 #[.string (bs p), .string (bs q)] w fun e w' => e = .returned (.bool true) ∧ Below w.heap.size w w' := by
  have CH := head_any w hg
  have hz : (bs p).size = p.length := bs_size p
  have hzq : (bs q).size = q.length := bs_size q
  have hbe : (bs []).toList.isEmpty = true := by rw [bs_toList]; rfl
  have CW := fun w => Write_any p hp w
  have CV := fun w => Write_any q hq w
  cases hcp : canW p with
  | false =>
    rw [(write_no hcp).1, (write_no hcp).2] at CW
    clear hcp
    generalize writeP q = Q at *
    generalize writeE q = F at *
    go_enter Tryz.func8, Tryz.ntmps8
    go_wp2_with fail
    refine CH.mono ?_
    rintro e w0 ⟨rfl, hb⟩
    have HB0 := hide hb
    clear hb CH hg
    go_wp2_with fail
    refine (CW _).mono ?_
    rintro e w1 ⟨rfl, hb⟩
    have HB1 := hide (below_to HB0.out (Nat.le_refl _) hb)
    clear hb CW HB0
    go_wp2_with fail
    refine (CV _).mono ?_
    rintro e w2 ⟨rfl, hb⟩
    have HB2 := hide (below_to HB1.out (Nat.le_refl _) hb)
    clear hb CV HB1
    go_wp2_with fail
    go_ret
    exact ⟨rfl, HB2.out⟩
  | true =>
    rw [(write_ok hcp).1, (write_ok hcp).2] at CW
    cases hcq : canW q with
    | false =>
      rw [(write_no hcq).1, (write_no hcq).2] at CV
      clear hcp hcq
      generalize prt p = P at *
      go_enter Tryz.func8, Tryz.ntmps8
      go_wp2_with fail
      refine CH.mono ?_
      rintro e w0 ⟨rfl, hb⟩
      have HB0 := hide hb
      clear hb CH hg
      go_wp2_with fail
      refine (CW _).mono ?_
      rintro e w1 ⟨rfl, hb⟩
      have HB1 := hide (below_to HB0.out (Nat.le_refl _) hb)
      clear hb CW HB0
      go_wp2_with fail
      refine (CV _).mono ?_
      rintro e w2 ⟨rfl, hb⟩
      have HB2 := hide (below_to HB1.out (Nat.le_refl _) hb)
      clear hb CV HB1
      go_wp2_with fail
      go_ret
      exact ⟨rfl, HB2.out⟩
    | true =>
      rw [(write_ok hcq).1, (write_ok hcq).2] at CV
      by_cases hpq : p = q
      · subst hpq
        clear hcp hcq
        generalize prt p = P at *
        go_enter Tryz.func8, Tryz.ntmps8
        go_wp2_with fail
        refine CH.mono ?_
        rintro e w0 ⟨rfl, hb⟩
        have HB0 := hide hb
        clear hb CH hg
        go_wp2_with fail
        refine (CW _).mono ?_
        rintro e w1 ⟨rfl, hb⟩
        have HB1 := hide (below_to HB0.out (Nat.le_refl _) hb)
        clear hb CW HB0
        go_wp2_with fail
        refine (CV _).mono ?_
        rintro e w2 ⟨rfl, hb⟩
        have HB2 := hide (below_to HB1.out (Nat.le_refl _) hb)
        clear hb CV HB1
        go_wp2_with fail
        go_ret
        exact ⟨rfl, HB2.out⟩
      · by_cases hl : p.length = q.length
        · have hd := far hcp hcq hl hpq
          have hsl : (prt p).length = (prt q).length := by rw [prt_len, prt_len, hl]
          have hs36 : (prt p).length ≤ 36 := by rw [prt_len]; have hc := hcp; unfold canW at hc; simp at hc; omega
          have hzs : (bs (prt p)).size = (prt p).length := bs_size _
          have hzt : (bs (prt q)).size = (prt p).length := by rw [bs_size, hsl]
          have HD := hide hd
          have HL := hide hsl
          have e2 : ((p.length : Int) != (q.length : Int)) = false := by rw [hl]; simp
          have e3 : ((bs p).toList == (bs q).toList) = false := by rw [beq_eq_false_iff_ne, bs_toList, bs_toList]; exact hpq
          clear hd hcp hcq hl hpq hsl
          generalize prt p = s at *
          generalize prt q = t at *
          go_enter Tryz.func8, Tryz.ntmps8
          go_wp2_with fail
          refine CH.mono ?_
          rintro e w0 ⟨rfl, hb⟩
          have HB0 := hide hb
          clear hb CH hg
          go_wp2_with fail
          refine (CW _).mono ?_
          rintro e w1 ⟨rfl, hb⟩
          have HB1 := hide (below_to HB0.out (Nat.le_refl _) hb)
          clear hb CW HB0
          go_wp2_with fail
          refine (CV _).mono ?_
          rintro e w2 ⟨rfl, hb⟩
          have HB2 := hide (below_to HB1.out (Nat.le_refl _) hb)
          clear hb CV HB1
          go_wp2_with fail
          go_loopw [10, 11] (fun n i wr => FaI s t w wr n i) (fun _ i _ => s.length - (intOf i).toNat)
          case atStart => exact ⟨0, 0, rfl, rfl, by omega, by simp, HB2.out⟩
          case round =>
            obtain ⟨m, k, rfl, rfl, hk, hE, hB⟩ := hrel
            have HE := hide hE
            have HB := hide hB
            clear hE hB
            have hm36 : m ≤ 36 + k := Nat.le_trans HE.out.1 (by omega)
            by_cases hlt : k < s.length
            · have e1 : decide ((k : Int) < (s.length : Int)) = true := by simp; omega
              obtain ⟨x, hx⟩ : ∃ x, s[k]? = some x := ⟨_, List.getElem?_eq_getElem hlt⟩
              obtain ⟨y, hy⟩ : ∃ y, t[k]? = some y := ⟨_, List.getElem?_eq_getElem (by have := HL.out; omega)⟩
              have cx := index_bs s k x hx
              have cy := index_bs t k y hy
              have HS := hide (diffs_step hx hy)
              clear hx hy
              by_cases hxy : x = y
              · subst hxy
                go_wp2_with fail
                go_quiet (fail)
                go_wp2_with fail
                refine ⟨⟨m, k + 1, rfl, by go_num, by omega, ⟨by have := HE.out.1; omega, by have := HE.out.2; rw [this, HS.out]; simp⟩, below_drewN HB.out _⟩, ?_⟩
                simp [intOf]; omega
              · have e4 := u8_bne hxy
                have HN := hide hxy
                clear hxy
                go_wp2_with fail
                go_quiet (fail)
                go_wp2_with fail
                refine ⟨⟨m + 1, k + 1, by go_num, by go_num, by omega, ⟨by have := HE.out.1; omega, by have := HE.out.2; rw [this, HS.out, if_neg HN.out]; omega⟩, below_drewN HB.out _⟩, ?_⟩
                simp [intOf]; omega
            · have e1 : decide ((k : Int) < (s.length : Int)) = false := by simp; omega
              have e5 : decide ((3 : Int) ≤ (m : Int)) = true := by
                have := HE.out.2
                rw [List.drop_of_length_le (by omega), List.drop_of_length_le (by have := HL.out; omega)] at this
                have h3 := HD.out
                have h0 : diffs [] [] = 0 := rfl
                simp
                omega
              go_wp2_with fail
              go_ret
              exact ⟨rfl, HB.out⟩
        · have e2 : ((p.length : Int) != (q.length : Int)) = true := by rw [bne_iff_ne]; omega
          have e3 : ((bs p).toList == (bs q).toList) = false := by rw [beq_eq_false_iff_ne, bs_toList, bs_toList]; exact hpq
          clear hcp hcq hl hpq
          generalize prt p = P at *
          generalize prt q = Q at *
          go_enter Tryz.func8, Tryz.ntmps8
          go_wp2_with fail
          refine CH.mono ?_
          rintro e w0 ⟨rfl, hb⟩
          have HB0 := hide hb
          clear hb CH hg
          go_wp2_with fail
          refine (CW _).mono ?_
          rintro e w1 ⟨rfl, hb⟩
          have HB1 := hide (below_to HB0.out (Nat.le_refl _) hb)
          clear hb CW HB0
          go_wp2_with fail
          refine (CV _).mono ?_
          rintro e w2 ⟨rfl, hb⟩
          have HB2 := hide (below_to HB1.out (Nat.le_refl _) hb)
          clear hb CV HB1
          go_wp2_with fail
          go_ret
          exact ⟨rfl, HB2.out⟩
end Go.Proofs.YtldicibhfmnjnaaGreatDoor
