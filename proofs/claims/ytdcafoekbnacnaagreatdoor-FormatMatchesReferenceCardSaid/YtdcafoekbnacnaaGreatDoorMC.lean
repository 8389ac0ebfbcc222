/- Several texts as one, in build order. -/
import Derived.Test.YtdcafoekbnacnaaGreatDoorMB
import Derived.Test.YtdcafoekbnacnaaGreatDoorMA
import Derived.Deep.DeepCutAuto
import Derived.Lib.Space
import Derived.Lib.SmallJoins
import Derived.Scope
/- Package format: Write. -/
set_option linter.unusedVariables false
set_option linter.unusedSimpArgs false
namespace Go.Proofs.YtdcafoekbnacnaaGreatDoor
open Go.RowKit Go.Shelf
attribute [local go_sem] Oper.semAt_some

def fwV (s : Sch) (f : List (List UInt8)) : List UInt8 := if fitsB isNm numB s f then writL f s.ps else []
def fwE (s : Sch) (f : List (List UInt8)) : Int := if fitsB isNm numB s f then 0 else 1
theorem fits_len {s : Sch} {f : List (List UInt8)} (h : Fits isNm numB s f) (k : Nat) : (f.getD k []).length ≤ 60 := by
  rcases Nat.lt_or_ge k 9 with hk | hk
  · by_cases hex : ∃ p ∈ s.ps, p.k = (k : Int)
    · obtain ⟨p, hp, e⟩ := hex
      by_cases hv : valF f p.k = []
      · rw [e, val_nat] at hv; rw [hv]; simp
      · have := (h.good p hp hv).l60
        rw [e, val_nat] at this; exact this
    · have := h.non k hk (fun p hp e => hex ⟨p, hp, e⟩)
      rw [val_nat] at this; rw [this]; simp
  · rw [List.getD_eq_getElem?_getD, List.getElem?_eq_none (by rw [h.len]; exact hk)]; simp
set_option maxRecDepth 100000 in
set_option maxHeartbeats 4000000 in
theorem FWrite_any (s : Sch) (hl0 : s.ps.length ≤ 8796093022208) (hc0 : s.c.length ≤ 140737488355328) (v : Value) (f0 f1 f2 f3 f4 f5 f6 f7 f8 : List UInt8) (w : World) (hP : PartsAt w v s.ps) (hg : Glob w) :
    Calls Tryz.prog 32 #[.agg #[.string (bs s.c), v], .agg #[.string (bs f0), .string (bs f1), .string (bs f2), .string (bs f3), .string (bs f4), .string (bs f5), .string (bs f6), .string (bs f7), .string (bs f8)]] w fun e w' => e = .returned (.tuple #[.string (bs (fwV s [f0, f1, f2, f3, f4, f5, f6, f7, f8])), .int .i64 (fwE s [f0, f1, f2, f3, f4, f5, f6, f7, f8])]) ∧ Below w.heap.size w w' := by
  have HP0 := hide hP
  have HPo := hide hP
  have HG0 := hide hg
  obtain ⟨A, cp, rfl, hc⟩ := hP.slice
  clear hP hg
  go_enter Tryz.func32, Tryz.ntmps32
  go_wp2_with fail
  obtain ⟨Xs, Xf, B0⟩ := box2 w 24 #[.string (bs s.c), .slice A s.ps.length cp] 26 #[.string (bs f0), .string (bs f1), .string (bs f2), .string (bs f3), .string (bs f4), .string (bs f5), .string (bs f6), .string (bs f7), .string (bs f8)]
  have HXs := hide Xs
  have HXf := hide Xf
  have HB := hide B0
  have HP := hide (HP0.out.to B0)
  have HG := hide (HG0.out.to B0)
  clear Xs Xf B0 HP0 HG0
  generalize (w.alloc (.cells #[.string (bs s.c), .slice A s.ps.length cp] 24)).alloc (.cells #[.string (bs f0), .string (bs f1), .string (bs f2), .string (bs f3), .string (bs f4), .string (bs f5), .string (bs f6), .string (bs f7), .string (bs f8)] 26) = w1 at *
  refine (Fits_any s hl0 hc0 (.slice A s.ps.length cp) f0 f1 f2 f3 f4 f5 f6 f7 f8 w1 HP.out HG.out).mono ?_
  rintro e w2 ⟨rfl, hb⟩
  have zHXs := hide (HXs.out.to hb)
  have zHXf := hide (HXf.out.to hb)
  have zHP := hide (HP.out.to hb)
  have zHG := hide (HG.out.to hb)
  have zHB := hide (below_to HB.out (Nat.le_refl _) hb)
  clear hb HB HXs HXf HP HG
  have HXs := zHXs
  have HXf := zHXf
  have HP := zHP
  have HG := zHG
  have HB := zHB
  clear zHXs zHXf zHP zHG zHB
  cases hv : fitsB isNm numB s [f0, f1, f2, f3, f4, f5, f6, f7, f8] with
  | false =>
    have HF : Hid (fwV s [f0, f1, f2, f3, f4, f5, f6, f7, f8] = [] ∧ fwE s [f0, f1, f2, f3, f4, f5, f6, f7, f8] = 1) := by show _ ∧ _; unfold fwV fwE; rw [hv]; exact ⟨rfl, rfl⟩
    clear hv
    go_wp2_with fail
    go_ret2
    exact ⟨by rw [HF.out.1, HF.out.2]; rfl, HB.out⟩
  | true =>
    have HF : Hid (fwV s [f0, f1, f2, f3, f4, f5, f6, f7, f8] = writL [f0, f1, f2, f3, f4, f5, f6, f7, f8] s.ps ∧ fwE s [f0, f1, f2, f3, f4, f5, f6, f7, f8] = 0) := by show _ ∧ _; unfold fwV fwE; rw [hv]; exact ⟨rfl, rfl⟩
    have hfit := (fitsB_iff isNm numB s [f0, f1, f2, f3, f4, f5, f6, f7, f8] rfl).1 hv
    have HKK := hide (fits_kinds (f := [f0, f1, f2, f3, f4, f5, f6, f7, f8]) rfl hv)
    have HSS : Hid (∀ p ∈ s.ps, p.b.length ≤ 4 ∧ p.a.length ≤ 4) := fun p hp => ⟨(small_facts (hfit.valid.part p hp).2.1).1, (small_facts (hfit.valid.part p hp).2.2).1⟩
    have h8 := hfit.valid.n8
    have HFF := hide (fits_len hfit)
    clear hv hfit
    have hs2 : w.heap.size < w2.heap.size := HXs.out.lt
    have hf2 : w.heap.size + 1 < w2.heap.size := HXf.out.lt
    go_upto_region 4 with fail
    have HTa : Hid (TS0 w w2.heap.size #[.string (bs s.c), .slice A s.ps.length cp] [] (w2.alloc (.cells #[.pointer none, .slice none 0 0] 61))) :=
      ⟨.inl ⟨Nat.le_refl _, _, Blk.new _ _ _, World.ownsRowF_nil _ _ _ _, by simp [Value.ownBlock]⟩, HXs.out.alloc _, HB.out.alloc (Nat.le_of_lt hs2) _, by simp, hs2⟩
    have HFa := hide (HXf.out.alloc (.cells #[.pointer none, .slice none 0 0] 61))
    have HPa := hide (HP.out.to (below_one w2 (.cells #[.pointer none, .slice none 0 0] 61)))
    have hfb : w.heap.size + 1 ≠ w2.heap.size := by omega
    clear HXs HXf HB HP HG
    generalize w2.alloc (.cells #[.pointer none, .slice none 0 0] 61) = w3 at *
    generalize w2.heap.size = b0 at *
    have cS1 : w3.cell? ⟨w.heap.size, 1, none⟩ = some (.slice A s.ps.length cp) := HTa.out.s.cell 1
    obtain ⟨fl, hfl⟩ : ∃ fl, [f0, f1, f2, f3, f4, f5, f6, f7, f8] = fl := ⟨_, rfl⟩
    have HAT : Hid (∀ k : Nat, k < 9 → (#[Value.string (bs f0), Value.string (bs f1), Value.string (bs f2), Value.string (bs f3), Value.string (bs f4), Value.string (bs f5), Value.string (bs f6), Value.string (bs f7), Value.string (bs f8)] : Array Value)[k]? = some (.string (bs (fl.getD k [])))) := by rw [← hfl]; exact fields_at f0 f1 f2 f3 f4 f5 f6 f7 f8
    rw [hfl] at HFF
    have HFL := hide hfl
    clear hfl
    go_wp2_with fail
    clear cS1
    go_loopw [17] (fun i wr => ∃ k : Nat, k ≤ s.ps.length ∧ i = .int .i64 (k : Int) ∧ TS0 w b0 #[.string (bs s.c), .slice A s.ps.length cp] (writL fl (s.ps.take k)) wr ∧ Blk wr (w.heap.size + 1) 26 #[.string (bs f0), .string (bs f1), .string (bs f2), .string (bs f3), .string (bs f4), .string (bs f5), .string (bs f6), .string (bs f7), .string (bs f8)]) (fun i _ => s.ps.length - (intOf i).toNat)
    case atStart => exact ⟨0, by omega, rfl, HTa.out, HFa.out⟩
    case round =>
      obtain ⟨k, hk, rfl, hT, hF⟩ := hrel
      have HT := hide hT
      have HFk := hide hF
      clear hT hF
      by_cases hlt : k < s.ps.length
      · obtain ⟨p, hp⟩ : ∃ p, s.ps[k]? = some p := ⟨_, List.getElem?_eq_getElem hlt⟩
        obtain ⟨a, cp', ea, _, hab, c0, c1, c2, c3⟩ := (HPo.out.to HT.out.bel).at_ hp
        injection ea with ea _ ec
        subst ec
        obtain rfl := ea
        have hkp := HKK.out p (List.mem_of_getElem? hp)
        have hsp := HSS.out p (List.mem_of_getElem? hp)
        have HW := hide (writL_snoc (f := fl) hp)
        have hlen := writL_len (f := fl) (fun k => Nat.le_trans (HFF.out k) (by decide)) (s.ps.take k) (fun q hq => ⟨Nat.le_trans (HSS.out q (List.mem_of_mem_take hq)).1 (by decide), Nat.le_trans (HSS.out q (List.mem_of_mem_take hq)).2 (by decide)⟩)
        have hlk : (s.ps.take k).length ≤ k := List.length_take_le _ _
        clear hp
        obtain ⟨j, hj, hj9⟩ : ∃ j : Nat, p.k = (j : Int) ∧ j < 9 := ⟨p.k.toNat, by omega, by omega⟩
        have hj1 : 1 ≤ j := by omega
        rw [hj] at c0 HW
        clear hj hkp
        rw [show valF fl (j : Int) = fl.getD j [] from val_nat fl j] at HW
        have hx60 := HFF.out j
        have ck : (wr.alloc (.cells #[.int .i64 (j : Int), .string (bs p.b), .string (bs p.a), .bool p.need] 41)).cell? ⟨w.heap.size + 1, j, none⟩ = some (.string (bs (fl.getD j []))) := ((HFk.out.to (below_one wr (.cells #[.int .i64 (j : Int), .string (bs p.b), .string (bs p.a), .bool p.need] 41))).cell j).trans (HAT.out j hj9)
        obtain ⟨o, ho⟩ : ∃ o, writL fl (s.ps.take k) = o := ⟨_, rfl⟩
        rw [ho] at hlen HW HT
        obtain ⟨x, hx⟩ : ∃ x, fl.getD j [] = x := ⟨_, rfl⟩
        rw [hx] at ck HW hx60
        clear ho hx
        have HT1 := hide (HT.out.to (below_one wr (.cells #[.int .i64 (j : Int), .string (bs p.b), .string (bs p.a), .bool p.need] 41)))
        have HF1 := hide (HFk.out.to (below_one wr (.cells #[.int .i64 (j : Int), .string (bs p.b), .string (bs p.a), .bool p.need] 41)))
        have hzx : (bs x).size ≤ 60 := by rw [bs_size]; exact hx60
        have hzb : (bs p.b).size ≤ 4 := by rw [bs_size]; exact hsp.1
        have hza : (bs p.a).size ≤ 4 := by rw [bs_size]; exact hsp.2
        have hj9' : (j : Int) < 9 := by omega
        by_cases hxe : x = []
        · have e1 : (bs x).toList.isEmpty = true := by rw [bs_toList, hxe]; rfl
          rw [if_pos hxe, List.append_nil] at HW
          clear hxe
          go_wp2_with fail
          go_roundw
          case rel => exact ⟨k + 1, by omega, by go_num, by rw [HW.out]; exact HT1.out, HF1.out⟩
          case measure => simp [intOf]; omega
        · have e1 : (bs x).toList.isEmpty = false := by rw [bs_toList]; cases x with | nil => exact absurd rfl hxe | cons a l => rfl
          rw [if_neg hxe] at HW
          have hs1 : (bs p.b ++ bs x).size ≤ 64 := by rw [ByteArray.size_append]; omega
          clear hxe
          go_wp2_with fail
          refine (twrite w b0 _ o (p.b ++ (x ++ p.a)) _ (by rw [← bs_app, ← bs_app, ByteArray.append_assoc]) _ HT1.out (by have := hsp.1; have := hsp.2; simp only [List.length_append]; omega)).mono ?_
          rintro e w5 ⟨rfl, ht, hx⟩
          have HT5 := hide ht
          have HF5 := hide (hx _ _ _ HF1.out hfb (by decide))
          clear ht hx
          go_wp2_with fail
          go_roundw
          case rel => exact ⟨k + 1, by omega, by go_num, by rw [HW.out]; exact HT5.out, HF5.out⟩
          case measure => simp [intOf]; omega
      · obtain rfl : k = s.ps.length := by omega
        rw [List.take_length] at HT
        go_wp2_with fail
        refine (BString_k b0 b0 _ wr HT.out.bld (Nat.le_of_lt HT.out.lt)).mono ?_
        rintro e w5 ⟨rfl, hb, hk⟩
        have HB5 := hide (HT.out.bel.trans (hb.mono (Nat.le_of_lt HT.out.ne)))
        clear hb hk
        go_wp2_with fail
        go_ret2
        have h1 := HF.out
        rw [HFL.out] at h1
        exact ⟨by rw [HFL.out, h1.1, h1.2]; rfl, HB5.out⟩
end Go.Proofs.YtdcafoekbnacnaaGreatDoor

/- Package format: isValue. -/
set_option linter.unusedVariables false
set_option linter.unusedSimpArgs false
namespace Go.Proofs.YtdcafoekbnacnaaGreatDoor
open Go.RowKit Go.Shelf Go.Lib
attribute [local go_sem] Oper.semAt_some

/-- the variables that chapter 24 reads -/
structure Glob4 (w : World) : Prop where
  g : Glob w
  sp : Lib.TabIs Tryz.prog w "strings.asciiSpace" .u8 Lib.asciiSpaceTab
theorem Glob4.to {w w' : World} (h : Glob4 w) (hb : Below w.heap.size w w') : Glob4 w' :=
  ⟨h.g.to hb, var_below h.sp (g := 0) (by kernel_rfl) hb (g_lt (w := w) h.g.top (by kernel_rfl))⟩
theorem sp_prn {c : UInt8} (h : 32 ≤ c.toNat) : isSp c = (c == 32) := by
  unfold isSp
  have h9 : (c == 9) = false := by rw [beq_eq_false_iff_ne]; intro e; rw [e] at h; simp at h
  have h10 : (c == 10) = false := by rw [beq_eq_false_iff_ne]; intro e; rw [e] at h; simp at h
  have h11 : (c == 11) = false := by rw [beq_eq_false_iff_ne]; intro e; rw [e] at h; simp at h
  have h12 : (c == 12) = false := by rw [beq_eq_false_iff_ne]; intro e; rw [e] at h; simp at h
  have h13 : (c == 13) = false := by rw [beq_eq_false_iff_ne]; intro e; rw [e] at h; simp at h
  rw [h9, h10, h11, h12, h13]; rfl
theorem trim_le (l : List UInt8) : (Lib.trimSpace l).length ≤ (l.dropWhile isSp).length := by
  unfold Lib.trimSpace
  rw [List.length_reverse]
  refine Nat.le_trans (List.dropWhile_sublist _).length_le ?_
  rw [List.length_reverse]; exact Nat.le_refl _
theorem trim_prn {v : List UInt8} (hp : prn v = true) : decide (Lib.trimSpace v = v) = (!(v.head? == some 32) && !(v.getLast? == some 32)) := by
  have hb : ∀ c ∈ v, 32 ≤ c.toNat := fun c hc => by
    unfold prn at hp
    have := List.all_eq_true.1 hp c hc
    simp only [Bool.and_eq_true, decide_eq_true_eq] at this
    exact this.1
  cases v with
  | nil => rfl
  | cons c r =>
    by_cases h0 : c = 32
    · subst h0
      have e1 : ((32 :: r).head? == some (32 : UInt8)) = true := by simp
      rw [e1, Bool.not_true, Bool.false_and, decide_eq_false]
      intro h
      have h1 := trim_le (32 :: r)
      rw [h] at h1
      have e2 : (32 :: r).dropWhile isSp = r.dropWhile isSp := by rw [List.dropWhile_cons, if_pos (by decide)]
      rw [e2] at h1
      have := (List.dropWhile_sublist isSp (l := r)).length_le
      simp at h1
      omega
    · have e1 : ((c :: r).head? == some (32 : UInt8)) = false := by simp [h0]
      have e2 : (c :: r).dropWhile isSp = c :: r := by
        rw [List.dropWhile_cons, if_neg]
        rw [sp_prn (hb c (List.mem_cons_self ..))]
        simp [h0]
      rw [e1, Bool.not_false, Bool.true_and]
      unfold Lib.trimSpace
      rw [e2]
      obtain ⟨m, d, hmd⟩ : ∃ m d, c :: r = m ++ [d] := by
        obtain ⟨m, d, h⟩ := List.eq_nil_or_concat (c :: r) |>.resolve_left (by simp)
        exact ⟨m, d, by rw [h]; simp⟩
      rw [hmd]
      have hd : 32 ≤ d.toNat := hb d (by rw [hmd]; simp)
      rw [List.getLast?_append]
      simp only [List.getLast?_singleton, Option.some_or]
      by_cases h9 : d = 32
      · subst h9
        rw [decide_eq_false]
        · simp
        · intro h
          have h2 := congrArg List.length h
          rw [List.reverse_append, List.length_reverse] at h2
          simp only [List.reverse_cons, List.reverse_nil, List.nil_append, List.singleton_append] at h2
          rw [List.dropWhile_cons, if_pos (by decide)] at h2
          have := (List.dropWhile_sublist isSp (l := m.reverse)).length_le
          rw [List.length_reverse] at this
          simp at h2
          omega
      · rw [decide_eq_true]
        · simp [h9]
        · rw [List.reverse_append]
          simp only [List.reverse_cons, List.reverse_nil, List.nil_append, List.singleton_append]
          rw [List.dropWhile_cons, if_neg]
          · simp
          · rw [sp_prn hd]; simp [h9]
theorem odd_at2 (w : World) : PredAt Tryz.prog 111 #[] encR oddR w := fun W r _ => by
  unfold FnGives
  by_cases h1 : r < 32 <;> by_cases h2 : 126 < r
  all_goals
    have z1 : (r : Int) < 32 ↔ r < 32 := by omega
    have z2 : (126 : Int) < (r : Int) ↔ 126 < r := by omega
    go_enter Tryz.func111, Tryz.ntmps111
    go_wp2
    all_goals first | (exfalso; omega) | (go_ret; exact ⟨by simp [oddR, h1, h2], 0, rfl⟩)
theorem odd_any (l : List UInt8) (w : World) : Calls Tryz.prog 91 #[.string (bs l), .func (.func 111) #[] #[]] w fun e w' => e = .returned (.bool (!prn l)) ∧ Below w.heap.size w w' := by
  have hv : decide (0 ≤ Lib.idxFunc oddR true (bs l)) = !prn l := by
    unfold Lib.idxFunc
    rw [idx_odd l (bs l).size 0 (by rw [bs_size]; omega)]; simp
  have hC := Tryz.strings_ContainsFunc 111 #[] (enters_of Tryz.func111 (by kernel_rfl) rfl) oddR (bs l) w (odd_at2 w)
  rw [hv] at hC
  exact hC
theorem TrimSpace_any (l : List UInt8) (hl : l.length ≤ 100000) (hp : prn l = true) (w : World) (hg : Glob4 w) : Calls Tryz.prog 112 #[.string (bs l)] w fun e w' => e = .returned (.string (bs (Lib.trimSpace l))) ∧ Below w.heap.size w w' := by
  have := Tryz.strings_TrimSpace (bs l) w (by rw [bs_size]; omega) (by rw [bs_list]; exact prn_ascii hp) hg.sp
  refine this.mono ?_
  rintro e w' ⟨rfl, rfl⟩
  exact ⟨by rw [bs_list]; rfl, Lib.bytesWorld_below _ _ _⟩
set_option maxRecDepth 100000 in
set_option maxHeartbeats 4000000 in
theorem isValue_any (p : Prt) (v : List UInt8) (hv0 : v.length ≤ 100000) (w : World) (hg : Glob4 w) :
    Calls Tryz.prog 73 #[.agg #[.int .i64 p.k, .string (bs p.b), .string (bs p.a), .bool p.need], .string (bs v)] w fun e w' => e = .returned (.bool (isVal numB p.k v)) ∧ Below w.heap.size w w' := by
  have hsz := bs_size v
  have HG0 := hide hg
  have HIV : Hid (isVal numB p.k v = (!v.isEmpty && (prn v && (decide (v.length ≤ 60) && (decide (Lib.trimSpace v = v) && (!decide (p.k = 3) || numB v)))))) := by
    show _ = _
    unfold isVal
    cases hp : prn v with
    | false => simp
    | true => rw [trim_prn hp]; simp [Bool.and_assoc]
  generalize isVal numB p.k v = R at *
  have HBX := hide (below_one w (.cells #[.int .i64 p.k, .string (bs p.b), .string (bs p.a), .bool p.need] 41))
  have HX := hide (Blk.new w 41 #[.int .i64 p.k, .string (bs p.b), .string (bs p.a), .bool p.need])
  clear hg
  go_enter Tryz.func73, Tryz.ntmps73
  go_wp2_with fail
  have HG1 := hide (HG0.out.to HBX.out)
  generalize w.alloc (.cells #[.int .i64 p.k, .string (bs p.b), .string (bs p.a), .bool p.need] 41) = w1 at *
  refine (odd_any v w1).mono ?_
  rintro e w2 ⟨rfl, hb⟩
  have HG := hide (HG1.out.to hb)
  have HX2 := hide (HX.out.to hb)
  have HB := hide (below_to HBX.out (Nat.le_refl _) hb)
  clear hb HG1 HX HBX HG0
  cases v with
  | nil =>
    have e1 : (bs ([] : List UInt8)).toList.isEmpty = true := by rw [bs_toList]; rfl
    have HR : Hid (R = false) := HIV.out.trans rfl
    go_wp2_with fail
    go_ret
    exact ⟨ret_bool HR.out.symm, HB.out⟩
  | cons c0 r0 =>
    have e1 : (bs (c0 :: r0)).toList.isEmpty = false := by rw [bs_toList]; rfl
    rw [show (c0 :: r0).isEmpty = false from rfl, Bool.not_false, Bool.true_and] at HIV
    generalize c0 :: r0 = v at *
    cases hp : prn v with
    | false =>
      have HR : Hid (R = false) := HIV.out.trans (by rw [hp]; rfl)
      clear hp
      go_wp2_with fail
      go_ret
      exact ⟨ret_bool HR.out.symm, HB.out⟩
    | true =>
      have CT := fun w h => TrimSpace_any v hv0 hp w h
      rw [hp, Bool.true_and] at HIV
      clear hp
      by_cases h60 : 60 < v.length
      · have HR : Hid (R = false) := HIV.out.trans (by rw [decide_eq_false (by omega)]; rfl)
        have e2 : decide ((60 : Int) < (v.length : Int)) = true := decide_eq_true (by omega)
        clear h60
        go_wp2_with fail
        go_ret
        exact ⟨ret_bool HR.out.symm, HB.out⟩
      · have e2 : decide ((60 : Int) < (v.length : Int)) = false := decide_eq_false (by omega)
        rw [decide_eq_true (by omega : v.length ≤ 60), Bool.true_and] at HIV
        clear h60
        go_wp2_with fail
        refine (CT w2 HG.out).mono ?_
        rintro e w3 ⟨rfl, hb⟩
        have HG3 := hide (HG.out.to hb)
        have HX3 := hide (HX2.out.to hb)
        have HB3 := hide (below_to HB.out (Nat.le_refl _) hb)
        clear hb HG HX2 HB CT
        by_cases ht : Lib.trimSpace v = v
        · have e3 : ((bs (Lib.trimSpace v)).toList == (bs v).toList) = true := by rw [ht]; simp
          rw [decide_eq_true ht, Bool.true_and] at HIV
          generalize Lib.trimSpace v = tv at *
          clear ht
          have x0 : w3.cell? ⟨w.heap.size, 0, none⟩ = some (.int .i64 p.k) := HX3.out.cell 0
          by_cases hk : p.k = 3
          · have e4 : (p.k != 3) = false := by rw [hk]; rfl
            rw [decide_eq_true hk, Bool.not_true, Bool.false_or] at HIV
            clear hk
            go_wp2_with fail
            refine (Parse_any v w3 hv0 HG3.out.g).mono ?_
            rintro e w4 ⟨rfl, hb⟩
            have HB4 := hide (below_to HB3.out (Nat.le_refl _) (below_alloc hb (Nat.le_refl _) (.cells (hCells (outP v)) 93)))
            have HE : Hid ((errP v == 0) = R) := by show _ = _; rw [HIV.out]; rfl
            clear hb
            unfold hval
            generalize outP v = ov at *
            obtain ⟨on, ol, onu, od⟩ := ov
            unfold hCells at HB4
            go_wp2_with fail
            go_ret
            exact ⟨ret_bool HE.out, HB4.out⟩
          · have e4 : (p.k != 3) = true := by rw [bne_iff_ne]; exact hk
            have HR : Hid (R = true) := HIV.out.trans (by rw [decide_eq_false hk]; rfl)
            clear hk
            go_wp2_with fail
            go_ret
            exact ⟨ret_bool HR.out.symm, HB3.out⟩
        · have e3 : ((bs (Lib.trimSpace v)).toList == (bs v).toList) = false := by rw [bs_toList, bs_toList, beq_eq_false_iff_ne]; exact ht
          have HR : Hid (R = false) := HIV.out.trans (by rw [decide_eq_false ht]; rfl)
          generalize bs (Lib.trimSpace v) = tv at *
          clear ht
          go_wp2_with fail
          go_ret
          exact ⟨ret_bool HR.out.symm, HB3.out⟩
end Go.Proofs.YtdcafoekbnacnaaGreatDoor

/- What a row of chapter 24 gives: the variables' cells. -/
set_option linter.unusedVariables false
set_option linter.unusedSimpArgs false
namespace Go.Proofs.YtdcafoekbnacnaaGreatDoor
open Go.RowKit

theorem space_data : (Rows.laid_strings_asciiSpace : DataW Unit) = Lib.tabData .u8 Lib.asciiSpaceTab := by kernel_rfl
theorem glob4_of {w : World} (hs : w.ShapedOpen Tryz.prog) {r : List (String × DataW Unit)}
    (hL : laidMet Tryz.prog (("math/bits.deBruijn32tab", Rows.laid_math_bits_deBruijn32tab) :: ("math/bits.deBruijn64tab", Rows.laid_math_bits_deBruijn64tab) :: ("internal/strconv.uint64pow10", Rows.laid_internal_strconv_uint64pow10) :: ("unicode/utf8.acceptRanges", Rows.laid_unicode_utf8_acceptRanges) :: ("strconv.ErrRange", Rows.laid_strconv_ErrRange) :: ("strconv.ErrSyntax", Rows.laid_strconv_ErrSyntax) :: ("unicode.White_Space", Rows.laid_unicode_White_Space) :: ("strings.asciiSpace", Rows.laid_strings_asciiSpace) :: r) w) : Glob4 w := by
  refine ⟨glob_of hs hL, ?_⟩
  have h8 := hL.tail.tail.tail.tail.tail.tail.tail
  rw [space_data] at h8
  exact Lib.tabIs_of_head (t := 157) (e := 5) (n := 256) (g := 0) (by kernel_rfl) (by kernel_rfl) Tryz.underlying157 Tryz.underlying5 (by kernel_rfl) (by kernel_rfl) h8
end Go.Proofs.YtdcafoekbnacnaaGreatDoor

/- Package format: the closures of Read. -/
set_option linter.unusedVariables false
set_option linter.unusedSimpArgs false
namespace Go.Proofs.YtdcafoekbnacnaaGreatDoor
open Go.RowKit Go.Shelf
attribute [local go_sem] Oper.semAt_some

/-- cells of a table of 256 marks -/
def boolC (L : List Bool) : Array Value := (L.map fun v => Value.bool v).toArray
theorem boolC_at {L : List Bool} {k : Nat} {x : Bool} (h : L[k]? = some x) : (boolC L)[k]? = some (.bool x) := by unfold boolC; simp [h]
theorem boolC_set (L : List Bool) (k : Nat) (x : Bool) : boolC (L.set k x) = (boolC L).setIfInBounds k (.bool x) := by unfold boolC; simp [List.map_set]
def mb0 : List Bool := (List.range 256).map fun _ => false
theorem mb0_len : mb0.length = 256 := by simp [mb0]
def setM (L : List Bool) : List UInt8 → List Bool
  | [] => L
  | c :: _ => L.set c.toNat true
theorem setM_len (L : List Bool) (l : List UInt8) : (setM L l).length = L.length := by cases l with | nil => rfl | cons c l => unfold setM; simp
/-- the marks of the parts that were seen -/
def MkF (L : List Bool) (ps : List Prt) : Prop := L.length = 256 ∧ ∀ c : UInt8, L[c.toNat]? = some (mrk ps c)
theorem mk0 : MkF mb0 [] := ⟨mb0_len, fun c => by
  have := c.toNat_lt
  unfold mb0 mrk
  rw [List.getElem?_map, List.getElem?_range this]; rfl⟩
theorem setM_at (L : List Bool) (hL : L.length = 256) (l : List UInt8) (c : UInt8) : (setM L l)[c.toNat]? = if l.head? = some c then some true else L[c.toNat]? := by
  cases l with
  | nil => rfl
  | cons d l =>
    unfold setM
    by_cases h : d = c
    · subst h
      rw [List.getElem?_set_self (by rw [hL]; exact d.toNat_lt)]; simp
    · rw [List.getElem?_set_ne (fun e => h (UInt8.toNat_inj.1 e)), if_neg (by simpa using h)]
theorem mk_step {L : List Bool} {ps : List Prt} {k : Nat} {p : Prt} (h : MkF L (ps.take k)) (hp : ps[k]? = some p) : MkF (setM (setM L p.b) p.a) (ps.take (k + 1)) := by
  refine ⟨by rw [setM_len, setM_len, h.1], fun c => ?_⟩
  rw [setM_at _ (by rw [setM_len, h.1]), setM_at _ h.1, h.2 c]
  obtain ⟨hlt, rfl⟩ := List.getElem?_eq_some_iff.1 hp
  unfold mrk
  rw [← List.take_append_getElem hlt, List.any_append]
  simp only [List.any_cons, List.any_nil, Bool.or_false]
  by_cases ha : (ps[k]).a.head? = some c
  · rw [if_pos ha, ha]; simp
  · rw [if_neg ha]
    have e2 : ((ps[k]).a.head? == some c) = false := by rw [beq_eq_false_iff_ne]; exact ha
    by_cases hb : (ps[k]).b.head? = some c
    · rw [if_pos hb, hb]; simp
    · rw [if_neg hb]
      have e1 : ((ps[k]).b.head? == some c) = false := by rw [beq_eq_false_iff_ne]; exact hb
      rw [e1, e2]; simp
set_option maxRecDepth 100000 in
set_option maxHeartbeats 4000000 in
theorem mark_any (L : List Bool) (hL : L.length = 256) (l : List UInt8) (bx : Nat) (T : TypeId) (w : World) (h : Blk w bx T (boolC L)) :
    Calls Tryz.prog 70 #[.string (bs l), .pointer (some ⟨bx, 0, none⟩)] w fun e w' => e = .returned (.tuple #[]) ∧ Blk w' bx T (boolC (setM L l)) ∧ Only w w' bx := by
  have HB := hide h
  clear h
  cases l with
  | nil =>
    have e1 : (bs ([] : List UInt8)).toList.isEmpty = true := by rw [bs_toList]; rfl
    go_enter Tryz.func70, Tryz.ntmps70
    go_wp2_with fail
    go_end0
    exact ⟨rfl, HB.out, Only.refl _ _⟩
  | cons c r =>
    have e1 : (bs (c :: r)).toList.isEmpty = false := by rw [bs_toList]; rfl
    have ci := idx0 c r
    have c0 := c.toNat_lt
    obtain ⟨x, hx⟩ : ∃ x, L[c.toNat]? = some x := ⟨_, List.getElem?_eq_getElem (by rw [hL]; exact c0)⟩
    have ck := (HB.out.cell c.toNat).trans (boolC_at hx)
    have cf := HB.out.frozen c.toNat
    have HT : Hid (Blk (w.setCell ⟨bx, c.toNat, none⟩ (.bool true)) bx T (boolC (setM L (c :: r)))) := by
      show Blk _ _ _ (boolC (L.set c.toNat true))
      rw [boolC_set]; exact HB.out.set_ _ _
    have HO := hide ((Only.refl w bx).set_ c.toNat (.bool true))
    clear hx HB
    go_enter Tryz.func70, Tryz.ntmps70
    go_wp2_with fail
    go_end0
    exact ⟨rfl, HT.out, HO.out⟩
theorem results_ctt {P : Program} {fn : Func} {p u x : Tmp} {ty : TypeId} (h : fn.results = #[.cell p ty, .tmp u, .tmp x]) (tmps : Array Value) (w : World) (g : Nat) (t : TypeId) (cs : Array Value) (d : TypeDesc)
    (hp : tmps.getD p undef = .pointer (some ⟨g, 0, none⟩)) (hg : Blk w g t cs)
    (hu : P.underlying ty = some d) (hd : (match d with | .struct _ | .array _ _ => true | _ => false) = true) (hi : (P.info? ty).map (·.size) = some cs.size) :
    (results fn tmps).run P w = .ok (.tuple #[.agg cs, tmps.getD u undef, tmps.getD x undef]) w := by
  have hp' : tmps[p]?.getD undef = .pointer (some ⟨g, 0, none⟩) := by simpa using hp
  simp [results, h, hp', asAddr, run_loadVar_row w g t ty cs (0, 0) d hg hu hd hi]
def Z9 : Array Value := #[.string ⟨#[]⟩, .string ⟨#[]⟩, .string ⟨#[]⟩, .string ⟨#[]⟩, .string ⟨#[]⟩, .string ⟨#[]⟩, .string ⟨#[]⟩, .string ⟨#[]⟩, .string ⟨#[]⟩]
def missE (a n : Nat) : Int := if a = n then 6 else 5
set_option maxRecDepth 100000 in
set_option maxHeartbeats 4000000 in
theorem missing_any (t : List UInt8) (a : Nat) (ha : a ≤ t.length) (ht : t.length ≤ 100000) (ba bt : Nat) (w : World) (hA : Blk w ba 3 #[.int .i64 (a : Int)]) (hT : Blk w bt 9 #[.string (bs t)]) :
    Calls Tryz.prog 71 #[.pointer (some ⟨ba, 0, none⟩), .pointer (some ⟨bt, 0, none⟩)] w fun e w' => e = .returned (.tuple #[.agg Z9, .int .i64 (missE a t.length), .int .i64 (a : Int)]) ∧ Below w.heap.size w w' := by
  have hsz := bs_size t
  have HZ := hide (Blk.new w 26 #[.string ⟨#[]⟩, .string ⟨#[]⟩, .string ⟨#[]⟩, .string ⟨#[]⟩, .string ⟨#[]⟩, .string ⟨#[]⟩, .string ⟨#[]⟩, .string ⟨#[]⟩, .string ⟨#[]⟩])
  have HBZ := hide (below_one w (.cells #[.string ⟨#[]⟩, .string ⟨#[]⟩, .string ⟨#[]⟩, .string ⟨#[]⟩, .string ⟨#[]⟩, .string ⟨#[]⟩, .string ⟨#[]⟩, .string ⟨#[]⟩, .string ⟨#[]⟩] 26))
  have HA := hide (hA.to HBZ.out)
  have HT := hide (hT.to HBZ.out)
  have n1 : ba ≠ w.heap.size := Nat.ne_of_lt hA.lt
  have n2 : w.heap.size ≠ ba := fun h => n1 h.symm
  clear hA hT
  go_enter Tryz.func71, Tryz.ntmps71
  go_upto_region 1 with fail
  generalize hw1 : w.alloc (.cells #[.string ⟨#[]⟩, .string ⟨#[]⟩, .string ⟨#[]⟩, .string ⟨#[]⟩, .string ⟨#[]⟩, .string ⟨#[]⟩, .string ⟨#[]⟩, .string ⟨#[]⟩, .string ⟨#[]⟩] 26) = w1 at *
  clear hw1
  generalize hbz : w.heap.size = bz at *
  have a0 : w1.cell? ⟨ba, 0, none⟩ = some (.int .i64 (a : Int)) := HA.out.cell 0
  have t0 : w1.cell? ⟨bt, 0, none⟩ = some (.string (bs t)) := HT.out.cell 0
  have z0 : w1.cell? ⟨bz, 0, none⟩ = some (.string ⟨#[]⟩) := HZ.out.cell 0
  have y0 := HZ.out.frozen 0
  have z1 : w1.cell? ⟨bz, 1, none⟩ = some (.string ⟨#[]⟩) := HZ.out.cell 1
  have y1 := HZ.out.frozen 1
  have z2 : w1.cell? ⟨bz, 2, none⟩ = some (.string ⟨#[]⟩) := HZ.out.cell 2
  have y2 := HZ.out.frozen 2
  have z3 : w1.cell? ⟨bz, 3, none⟩ = some (.string ⟨#[]⟩) := HZ.out.cell 3
  have y3 := HZ.out.frozen 3
  have z4 : w1.cell? ⟨bz, 4, none⟩ = some (.string ⟨#[]⟩) := HZ.out.cell 4
  have y4 := HZ.out.frozen 4
  have z5 : w1.cell? ⟨bz, 5, none⟩ = some (.string ⟨#[]⟩) := HZ.out.cell 5
  have y5 := HZ.out.frozen 5
  have z6 : w1.cell? ⟨bz, 6, none⟩ = some (.string ⟨#[]⟩) := HZ.out.cell 6
  have y6 := HZ.out.frozen 6
  have z7 : w1.cell? ⟨bz, 7, none⟩ = some (.string ⟨#[]⟩) := HZ.out.cell 7
  have y7 := HZ.out.frozen 7
  have z8 : w1.cell? ⟨bz, 8, none⟩ = some (.string ⟨#[]⟩) := HZ.out.cell 8
  have y8 := HZ.out.frozen 8
  have HBN := hide hbz
  clear hbz
  by_cases h : a = t.length
  · have e1 : ((a : Int) == (t.length : Int)) = true := by rw [h]; simp
    have HE : Hid (missE a t.length = 6) := if_pos h
    clear h
    go_wp2_with fail
    go_region
    go_wp2_with fail
    have hbk : Blk (((((((((w1.setCell ⟨bz, 0, none⟩ (.string ⟨#[]⟩)).setCell ⟨bz, 1, none⟩ (.string ⟨#[]⟩)).setCell ⟨bz, 2, none⟩ (.string ⟨#[]⟩)).setCell ⟨bz, 3, none⟩ (.string ⟨#[]⟩)).setCell ⟨bz, 4, none⟩ (.string ⟨#[]⟩)).setCell ⟨bz, 5, none⟩ (.string ⟨#[]⟩)).setCell ⟨bz, 6, none⟩ (.string ⟨#[]⟩)).setCell ⟨bz, 7, none⟩ (.string ⟨#[]⟩)).setCell ⟨bz, 8, none⟩ (.string ⟨#[]⟩)).drew bz 26 Z9 := (((((((((HZ.out.set_ 0 (.string ⟨#[]⟩)).set_ 1 (.string ⟨#[]⟩)).set_ 2 (.string ⟨#[]⟩)).set_ 3 (.string ⟨#[]⟩)).set_ 4 (.string ⟨#[]⟩)).set_ 5 (.string ⟨#[]⟩)).set_ 6 (.string ⟨#[]⟩)).set_ 7 (.string ⟨#[]⟩)).set_ 8 (.string ⟨#[]⟩)).drew
    refine bodyPost_ret (results_ctt (p := 2) (u := 3) (x := 4) rfl _ _ bz 26 _ _ rfl hbk Tryz.underlying26 rfl (by kernel_rfl)) rfl ⟨?_, ?_⟩
    · rw [HE.out]; rfl
    · rw [HBN.out]; exact (((((((((HBZ.out.setCell (p := ⟨bz, 0, none⟩) (Nat.le_refl _) (.string ⟨#[]⟩)).setCell (p := ⟨bz, 1, none⟩) (Nat.le_refl _) (.string ⟨#[]⟩)).setCell (p := ⟨bz, 2, none⟩) (Nat.le_refl _) (.string ⟨#[]⟩)).setCell (p := ⟨bz, 3, none⟩) (Nat.le_refl _) (.string ⟨#[]⟩)).setCell (p := ⟨bz, 4, none⟩) (Nat.le_refl _) (.string ⟨#[]⟩)).setCell (p := ⟨bz, 5, none⟩) (Nat.le_refl _) (.string ⟨#[]⟩)).setCell (p := ⟨bz, 6, none⟩) (Nat.le_refl _) (.string ⟨#[]⟩)).setCell (p := ⟨bz, 7, none⟩) (Nat.le_refl _) (.string ⟨#[]⟩)).setCell (p := ⟨bz, 8, none⟩) (Nat.le_refl _) (.string ⟨#[]⟩)).drew
  · have e1 : ((a : Int) == (t.length : Int)) = false := by rw [beq_eq_false_iff_ne]; omega
    have HE : Hid (missE a t.length = 5) := if_neg h
    clear h
    go_wp2_with fail
    go_region
    go_wp2_with fail
    have hbk : Blk (((((((((w1.setCell ⟨bz, 0, none⟩ (.string ⟨#[]⟩)).setCell ⟨bz, 1, none⟩ (.string ⟨#[]⟩)).setCell ⟨bz, 2, none⟩ (.string ⟨#[]⟩)).setCell ⟨bz, 3, none⟩ (.string ⟨#[]⟩)).setCell ⟨bz, 4, none⟩ (.string ⟨#[]⟩)).setCell ⟨bz, 5, none⟩ (.string ⟨#[]⟩)).setCell ⟨bz, 6, none⟩ (.string ⟨#[]⟩)).setCell ⟨bz, 7, none⟩ (.string ⟨#[]⟩)).setCell ⟨bz, 8, none⟩ (.string ⟨#[]⟩)).drew bz 26 Z9 := (((((((((HZ.out.set_ 0 (.string ⟨#[]⟩)).set_ 1 (.string ⟨#[]⟩)).set_ 2 (.string ⟨#[]⟩)).set_ 3 (.string ⟨#[]⟩)).set_ 4 (.string ⟨#[]⟩)).set_ 5 (.string ⟨#[]⟩)).set_ 6 (.string ⟨#[]⟩)).set_ 7 (.string ⟨#[]⟩)).set_ 8 (.string ⟨#[]⟩)).drew
    refine bodyPost_ret (results_ctt (p := 2) (u := 3) (x := 4) rfl _ _ bz 26 _ _ rfl hbk Tryz.underlying26 rfl (by kernel_rfl)) rfl ⟨?_, ?_⟩
    · rw [HE.out]; rfl
    · rw [HBN.out]; exact (((((((((HBZ.out.setCell (p := ⟨bz, 0, none⟩) (Nat.le_refl _) (.string ⟨#[]⟩)).setCell (p := ⟨bz, 1, none⟩) (Nat.le_refl _) (.string ⟨#[]⟩)).setCell (p := ⟨bz, 2, none⟩) (Nat.le_refl _) (.string ⟨#[]⟩)).setCell (p := ⟨bz, 3, none⟩) (Nat.le_refl _) (.string ⟨#[]⟩)).setCell (p := ⟨bz, 4, none⟩) (Nat.le_refl _) (.string ⟨#[]⟩)).setCell (p := ⟨bz, 5, none⟩) (Nat.le_refl _) (.string ⟨#[]⟩)).setCell (p := ⟨bz, 6, none⟩) (Nat.le_refl _) (.string ⟨#[]⟩)).setCell (p := ⟨bz, 7, none⟩) (Nat.le_refl _) (.string ⟨#[]⟩)).setCell (p := ⟨bz, 8, none⟩) (Nat.le_refl _) (.string ⟨#[]⟩)).drew
end Go.Proofs.YtdcafoekbnacnaaGreatDoor

/- Plain laws of formats: the reference's reading, one part after the other. No program in sight. -/
set_option linter.unusedVariables false
set_option linter.unusedSimpArgs false
namespace Go.Proofs.YtdcafoekbnacnaaGreatDoor
open Go.RowKit

/-- the part that is next, and what is behind it -/
def findN : List Prt → List UInt8 → Option (Prt × List Prt)
  | [], _ => none
  | p :: r, t => if p.b <+: t then some (p, r) else if p.need then none else findN r t
/-- one part is read -/
def stepR (mk : UInt8 → Bool) (num : List UInt8 → Bool) (p : Prt) (r : List Prt) (t : List UInt8) (out : List (List UInt8)) : RdR :=
  if isVal num p.k ((t.drop p.b.length).takeWhile fun c => !mk c) then
    if p.a <+: (t.drop p.b.length).dropWhile fun c => !mk c then readR mk num r (((t.drop p.b.length).dropWhile fun c => !mk c).drop p.a.length) (out.set p.k.toNat ((t.drop p.b.length).takeWhile fun c => !mk c))
    else .miss ((t.drop p.b.length).dropWhile fun c => !mk c).length
  else .arg (t.drop p.b.length).length
theorem next_ne {r : List Prt} (h : r.any (·.need) = true) : nxtL r ≠ [] := by
  cases r with
  | nil => cases h
  | cons p r => rw [nxtL]; split <;> simp
theorem read_find {mk : UInt8 → Bool} {num : List UInt8 → Bool} {t : List UInt8} {out : List (List UInt8)} : ∀ (r : List Prt) (after : List UInt8), Told after r → (t ≠ [] ∨ r.any (·.need) = true) →
    readR mk num r t out = match findN r t with | none => .miss t.length | some (p, r') => stepR mk num p r' t out
  | [], _, _, h => by
    have ht : t ≠ [] := h.resolve_right (by simp)
    rw [readR, if_neg ht]; rfl
  | p :: r, after, hT, h => by
    rw [readR, findN]
    by_cases hs : t = [] ∧ p.need = false ∧ p.b = []
    · obtain ⟨h1, h2, h3⟩ := hs
      have hr : r.any (·.need) = true := by
        have := h.resolve_left (by simpa using h1)
        rw [List.any_cons, h2] at this
        simpa using this
      have hpw := hT.pw
      rw [show nxtL (p :: r) = p :: nxtL r by rw [nxtL, h2]; rfl] at hpw
      obtain ⟨q, l, e⟩ := List.exists_cons_of_ne_nil (next_ne hr)
      have := (List.pairwise_cons.1 hpw).1 q (by rw [e]; exact List.mem_cons_self ..)
      exact absurd (by rw [h3]; exact List.nil_prefix) this.1
    · rw [if_neg hs]
      by_cases hb : p.b <+: t
      · rw [if_pos hb, if_pos hb]; rfl
      · rw [if_neg hb, if_neg hb]
        cases hn : p.need with
        | true => rw [if_pos rfl, if_pos rfl]
        | false =>
          rw [if_neg (by simp), if_neg (by simp)]
          refine read_find r after (hT.tail hn) (h.imp id fun h => ?_)
          rw [List.any_cons, hn] at h
          simpa using h
theorem read_done {mk : UInt8 → Bool} {num : List UInt8 → Bool} {out : List (List UInt8)} : ∀ (r : List Prt), r.any (·.need) = false → readR mk num r [] out = .ok out
  | [], _ => by rw [readR, if_pos rfl]
  | p :: r, h => by
    rw [List.any_cons, Bool.or_eq_false_iff] at h
    rw [readR]
    by_cases hb : p.b = []
    · rw [if_pos ⟨rfl, h.1, hb⟩]; exact read_done r h.2
    · rw [if_neg (fun hh => hb hh.2.2), if_neg (fun hh => hb (List.eq_nil_of_prefix_nil hh)), h.1]
      exact read_done r h.2
/-- of the parts that may be next at most one stands there: the last that stands there is the first -/
theorem find_only {t : List UInt8} : ∀ (r : List Prt) (after : List UInt8), Told after r → ∀ (j : Nat) (p : Prt), (nxtL r)[j]? = some p → p.b <+: t → findN r t = some (p, r.drop (j + 1)) ∧ ∀ (i : Nat) (q : Prt), (nxtL r)[i]? = some q → q.b <+: t → i = j
  | [], _, _, j, p, h, _ => by simp [nxtL] at h
  | x :: r, after, hT, j, p, h, hb => by
    rw [findN]
    cases hn : x.need with
    | true =>
      have e : nxtL (x :: r) = [x] := by rw [nxtL, hn]; rfl
      rw [e] at h ⊢
      have hj : j = 0 := by
        have := (List.getElem?_eq_some_iff.1 h).1
        simpa using this
      subst hj
      have : x = p := by simpa using h
      subst this
      rw [if_pos hb]
      refine ⟨rfl, fun i q hi _ => ?_⟩
      have := (List.getElem?_eq_some_iff.1 hi).1
      simpa using this
    | false =>
      have e : nxtL (x :: r) = x :: nxtL r := by rw [nxtL, hn]; rfl
      have hpw := hT.pw
      rw [e] at h ⊢ hpw
      have hp1 := (List.pairwise_cons.1 hpw).1
      cases j with
      | zero =>
        have : x = p := by simpa using h
        subst this
        rw [if_pos hb]
        refine ⟨rfl, fun i q hi hq => ?_⟩
        cases i with
        | zero => rfl
        | succ i =>
          have hq2 := hp1 q (List.mem_of_getElem? (by simpa using hi))
          rcases prefix_cmp hb hq with h | h
          · exact absurd h hq2.1
          · exact absurd h hq2.2
      | succ j =>
        have h' : (nxtL r)[j]? = some p := by simpa using h
        have hx : ¬ x.b <+: t := fun hx => by
          have hq2 := hp1 p (List.mem_of_getElem? h')
          rcases prefix_cmp hx hb with h | h
          · exact hq2.1 h
          · exact hq2.2 h
        rw [if_neg hx, if_neg (by simp)]
        have ih := find_only r after (hT.tail hn) j p h' hb
        refine ⟨by rw [ih.1, List.drop_succ_cons], fun i q hi hq => ?_⟩
        cases i with
        | zero =>
          have : x = q := by simpa using hi
          subst this
          exact absurd hq hx
        | succ i => rw [ih.2 i q (by simpa using hi) hq]
theorem find_none {t : List UInt8} : ∀ (r : List Prt), (∀ p ∈ nxtL r, ¬ p.b <+: t) → findN r t = none
  | [], _ => rfl
  | p :: r, h => by
    rw [findN]
    have hp : p ∈ nxtL (p :: r) := by rw [nxtL]; split <;> simp
    rw [if_neg (h p hp)]
    split
    · rfl
    · rename_i hn
      refine find_none r fun q hq => h q ?_
      rw [nxtL, if_neg hn]; exact List.mem_cons_of_mem _ hq
end Go.Proofs.YtdcafoekbnacnaaGreatDoor

/- Package format: Read. -/
set_option linter.unusedVariables false
set_option linter.unusedSimpArgs false
namespace Go.Proofs.YtdcafoekbnacnaaGreatDoor
open Go.RowKit Go.Shelf
attribute [local go_sem] Oper.semAt_some

theorem tw_at {mk : UInt8 → Bool} : ∀ (V : List UInt8) (e : Nat), e ≤ V.length → (∀ m c, m < e → V[m]? = some c → mk c = false) → (e = V.length ∨ ∃ c, V[e]? = some c ∧ mk c = true) → (V.takeWhile fun c => !mk c) = V.take e ∧ (V.dropWhile fun c => !mk c) = V.drop e := by
  intro V e he h1 h2
  have hs : V = V.take e ++ V.drop e := (List.take_append_drop e V).symm
  have ha : ∀ x ∈ V.take e, (!mk x) = true := fun x hx => by
    obtain ⟨m, hm, rfl⟩ := List.getElem_of_mem hx
    rw [List.length_take] at hm
    rw [List.getElem_take, h1 m _ (by omega) (List.getElem?_eq_getElem (by omega))]; rfl
  have hd : ∀ c, (V.drop e).head? = some c → (!mk c) = false := fun c hc => by
    rw [List.head?_drop] at hc
    rcases h2 with rfl | ⟨d, h3, h4⟩
    · rw [List.getElem?_eq_none (Nat.le_refl _)] at hc; cases hc
    · rw [h3] at hc; cases hc; rw [h4]; rfl
  constructor
  · conv => lhs; rw [hs]
    exact tw_stop _ _ ha hd
  · conv => lhs; rw [hs]
    exact dw_stop ha hd
theorem rd_skip {mk : UInt8 → Bool} {num : List UInt8 → Bool} {p : Prt} {r : List Prt} {t : List UInt8} {out : List (List UInt8)} (h : t = [] ∧ p.need = false ∧ p.b = []) : readR mk num (p :: r) t out = readR mk num r t out := by rw [readR, if_pos h]
theorem rd_miss {mk : UInt8 → Bool} {num : List UInt8 → Bool} {p : Prt} {r : List Prt} {t : List UInt8} {out : List (List UInt8)} (h : ¬ (t = [] ∧ p.need = false ∧ p.b = [])) (hb : ¬ p.b <+: t) (hn : p.need = true) : readR mk num (p :: r) t out = .miss t.length := by rw [readR, if_neg h, if_neg hb, if_pos hn]
theorem rd_pass {mk : UInt8 → Bool} {num : List UInt8 → Bool} {p : Prt} {r : List Prt} {t : List UInt8} {out : List (List UInt8)} (h : ¬ (t = [] ∧ p.need = false ∧ p.b = [])) (hb : ¬ p.b <+: t) (hn : p.need = false) : readR mk num (p :: r) t out = readR mk num r t out := by rw [readR, if_neg h, if_neg hb, hn]; rfl
theorem rd_yes {mk : UInt8 → Bool} {num : List UInt8 → Bool} {p : Prt} {r : List Prt} {t : List UInt8} {out : List (List UInt8)} (h : ¬ (t = [] ∧ p.need = false ∧ p.b = [])) (hb : p.b <+: t) : readR mk num (p :: r) t out = stepR mk num p r t out := by rw [readR, if_neg h, if_pos hb]; rfl
/-- where reading stands: what is left, and what was read -/
structure RdI (s : Sch) (t : List UInt8) (r : List Prt) (j : Nat) (out : List (List UInt8)) : Prop where
  eq : readR (mrk s.ps) numB r (t.drop j) out = readR (mrk s.ps) numB s.ps t zeroF
  sub : ∀ p ∈ r, (1 ≤ p.k ∧ p.k ≤ 8) ∧ p.b.length ≤ 4 ∧ p.a.length ≤ 4
  len : out.length = 9
  n8 : r.length ≤ 8
  j : j ≤ t.length
theorem drop_cons {α : Type} {l : List α} {k : Nat} {x : α} (h : l[k]? = some x) : l.drop k = x :: l.drop (k + 1) := by
  obtain ⟨hlt, e⟩ := List.getElem?_eq_some_iff.1 h
  rw [List.drop_eq_getElem_cons hlt, e]
def lenV : Value → Nat
  | .slice _ n _ => n
  | _ => 0
theorem nine {l : List (List UInt8)} (h : l.length = 9) : ∃ o0 o1 o2 o3 o4 o5 o6 o7 o8, l = [o0, o1, o2, o3, o4, o5, o6, o7, o8] := by
  match l, h with
  | [a, b, c, d, e, f, g, h, i], _ => exact ⟨a, b, c, d, e, f, g, h, i, rfl⟩
/-- what lies in memory while the marks are taken -/
structure FA (w : World) (sv : Array Value) (t : List UInt8) (bm : Nat) (L : List Bool) (W : World) : Prop where
  s : Blk W w.heap.size 24 sv
  t : Blk W (w.heap.size + 1) 9 #[.string (bs t)]
  r : Blk W (w.heap.size + 1 + 1) 26 Z9
  m : Blk W bm 104 (boolC L)
  bel : Below w.heap.size w W
  lt : w.heap.size + 1 + 1 < bm
section
variable {w : World} {sv : Array Value} {t : List UInt8} {bm bo ba : Nat} {L L' : List Bool} {out : List (List UInt8)} {a : Nat} {W W' : World}
theorem FA.to (h : FA w sv t bm L W) (hb : Below W.heap.size W W') : FA w sv t bm L W' := ⟨h.s.to hb, h.t.to hb, h.r.to hb, h.m.to hb, below_to h.bel (Nat.le_refl _) hb, h.lt⟩
theorem FA.mark (h : FA w sv t bm L W) (ho : Only W W' bm) (hm : Blk W' bm 104 (boolC L')) : FA w sv t bm L' W' :=
  ⟨ho.blk h.s (by have := h.lt; omega), ho.blk h.t (by have := h.lt; omega), ho.blk h.r (by have := h.lt; omega), hm, Only.below h.bel ho h.bel.size (by have := h.lt; omega), h.lt⟩
/-- nine texts -/
def fieldsC (L : List (List UInt8)) : Array Value := (L.map fun x => Value.string (bs x)).toArray
theorem fieldsC_at {L : List (List UInt8)} {k : Nat} {x : List UInt8} (h : L[k]? = some x) : (fieldsC L)[k]? = some (.string (bs x)) := by unfold fieldsC; simp [h]
theorem fieldsC_set (L : List (List UInt8)) (k : Nat) (x : List UInt8) : fieldsC (L.set k x) = (fieldsC L).setIfInBounds k (.string (bs x)) := by unfold fieldsC; simp [List.map_set]
/-- what lies in memory while the parts are read -/
structure FB (w : World) (sv : Array Value) (t : List UInt8) (bm bo ba : Nat) (L : List Bool) (out : List (List UInt8)) (a : Nat) (W : World) : Prop where
  f : FA w sv t bm L W
  o : Blk W bo 26 (fieldsC out)
  a : Blk W ba 3 #[.int .i64 (a : Int)]
  mo : bm < bo
  oa : bo < ba
theorem FB.to (h : FB w sv t bm bo ba L out a W) (hb : Below W.heap.size W W') : FB w sv t bm bo ba L out a W' := ⟨h.f.to hb, h.o.to hb, h.a.to hb, h.mo, h.oa⟩
theorem FA.set (h : FA w sv t bm L W) {b : Nat} (hb : bm < b) (i : Nat) (u : Value) : FA w sv t bm L (W.setCell ⟨b, i, none⟩ u) :=
  ⟨h.s.far (p := ⟨b, i, none⟩) (by show w.heap.size ≠ b; have := h.lt; omega) u, h.t.far (p := ⟨b, i, none⟩) (by show w.heap.size + 1 ≠ b; have := h.lt; omega) u, h.r.far (p := ⟨b, i, none⟩) (by show w.heap.size + 1 + 1 ≠ b; have := h.lt; omega) u,
    h.m.far (p := ⟨b, i, none⟩) (by show bm ≠ b; omega) u, h.bel.setCell (p := ⟨b, i, none⟩) (by show w.heap.size ≤ b; have := h.lt; omega) u, h.lt⟩
theorem FB.setA (h : FB w sv t bm bo ba L out a W) (a' : Nat) : FB w sv t bm bo ba L out a' (W.setCell ⟨ba, 0, none⟩ (.int .i64 (a' : Int))) :=
  ⟨h.f.set (by have := h.mo; have := h.oa; omega) _ _, h.o.far (p := ⟨ba, 0, none⟩) (by show bo ≠ ba; have := h.oa; omega) _, h.a.set_ 0 _, h.mo, h.oa⟩
theorem FB.setO (h : FB w sv t bm bo ba L out a W) (k : Nat) (x : List UInt8) : FB w sv t bm bo ba L (out.set k x) a (W.setCell ⟨bo, k, none⟩ (.string (bs x))) :=
  ⟨h.f.set (by have := h.mo; omega) _ _, by rw [fieldsC_set]; exact h.o.set_ _ _, h.a.far (p := ⟨bo, k, none⟩) (by show ba ≠ bo; have := h.oa; omega) _, h.mo, h.oa⟩
theorem FB.drew (h : FB w sv t bm bo ba L out a W) : FB w sv t bm bo ba L out a W.drew := h.to (Below.refl _ _).drew
end
theorem readF_no (ps : List Prt) (t : List UInt8) : readF false numB ps t = (zeroF, 1, -1) := by unfold readF; rw [if_pos rfl]
def outF (n : Nat) : RdR → List (List UInt8) × Int × Int
  | .ok f => (f, 0, 0)
  | .arg m => (zeroF, 1, (n : Int) - m)
  | .miss m => (zeroF, if m = 0 then 6 else 5, (n : Int) - m)
theorem readF_yes (ps : List Prt) (t : List UInt8) : readF true numB ps t = outF t.length (readR (mrk ps) numB ps t zeroF) := by
  unfold readF
  rw [if_neg (by simp)]
  cases readR (mrk ps) numB ps t zeroF <;> rfl
theorem CutPrefix_any (l p : List UInt8) (w : World) : Calls Tryz.prog 72 #[.string (bs l), .string (bs p)] w fun e w' => e = .returned (.tuple #[.string (bs (if p <+: l then l.drop p.length else l)), .bool (decide (p <+: l))]) ∧ w' = w := by
  have := Tryz.strings_CutPrefix (bs l) (bs p) w
  rw [bs_list, bs_list] at this
  have e1 : Lib.hasPrefix l p = decide (p <+: l) := by unfold Lib.hasPrefix; rw [Bool.eq_iff_iff]; simp
  unfold Lib.trimPrefix at this
  rw [e1] at this
  simp only [decide_eq_true_eq] at this
  exact this
theorem HasPrefix_any (l p : List UInt8) (w : World) : Calls Tryz.prog 74 #[.string (bs l), .string (bs p)] w fun e w' => e = .returned (.bool (decide (p <+: l))) ∧ w' = w := by
  have := Tryz.strings_HasPrefix (bs l) (bs p) w
  rw [bs_list, bs_list] at this
  have e1 : Lib.hasPrefix l p = decide (p <+: l) := by unfold Lib.hasPrefix; rw [Bool.eq_iff_iff]; simp
  rw [e1] at this
  exact this
set_option maxRecDepth 100000 in
set_option maxHeartbeats 8000000 in
theorem FRead_any (s : Sch) (hl0 : s.ps.length ≤ 8796093022208) (hc0 : s.c.length ≤ 140737488355328) (v : Value) (t : List UInt8) (ht : t.length ≤ 100000) (w : World) (hP : PartsAt w v s.ps) (hg : Glob4 w) :
    Calls Tryz.prog 34 #[.agg #[.string (bs s.c), v], .string (bs t)] w fun e w' => e = .returned (.tuple #[.agg (fieldsC (readF (validB isNm s) numB s.ps t).1), .int .i64 (readF (validB isNm s) numB s.ps t).2.1, .int .i64 (readF (validB isNm s) numB s.ps t).2.2]) ∧ Below w.heap.size w w' := by
  have HP0 := hide hP
  have HPo := hide hP
  have HG0 := hide hg
  have HGo := hide hg
  obtain ⟨A, cp, rfl, hc⟩ := hP.slice
  clear hP hg
  have hsz := bs_size t
  go_enter Tryz.func34, Tryz.ntmps34
  go_wp2_with fail
  obtain ⟨Xs, Xt, Xr, B0⟩ := box3 w 24 #[.string (bs s.c), .slice A s.ps.length cp] 9 #[.string (bs t)] 26 #[.string ⟨#[]⟩, .string ⟨#[]⟩, .string ⟨#[]⟩, .string ⟨#[]⟩, .string ⟨#[]⟩, .string ⟨#[]⟩, .string ⟨#[]⟩, .string ⟨#[]⟩, .string ⟨#[]⟩]
  have HXs := hide Xs
  have HXt := hide Xt
  have HXr := hide Xr
  have HB := hide B0
  have HP := hide (HP0.out.to B0)
  have HG := hide (HG0.out.to B0)
  clear Xs Xt Xr B0 HP0 HG0
  generalize ((w.alloc (.cells #[.string (bs s.c), .slice A s.ps.length cp] 24)).alloc (.cells #[.string (bs t)] 9)).alloc (.cells #[.string ⟨#[]⟩, .string ⟨#[]⟩, .string ⟨#[]⟩, .string ⟨#[]⟩, .string ⟨#[]⟩, .string ⟨#[]⟩, .string ⟨#[]⟩, .string ⟨#[]⟩, .string ⟨#[]⟩] 26) = w1 at *
  refine wp_scope_straight ?_
  have s0 : w1.cell? ⟨w.heap.size, 0, none⟩ = some (.string (bs s.c)) := HXs.out.cell 0
  have s1 : w1.cell? ⟨w.heap.size, 1, none⟩ = some (.slice A s.ps.length cp) := HXs.out.cell 1
  go_wp2_with fail
  clear s0 s1
  refine (SValid_any s hl0 hc0 (.slice A s.ps.length cp) w1 HP.out).mono ?_
  rintro e w2 ⟨rfl, hb⟩
  have zHXs := hide (HXs.out.to hb)
  have zHXt := hide (HXt.out.to hb)
  have zHXr := hide (HXr.out.to hb)
  have zHP := hide (HP.out.to hb)
  have zHG := hide (HG.out.to hb)
  have zHB := hide (below_to HB.out (Nat.le_refl _) hb)
  clear hb HB HXs HXt HXr HP HG
  have HXs := zHXs
  have HXt := zHXt
  have HXr := zHXr
  have HP := zHP
  have HG := zHG
  have HB := zHB
  clear zHXs zHXt zHXr zHP zHG zHB
  cases hv : validB isNm s with
  | false =>
    have HR : Hid (readF (validB isNm s) numB s.ps t = (zeroF, 1, -1)) := by show _ = _; rw [hv]; exact readF_no _ _
    clear hv
    have z0 : w2.cell? ⟨w.heap.size + 1 + 1, 0, none⟩ = some (.string ⟨#[]⟩) := HXr.out.cell 0
    have y0 := HXr.out.frozen 0
    have z1 : w2.cell? ⟨w.heap.size + 1 + 1, 1, none⟩ = some (.string ⟨#[]⟩) := HXr.out.cell 1
    have y1 := HXr.out.frozen 1
    have z2 : w2.cell? ⟨w.heap.size + 1 + 1, 2, none⟩ = some (.string ⟨#[]⟩) := HXr.out.cell 2
    have y2 := HXr.out.frozen 2
    have z3 : w2.cell? ⟨w.heap.size + 1 + 1, 3, none⟩ = some (.string ⟨#[]⟩) := HXr.out.cell 3
    have y3 := HXr.out.frozen 3
    have z4 : w2.cell? ⟨w.heap.size + 1 + 1, 4, none⟩ = some (.string ⟨#[]⟩) := HXr.out.cell 4
    have y4 := HXr.out.frozen 4
    have z5 : w2.cell? ⟨w.heap.size + 1 + 1, 5, none⟩ = some (.string ⟨#[]⟩) := HXr.out.cell 5
    have y5 := HXr.out.frozen 5
    have z6 : w2.cell? ⟨w.heap.size + 1 + 1, 6, none⟩ = some (.string ⟨#[]⟩) := HXr.out.cell 6
    have y6 := HXr.out.frozen 6
    have z7 : w2.cell? ⟨w.heap.size + 1 + 1, 7, none⟩ = some (.string ⟨#[]⟩) := HXr.out.cell 7
    have y7 := HXr.out.frozen 7
    have z8 : w2.cell? ⟨w.heap.size + 1 + 1, 8, none⟩ = some (.string ⟨#[]⟩) := HXr.out.cell 8
    have y8 := HXr.out.frozen 8
    go_wp2_with fail
    simp +zetaDelta only [Exit.noGoto, Exit.inBlock, Exit.then]
    have hbk : Blk (((((((((w2.setCell ⟨w.heap.size + 1 + 1, 0, none⟩ (.string ⟨#[]⟩)).setCell ⟨w.heap.size + 1 + 1, 1, none⟩ (.string ⟨#[]⟩)).setCell ⟨w.heap.size + 1 + 1, 2, none⟩ (.string ⟨#[]⟩)).setCell ⟨w.heap.size + 1 + 1, 3, none⟩ (.string ⟨#[]⟩)).setCell ⟨w.heap.size + 1 + 1, 4, none⟩ (.string ⟨#[]⟩)).setCell ⟨w.heap.size + 1 + 1, 5, none⟩ (.string ⟨#[]⟩)).setCell ⟨w.heap.size + 1 + 1, 6, none⟩ (.string ⟨#[]⟩)).setCell ⟨w.heap.size + 1 + 1, 7, none⟩ (.string ⟨#[]⟩)).setCell ⟨w.heap.size + 1 + 1, 8, none⟩ (.string ⟨#[]⟩)) (w.heap.size + 1 + 1) 26 Z9 := (((((((((HXr.out.set_ 0 (.string ⟨#[]⟩)).set_ 1 (.string ⟨#[]⟩)).set_ 2 (.string ⟨#[]⟩)).set_ 3 (.string ⟨#[]⟩)).set_ 4 (.string ⟨#[]⟩)).set_ 5 (.string ⟨#[]⟩)).set_ 6 (.string ⟨#[]⟩)).set_ 7 (.string ⟨#[]⟩)).set_ 8 (.string ⟨#[]⟩))
    refine bodyPost_ret (results_ctt (p := 4) (u := 5) (x := 6) rfl _ _ (w.heap.size + 1 + 1) 26 _ _ rfl hbk Tryz.underlying26 rfl (by kernel_rfl)) rfl ⟨?_, (((((((((HB.out.setCell (p := ⟨w.heap.size + 1 + 1, 0, none⟩) (by show w.heap.size ≤ w.heap.size + 1 + 1; omega) (.string ⟨#[]⟩)).setCell (p := ⟨w.heap.size + 1 + 1, 1, none⟩) (by show w.heap.size ≤ w.heap.size + 1 + 1; omega) (.string ⟨#[]⟩)).setCell (p := ⟨w.heap.size + 1 + 1, 2, none⟩) (by show w.heap.size ≤ w.heap.size + 1 + 1; omega) (.string ⟨#[]⟩)).setCell (p := ⟨w.heap.size + 1 + 1, 3, none⟩) (by show w.heap.size ≤ w.heap.size + 1 + 1; omega) (.string ⟨#[]⟩)).setCell (p := ⟨w.heap.size + 1 + 1, 4, none⟩) (by show w.heap.size ≤ w.heap.size + 1 + 1; omega) (.string ⟨#[]⟩)).setCell (p := ⟨w.heap.size + 1 + 1, 5, none⟩) (by show w.heap.size ≤ w.heap.size + 1 + 1; omega) (.string ⟨#[]⟩)).setCell (p := ⟨w.heap.size + 1 + 1, 6, none⟩) (by show w.heap.size ≤ w.heap.size + 1 + 1; omega) (.string ⟨#[]⟩)).setCell (p := ⟨w.heap.size + 1 + 1, 7, none⟩) (by show w.heap.size ≤ w.heap.size + 1 + 1; omega) (.string ⟨#[]⟩)).setCell (p := ⟨w.heap.size + 1 + 1, 8, none⟩) (by show w.heap.size ≤ w.heap.size + 1 + 1; omega) (.string ⟨#[]⟩))⟩
    rw [HR.out]; rfl
  | true =>
    have HVL := hide ((validB_iff isNm s).1 hv)
    have HRY : Hid (readF (validB isNm s) numB s.ps t = outF t.length (readR (mrk s.ps) numB s.ps t zeroF)) := by show _ = _; rw [hv]; exact readF_yes _ _
    have h8 := HVL.out.n8
    clear hv
    have lr := HXr.out.lt
    go_upto_region 4 with fail
    rw [show Tryz.zeroCells104 = boolC mb0 by kernel_rfl]
    have HA0 : Hid (FA w #[.string (bs s.c), .slice A s.ps.length cp] t w2.heap.size mb0 (w2.alloc (.cells (boolC mb0) 104))) :=
      ⟨HXs.out.alloc _, HXt.out.alloc _, HXr.out.alloc _, Blk.new _ _ _, HB.out.alloc HB.out.size _, lr⟩
    have HP3 := hide (HP.out.to (below_one w2 (.cells (boolC mb0) 104)))
    clear HXs HXt HXr HB HP HG lr
    generalize w2.alloc (.cells (boolC mb0) 104) = w3 at *
    generalize w2.heap.size = bm at *
    have cS1 : w3.cell? ⟨w.heap.size, 1, none⟩ = some (.slice A s.ps.length cp) := HA0.out.s.cell 1
    go_wp2_with fail
    clear cS1
    go_loopw [28] (fun i wr => ∃ (k : Nat) (L : List Bool), k ≤ s.ps.length ∧ i = .int .i64 (k : Int) ∧ MkF L (s.ps.take k) ∧ FA w #[.string (bs s.c), .slice A s.ps.length cp] t bm L wr) (fun i _ => s.ps.length - (intOf i).toNat)
    case atStart => exact ⟨0, mb0, by omega, rfl, mk0, HA0.out⟩
    case round =>
      obtain ⟨k, L, hk, rfl, hM, hF⟩ := hrel
      have HM := hide hM
      have HF := hide hF
      clear hM hF
      by_cases hlt : k < s.ps.length
      · obtain ⟨p, hp⟩ : ∃ p, s.ps[k]? = some p := ⟨_, List.getElem?_eq_getElem hlt⟩
        obtain ⟨a, cp', ea, _, hab, c0, c1, c2, c3⟩ := (HPo.out.to HF.out.bel).at_ hp
        injection ea with ea _ ec
        subst ec
        obtain rfl := ea
        have HMS := hide (mk_step HM.out hp)
        have hML := HM.out.1
        clear hp
        have HF1 := hide (HF.out.to (below_one wr (.cells #[.int .i64 p.k, .string (bs p.b), .string (bs p.a), .bool p.need] 41)))
        have HX1 := hide (Blk.new wr 41 #[.int .i64 p.k, .string (bs p.b), .string (bs p.a), .bool p.need])
        have hmx : bm ≠ wr.heap.size := Nat.ne_of_lt HF.out.m.lt
        go_upto_region 8 with fail
        generalize wr.alloc (.cells #[.int .i64 p.k, .string (bs p.b), .string (bs p.a), .bool p.need] 41) = w5 at *
        generalize wr.heap.size = bx at *
        clear c0 c1 c2 c3 hab
        have x1 : w5.cell? ⟨bx, 1, none⟩ = some (.string (bs p.b)) := HX1.out.cell 1
        go_wp2_with fail
        refine (mark_any L hML p.b bm 104 w5 HF1.out.m).mono ?_
        rintro e w6 ⟨rfl, hB, hO⟩
        have HF6 := hide (HF1.out.mark hO hB)
        have HX6 := hide (hO.blk HX1.out (fun e => hmx e.symm))
        clear hB hO HF1 HX1 x1
        have x2 : w6.cell? ⟨bx, 2, none⟩ = some (.string (bs p.a)) := HX6.out.cell 2
        go_wp2_with fail
        refine (mark_any _ (by rw [setM_len]; exact hML) p.a bm 104 w6 HF6.out.m).mono ?_
        rintro e w7 ⟨rfl, hB, hO⟩
        have HF7 := hide (HF6.out.mark hO hB)
        clear hB hO HF6 HX6 x2
        go_wp2_with fail
        go_roundw
        case rel => exact ⟨k + 1, _, by omega, by go_num, HMS.out, HF7.out⟩
        case measure => simp [intOf]; omega
      · obtain rfl : k = s.ps.length := by omega
        rw [List.take_length] at HM
        have HVL0 := HVL
        clear HA0
        go_upto_region 14 with fail
        have HFB4 : Hid (FB w #[.string (bs s.c), .slice A s.ps.length cp] t bm wr.heap.size (wr.heap.size + 1) L zeroF 0 ((wr.alloc (.cells #[.string ⟨#[]⟩, .string ⟨#[]⟩, .string ⟨#[]⟩, .string ⟨#[]⟩, .string ⟨#[]⟩, .string ⟨#[]⟩, .string ⟨#[]⟩, .string ⟨#[]⟩, .string ⟨#[]⟩] 26)).alloc (.cells #[.int .i64 0] 3))) := by
          obtain ⟨h1, h2, h3⟩ := box2 wr 26 #[.string ⟨#[]⟩, .string ⟨#[]⟩, .string ⟨#[]⟩, .string ⟨#[]⟩, .string ⟨#[]⟩, .string ⟨#[]⟩, .string ⟨#[]⟩, .string ⟨#[]⟩, .string ⟨#[]⟩] 3 #[.int .i64 0]
          exact ⟨HF.out.to h3, h1, h2, HF.out.m.lt, Nat.lt_succ_self _⟩
        clear HF
        generalize (wr.alloc (.cells #[.string ⟨#[]⟩, .string ⟨#[]⟩, .string ⟨#[]⟩, .string ⟨#[]⟩, .string ⟨#[]⟩, .string ⟨#[]⟩, .string ⟨#[]⟩, .string ⟨#[]⟩, .string ⟨#[]⟩] 26)).alloc (.cells #[.int .i64 0] 3) = w4 at *
        generalize wr.heap.size + 1 = ba at *
        generalize wr.heap.size = bo at *
        have cS1 : w4.cell? ⟨w.heap.size, 1, none⟩ = some (.slice A s.ps.length cp) := HFB4.out.f.s.cell 1
        have HR0 : Hid (RdI s t s.ps 0 zeroF) := ⟨rfl, fun p hp => ⟨(HVL0.out.part p hp).1, (small_facts (HVL0.out.part p hp).2.1).1, (small_facts (HVL0.out.part p hp).2.2).1⟩, rfl, h8, Nat.zero_le _⟩
        have hbm := HFB4.out.f.lt
        have hmo := HFB4.out.mo
        have hoa := HFB4.out.oa
        go_wp2_with (first | (refine wp_label ?_))
        clear cS1
        go_loopw [14] (fun v wr => ∃ (r : List Prt) (j : Nat) (out : List (List UInt8)), PartsAt w v r ∧ FB w #[.string (bs s.c), .slice A s.ps.length cp] t bm bo ba L out j wr ∧ RdI s t r j out) (fun v _ => lenV v)
        case atStart => exact ⟨s.ps, 0, zeroF, HPo.out, HFB4.out, HR0.out⟩
        case round =>
          clear HFB4 HR0
          obtain ⟨r, j, out, hPV, hFB, hRI⟩ := hrel
          have HFBr := hide hFB
          have HRI0 := hide hRI
          obtain ⟨A', c', rfl, hcr⟩ := hPV.slice
          have HPV := hide hPV
          have hr8 := hRI.n8
          have hol := hRI.len
          have hj := hRI.j
          clear hPV hFB hRI
          go_wp2_with fail
          go_loopw [14, 46] (fun v i wr => ∃ k : Nat, k ≤ r.length ∧ i = .int .i64 (k : Int) ∧ v = .slice A' r.length c' ∧ FB w #[.string (bs s.c), .slice A s.ps.length cp] t bm bo ba L out j wr ∧ RdI s t (r.drop k) j out) (fun _ i _ => r.length - (intOf i).toNat)
          case atStart => exact ⟨0, by omega, rfl, rfl, HFBr.out, HRI0.out⟩
          case round =>
            obtain ⟨k, hk, rfl, rfl, hFB, hRI⟩ := hrel
            have HFB := hide hFB
            have HRI := hide hRI
            clear hFB hRI
            by_cases hlt : k < r.length
            · obtain ⟨p, hp⟩ : ∃ p, r[k]? = some p := ⟨_, List.getElem?_eq_getElem hlt⟩
              have HDR := hide (drop_cons hp)
              obtain ⟨ad, c2, ea, _, hab, c0, c1, c2', c3⟩ := (HPV.out.to HFB.out.f.bel).at_ hp
              have ea1 : A' = some ad := (Value.slice.inj ea).1
              clear ea
              subst ea1
              have hpk := HRI0.out.sub p (List.mem_of_getElem? hp)
              obtain ⟨kp, hkp, hkp9⟩ : ∃ k : Nat, p.k = (k : Int) ∧ k < 9 := ⟨p.k.toNat, by omega, by omega⟩
              rw [hkp] at c0
              have HKP := hide hkp
              have hb4 := hpk.2.1
              have ha4 := hpk.2.2
              have hkp0 : (kp : Int) < 9 := by omega
              clear hp hkp hpk
              have HFB5 := hide (HFB.out.to (below_one wr (.cells #[.int .i64 (kp : Int), .string (bs p.b), .string (bs p.a), .bool p.need] 41)))
              have HX5 := hide (Blk.new wr 41 #[.int .i64 (kp : Int), .string (bs p.b), .string (bs p.a), .bool p.need])
              have hbax : ba ≠ wr.heap.size := Nat.ne_of_lt HFB.out.a.lt
              have hbox : bo ≠ wr.heap.size := Nat.ne_of_lt HFB.out.o.lt
              go_upto_region 18 with fail
              clear c0 c1 c2' c3 hab HFB
              generalize wr.alloc (.cells #[.int .i64 (kp : Int), .string (bs p.b), .string (bs p.a), .bool p.need] 41) = w5 at *
              generalize wr.heap.size = bx at *
              have a0 : w5.cell? ⟨ba, 0, none⟩ = some (.int .i64 (j : Int)) := HFB5.out.a.cell 0
              have t0 : w5.cell? ⟨w.heap.size + 1, 0, none⟩ = some (.string (bs t)) := HFB5.out.f.t.cell 0
              have x1 : w5.cell? ⟨bx, 1, none⟩ = some (.string (bs p.b)) := HX5.out.cell 1
              have x3 : w5.cell? ⟨bx, 3, none⟩ = some (.bool p.need) := HX5.out.cell 3
              by_cases hj1 : j = t.length
              · have f0 : ((j : Int) == (t.length : Int)) = true := by rw [hj1]; simp
                cases hn : p.need with
                | true =>
                  have HSK : Hid (¬ (t.drop j = [] ∧ p.need = false ∧ p.b = [])) := fun h => by rw [hn] at h; cases h.2.1
                  rw [hn] at x3
                  clear hn hj1
                  go_upto_region 19 with fail
                  clear a0 t0 x1 x3 f0
                  obtain ⟨U5, hU5, g5, u5, rfl, hgu5, hgi5⟩ := cls w5
                  have a0 := fun u => (((HFB5.out.to (hgu5 u)).a.cell 0).trans (show _ = some (Value.int IntKind.i64 (j : Int)) from rfl))
                  have t0 := fun u => (((HFB5.out.to (hgu5 u)).f.t.cell 0).trans (show _ = some (Value.string (bs t)) from rfl))
                  have x1 := fun u => (((HX5.out.to (hgu5 u)).cell 1).trans (show _ = some (Value.string (bs p.b)) from rfl))
                  have x3 := fun u => (((HX5.out.to (hgu5 u)).cell 3).trans (show _ = some (Value.bool p.need) from rfl))
                  have hx : (bs t).extract j t.length = bs (t.drop j) := by rw [bs_cut, List.take_of_length_le (by rw [List.length_drop]; omega)]
                  have CC : ∀ u, Calls Tryz.prog 72 #[.string (bs (t.drop j)), .string (bs p.b)] (g5 u) fun e w' => e = .returned (.tuple #[.string (bs (if p.b <+: t.drop j then (t.drop j).drop p.b.length else t.drop j)), .bool (decide (p.b <+: t.drop j))]) ∧ ∃ u', w' = g5 u' := fun u => cls_call hgu5 hgi5 (fun W hb => (CutPrefix_any (t.drop j) p.b W).mono fun e w' h => ⟨h.1, h.2 ▸ Below.refl _ _⟩) u
                  by_cases hpre : p.b <+: t.drop j
                  · rw [if_pos hpre, decide_eq_true hpre] at CC
                    have HPRE := hide hpre
                    obtain ⟨V, hV⟩ : ∃ V, (t.drop j).drop p.b.length = V := ⟨_, rfl⟩
                    rw [hV] at CC
                    have HVV := hide hV
                    have HVL : Hid (V.length + p.b.length = t.length - j) := by
                      show _ = _
                      have h1 := hpre.length_le
                      rw [← hV, List.length_drop, List.length_drop]
                      rw [List.length_drop] at h1
                      omega
                    have hszV := bs_size V
                    clear hV hpre
                    refine wp_region_class g5 (by kernel_rfl) (by kernel_rfl) (hgi5 _ (hgu5 _).drew) ?_
                    repeat (go_big_quiet_step (first | with_reducible exact CC _))
                    refine wpQuiet_nil ?_
                    intro w6 hw6
                    obtain ⟨u, rfl⟩ := hw6
                    have HFB6 := hide (HFB5.out.to (hgu5 u))
                    have HX6 := hide (HX5.out.to (hgu5 u))
                    revert HFB6 HX6
                    generalize g5 u = w6
                    intro HFB6 HX6
                    clear CC a0 t0 x1 x3 HFB5 HX5 hgu5 hgi5 hx
                    have HFB5 := HFB6
                    have HX5 := HX6
                    clear HFB6 HX6
                    have x0 : w6.cell? ⟨bx, 0, none⟩ = some (.int .i64 (kp : Int)) := HX5.out.cell 0
                    have x1 : w6.cell? ⟨bx, 1, none⟩ = some (.string (bs p.b)) := HX5.out.cell 1
                    have x2 : w6.cell? ⟨bx, 2, none⟩ = some (.string (bs p.a)) := HX5.out.cell 2
                    have x3 : w6.cell? ⟨bx, 3, none⟩ = some (.bool p.need) := HX5.out.cell 3
                    have a0 : w6.cell? ⟨ba, 0, none⟩ = some (.int .i64 (j : Int)) := HFB5.out.a.cell 0
                    have t0 : w6.cell? ⟨w.heap.size + 1, 0, none⟩ = some (.string (bs t)) := HFB5.out.f.t.cell 0
                    have hVl : V.length ≤ t.length := by have := HVL.out; omega
                    have hbl : p.b.length ≤ t.length - j := by have := HVL.out; omega
                    have hvj : V.length + p.b.length + j ≤ t.length := by have := HVL.out; omega
                    go_wp2_with fail
                    go_loopw [19] (fun i wr => ∃ e : Nat, e ≤ V.length ∧ i = .int .i64 (e : Int) ∧ (∀ m c, m < e → V[m]? = some c → mrk s.ps c = false) ∧ wr = w6) (fun i _ => V.length - (intOf i).toNat)
                    case atStart => exact ⟨0, by omega, rfl, fun m c h => absurd h (by omega), rfl⟩
                    case round =>
                      obtain ⟨e, hel, rfl, hnm, hwr⟩ := hrel
                      have hwr := hwr.symm
                      subst hwr
                      have HNM := hide hnm
                      clear hnm
                      by_cases helt : e < V.length
                      · have f1 : decide ((e : Int) < (V.length : Int)) = true := decide_eq_true (by omega)
                        obtain ⟨c, hcv⟩ : ∃ c, V[e]? = some c := ⟨_, List.getElem?_eq_getElem helt⟩
                        have ci := index_bs V e c hcv
                        have mc : w6.cell? ⟨bm, c.toNat, none⟩ = some (.bool (mrk s.ps c)) := (HFB5.out.f.m.cell c.toNat).trans (boolC_at (HM.out.2 c))
                        have c0 := c.toNat_lt
                        cases hmk : mrk s.ps c with
                        | true =>
                          rw [hmk] at mc
                          have hE : e = V.length ∨ ∃ c, V[e]? = some c ∧ mrk s.ps c = true := .inr ⟨c, hcv, hmk⟩
                          clear hcv hmk
                          go_upto_region 26 with fail
                          clear ci mc c0
                          have hw := tw_at V e hel HNM.out hE
                          have HTW := hide hw.1
                          have HDW := hide hw.2
                          clear hw hE HNM
                          have HVT : Hid ((bs V).extract 0 e = bs (V.take e)) := by show _ = _; rw [bs_cut]; simp
                          have hvt := HVT.out
                          have hvl : (V.take e).length ≤ 100000 := by rw [List.length_take]; omega
                          obtain ⟨j2, hj2⟩ : ∃ x, j + p.b.length = x := ⟨_, rfl⟩
                          have ej2 : (j : Int) + (p.b.length : Int) = (j2 : Int) := by omega
                          have hszb := bs_size p.b
                          have HFB6 : Hid (FB w #[.string (bs s.c), .slice A s.ps.length cp] t bm bo ba L out j2 (w6.setCell ⟨ba, 0, none⟩ (.int .i64 (j2 : Int)))) := HFB5.out.setA j2
                          have fa : w6.frozen? ⟨ba, 0, none⟩ = false := HFB5.out.a.frozen 0
                          have HX6 := hide (HX5.out.far (p := ⟨ba, 0, none⟩) (by show bx ≠ ba; exact fun e => hbax e.symm) (.int .i64 (j2 : Int)))
                          have HJ2 := hide hj2
                          have hj2l : j2 ≤ t.length := by omega
                          clear hj2
                          go_upto_region 27 with fail
                          clear a0 fa ej2 hszb x0 x1 x2 x3 t0
                          generalize w6.setCell ⟨ba, 0, none⟩ (.int .i64 (j2 : Int)) = w7 at *
                          obtain ⟨U7, hU7, h, u7, rfl, hru, hri⟩ := cls w7
                          have x0 := fun u => (((HX6.out.to (hru u)).cell 0).trans (show _ = some (Value.int IntKind.i64 (kp : Int)) from rfl))
                          have x1 := fun u => (((HX6.out.to (hru u)).cell 1).trans (show _ = some (Value.string (bs p.b)) from rfl))
                          have x2 := fun u => (((HX6.out.to (hru u)).cell 2).trans (show _ = some (Value.string (bs p.a)) from rfl))
                          have x3 := fun u => (((HX6.out.to (hru u)).cell 3).trans (show _ = some (Value.bool p.need) from rfl))
                          have CI : ∀ u, Calls Tryz.prog 73 #[.agg #[.int .i64 (kp : Int), .string (bs p.b), .string (bs p.a), .bool p.need], .string (bs (V.take e))] (h u) fun e' w' => e' = .returned (.bool (isVal numB p.k (V.take e))) ∧ ∃ u', w' = h u' := fun u => by
                            have := cls_call hru hri (fun W hb => isValue_any p (V.take e) hvl W (HGo.out.to (below_to HFB6.out.f.bel (Nat.le_refl _) hb))) u
                            rw [HKP.out] at this ⊢
                            exact this
                          cases hiv : isVal numB p.k (V.take e) with
                          | false =>
                            rw [hiv] at CI
                            have HFIN : Hid (readF (validB isNm s) numB s.ps t = (zeroF, 1, (j2 : Int))) := by
                              show _ = _
                              rw [HRY.out, ← HRI.out.eq, HDR.out, rd_yes HSK.out HPRE.out]
                              unfold stepR
                              rw [HVV.out, HTW.out, hiv]
                              show ((zeroF, (1 : Int), (t.length : Int) - (V.length : Int)) : List (List UInt8) × Int × Int) = _
                              have := HVL.out
                              have := HJ2.out
                              rw [show (t.length : Int) - (V.length : Int) = (j2 : Int) by omega]
                            clear hiv
                            refine wp_region_class h (by kernel_rfl) (by kernel_rfl) (hri _ (hru _).drew) ?_
                            repeat (go_big_quiet_step (first | with_reducible exact CI _))
                            refine wpQuiet_nil ?_
                            intro w8 hw8
                            obtain ⟨u, rfl⟩ := hw8
                            have HFB8 := hide (HFB6.out.to (hru u))
                            revert HFB8
                            generalize h u = w8
                            intro HFB8
                            clear CI x0 x1 x2 x3 HFB6 HX6 hru hri
                            have z0 : w8.cell? ⟨w.heap.size + 1 + 1, 0, none⟩ = some (.string ⟨#[]⟩) := HFB8.out.f.r.cell 0
                            have y0 := HFB8.out.f.r.frozen 0
                            have z1 : w8.cell? ⟨w.heap.size + 1 + 1, 1, none⟩ = some (.string ⟨#[]⟩) := HFB8.out.f.r.cell 1
                            have y1 := HFB8.out.f.r.frozen 1
                            have z2 : w8.cell? ⟨w.heap.size + 1 + 1, 2, none⟩ = some (.string ⟨#[]⟩) := HFB8.out.f.r.cell 2
                            have y2 := HFB8.out.f.r.frozen 2
                            have z3 : w8.cell? ⟨w.heap.size + 1 + 1, 3, none⟩ = some (.string ⟨#[]⟩) := HFB8.out.f.r.cell 3
                            have y3 := HFB8.out.f.r.frozen 3
                            have z4 : w8.cell? ⟨w.heap.size + 1 + 1, 4, none⟩ = some (.string ⟨#[]⟩) := HFB8.out.f.r.cell 4
                            have y4 := HFB8.out.f.r.frozen 4
                            have z5 : w8.cell? ⟨w.heap.size + 1 + 1, 5, none⟩ = some (.string ⟨#[]⟩) := HFB8.out.f.r.cell 5
                            have y5 := HFB8.out.f.r.frozen 5
                            have z6 : w8.cell? ⟨w.heap.size + 1 + 1, 6, none⟩ = some (.string ⟨#[]⟩) := HFB8.out.f.r.cell 6
                            have y6 := HFB8.out.f.r.frozen 6
                            have z7 : w8.cell? ⟨w.heap.size + 1 + 1, 7, none⟩ = some (.string ⟨#[]⟩) := HFB8.out.f.r.cell 7
                            have y7 := HFB8.out.f.r.frozen 7
                            have z8 : w8.cell? ⟨w.heap.size + 1 + 1, 8, none⟩ = some (.string ⟨#[]⟩) := HFB8.out.f.r.cell 8
                            have y8 := HFB8.out.f.r.frozen 8
                            have a0 : w8.cell? ⟨ba, 0, none⟩ = some (.int .i64 (j2 : Int)) := HFB8.out.a.cell 0
                            have n1 : ba ≠ w.heap.size + 1 + 1 := by have := HFB8.out.f.lt; have := HFB8.out.mo; have := HFB8.out.oa; omega
                            have n2 : w.heap.size + 1 + 1 ≠ ba := fun h => n1 h.symm
                            go_wp2_with fail
                            go_region
                            go_wp2_with fail
                            simp +zetaDelta only [Exit.noGoto, Exit.inBlock, Exit.then]
                            have hbk : Blk (((((((((w8.setCell ⟨w.heap.size + 1 + 1, 0, none⟩ (.string ⟨#[]⟩)).setCell ⟨w.heap.size + 1 + 1, 1, none⟩ (.string ⟨#[]⟩)).setCell ⟨w.heap.size + 1 + 1, 2, none⟩ (.string ⟨#[]⟩)).setCell ⟨w.heap.size + 1 + 1, 3, none⟩ (.string ⟨#[]⟩)).setCell ⟨w.heap.size + 1 + 1, 4, none⟩ (.string ⟨#[]⟩)).setCell ⟨w.heap.size + 1 + 1, 5, none⟩ (.string ⟨#[]⟩)).setCell ⟨w.heap.size + 1 + 1, 6, none⟩ (.string ⟨#[]⟩)).setCell ⟨w.heap.size + 1 + 1, 7, none⟩ (.string ⟨#[]⟩)).setCell ⟨w.heap.size + 1 + 1, 8, none⟩ (.string ⟨#[]⟩)).drew (w.heap.size + 1 + 1) 26 Z9 := (((((((((HFB8.out.f.r.set_ 0 (.string ⟨#[]⟩)).set_ 1 (.string ⟨#[]⟩)).set_ 2 (.string ⟨#[]⟩)).set_ 3 (.string ⟨#[]⟩)).set_ 4 (.string ⟨#[]⟩)).set_ 5 (.string ⟨#[]⟩)).set_ 6 (.string ⟨#[]⟩)).set_ 7 (.string ⟨#[]⟩)).set_ 8 (.string ⟨#[]⟩)).drew
                            refine bodyPost_ret (results_ctt (p := 4) (u := 5) (x := 6) rfl _ _ (w.heap.size + 1 + 1) 26 _ _ rfl hbk Tryz.underlying26 rfl (by kernel_rfl)) rfl ⟨?_, (((((((((HFB8.out.f.bel.setCell (p := ⟨w.heap.size + 1 + 1, 0, none⟩) (by show w.heap.size ≤ w.heap.size + 1 + 1; omega) (.string ⟨#[]⟩)).setCell (p := ⟨w.heap.size + 1 + 1, 1, none⟩) (by show w.heap.size ≤ w.heap.size + 1 + 1; omega) (.string ⟨#[]⟩)).setCell (p := ⟨w.heap.size + 1 + 1, 2, none⟩) (by show w.heap.size ≤ w.heap.size + 1 + 1; omega) (.string ⟨#[]⟩)).setCell (p := ⟨w.heap.size + 1 + 1, 3, none⟩) (by show w.heap.size ≤ w.heap.size + 1 + 1; omega) (.string ⟨#[]⟩)).setCell (p := ⟨w.heap.size + 1 + 1, 4, none⟩) (by show w.heap.size ≤ w.heap.size + 1 + 1; omega) (.string ⟨#[]⟩)).setCell (p := ⟨w.heap.size + 1 + 1, 5, none⟩) (by show w.heap.size ≤ w.heap.size + 1 + 1; omega) (.string ⟨#[]⟩)).setCell (p := ⟨w.heap.size + 1 + 1, 6, none⟩) (by show w.heap.size ≤ w.heap.size + 1 + 1; omega) (.string ⟨#[]⟩)).setCell (p := ⟨w.heap.size + 1 + 1, 7, none⟩) (by show w.heap.size ≤ w.heap.size + 1 + 1; omega) (.string ⟨#[]⟩)).setCell (p := ⟨w.heap.size + 1 + 1, 8, none⟩) (by show w.heap.size ≤ w.heap.size + 1 + 1; omega) (.string ⟨#[]⟩)).drew⟩
                            rw [HFIN.out]; rfl
                          | true =>
                            rw [hiv] at CI
                            have HST : Hid (stepR (mrk s.ps) numB p (r.drop (k + 1)) (t.drop j) out = if p.a <+: V.drop e then readR (mrk s.ps) numB (r.drop (k + 1)) ((V.drop e).drop p.a.length) (out.set p.k.toNat (V.take e)) else .miss (V.drop e).length) := by
                              show _ = _
                              unfold stepR
                              rw [HVV.out, HTW.out, HDW.out, hiv, if_pos rfl]
                            clear hiv
                            refine wp_region_class h (by kernel_rfl) (by kernel_rfl) (hri _ (hru _).drew) ?_
                            repeat (go_big_quiet_step (first | with_reducible exact CI _))
                            refine wpQuiet_nil ?_
                            intro w8 hw8
                            obtain ⟨u, rfl⟩ := hw8
                            have HFB8 := hide (HFB6.out.to (hru u))
                            have HX8 := hide (HX6.out.to (hru u))
                            revert HFB8 HX8
                            generalize h u = w8
                            intro HFB8 HX8
                            clear CI x0 x1 x2 x3 HFB6 HX6 hru hri
                            have x0 : w8.cell? ⟨bx, 0, none⟩ = some (.int .i64 (kp : Int)) := HX8.out.cell 0
                            have hkl : kp < out.length := by rw [hol]; exact hkp9
                            have o0 := (HFB8.out.o.cell kp).trans (fieldsC_at (List.getElem?_eq_getElem hkl))
                            have o1 := HFB8.out.o.frozen kp
                            have HFB9 : Hid (FB w #[.string (bs s.c), .slice A s.ps.length cp] t bm bo ba L (out.set kp (V.take e)) j2 (w8.setCell ⟨bo, kp, none⟩ (.string (bs (V.take e)))).drew) := (HFB8.out.setO kp (V.take e)).drew
                            have HX9 : Hid (Blk (w8.setCell ⟨bo, kp, none⟩ (.string (bs (V.take e)))).drew bx 41 #[.int .i64 (kp : Int), .string (bs p.b), .string (bs p.a), .bool p.need]) := (HX8.out.far (p := ⟨bo, kp, none⟩) (by show bx ≠ bo; exact fun e => hbox e.symm) (.string (bs (V.take e)))).drew
                            generalize out[kp]'hkl = oo at *
                            go_wp2_with fail
                            go_region
                            clear x0 o0 o1 HFB8 HX8
                            generalize (w8.setCell ⟨bo, kp, none⟩ (.string (bs (V.take e)))).drew = w9 at *
                            obtain ⟨j3, hj3⟩ : ∃ x, j2 + e = x := ⟨_, rfl⟩
                            have ej3 : (j2 : Int) + (e : Int) = (j3 : Int) := by omega
                            have a0 : w9.cell? ⟨ba, 0, none⟩ = some (.int .i64 (j2 : Int)) := HFB9.out.a.cell 0
                            have fa : w9.frozen? ⟨ba, 0, none⟩ = false := HFB9.out.a.frozen 0
                            have HFBa : Hid (FB w #[.string (bs s.c), .slice A s.ps.length cp] t bm bo ba L (out.set kp (V.take e)) j3 (w9.setCell ⟨ba, 0, none⟩ (.int .i64 (j3 : Int)))) := HFB9.out.setA j3
                            have HXa := hide (HX9.out.far (p := ⟨ba, 0, none⟩) (by show bx ≠ ba; exact fun e => hbax e.symm) (.int .i64 (j3 : Int)))
                            have HJ3 := hide hj3
                            have hj3l : j3 ≤ t.length := by have := HVL.out; have := HJ2.out; omega
                            have HD3 : Hid (t.drop j3 = V.drop e) := by show _ = _; rw [← HVV.out, List.drop_drop, List.drop_drop]; have := HJ2.out; have := HJ3.out; congr 1; omega
                            clear hj3
                            go_upto_region 31 with fail
                            clear a0 fa ej3 HFB9 HX9
                            generalize w9.setCell ⟨ba, 0, none⟩ (.int .i64 (j3 : Int)) = wa at *
                            obtain ⟨Ua, hUa, g, ua, rfl, hgu, hgi⟩ := cls wa
                            have a0 := fun u => (((HFBa.out.to (hgu u)).a.cell 0).trans (show _ = some (Value.int IntKind.i64 (j3 : Int)) from rfl))
                            have t0 := fun u => (((HFBa.out.to (hgu u)).f.t.cell 0).trans (show _ = some (Value.string (bs t)) from rfl))
                            have x2 := fun u => (((HXa.out.to (hgu u)).cell 2).trans (show _ = some (Value.string (bs p.a)) from rfl))
                            have hx3 : (bs t).extract j3 t.length = bs (V.drop e) := by rw [bs_cut, ← HD3.out, List.take_of_length_le (by rw [List.length_drop]; omega)]
                            have CH : ∀ u, Calls Tryz.prog 74 #[.string (bs (V.drop e)), .string (bs p.a)] (g u) fun e' w' => e' = .returned (.bool (decide (p.a <+: V.drop e))) ∧ ∃ u', w' = g u' := fun u => cls_call hgu hgi (fun W hb => (HasPrefix_any (V.drop e) p.a W).mono fun e w' h => ⟨h.1, h.2 ▸ Below.refl _ _⟩) u
                            by_cases hpa : p.a <+: V.drop e
                            · rw [decide_eq_true hpa] at CH
                              rw [if_pos hpa] at HST
                              have HPA := hide hpa
                              clear hpa
                              refine wp_region_class g (by kernel_rfl) (by kernel_rfl) (hgi _ (hgu _).drew) ?_
                              repeat (go_big_quiet_step (first | with_reducible exact CH _))
                              refine wpQuiet_nil ?_
                              intro wb hwb
                              obtain ⟨u, rfl⟩ := hwb
                              have HFBb := hide (HFBa.out.to (hgu u))
                              have HXb := hide (HXa.out.to (hgu u))
                              revert HFBb HXb
                              generalize g u = wb
                              intro HFBb HXb
                              clear CH a0 t0 x2 HFBa HXa hgu hgi hx3
                              obtain ⟨j4, hj4⟩ : ∃ x, j3 + p.a.length = x := ⟨_, rfl⟩
                              have ej4 : (j3 : Int) + (p.a.length : Int) = (j4 : Int) := by omega
                              have hsza := bs_size p.a
                              have hpal := HPA.out.length_le
                              have hj4l : j4 ≤ t.length := by
                                have h1 : (V.drop e).length = t.length - j3 := by rw [← HD3.out, List.length_drop]
                                omega
                              have a0 : wb.cell? ⟨ba, 0, none⟩ = some (.int .i64 (j3 : Int)) := HFBb.out.a.cell 0
                              have x2 : wb.cell? ⟨bx, 2, none⟩ = some (.string (bs p.a)) := HXb.out.cell 2
                              have fa : wb.frozen? ⟨ba, 0, none⟩ = false := HFBb.out.a.frozen 0
                              have HFBc : Hid (FB w #[.string (bs s.c), .slice A s.ps.length cp] t bm bo ba L (out.set kp (V.take e)) j4 (wb.setCell ⟨ba, 0, none⟩ (.int .i64 (j4 : Int)))) := HFBb.out.setA j4
                              have HJ4 := hide hj4
                              have HRN : Hid (RdI s t (r.drop (k + 1)) j4 (out.set kp (V.take e))) := by
                                refine ⟨?_, fun q hq => HRI0.out.sub q (List.mem_of_mem_drop hq), by rw [List.length_set]; exact hol, by rw [List.length_drop]; omega, hj4l⟩
                                rw [← HRI.out.eq, HDR.out, rd_yes HSK.out HPRE.out, HST.out, ← HD3.out, List.drop_drop, HJ4.out, HKP.out]
                                rfl
                              clear hj4 HST
                              by_cases hcc : c' = k + 1
                              · have hrl : r.length = k + 1 := by omega
                                have hd0 : r.drop (k + 1) = [] := List.drop_of_length_le (by omega)
                                have HPN : Hid (∀ A'', PartsAt w (.slice A'' 0 0) (r.drop (k + 1))) := fun A'' => by rw [hd0]; exact ⟨A'', 0, rfl, Nat.zero_le _, by simp, fun i x hx => by simp at hx⟩
                                clear hd0
                                go_wp2_with fail
                                go_roundw
                                case rel => exact ⟨r.drop (k + 1), j4, _, HPN.out _, HFBc.out, HRN.out⟩
                                case measure => simp [lenV]; omega
                              · have hc0' : ¬ (c' - (k + 1) = 0) := by omega
                                have HPN : Hid (PartsAt w (.slice (some (ad.add ((k + 1) * 4))) (r.length - (k + 1)) (c' - (k + 1))) (r.drop (k + 1))) := by
                                  have := RowsAt.drop (k := k + 1) HPV.out (by rw [List.length_map]; omega) (c' - (k + 1)) (by rw [List.length_map]; omega)
                                  rw [List.length_map] at this
                                  show RowsAt _ _ _ _
                                  rw [List.map_drop]
                                  exact this
                                go_wp2_with fail
                                go_roundw
                                case rel => exact ⟨r.drop (k + 1), j4, _, HPN.out, HFBc.out, HRN.out⟩
                                case measure => simp [lenV]; omega
                            · rw [decide_eq_false hpa] at CH
                              rw [if_neg hpa] at HST
                              have HFIN : Hid (readF (validB isNm s) numB s.ps t = (zeroF, missE j3 t.length, (j3 : Int))) := by
                                show _ = _
                                have h1 : (V.drop e).length = t.length - j3 := by rw [← HD3.out, List.length_drop]
                                rw [HRY.out, ← HRI.out.eq, HDR.out, rd_yes HSK.out HPRE.out, HST.out, h1]
                                show ((zeroF, (if t.length - j3 = 0 then (6 : Int) else 5), (t.length : Int) - ((t.length - j3 : Nat) : Int)) : List (List UInt8) × Int × Int) = _
                                rw [show (t.length : Int) - ((t.length - j3 : Nat) : Int) = (j3 : Int) by omega]
                                unfold missE
                                by_cases hh : j3 = t.length
                                · rw [if_pos (by omega), if_pos hh]
                                · rw [if_neg (by omega), if_neg hh]
                              clear hpa HST
                              refine wp_region_class g (by kernel_rfl) (by kernel_rfl) (hgi _ (hgu _).drew) ?_
                              repeat (go_big_quiet_step (first | with_reducible exact CH _))
                              refine wpQuiet_nil ?_
                              intro wb hwb
                              obtain ⟨u, rfl⟩ := hwb
                              have HFBb := hide (HFBa.out.to (hgu u))
                              clear CH a0 t0 x2 HXa hx3
                              go_wp2_with fail
                              refine (missing_any t j3 hj3l ht ba (w.heap.size + 1) (g u) HFBb.out.a HFBb.out.f.t).mono ?_
                              rintro e wm ⟨rfl, hbm⟩
                              have HFm := hide (HFBb.out.f.to hbm)
                              unfold Z9
                              have z0 : wm.cell? ⟨w.heap.size + 1 + 1, 0, none⟩ = some (.string ⟨#[]⟩) := HFm.out.r.cell 0
                              have y0 := HFm.out.r.frozen 0
                              have z1 : wm.cell? ⟨w.heap.size + 1 + 1, 1, none⟩ = some (.string ⟨#[]⟩) := HFm.out.r.cell 1
                              have y1 := HFm.out.r.frozen 1
                              have z2 : wm.cell? ⟨w.heap.size + 1 + 1, 2, none⟩ = some (.string ⟨#[]⟩) := HFm.out.r.cell 2
                              have y2 := HFm.out.r.frozen 2
                              have z3 : wm.cell? ⟨w.heap.size + 1 + 1, 3, none⟩ = some (.string ⟨#[]⟩) := HFm.out.r.cell 3
                              have y3 := HFm.out.r.frozen 3
                              have z4 : wm.cell? ⟨w.heap.size + 1 + 1, 4, none⟩ = some (.string ⟨#[]⟩) := HFm.out.r.cell 4
                              have y4 := HFm.out.r.frozen 4
                              have z5 : wm.cell? ⟨w.heap.size + 1 + 1, 5, none⟩ = some (.string ⟨#[]⟩) := HFm.out.r.cell 5
                              have y5 := HFm.out.r.frozen 5
                              have z6 : wm.cell? ⟨w.heap.size + 1 + 1, 6, none⟩ = some (.string ⟨#[]⟩) := HFm.out.r.cell 6
                              have y6 := HFm.out.r.frozen 6
                              have z7 : wm.cell? ⟨w.heap.size + 1 + 1, 7, none⟩ = some (.string ⟨#[]⟩) := HFm.out.r.cell 7
                              have y7 := HFm.out.r.frozen 7
                              have z8 : wm.cell? ⟨w.heap.size + 1 + 1, 8, none⟩ = some (.string ⟨#[]⟩) := HFm.out.r.cell 8
                              have y8 := HFm.out.r.frozen 8
                              go_wp2_with fail
                              simp +zetaDelta only [Exit.noGoto, Exit.inBlock, Exit.then]
                              have hbk : Blk (((((((((wm.setCell ⟨w.heap.size + 1 + 1, 0, none⟩ (.string ⟨#[]⟩)).setCell ⟨w.heap.size + 1 + 1, 1, none⟩ (.string ⟨#[]⟩)).setCell ⟨w.heap.size + 1 + 1, 2, none⟩ (.string ⟨#[]⟩)).setCell ⟨w.heap.size + 1 + 1, 3, none⟩ (.string ⟨#[]⟩)).setCell ⟨w.heap.size + 1 + 1, 4, none⟩ (.string ⟨#[]⟩)).setCell ⟨w.heap.size + 1 + 1, 5, none⟩ (.string ⟨#[]⟩)).setCell ⟨w.heap.size + 1 + 1, 6, none⟩ (.string ⟨#[]⟩)).setCell ⟨w.heap.size + 1 + 1, 7, none⟩ (.string ⟨#[]⟩)).setCell ⟨w.heap.size + 1 + 1, 8, none⟩ (.string ⟨#[]⟩)) (w.heap.size + 1 + 1) 26 Z9 := (((((((((HFm.out.r.set_ 0 (.string ⟨#[]⟩)).set_ 1 (.string ⟨#[]⟩)).set_ 2 (.string ⟨#[]⟩)).set_ 3 (.string ⟨#[]⟩)).set_ 4 (.string ⟨#[]⟩)).set_ 5 (.string ⟨#[]⟩)).set_ 6 (.string ⟨#[]⟩)).set_ 7 (.string ⟨#[]⟩)).set_ 8 (.string ⟨#[]⟩))
                              refine bodyPost_ret (results_ctt (p := 4) (u := 5) (x := 6) rfl _ _ (w.heap.size + 1 + 1) 26 _ _ rfl hbk Tryz.underlying26 rfl (by kernel_rfl)) rfl ⟨?_, (((((((((HFm.out.bel.setCell (p := ⟨w.heap.size + 1 + 1, 0, none⟩) (by show w.heap.size ≤ w.heap.size + 1 + 1; omega) (.string ⟨#[]⟩)).setCell (p := ⟨w.heap.size + 1 + 1, 1, none⟩) (by show w.heap.size ≤ w.heap.size + 1 + 1; omega) (.string ⟨#[]⟩)).setCell (p := ⟨w.heap.size + 1 + 1, 2, none⟩) (by show w.heap.size ≤ w.heap.size + 1 + 1; omega) (.string ⟨#[]⟩)).setCell (p := ⟨w.heap.size + 1 + 1, 3, none⟩) (by show w.heap.size ≤ w.heap.size + 1 + 1; omega) (.string ⟨#[]⟩)).setCell (p := ⟨w.heap.size + 1 + 1, 4, none⟩) (by show w.heap.size ≤ w.heap.size + 1 + 1; omega) (.string ⟨#[]⟩)).setCell (p := ⟨w.heap.size + 1 + 1, 5, none⟩) (by show w.heap.size ≤ w.heap.size + 1 + 1; omega) (.string ⟨#[]⟩)).setCell (p := ⟨w.heap.size + 1 + 1, 6, none⟩) (by show w.heap.size ≤ w.heap.size + 1 + 1; omega) (.string ⟨#[]⟩)).setCell (p := ⟨w.heap.size + 1 + 1, 7, none⟩) (by show w.heap.size ≤ w.heap.size + 1 + 1; omega) (.string ⟨#[]⟩)).setCell (p := ⟨w.heap.size + 1 + 1, 8, none⟩) (by show w.heap.size ≤ w.heap.size + 1 + 1; omega) (.string ⟨#[]⟩))⟩
                              rw [HFIN.out]; rfl
                        | false =>
                          rw [hmk] at mc
                          have HN2 : Hid (∀ m d, m < e + 1 → V[m]? = some d → mrk s.ps d = false) := fun m d hm hd => by
                            rcases Nat.lt_or_ge m e with h' | h'
                            · exact HNM.out m d h' hd
                            · obtain rfl : m = e := by omega
                              rw [hcv] at hd; cases hd; exact hmk
                          clear hcv hmk
                          go_wp2_with fail
                          go_roundw
                          case rel => exact ⟨e + 1, by omega, by go_num, HN2.out, (by first | rfl | trivial)⟩
                          case measure => simp [intOf]; omega
                      · obtain rfl : e = V.length := by omega
                        have f1 : decide ((V.length : Int) < (V.length : Int)) = false := by simp
                        obtain ⟨e, he⟩ : ∃ e, V.length = e := ⟨_, rfl⟩
                        go_upto_region 26 with fail
                        clear hel
                        have hel : e ≤ V.length := Nat.le_of_eq he.symm
                        have hE : e = V.length ∨ ∃ c, V[e]? = some c ∧ mrk s.ps c = true := .inl he.symm
                        rw [he] at HNM ⊢
                        clear he
                        have hw := tw_at V e hel HNM.out hE
                        have HTW := hide hw.1
                        have HDW := hide hw.2
                        clear hw hE HNM
                        have HVT : Hid ((bs V).extract 0 e = bs (V.take e)) := by show _ = _; rw [bs_cut]; simp
                        have hvt := HVT.out
                        have hvl : (V.take e).length ≤ 100000 := by rw [List.length_take]; omega
                        obtain ⟨j2, hj2⟩ : ∃ x, j + p.b.length = x := ⟨_, rfl⟩
                        have ej2 : (j : Int) + (p.b.length : Int) = (j2 : Int) := by omega
                        have hszb := bs_size p.b
                        have HFB6 : Hid (FB w #[.string (bs s.c), .slice A s.ps.length cp] t bm bo ba L out j2 (w6.setCell ⟨ba, 0, none⟩ (.int .i64 (j2 : Int)))) := HFB5.out.setA j2
                        have fa : w6.frozen? ⟨ba, 0, none⟩ = false := HFB5.out.a.frozen 0
                        have HX6 := hide (HX5.out.far (p := ⟨ba, 0, none⟩) (by show bx ≠ ba; exact fun e => hbax e.symm) (.int .i64 (j2 : Int)))
                        have HJ2 := hide hj2
                        have hj2l : j2 ≤ t.length := by omega
                        clear hj2
                        go_upto_region 27 with fail
                        clear a0 fa ej2 hszb x0 x1 x2 x3 t0
                        generalize w6.setCell ⟨ba, 0, none⟩ (.int .i64 (j2 : Int)) = w7 at *
                        obtain ⟨U7, hU7, h, u7, rfl, hru, hri⟩ := cls w7
                        have x0 := fun u => (((HX6.out.to (hru u)).cell 0).trans (show _ = some (Value.int IntKind.i64 (kp : Int)) from rfl))
                        have x1 := fun u => (((HX6.out.to (hru u)).cell 1).trans (show _ = some (Value.string (bs p.b)) from rfl))
                        have x2 := fun u => (((HX6.out.to (hru u)).cell 2).trans (show _ = some (Value.string (bs p.a)) from rfl))
                        have x3 := fun u => (((HX6.out.to (hru u)).cell 3).trans (show _ = some (Value.bool p.need) from rfl))
                        have CI : ∀ u, Calls Tryz.prog 73 #[.agg #[.int .i64 (kp : Int), .string (bs p.b), .string (bs p.a), .bool p.need], .string (bs (V.take e))] (h u) fun e' w' => e' = .returned (.bool (isVal numB p.k (V.take e))) ∧ ∃ u', w' = h u' := fun u => by
                          have := cls_call hru hri (fun W hb => isValue_any p (V.take e) hvl W (HGo.out.to (below_to HFB6.out.f.bel (Nat.le_refl _) hb))) u
                          rw [HKP.out] at this ⊢
                          exact this
                        cases hiv : isVal numB p.k (V.take e) with
                        | false =>
                          rw [hiv] at CI
                          have HFIN : Hid (readF (validB isNm s) numB s.ps t = (zeroF, 1, (j2 : Int))) := by
                            show _ = _
                            rw [HRY.out, ← HRI.out.eq, HDR.out, rd_yes HSK.out HPRE.out]
                            unfold stepR
                            rw [HVV.out, HTW.out, hiv]
                            show ((zeroF, (1 : Int), (t.length : Int) - (V.length : Int)) : List (List UInt8) × Int × Int) = _
                            have := HVL.out
                            have := HJ2.out
                            rw [show (t.length : Int) - (V.length : Int) = (j2 : Int) by omega]
                          clear hiv
                          refine wp_region_class h (by kernel_rfl) (by kernel_rfl) (hri _ (hru _).drew) ?_
                          repeat (go_big_quiet_step (first | with_reducible exact CI _))
                          refine wpQuiet_nil ?_
                          intro w8 hw8
                          obtain ⟨u, rfl⟩ := hw8
                          have HFB8 := hide (HFB6.out.to (hru u))
                          revert HFB8
                          generalize h u = w8
                          intro HFB8
                          clear CI x0 x1 x2 x3 HFB6 HX6 hru hri
                          have z0 : w8.cell? ⟨w.heap.size + 1 + 1, 0, none⟩ = some (.string ⟨#[]⟩) := HFB8.out.f.r.cell 0
                          have y0 := HFB8.out.f.r.frozen 0
                          have z1 : w8.cell? ⟨w.heap.size + 1 + 1, 1, none⟩ = some (.string ⟨#[]⟩) := HFB8.out.f.r.cell 1
                          have y1 := HFB8.out.f.r.frozen 1
                          have z2 : w8.cell? ⟨w.heap.size + 1 + 1, 2, none⟩ = some (.string ⟨#[]⟩) := HFB8.out.f.r.cell 2
                          have y2 := HFB8.out.f.r.frozen 2
                          have z3 : w8.cell? ⟨w.heap.size + 1 + 1, 3, none⟩ = some (.string ⟨#[]⟩) := HFB8.out.f.r.cell 3
                          have y3 := HFB8.out.f.r.frozen 3
                          have z4 : w8.cell? ⟨w.heap.size + 1 + 1, 4, none⟩ = some (.string ⟨#[]⟩) := HFB8.out.f.r.cell 4
                          have y4 := HFB8.out.f.r.frozen 4
                          have z5 : w8.cell? ⟨w.heap.size + 1 + 1, 5, none⟩ = some (.string ⟨#[]⟩) := HFB8.out.f.r.cell 5
                          have y5 := HFB8.out.f.r.frozen 5
                          have z6 : w8.cell? ⟨w.heap.size + 1 + 1, 6, none⟩ = some (.string ⟨#[]⟩) := HFB8.out.f.r.cell 6
                          have y6 := HFB8.out.f.r.frozen 6
                          have z7 : w8.cell? ⟨w.heap.size + 1 + 1, 7, none⟩ = some (.string ⟨#[]⟩) := HFB8.out.f.r.cell 7
                          have y7 := HFB8.out.f.r.frozen 7
                          have z8 : w8.cell? ⟨w.heap.size + 1 + 1, 8, none⟩ = some (.string ⟨#[]⟩) := HFB8.out.f.r.cell 8
                          have y8 := HFB8.out.f.r.frozen 8
                          have a0 : w8.cell? ⟨ba, 0, none⟩ = some (.int .i64 (j2 : Int)) := HFB8.out.a.cell 0
                          have n1 : ba ≠ w.heap.size + 1 + 1 := by have := HFB8.out.f.lt; have := HFB8.out.mo; have := HFB8.out.oa; omega
                          have n2 : w.heap.size + 1 + 1 ≠ ba := fun h => n1 h.symm
                          go_wp2_with fail
                          go_region
                          go_wp2_with fail
                          simp +zetaDelta only [Exit.noGoto, Exit.inBlock, Exit.then]
                          have hbk : Blk (((((((((w8.setCell ⟨w.heap.size + 1 + 1, 0, none⟩ (.string ⟨#[]⟩)).setCell ⟨w.heap.size + 1 + 1, 1, none⟩ (.string ⟨#[]⟩)).setCell ⟨w.heap.size + 1 + 1, 2, none⟩ (.string ⟨#[]⟩)).setCell ⟨w.heap.size + 1 + 1, 3, none⟩ (.string ⟨#[]⟩)).setCell ⟨w.heap.size + 1 + 1, 4, none⟩ (.string ⟨#[]⟩)).setCell ⟨w.heap.size + 1 + 1, 5, none⟩ (.string ⟨#[]⟩)).setCell ⟨w.heap.size + 1 + 1, 6, none⟩ (.string ⟨#[]⟩)).setCell ⟨w.heap.size + 1 + 1, 7, none⟩ (.string ⟨#[]⟩)).setCell ⟨w.heap.size + 1 + 1, 8, none⟩ (.string ⟨#[]⟩)).drew (w.heap.size + 1 + 1) 26 Z9 := (((((((((HFB8.out.f.r.set_ 0 (.string ⟨#[]⟩)).set_ 1 (.string ⟨#[]⟩)).set_ 2 (.string ⟨#[]⟩)).set_ 3 (.string ⟨#[]⟩)).set_ 4 (.string ⟨#[]⟩)).set_ 5 (.string ⟨#[]⟩)).set_ 6 (.string ⟨#[]⟩)).set_ 7 (.string ⟨#[]⟩)).set_ 8 (.string ⟨#[]⟩)).drew
                          refine bodyPost_ret (results_ctt (p := 4) (u := 5) (x := 6) rfl _ _ (w.heap.size + 1 + 1) 26 _ _ rfl hbk Tryz.underlying26 rfl (by kernel_rfl)) rfl ⟨?_, (((((((((HFB8.out.f.bel.setCell (p := ⟨w.heap.size + 1 + 1, 0, none⟩) (by show w.heap.size ≤ w.heap.size + 1 + 1; omega) (.string ⟨#[]⟩)).setCell (p := ⟨w.heap.size + 1 + 1, 1, none⟩) (by show w.heap.size ≤ w.heap.size + 1 + 1; omega) (.string ⟨#[]⟩)).setCell (p := ⟨w.heap.size + 1 + 1, 2, none⟩) (by show w.heap.size ≤ w.heap.size + 1 + 1; omega) (.string ⟨#[]⟩)).setCell (p := ⟨w.heap.size + 1 + 1, 3, none⟩) (by show w.heap.size ≤ w.heap.size + 1 + 1; omega) (.string ⟨#[]⟩)).setCell (p := ⟨w.heap.size + 1 + 1, 4, none⟩) (by show w.heap.size ≤ w.heap.size + 1 + 1; omega) (.string ⟨#[]⟩)).setCell (p := ⟨w.heap.size + 1 + 1, 5, none⟩) (by show w.heap.size ≤ w.heap.size + 1 + 1; omega) (.string ⟨#[]⟩)).setCell (p := ⟨w.heap.size + 1 + 1, 6, none⟩) (by show w.heap.size ≤ w.heap.size + 1 + 1; omega) (.string ⟨#[]⟩)).setCell (p := ⟨w.heap.size + 1 + 1, 7, none⟩) (by show w.heap.size ≤ w.heap.size + 1 + 1; omega) (.string ⟨#[]⟩)).setCell (p := ⟨w.heap.size + 1 + 1, 8, none⟩) (by show w.heap.size ≤ w.heap.size + 1 + 1; omega) (.string ⟨#[]⟩)).drew⟩
                          rw [HFIN.out]; rfl
                        | true =>
                          rw [hiv] at CI
                          have HST : Hid (stepR (mrk s.ps) numB p (r.drop (k + 1)) (t.drop j) out = if p.a <+: V.drop e then readR (mrk s.ps) numB (r.drop (k + 1)) ((V.drop e).drop p.a.length) (out.set p.k.toNat (V.take e)) else .miss (V.drop e).length) := by
                            show _ = _
                            unfold stepR
                            rw [HVV.out, HTW.out, HDW.out, hiv, if_pos rfl]
                          clear hiv
                          refine wp_region_class h (by kernel_rfl) (by kernel_rfl) (hri _ (hru _).drew) ?_
                          repeat (go_big_quiet_step (first | with_reducible exact CI _))
                          refine wpQuiet_nil ?_
                          intro w8 hw8
                          obtain ⟨u, rfl⟩ := hw8
                          have HFB8 := hide (HFB6.out.to (hru u))
                          have HX8 := hide (HX6.out.to (hru u))
                          revert HFB8 HX8
                          generalize h u = w8
                          intro HFB8 HX8
                          clear CI x0 x1 x2 x3 HFB6 HX6 hru hri
                          have x0 : w8.cell? ⟨bx, 0, none⟩ = some (.int .i64 (kp : Int)) := HX8.out.cell 0
                          have hkl : kp < out.length := by rw [hol]; exact hkp9
                          have o0 := (HFB8.out.o.cell kp).trans (fieldsC_at (List.getElem?_eq_getElem hkl))
                          have o1 := HFB8.out.o.frozen kp
                          have HFB9 : Hid (FB w #[.string (bs s.c), .slice A s.ps.length cp] t bm bo ba L (out.set kp (V.take e)) j2 (w8.setCell ⟨bo, kp, none⟩ (.string (bs (V.take e)))).drew) := (HFB8.out.setO kp (V.take e)).drew
                          have HX9 : Hid (Blk (w8.setCell ⟨bo, kp, none⟩ (.string (bs (V.take e)))).drew bx 41 #[.int .i64 (kp : Int), .string (bs p.b), .string (bs p.a), .bool p.need]) := (HX8.out.far (p := ⟨bo, kp, none⟩) (by show bx ≠ bo; exact fun e => hbox e.symm) (.string (bs (V.take e)))).drew
                          generalize out[kp]'hkl = oo at *
                          go_wp2_with fail
                          go_region
                          clear x0 o0 o1 HFB8 HX8
                          generalize (w8.setCell ⟨bo, kp, none⟩ (.string (bs (V.take e)))).drew = w9 at *
                          obtain ⟨j3, hj3⟩ : ∃ x, j2 + e = x := ⟨_, rfl⟩
                          have ej3 : (j2 : Int) + (e : Int) = (j3 : Int) := by omega
                          have a0 : w9.cell? ⟨ba, 0, none⟩ = some (.int .i64 (j2 : Int)) := HFB9.out.a.cell 0
                          have fa : w9.frozen? ⟨ba, 0, none⟩ = false := HFB9.out.a.frozen 0
                          have HFBa : Hid (FB w #[.string (bs s.c), .slice A s.ps.length cp] t bm bo ba L (out.set kp (V.take e)) j3 (w9.setCell ⟨ba, 0, none⟩ (.int .i64 (j3 : Int)))) := HFB9.out.setA j3
                          have HXa := hide (HX9.out.far (p := ⟨ba, 0, none⟩) (by show bx ≠ ba; exact fun e => hbax e.symm) (.int .i64 (j3 : Int)))
                          have HJ3 := hide hj3
                          have hj3l : j3 ≤ t.length := by have := HVL.out; have := HJ2.out; omega
                          have HD3 : Hid (t.drop j3 = V.drop e) := by show _ = _; rw [← HVV.out, List.drop_drop, List.drop_drop]; have := HJ2.out; have := HJ3.out; congr 1; omega
                          clear hj3
                          go_upto_region 31 with fail
                          clear a0 fa ej3 HFB9 HX9
                          generalize w9.setCell ⟨ba, 0, none⟩ (.int .i64 (j3 : Int)) = wa at *
                          obtain ⟨Ua, hUa, g, ua, rfl, hgu, hgi⟩ := cls wa
                          have a0 := fun u => (((HFBa.out.to (hgu u)).a.cell 0).trans (show _ = some (Value.int IntKind.i64 (j3 : Int)) from rfl))
                          have t0 := fun u => (((HFBa.out.to (hgu u)).f.t.cell 0).trans (show _ = some (Value.string (bs t)) from rfl))
                          have x2 := fun u => (((HXa.out.to (hgu u)).cell 2).trans (show _ = some (Value.string (bs p.a)) from rfl))
                          have hx3 : (bs t).extract j3 t.length = bs (V.drop e) := by rw [bs_cut, ← HD3.out, List.take_of_length_le (by rw [List.length_drop]; omega)]
                          have CH : ∀ u, Calls Tryz.prog 74 #[.string (bs (V.drop e)), .string (bs p.a)] (g u) fun e' w' => e' = .returned (.bool (decide (p.a <+: V.drop e))) ∧ ∃ u', w' = g u' := fun u => cls_call hgu hgi (fun W hb => (HasPrefix_any (V.drop e) p.a W).mono fun e w' h => ⟨h.1, h.2 ▸ Below.refl _ _⟩) u
                          by_cases hpa : p.a <+: V.drop e
                          · rw [decide_eq_true hpa] at CH
                            rw [if_pos hpa] at HST
                            have HPA := hide hpa
                            clear hpa
                            refine wp_region_class g (by kernel_rfl) (by kernel_rfl) (hgi _ (hgu _).drew) ?_
                            repeat (go_big_quiet_step (first | with_reducible exact CH _))
                            refine wpQuiet_nil ?_
                            intro wb hwb
                            obtain ⟨u, rfl⟩ := hwb
                            have HFBb := hide (HFBa.out.to (hgu u))
                            have HXb := hide (HXa.out.to (hgu u))
                            revert HFBb HXb
                            generalize g u = wb
                            intro HFBb HXb
                            clear CH a0 t0 x2 HFBa HXa hgu hgi hx3
                            obtain ⟨j4, hj4⟩ : ∃ x, j3 + p.a.length = x := ⟨_, rfl⟩
                            have ej4 : (j3 : Int) + (p.a.length : Int) = (j4 : Int) := by omega
                            have hsza := bs_size p.a
                            have hpal := HPA.out.length_le
                            have hj4l : j4 ≤ t.length := by
                              have h1 : (V.drop e).length = t.length - j3 := by rw [← HD3.out, List.length_drop]
                              omega
                            have a0 : wb.cell? ⟨ba, 0, none⟩ = some (.int .i64 (j3 : Int)) := HFBb.out.a.cell 0
                            have x2 : wb.cell? ⟨bx, 2, none⟩ = some (.string (bs p.a)) := HXb.out.cell 2
                            have fa : wb.frozen? ⟨ba, 0, none⟩ = false := HFBb.out.a.frozen 0
                            have HFBc : Hid (FB w #[.string (bs s.c), .slice A s.ps.length cp] t bm bo ba L (out.set kp (V.take e)) j4 (wb.setCell ⟨ba, 0, none⟩ (.int .i64 (j4 : Int)))) := HFBb.out.setA j4
                            have HJ4 := hide hj4
                            have HRN : Hid (RdI s t (r.drop (k + 1)) j4 (out.set kp (V.take e))) := by
                              refine ⟨?_, fun q hq => HRI0.out.sub q (List.mem_of_mem_drop hq), by rw [List.length_set]; exact hol, by rw [List.length_drop]; omega, hj4l⟩
                              rw [← HRI.out.eq, HDR.out, rd_yes HSK.out HPRE.out, HST.out, ← HD3.out, List.drop_drop, HJ4.out, HKP.out]
                              rfl
                            clear hj4 HST
                            by_cases hcc : c' = k + 1
                            · have hrl : r.length = k + 1 := by omega
                              have hd0 : r.drop (k + 1) = [] := List.drop_of_length_le (by omega)
                              have HPN : Hid (∀ A'', PartsAt w (.slice A'' 0 0) (r.drop (k + 1))) := fun A'' => by rw [hd0]; exact ⟨A'', 0, rfl, Nat.zero_le _, by simp, fun i x hx => by simp at hx⟩
                              clear hd0
                              go_wp2_with fail
                              go_roundw
                              case rel => exact ⟨r.drop (k + 1), j4, _, HPN.out _, HFBc.out, HRN.out⟩
                              case measure => simp [lenV]; omega
                            · have hc0' : ¬ (c' - (k + 1) = 0) := by omega
                              have HPN : Hid (PartsAt w (.slice (some (ad.add ((k + 1) * 4))) (r.length - (k + 1)) (c' - (k + 1))) (r.drop (k + 1))) := by
                                have := RowsAt.drop (k := k + 1) HPV.out (by rw [List.length_map]; omega) (c' - (k + 1)) (by rw [List.length_map]; omega)
                                rw [List.length_map] at this
                                show RowsAt _ _ _ _
                                rw [List.map_drop]
                                exact this
                              go_wp2_with fail
                              go_roundw
                              case rel => exact ⟨r.drop (k + 1), j4, _, HPN.out, HFBc.out, HRN.out⟩
                              case measure => simp [lenV]; omega
                          · rw [decide_eq_false hpa] at CH
                            rw [if_neg hpa] at HST
                            have HFIN : Hid (readF (validB isNm s) numB s.ps t = (zeroF, missE j3 t.length, (j3 : Int))) := by
                              show _ = _
                              have h1 : (V.drop e).length = t.length - j3 := by rw [← HD3.out, List.length_drop]
                              rw [HRY.out, ← HRI.out.eq, HDR.out, rd_yes HSK.out HPRE.out, HST.out, h1]
                              show ((zeroF, (if t.length - j3 = 0 then (6 : Int) else 5), (t.length : Int) - ((t.length - j3 : Nat) : Int)) : List (List UInt8) × Int × Int) = _
                              rw [show (t.length : Int) - ((t.length - j3 : Nat) : Int) = (j3 : Int) by omega]
                              unfold missE
                              by_cases hh : j3 = t.length
                              · rw [if_pos (by omega), if_pos hh]
                              · rw [if_neg (by omega), if_neg hh]
                            clear hpa HST
                            refine wp_region_class g (by kernel_rfl) (by kernel_rfl) (hgi _ (hgu _).drew) ?_
                            repeat (go_big_quiet_step (first | with_reducible exact CH _))
                            refine wpQuiet_nil ?_
                            intro wb hwb
                            obtain ⟨u, rfl⟩ := hwb
                            have HFBb := hide (HFBa.out.to (hgu u))
                            clear CH a0 t0 x2 HXa hx3
                            go_wp2_with fail
                            refine (missing_any t j3 hj3l ht ba (w.heap.size + 1) (g u) HFBb.out.a HFBb.out.f.t).mono ?_
                            rintro e wm ⟨rfl, hbm⟩
                            have HFm := hide (HFBb.out.f.to hbm)
                            unfold Z9
                            have z0 : wm.cell? ⟨w.heap.size + 1 + 1, 0, none⟩ = some (.string ⟨#[]⟩) := HFm.out.r.cell 0
                            have y0 := HFm.out.r.frozen 0
                            have z1 : wm.cell? ⟨w.heap.size + 1 + 1, 1, none⟩ = some (.string ⟨#[]⟩) := HFm.out.r.cell 1
                            have y1 := HFm.out.r.frozen 1
                            have z2 : wm.cell? ⟨w.heap.size + 1 + 1, 2, none⟩ = some (.string ⟨#[]⟩) := HFm.out.r.cell 2
                            have y2 := HFm.out.r.frozen 2
                            have z3 : wm.cell? ⟨w.heap.size + 1 + 1, 3, none⟩ = some (.string ⟨#[]⟩) := HFm.out.r.cell 3
                            have y3 := HFm.out.r.frozen 3
                            have z4 : wm.cell? ⟨w.heap.size + 1 + 1, 4, none⟩ = some (.string ⟨#[]⟩) := HFm.out.r.cell 4
                            have y4 := HFm.out.r.frozen 4
                            have z5 : wm.cell? ⟨w.heap.size + 1 + 1, 5, none⟩ = some (.string ⟨#[]⟩) := HFm.out.r.cell 5
                            have y5 := HFm.out.r.frozen 5
                            have z6 : wm.cell? ⟨w.heap.size + 1 + 1, 6, none⟩ = some (.string ⟨#[]⟩) := HFm.out.r.cell 6
                            have y6 := HFm.out.r.frozen 6
                            have z7 : wm.cell? ⟨w.heap.size + 1 + 1, 7, none⟩ = some (.string ⟨#[]⟩) := HFm.out.r.cell 7
                            have y7 := HFm.out.r.frozen 7
                            have z8 : wm.cell? ⟨w.heap.size + 1 + 1, 8, none⟩ = some (.string ⟨#[]⟩) := HFm.out.r.cell 8
                            have y8 := HFm.out.r.frozen 8
                            go_wp2_with fail
                            simp +zetaDelta only [Exit.noGoto, Exit.inBlock, Exit.then]
                            have hbk : Blk (((((((((wm.setCell ⟨w.heap.size + 1 + 1, 0, none⟩ (.string ⟨#[]⟩)).setCell ⟨w.heap.size + 1 + 1, 1, none⟩ (.string ⟨#[]⟩)).setCell ⟨w.heap.size + 1 + 1, 2, none⟩ (.string ⟨#[]⟩)).setCell ⟨w.heap.size + 1 + 1, 3, none⟩ (.string ⟨#[]⟩)).setCell ⟨w.heap.size + 1 + 1, 4, none⟩ (.string ⟨#[]⟩)).setCell ⟨w.heap.size + 1 + 1, 5, none⟩ (.string ⟨#[]⟩)).setCell ⟨w.heap.size + 1 + 1, 6, none⟩ (.string ⟨#[]⟩)).setCell ⟨w.heap.size + 1 + 1, 7, none⟩ (.string ⟨#[]⟩)).setCell ⟨w.heap.size + 1 + 1, 8, none⟩ (.string ⟨#[]⟩)) (w.heap.size + 1 + 1) 26 Z9 := (((((((((HFm.out.r.set_ 0 (.string ⟨#[]⟩)).set_ 1 (.string ⟨#[]⟩)).set_ 2 (.string ⟨#[]⟩)).set_ 3 (.string ⟨#[]⟩)).set_ 4 (.string ⟨#[]⟩)).set_ 5 (.string ⟨#[]⟩)).set_ 6 (.string ⟨#[]⟩)).set_ 7 (.string ⟨#[]⟩)).set_ 8 (.string ⟨#[]⟩))
                            refine bodyPost_ret (results_ctt (p := 4) (u := 5) (x := 6) rfl _ _ (w.heap.size + 1 + 1) 26 _ _ rfl hbk Tryz.underlying26 rfl (by kernel_rfl)) rfl ⟨?_, (((((((((HFm.out.bel.setCell (p := ⟨w.heap.size + 1 + 1, 0, none⟩) (by show w.heap.size ≤ w.heap.size + 1 + 1; omega) (.string ⟨#[]⟩)).setCell (p := ⟨w.heap.size + 1 + 1, 1, none⟩) (by show w.heap.size ≤ w.heap.size + 1 + 1; omega) (.string ⟨#[]⟩)).setCell (p := ⟨w.heap.size + 1 + 1, 2, none⟩) (by show w.heap.size ≤ w.heap.size + 1 + 1; omega) (.string ⟨#[]⟩)).setCell (p := ⟨w.heap.size + 1 + 1, 3, none⟩) (by show w.heap.size ≤ w.heap.size + 1 + 1; omega) (.string ⟨#[]⟩)).setCell (p := ⟨w.heap.size + 1 + 1, 4, none⟩) (by show w.heap.size ≤ w.heap.size + 1 + 1; omega) (.string ⟨#[]⟩)).setCell (p := ⟨w.heap.size + 1 + 1, 5, none⟩) (by show w.heap.size ≤ w.heap.size + 1 + 1; omega) (.string ⟨#[]⟩)).setCell (p := ⟨w.heap.size + 1 + 1, 6, none⟩) (by show w.heap.size ≤ w.heap.size + 1 + 1; omega) (.string ⟨#[]⟩)).setCell (p := ⟨w.heap.size + 1 + 1, 7, none⟩) (by show w.heap.size ≤ w.heap.size + 1 + 1; omega) (.string ⟨#[]⟩)).setCell (p := ⟨w.heap.size + 1 + 1, 8, none⟩) (by show w.heap.size ≤ w.heap.size + 1 + 1; omega) (.string ⟨#[]⟩))⟩
                            rw [HFIN.out]; rfl
                  · rw [if_neg hpre, decide_eq_false hpre] at CC
                    cases hn : p.need with
                    | true =>
                      have HFIN : Hid (readF (validB isNm s) numB s.ps t = (zeroF, missE j t.length, (j : Int))) := by
                        show _ = _
                        rw [HRY.out, ← HRI.out.eq, HDR.out, rd_miss HSK.out hpre hn, List.length_drop]
                        show ((zeroF, (if t.length - j = 0 then (6 : Int) else 5), (t.length : Int) - ((t.length - j : Nat) : Int)) : List (List UInt8) × Int × Int) = _
                        rw [show (t.length : Int) - ((t.length - j : Nat) : Int) = (j : Int) by omega]
                        unfold missE
                        by_cases hh : j = t.length
                        · rw [if_pos (by omega), if_pos hh]
                        · rw [if_neg (by omega), if_neg hh]
                      rw [hn] at x3
                      clear hpre hn
                      refine wp_region_class g5 (by kernel_rfl) (by kernel_rfl) (hgi5 _ (hgu5 _).drew) ?_
                      repeat (go_big_quiet_step (first | with_reducible exact CC _))
                      refine wpQuiet_nil ?_
                      intro w6 hw6
                      obtain ⟨u, rfl⟩ := hw6
                      have HFBb := hide (HFB5.out.to (hgu5 u))
                      go_wp2_with fail
                      refine (missing_any t j hj ht ba (w.heap.size + 1) (g5 u) HFBb.out.a HFBb.out.f.t).mono ?_
                      rintro e wm ⟨rfl, hbm⟩
                      have HFm := hide (HFBb.out.f.to hbm)
                      unfold Z9
                      have z0 : wm.cell? ⟨w.heap.size + 1 + 1, 0, none⟩ = some (.string ⟨#[]⟩) := HFm.out.r.cell 0
                      have y0 := HFm.out.r.frozen 0
                      have z1 : wm.cell? ⟨w.heap.size + 1 + 1, 1, none⟩ = some (.string ⟨#[]⟩) := HFm.out.r.cell 1
                      have y1 := HFm.out.r.frozen 1
                      have z2 : wm.cell? ⟨w.heap.size + 1 + 1, 2, none⟩ = some (.string ⟨#[]⟩) := HFm.out.r.cell 2
                      have y2 := HFm.out.r.frozen 2
                      have z3 : wm.cell? ⟨w.heap.size + 1 + 1, 3, none⟩ = some (.string ⟨#[]⟩) := HFm.out.r.cell 3
                      have y3 := HFm.out.r.frozen 3
                      have z4 : wm.cell? ⟨w.heap.size + 1 + 1, 4, none⟩ = some (.string ⟨#[]⟩) := HFm.out.r.cell 4
                      have y4 := HFm.out.r.frozen 4
                      have z5 : wm.cell? ⟨w.heap.size + 1 + 1, 5, none⟩ = some (.string ⟨#[]⟩) := HFm.out.r.cell 5
                      have y5 := HFm.out.r.frozen 5
                      have z6 : wm.cell? ⟨w.heap.size + 1 + 1, 6, none⟩ = some (.string ⟨#[]⟩) := HFm.out.r.cell 6
                      have y6 := HFm.out.r.frozen 6
                      have z7 : wm.cell? ⟨w.heap.size + 1 + 1, 7, none⟩ = some (.string ⟨#[]⟩) := HFm.out.r.cell 7
                      have y7 := HFm.out.r.frozen 7
                      have z8 : wm.cell? ⟨w.heap.size + 1 + 1, 8, none⟩ = some (.string ⟨#[]⟩) := HFm.out.r.cell 8
                      have y8 := HFm.out.r.frozen 8
                      go_wp2_with fail
                      simp +zetaDelta only [Exit.noGoto, Exit.inBlock, Exit.then]
                      have hbk : Blk (((((((((wm.setCell ⟨w.heap.size + 1 + 1, 0, none⟩ (.string ⟨#[]⟩)).setCell ⟨w.heap.size + 1 + 1, 1, none⟩ (.string ⟨#[]⟩)).setCell ⟨w.heap.size + 1 + 1, 2, none⟩ (.string ⟨#[]⟩)).setCell ⟨w.heap.size + 1 + 1, 3, none⟩ (.string ⟨#[]⟩)).setCell ⟨w.heap.size + 1 + 1, 4, none⟩ (.string ⟨#[]⟩)).setCell ⟨w.heap.size + 1 + 1, 5, none⟩ (.string ⟨#[]⟩)).setCell ⟨w.heap.size + 1 + 1, 6, none⟩ (.string ⟨#[]⟩)).setCell ⟨w.heap.size + 1 + 1, 7, none⟩ (.string ⟨#[]⟩)).setCell ⟨w.heap.size + 1 + 1, 8, none⟩ (.string ⟨#[]⟩)) (w.heap.size + 1 + 1) 26 Z9 := (((((((((HFm.out.r.set_ 0 (.string ⟨#[]⟩)).set_ 1 (.string ⟨#[]⟩)).set_ 2 (.string ⟨#[]⟩)).set_ 3 (.string ⟨#[]⟩)).set_ 4 (.string ⟨#[]⟩)).set_ 5 (.string ⟨#[]⟩)).set_ 6 (.string ⟨#[]⟩)).set_ 7 (.string ⟨#[]⟩)).set_ 8 (.string ⟨#[]⟩))
                      refine bodyPost_ret (results_ctt (p := 4) (u := 5) (x := 6) rfl _ _ (w.heap.size + 1 + 1) 26 _ _ rfl hbk Tryz.underlying26 rfl (by kernel_rfl)) rfl ⟨?_, (((((((((HFm.out.bel.setCell (p := ⟨w.heap.size + 1 + 1, 0, none⟩) (by show w.heap.size ≤ w.heap.size + 1 + 1; omega) (.string ⟨#[]⟩)).setCell (p := ⟨w.heap.size + 1 + 1, 1, none⟩) (by show w.heap.size ≤ w.heap.size + 1 + 1; omega) (.string ⟨#[]⟩)).setCell (p := ⟨w.heap.size + 1 + 1, 2, none⟩) (by show w.heap.size ≤ w.heap.size + 1 + 1; omega) (.string ⟨#[]⟩)).setCell (p := ⟨w.heap.size + 1 + 1, 3, none⟩) (by show w.heap.size ≤ w.heap.size + 1 + 1; omega) (.string ⟨#[]⟩)).setCell (p := ⟨w.heap.size + 1 + 1, 4, none⟩) (by show w.heap.size ≤ w.heap.size + 1 + 1; omega) (.string ⟨#[]⟩)).setCell (p := ⟨w.heap.size + 1 + 1, 5, none⟩) (by show w.heap.size ≤ w.heap.size + 1 + 1; omega) (.string ⟨#[]⟩)).setCell (p := ⟨w.heap.size + 1 + 1, 6, none⟩) (by show w.heap.size ≤ w.heap.size + 1 + 1; omega) (.string ⟨#[]⟩)).setCell (p := ⟨w.heap.size + 1 + 1, 7, none⟩) (by show w.heap.size ≤ w.heap.size + 1 + 1; omega) (.string ⟨#[]⟩)).setCell (p := ⟨w.heap.size + 1 + 1, 8, none⟩) (by show w.heap.size ≤ w.heap.size + 1 + 1; omega) (.string ⟨#[]⟩))⟩
                      rw [HFIN.out]; rfl
                    | false =>
                      have HRN : Hid (RdI s t (r.drop (k + 1)) j out) := ⟨by rw [← HRI.out.eq, HDR.out, rd_pass HSK.out hpre hn], fun q hq => HRI0.out.sub q (List.mem_of_mem_drop hq), hol, by rw [List.length_drop]; omega, hj⟩
                      rw [hn] at x3
                      clear hpre hn
                      refine wp_region_class g5 (by kernel_rfl) (by kernel_rfl) (hgi5 _ (hgu5 _).drew) ?_
                      repeat (go_big_quiet_step (first | with_reducible exact CC _))
                      refine wpQuiet_nil ?_
                      intro w6 hw6
                      obtain ⟨u, rfl⟩ := hw6
                      have HFBb := hide (HFB5.out.to (hgu5 u))
                      go_wp2_with fail
                      go_roundw
                      case rel => exact ⟨k + 1, by omega, by go_num, rfl, HFBb.out, HRN.out⟩
                      case measure => simp [intOf]; omega
                | false =>
                  by_cases hb0 : p.b = []
                  · have HRN : Hid (RdI s t (r.drop (k + 1)) j out) := ⟨by rw [← HRI.out.eq, HDR.out, rd_skip ⟨by rw [hj1, List.drop_length], hn, hb0⟩], fun q hq => HRI0.out.sub q (List.mem_of_mem_drop hq), hol, by rw [List.length_drop]; omega, hj⟩
                    have g0 : (bs p.b).toList.isEmpty = true := by rw [bs_toList, hb0]; rfl
                    rw [hn] at x3
                    clear hn hj1 hb0
                    go_wp2_with fail
                    go_roundw
                    case rel => exact ⟨k + 1, by omega, by go_num, rfl, HFB5.out, HRN.out⟩
                    case measure => simp [intOf]; omega
                  · have HSK : Hid (¬ (t.drop j = [] ∧ p.need = false ∧ p.b = [])) := fun h => hb0 h.2.2
                    have g0 : (bs p.b).toList.isEmpty = false := by rw [bs_toList]; cases hq : p.b with | nil => exact absurd hq hb0 | cons a l => rfl
                    rw [hn] at x3
                    have hn' := hide hn
                    have hj' := hide hj1
                    have hb' := hide hb0
                    clear hn hj1 hb0
                    go_upto_region 19 with fail
                    clear a0 t0 x1 x3 f0 g0
                    have hn := hn'.out
                    have hj1 := hj'.out
                    have hb0 := hb'.out
                    obtain ⟨U5, hU5, g5, u5, rfl, hgu5, hgi5⟩ := cls w5
                    have a0 := fun u => (((HFB5.out.to (hgu5 u)).a.cell 0).trans (show _ = some (Value.int IntKind.i64 (j : Int)) from rfl))
                    have t0 := fun u => (((HFB5.out.to (hgu5 u)).f.t.cell 0).trans (show _ = some (Value.string (bs t)) from rfl))
                    have x1 := fun u => (((HX5.out.to (hgu5 u)).cell 1).trans (show _ = some (Value.string (bs p.b)) from rfl))
                    have x3 := fun u => (((HX5.out.to (hgu5 u)).cell 3).trans (show _ = some (Value.bool p.need) from rfl))
                    have hx : (bs t).extract j t.length = bs (t.drop j) := by rw [bs_cut, List.take_of_length_le (by rw [List.length_drop]; omega)]
                    have CC : ∀ u, Calls Tryz.prog 72 #[.string (bs (t.drop j)), .string (bs p.b)] (g5 u) fun e w' => e = .returned (.tuple #[.string (bs (if p.b <+: t.drop j then (t.drop j).drop p.b.length else t.drop j)), .bool (decide (p.b <+: t.drop j))]) ∧ ∃ u', w' = g5 u' := fun u => cls_call hgu5 hgi5 (fun W hb => (CutPrefix_any (t.drop j) p.b W).mono fun e w' h => ⟨h.1, h.2 ▸ Below.refl _ _⟩) u
                    have hpre : ¬ p.b <+: t.drop j := fun h => by
                      rw [hj1, List.drop_length] at h
                      exact hb0 (List.eq_nil_of_prefix_nil h)
                    rw [if_neg hpre, decide_eq_false hpre] at CC
                    have HRN : Hid (RdI s t (r.drop (k + 1)) j out) := ⟨by rw [← HRI.out.eq, HDR.out, rd_pass HSK.out hpre hn], fun q hq => HRI0.out.sub q (List.mem_of_mem_drop hq), hol, by rw [List.length_drop]; omega, hj⟩
                    rw [hn] at x3
                    clear hpre hn hj1 hb0
                    refine wp_region_class g5 (by kernel_rfl) (by kernel_rfl) (hgi5 _ (hgu5 _).drew) ?_
                    repeat (go_big_quiet_step (first | with_reducible exact CC _))
                    refine wpQuiet_nil ?_
                    intro w6 hw6
                    obtain ⟨u, rfl⟩ := hw6
                    have HFBb := hide (HFB5.out.to (hgu5 u))
                    go_wp2_with fail
                    go_roundw
                    case rel => exact ⟨k + 1, by omega, by go_num, rfl, HFBb.out, HRN.out⟩
                    case measure => simp [intOf]; omega
              · have f0 : ((j : Int) == (t.length : Int)) = false := by rw [beq_eq_false_iff_ne]; omega
                have HSK : Hid (¬ (t.drop j = [] ∧ p.need = false ∧ p.b = [])) := fun h => hj1 (by have := congrArg List.length h.1; rw [List.length_drop] at this; simp at this; omega)
                clear hj1
                go_upto_region 19 with fail
                clear a0 t0 x1 x3 f0
                obtain ⟨U5, hU5, g5, u5, rfl, hgu5, hgi5⟩ := cls w5
                have a0 := fun u => (((HFB5.out.to (hgu5 u)).a.cell 0).trans (show _ = some (Value.int IntKind.i64 (j : Int)) from rfl))
                have t0 := fun u => (((HFB5.out.to (hgu5 u)).f.t.cell 0).trans (show _ = some (Value.string (bs t)) from rfl))
                have x1 := fun u => (((HX5.out.to (hgu5 u)).cell 1).trans (show _ = some (Value.string (bs p.b)) from rfl))
                have x3 := fun u => (((HX5.out.to (hgu5 u)).cell 3).trans (show _ = some (Value.bool p.need) from rfl))
                have hx : (bs t).extract j t.length = bs (t.drop j) := by rw [bs_cut, List.take_of_length_le (by rw [List.length_drop]; omega)]
                have CC : ∀ u, Calls Tryz.prog 72 #[.string (bs (t.drop j)), .string (bs p.b)] (g5 u) fun e w' => e = .returned (.tuple #[.string (bs (if p.b <+: t.drop j then (t.drop j).drop p.b.length else t.drop j)), .bool (decide (p.b <+: t.drop j))]) ∧ ∃ u', w' = g5 u' := fun u => cls_call hgu5 hgi5 (fun W hb => (CutPrefix_any (t.drop j) p.b W).mono fun e w' h => ⟨h.1, h.2 ▸ Below.refl _ _⟩) u
                by_cases hpre : p.b <+: t.drop j
                · rw [if_pos hpre, decide_eq_true hpre] at CC
                  have HPRE := hide hpre
                  obtain ⟨V, hV⟩ : ∃ V, (t.drop j).drop p.b.length = V := ⟨_, rfl⟩
                  rw [hV] at CC
                  have HVV := hide hV
                  have HVL : Hid (V.length + p.b.length = t.length - j) := by
                    show _ = _
                    have h1 := hpre.length_le
                    rw [← hV, List.length_drop, List.length_drop]
                    rw [List.length_drop] at h1
                    omega
                  have hszV := bs_size V
                  clear hV hpre
                  refine wp_region_class g5 (by kernel_rfl) (by kernel_rfl) (hgi5 _ (hgu5 _).drew) ?_
                  repeat (go_big_quiet_step (first | with_reducible exact CC _))
                  refine wpQuiet_nil ?_
                  intro w6 hw6
                  obtain ⟨u, rfl⟩ := hw6
                  have HFB6 := hide (HFB5.out.to (hgu5 u))
                  have HX6 := hide (HX5.out.to (hgu5 u))
                  revert HFB6 HX6
                  generalize g5 u = w6
                  intro HFB6 HX6
                  clear CC a0 t0 x1 x3 HFB5 HX5 hgu5 hgi5 hx
                  have HFB5 := HFB6
                  have HX5 := HX6
                  clear HFB6 HX6
                  have x0 : w6.cell? ⟨bx, 0, none⟩ = some (.int .i64 (kp : Int)) := HX5.out.cell 0
                  have x1 : w6.cell? ⟨bx, 1, none⟩ = some (.string (bs p.b)) := HX5.out.cell 1
                  have x2 : w6.cell? ⟨bx, 2, none⟩ = some (.string (bs p.a)) := HX5.out.cell 2
                  have x3 : w6.cell? ⟨bx, 3, none⟩ = some (.bool p.need) := HX5.out.cell 3
                  have a0 : w6.cell? ⟨ba, 0, none⟩ = some (.int .i64 (j : Int)) := HFB5.out.a.cell 0
                  have t0 : w6.cell? ⟨w.heap.size + 1, 0, none⟩ = some (.string (bs t)) := HFB5.out.f.t.cell 0
                  have hVl : V.length ≤ t.length := by have := HVL.out; omega
                  have hbl : p.b.length ≤ t.length - j := by have := HVL.out; omega
                  have hvj : V.length + p.b.length + j ≤ t.length := by have := HVL.out; omega
                  go_wp2_with fail
                  go_loopw [19] (fun i wr => ∃ e : Nat, e ≤ V.length ∧ i = .int .i64 (e : Int) ∧ (∀ m c, m < e → V[m]? = some c → mrk s.ps c = false) ∧ wr = w6) (fun i _ => V.length - (intOf i).toNat)
                  case atStart => exact ⟨0, by omega, rfl, fun m c h => absurd h (by omega), rfl⟩
                  case round =>
                    obtain ⟨e, hel, rfl, hnm, hwr⟩ := hrel
                    have hwr := hwr.symm
                    subst hwr
                    have HNM := hide hnm
                    clear hnm
                    by_cases helt : e < V.length
                    · have f1 : decide ((e : Int) < (V.length : Int)) = true := decide_eq_true (by omega)
                      obtain ⟨c, hcv⟩ : ∃ c, V[e]? = some c := ⟨_, List.getElem?_eq_getElem helt⟩
                      have ci := index_bs V e c hcv
                      have mc : w6.cell? ⟨bm, c.toNat, none⟩ = some (.bool (mrk s.ps c)) := (HFB5.out.f.m.cell c.toNat).trans (boolC_at (HM.out.2 c))
                      have c0 := c.toNat_lt
                      cases hmk : mrk s.ps c with
                      | true =>
                        rw [hmk] at mc
                        have hE : e = V.length ∨ ∃ c, V[e]? = some c ∧ mrk s.ps c = true := .inr ⟨c, hcv, hmk⟩
                        clear hcv hmk
                        go_upto_region 26 with fail
                        clear ci mc c0
                        have hw := tw_at V e hel HNM.out hE
                        have HTW := hide hw.1
                        have HDW := hide hw.2
                        clear hw hE HNM
                        have HVT : Hid ((bs V).extract 0 e = bs (V.take e)) := by show _ = _; rw [bs_cut]; simp
                        have hvt := HVT.out
                        have hvl : (V.take e).length ≤ 100000 := by rw [List.length_take]; omega
                        obtain ⟨j2, hj2⟩ : ∃ x, j + p.b.length = x := ⟨_, rfl⟩
                        have ej2 : (j : Int) + (p.b.length : Int) = (j2 : Int) := by omega
                        have hszb := bs_size p.b
                        have HFB6 : Hid (FB w #[.string (bs s.c), .slice A s.ps.length cp] t bm bo ba L out j2 (w6.setCell ⟨ba, 0, none⟩ (.int .i64 (j2 : Int)))) := HFB5.out.setA j2
                        have fa : w6.frozen? ⟨ba, 0, none⟩ = false := HFB5.out.a.frozen 0
                        have HX6 := hide (HX5.out.far (p := ⟨ba, 0, none⟩) (by show bx ≠ ba; exact fun e => hbax e.symm) (.int .i64 (j2 : Int)))
                        have HJ2 := hide hj2
                        have hj2l : j2 ≤ t.length := by omega
                        clear hj2
                        go_upto_region 27 with fail
                        clear a0 fa ej2 hszb x0 x1 x2 x3 t0
                        generalize w6.setCell ⟨ba, 0, none⟩ (.int .i64 (j2 : Int)) = w7 at *
                        obtain ⟨U7, hU7, h, u7, rfl, hru, hri⟩ := cls w7
                        have x0 := fun u => (((HX6.out.to (hru u)).cell 0).trans (show _ = some (Value.int IntKind.i64 (kp : Int)) from rfl))
                        have x1 := fun u => (((HX6.out.to (hru u)).cell 1).trans (show _ = some (Value.string (bs p.b)) from rfl))
                        have x2 := fun u => (((HX6.out.to (hru u)).cell 2).trans (show _ = some (Value.string (bs p.a)) from rfl))
                        have x3 := fun u => (((HX6.out.to (hru u)).cell 3).trans (show _ = some (Value.bool p.need) from rfl))
                        have CI : ∀ u, Calls Tryz.prog 73 #[.agg #[.int .i64 (kp : Int), .string (bs p.b), .string (bs p.a), .bool p.need], .string (bs (V.take e))] (h u) fun e' w' => e' = .returned (.bool (isVal numB p.k (V.take e))) ∧ ∃ u', w' = h u' := fun u => by
                          have := cls_call hru hri (fun W hb => isValue_any p (V.take e) hvl W (HGo.out.to (below_to HFB6.out.f.bel (Nat.le_refl _) hb))) u
                          rw [HKP.out] at this ⊢
                          exact this
                        cases hiv : isVal numB p.k (V.take e) with
                        | false =>
                          rw [hiv] at CI
                          have HFIN : Hid (readF (validB isNm s) numB s.ps t = (zeroF, 1, (j2 : Int))) := by
                            show _ = _
                            rw [HRY.out, ← HRI.out.eq, HDR.out, rd_yes HSK.out HPRE.out]
                            unfold stepR
                            rw [HVV.out, HTW.out, hiv]
                            show ((zeroF, (1 : Int), (t.length : Int) - (V.length : Int)) : List (List UInt8) × Int × Int) = _
                            have := HVL.out
                            have := HJ2.out
                            rw [show (t.length : Int) - (V.length : Int) = (j2 : Int) by omega]
                          clear hiv
                          refine wp_region_class h (by kernel_rfl) (by kernel_rfl) (hri _ (hru _).drew) ?_
                          repeat (go_big_quiet_step (first | with_reducible exact CI _))
                          refine wpQuiet_nil ?_
                          intro w8 hw8
                          obtain ⟨u, rfl⟩ := hw8
                          have HFB8 := hide (HFB6.out.to (hru u))
                          revert HFB8
                          generalize h u = w8
                          intro HFB8
                          clear CI x0 x1 x2 x3 HFB6 HX6 hru hri
                          have z0 : w8.cell? ⟨w.heap.size + 1 + 1, 0, none⟩ = some (.string ⟨#[]⟩) := HFB8.out.f.r.cell 0
                          have y0 := HFB8.out.f.r.frozen 0
                          have z1 : w8.cell? ⟨w.heap.size + 1 + 1, 1, none⟩ = some (.string ⟨#[]⟩) := HFB8.out.f.r.cell 1
                          have y1 := HFB8.out.f.r.frozen 1
                          have z2 : w8.cell? ⟨w.heap.size + 1 + 1, 2, none⟩ = some (.string ⟨#[]⟩) := HFB8.out.f.r.cell 2
                          have y2 := HFB8.out.f.r.frozen 2
                          have z3 : w8.cell? ⟨w.heap.size + 1 + 1, 3, none⟩ = some (.string ⟨#[]⟩) := HFB8.out.f.r.cell 3
                          have y3 := HFB8.out.f.r.frozen 3
                          have z4 : w8.cell? ⟨w.heap.size + 1 + 1, 4, none⟩ = some (.string ⟨#[]⟩) := HFB8.out.f.r.cell 4
                          have y4 := HFB8.out.f.r.frozen 4
                          have z5 : w8.cell? ⟨w.heap.size + 1 + 1, 5, none⟩ = some (.string ⟨#[]⟩) := HFB8.out.f.r.cell 5
                          have y5 := HFB8.out.f.r.frozen 5
                          have z6 : w8.cell? ⟨w.heap.size + 1 + 1, 6, none⟩ = some (.string ⟨#[]⟩) := HFB8.out.f.r.cell 6
                          have y6 := HFB8.out.f.r.frozen 6
                          have z7 : w8.cell? ⟨w.heap.size + 1 + 1, 7, none⟩ = some (.string ⟨#[]⟩) := HFB8.out.f.r.cell 7
                          have y7 := HFB8.out.f.r.frozen 7
                          have z8 : w8.cell? ⟨w.heap.size + 1 + 1, 8, none⟩ = some (.string ⟨#[]⟩) := HFB8.out.f.r.cell 8
                          have y8 := HFB8.out.f.r.frozen 8
                          have a0 : w8.cell? ⟨ba, 0, none⟩ = some (.int .i64 (j2 : Int)) := HFB8.out.a.cell 0
                          have n1 : ba ≠ w.heap.size + 1 + 1 := by have := HFB8.out.f.lt; have := HFB8.out.mo; have := HFB8.out.oa; omega
                          have n2 : w.heap.size + 1 + 1 ≠ ba := fun h => n1 h.symm
                          go_wp2_with fail
                          go_region
                          go_wp2_with fail
                          simp +zetaDelta only [Exit.noGoto, Exit.inBlock, Exit.then]
                          have hbk : Blk (((((((((w8.setCell ⟨w.heap.size + 1 + 1, 0, none⟩ (.string ⟨#[]⟩)).setCell ⟨w.heap.size + 1 + 1, 1, none⟩ (.string ⟨#[]⟩)).setCell ⟨w.heap.size + 1 + 1, 2, none⟩ (.string ⟨#[]⟩)).setCell ⟨w.heap.size + 1 + 1, 3, none⟩ (.string ⟨#[]⟩)).setCell ⟨w.heap.size + 1 + 1, 4, none⟩ (.string ⟨#[]⟩)).setCell ⟨w.heap.size + 1 + 1, 5, none⟩ (.string ⟨#[]⟩)).setCell ⟨w.heap.size + 1 + 1, 6, none⟩ (.string ⟨#[]⟩)).setCell ⟨w.heap.size + 1 + 1, 7, none⟩ (.string ⟨#[]⟩)).setCell ⟨w.heap.size + 1 + 1, 8, none⟩ (.string ⟨#[]⟩)).drew (w.heap.size + 1 + 1) 26 Z9 := (((((((((HFB8.out.f.r.set_ 0 (.string ⟨#[]⟩)).set_ 1 (.string ⟨#[]⟩)).set_ 2 (.string ⟨#[]⟩)).set_ 3 (.string ⟨#[]⟩)).set_ 4 (.string ⟨#[]⟩)).set_ 5 (.string ⟨#[]⟩)).set_ 6 (.string ⟨#[]⟩)).set_ 7 (.string ⟨#[]⟩)).set_ 8 (.string ⟨#[]⟩)).drew
                          refine bodyPost_ret (results_ctt (p := 4) (u := 5) (x := 6) rfl _ _ (w.heap.size + 1 + 1) 26 _ _ rfl hbk Tryz.underlying26 rfl (by kernel_rfl)) rfl ⟨?_, (((((((((HFB8.out.f.bel.setCell (p := ⟨w.heap.size + 1 + 1, 0, none⟩) (by show w.heap.size ≤ w.heap.size + 1 + 1; omega) (.string ⟨#[]⟩)).setCell (p := ⟨w.heap.size + 1 + 1, 1, none⟩) (by show w.heap.size ≤ w.heap.size + 1 + 1; omega) (.string ⟨#[]⟩)).setCell (p := ⟨w.heap.size + 1 + 1, 2, none⟩) (by show w.heap.size ≤ w.heap.size + 1 + 1; omega) (.string ⟨#[]⟩)).setCell (p := ⟨w.heap.size + 1 + 1, 3, none⟩) (by show w.heap.size ≤ w.heap.size + 1 + 1; omega) (.string ⟨#[]⟩)).setCell (p := ⟨w.heap.size + 1 + 1, 4, none⟩) (by show w.heap.size ≤ w.heap.size + 1 + 1; omega) (.string ⟨#[]⟩)).setCell (p := ⟨w.heap.size + 1 + 1, 5, none⟩) (by show w.heap.size ≤ w.heap.size + 1 + 1; omega) (.string ⟨#[]⟩)).setCell (p := ⟨w.heap.size + 1 + 1, 6, none⟩) (by show w.heap.size ≤ w.heap.size + 1 + 1; omega) (.string ⟨#[]⟩)).setCell (p := ⟨w.heap.size + 1 + 1, 7, none⟩) (by show w.heap.size ≤ w.heap.size + 1 + 1; omega) (.string ⟨#[]⟩)).setCell (p := ⟨w.heap.size + 1 + 1, 8, none⟩) (by show w.heap.size ≤ w.heap.size + 1 + 1; omega) (.string ⟨#[]⟩)).drew⟩
                          rw [HFIN.out]; rfl
                        | true =>
                          rw [hiv] at CI
                          have HST : Hid (stepR (mrk s.ps) numB p (r.drop (k + 1)) (t.drop j) out = if p.a <+: V.drop e then readR (mrk s.ps) numB (r.drop (k + 1)) ((V.drop e).drop p.a.length) (out.set p.k.toNat (V.take e)) else .miss (V.drop e).length) := by
                            show _ = _
                            unfold stepR
                            rw [HVV.out, HTW.out, HDW.out, hiv, if_pos rfl]
                          clear hiv
                          refine wp_region_class h (by kernel_rfl) (by kernel_rfl) (hri _ (hru _).drew) ?_
                          repeat (go_big_quiet_step (first | with_reducible exact CI _))
                          refine wpQuiet_nil ?_
                          intro w8 hw8
                          obtain ⟨u, rfl⟩ := hw8
                          have HFB8 := hide (HFB6.out.to (hru u))
                          have HX8 := hide (HX6.out.to (hru u))
                          revert HFB8 HX8
                          generalize h u = w8
                          intro HFB8 HX8
                          clear CI x0 x1 x2 x3 HFB6 HX6 hru hri
                          have x0 : w8.cell? ⟨bx, 0, none⟩ = some (.int .i64 (kp : Int)) := HX8.out.cell 0
                          have hkl : kp < out.length := by rw [hol]; exact hkp9
                          have o0 := (HFB8.out.o.cell kp).trans (fieldsC_at (List.getElem?_eq_getElem hkl))
                          have o1 := HFB8.out.o.frozen kp
                          have HFB9 : Hid (FB w #[.string (bs s.c), .slice A s.ps.length cp] t bm bo ba L (out.set kp (V.take e)) j2 (w8.setCell ⟨bo, kp, none⟩ (.string (bs (V.take e)))).drew) := (HFB8.out.setO kp (V.take e)).drew
                          have HX9 : Hid (Blk (w8.setCell ⟨bo, kp, none⟩ (.string (bs (V.take e)))).drew bx 41 #[.int .i64 (kp : Int), .string (bs p.b), .string (bs p.a), .bool p.need]) := (HX8.out.far (p := ⟨bo, kp, none⟩) (by show bx ≠ bo; exact fun e => hbox e.symm) (.string (bs (V.take e)))).drew
                          generalize out[kp]'hkl = oo at *
                          go_wp2_with fail
                          go_region
                          clear x0 o0 o1 HFB8 HX8
                          generalize (w8.setCell ⟨bo, kp, none⟩ (.string (bs (V.take e)))).drew = w9 at *
                          obtain ⟨j3, hj3⟩ : ∃ x, j2 + e = x := ⟨_, rfl⟩
                          have ej3 : (j2 : Int) + (e : Int) = (j3 : Int) := by omega
                          have a0 : w9.cell? ⟨ba, 0, none⟩ = some (.int .i64 (j2 : Int)) := HFB9.out.a.cell 0
                          have fa : w9.frozen? ⟨ba, 0, none⟩ = false := HFB9.out.a.frozen 0
                          have HFBa : Hid (FB w #[.string (bs s.c), .slice A s.ps.length cp] t bm bo ba L (out.set kp (V.take e)) j3 (w9.setCell ⟨ba, 0, none⟩ (.int .i64 (j3 : Int)))) := HFB9.out.setA j3
                          have HXa := hide (HX9.out.far (p := ⟨ba, 0, none⟩) (by show bx ≠ ba; exact fun e => hbax e.symm) (.int .i64 (j3 : Int)))
                          have HJ3 := hide hj3
                          have hj3l : j3 ≤ t.length := by have := HVL.out; have := HJ2.out; omega
                          have HD3 : Hid (t.drop j3 = V.drop e) := by show _ = _; rw [← HVV.out, List.drop_drop, List.drop_drop]; have := HJ2.out; have := HJ3.out; congr 1; omega
                          clear hj3
                          go_upto_region 31 with fail
                          clear a0 fa ej3 HFB9 HX9
                          generalize w9.setCell ⟨ba, 0, none⟩ (.int .i64 (j3 : Int)) = wa at *
                          obtain ⟨Ua, hUa, g, ua, rfl, hgu, hgi⟩ := cls wa
                          have a0 := fun u => (((HFBa.out.to (hgu u)).a.cell 0).trans (show _ = some (Value.int IntKind.i64 (j3 : Int)) from rfl))
                          have t0 := fun u => (((HFBa.out.to (hgu u)).f.t.cell 0).trans (show _ = some (Value.string (bs t)) from rfl))
                          have x2 := fun u => (((HXa.out.to (hgu u)).cell 2).trans (show _ = some (Value.string (bs p.a)) from rfl))
                          have hx3 : (bs t).extract j3 t.length = bs (V.drop e) := by rw [bs_cut, ← HD3.out, List.take_of_length_le (by rw [List.length_drop]; omega)]
                          have CH : ∀ u, Calls Tryz.prog 74 #[.string (bs (V.drop e)), .string (bs p.a)] (g u) fun e' w' => e' = .returned (.bool (decide (p.a <+: V.drop e))) ∧ ∃ u', w' = g u' := fun u => cls_call hgu hgi (fun W hb => (HasPrefix_any (V.drop e) p.a W).mono fun e w' h => ⟨h.1, h.2 ▸ Below.refl _ _⟩) u
                          by_cases hpa : p.a <+: V.drop e
                          · rw [decide_eq_true hpa] at CH
                            rw [if_pos hpa] at HST
                            have HPA := hide hpa
                            clear hpa
                            refine wp_region_class g (by kernel_rfl) (by kernel_rfl) (hgi _ (hgu _).drew) ?_
                            repeat (go_big_quiet_step (first | with_reducible exact CH _))
                            refine wpQuiet_nil ?_
                            intro wb hwb
                            obtain ⟨u, rfl⟩ := hwb
                            have HFBb := hide (HFBa.out.to (hgu u))
                            have HXb := hide (HXa.out.to (hgu u))
                            revert HFBb HXb
                            generalize g u = wb
                            intro HFBb HXb
                            clear CH a0 t0 x2 HFBa HXa hgu hgi hx3
                            obtain ⟨j4, hj4⟩ : ∃ x, j3 + p.a.length = x := ⟨_, rfl⟩
                            have ej4 : (j3 : Int) + (p.a.length : Int) = (j4 : Int) := by omega
                            have hsza := bs_size p.a
                            have hpal := HPA.out.length_le
                            have hj4l : j4 ≤ t.length := by
                              have h1 : (V.drop e).length = t.length - j3 := by rw [← HD3.out, List.length_drop]
                              omega
                            have a0 : wb.cell? ⟨ba, 0, none⟩ = some (.int .i64 (j3 : Int)) := HFBb.out.a.cell 0
                            have x2 : wb.cell? ⟨bx, 2, none⟩ = some (.string (bs p.a)) := HXb.out.cell 2
                            have fa : wb.frozen? ⟨ba, 0, none⟩ = false := HFBb.out.a.frozen 0
                            have HFBc : Hid (FB w #[.string (bs s.c), .slice A s.ps.length cp] t bm bo ba L (out.set kp (V.take e)) j4 (wb.setCell ⟨ba, 0, none⟩ (.int .i64 (j4 : Int)))) := HFBb.out.setA j4
                            have HJ4 := hide hj4
                            have HRN : Hid (RdI s t (r.drop (k + 1)) j4 (out.set kp (V.take e))) := by
                              refine ⟨?_, fun q hq => HRI0.out.sub q (List.mem_of_mem_drop hq), by rw [List.length_set]; exact hol, by rw [List.length_drop]; omega, hj4l⟩
                              rw [← HRI.out.eq, HDR.out, rd_yes HSK.out HPRE.out, HST.out, ← HD3.out, List.drop_drop, HJ4.out, HKP.out]
                              rfl
                            clear hj4 HST
                            by_cases hcc : c' = k + 1
                            · have hrl : r.length = k + 1 := by omega
                              have hd0 : r.drop (k + 1) = [] := List.drop_of_length_le (by omega)
                              have HPN : Hid (∀ A'', PartsAt w (.slice A'' 0 0) (r.drop (k + 1))) := fun A'' => by rw [hd0]; exact ⟨A'', 0, rfl, Nat.zero_le _, by simp, fun i x hx => by simp at hx⟩
                              clear hd0
                              go_wp2_with fail
                              go_roundw
                              case rel => exact ⟨r.drop (k + 1), j4, _, HPN.out _, HFBc.out, HRN.out⟩
                              case measure => simp [lenV]; omega
                            · have hc0' : ¬ (c' - (k + 1) = 0) := by omega
                              have HPN : Hid (PartsAt w (.slice (some (ad.add ((k + 1) * 4))) (r.length - (k + 1)) (c' - (k + 1))) (r.drop (k + 1))) := by
                                have := RowsAt.drop (k := k + 1) HPV.out (by rw [List.length_map]; omega) (c' - (k + 1)) (by rw [List.length_map]; omega)
                                rw [List.length_map] at this
                                show RowsAt _ _ _ _
                                rw [List.map_drop]
                                exact this
                              go_wp2_with fail
                              go_roundw
                              case rel => exact ⟨r.drop (k + 1), j4, _, HPN.out, HFBc.out, HRN.out⟩
                              case measure => simp [lenV]; omega
                          · rw [decide_eq_false hpa] at CH
                            rw [if_neg hpa] at HST
                            have HFIN : Hid (readF (validB isNm s) numB s.ps t = (zeroF, missE j3 t.length, (j3 : Int))) := by
                              show _ = _
                              have h1 : (V.drop e).length = t.length - j3 := by rw [← HD3.out, List.length_drop]
                              rw [HRY.out, ← HRI.out.eq, HDR.out, rd_yes HSK.out HPRE.out, HST.out, h1]
                              show ((zeroF, (if t.length - j3 = 0 then (6 : Int) else 5), (t.length : Int) - ((t.length - j3 : Nat) : Int)) : List (List UInt8) × Int × Int) = _
                              rw [show (t.length : Int) - ((t.length - j3 : Nat) : Int) = (j3 : Int) by omega]
                              unfold missE
                              by_cases hh : j3 = t.length
                              · rw [if_pos (by omega), if_pos hh]
                              · rw [if_neg (by omega), if_neg hh]
                            clear hpa HST
                            refine wp_region_class g (by kernel_rfl) (by kernel_rfl) (hgi _ (hgu _).drew) ?_
                            repeat (go_big_quiet_step (first | with_reducible exact CH _))
                            refine wpQuiet_nil ?_
                            intro wb hwb
                            obtain ⟨u, rfl⟩ := hwb
                            have HFBb := hide (HFBa.out.to (hgu u))
                            clear CH a0 t0 x2 HXa hx3
                            go_wp2_with fail
                            refine (missing_any t j3 hj3l ht ba (w.heap.size + 1) (g u) HFBb.out.a HFBb.out.f.t).mono ?_
                            rintro e wm ⟨rfl, hbm⟩
                            have HFm := hide (HFBb.out.f.to hbm)
                            unfold Z9
                            have z0 : wm.cell? ⟨w.heap.size + 1 + 1, 0, none⟩ = some (.string ⟨#[]⟩) := HFm.out.r.cell 0
                            have y0 := HFm.out.r.frozen 0
                            have z1 : wm.cell? ⟨w.heap.size + 1 + 1, 1, none⟩ = some (.string ⟨#[]⟩) := HFm.out.r.cell 1
                            have y1 := HFm.out.r.frozen 1
                            have z2 : wm.cell? ⟨w.heap.size + 1 + 1, 2, none⟩ = some (.string ⟨#[]⟩) := HFm.out.r.cell 2
                            have y2 := HFm.out.r.frozen 2
                            have z3 : wm.cell? ⟨w.heap.size + 1 + 1, 3, none⟩ = some (.string ⟨#[]⟩) := HFm.out.r.cell 3
                            have y3 := HFm.out.r.frozen 3
                            have z4 : wm.cell? ⟨w.heap.size + 1 + 1, 4, none⟩ = some (.string ⟨#[]⟩) := HFm.out.r.cell 4
                            have y4 := HFm.out.r.frozen 4
                            have z5 : wm.cell? ⟨w.heap.size + 1 + 1, 5, none⟩ = some (.string ⟨#[]⟩) := HFm.out.r.cell 5
                            have y5 := HFm.out.r.frozen 5
                            have z6 : wm.cell? ⟨w.heap.size + 1 + 1, 6, none⟩ = some (.string ⟨#[]⟩) := HFm.out.r.cell 6
                            have y6 := HFm.out.r.frozen 6
                            have z7 : wm.cell? ⟨w.heap.size + 1 + 1, 7, none⟩ = some (.string ⟨#[]⟩) := HFm.out.r.cell 7
                            have y7 := HFm.out.r.frozen 7
                            have z8 : wm.cell? ⟨w.heap.size + 1 + 1, 8, none⟩ = some (.string ⟨#[]⟩) := HFm.out.r.cell 8
                            have y8 := HFm.out.r.frozen 8
                            go_wp2_with fail
                            simp +zetaDelta only [Exit.noGoto, Exit.inBlock, Exit.then]
                            have hbk : Blk (((((((((wm.setCell ⟨w.heap.size + 1 + 1, 0, none⟩ (.string ⟨#[]⟩)).setCell ⟨w.heap.size + 1 + 1, 1, none⟩ (.string ⟨#[]⟩)).setCell ⟨w.heap.size + 1 + 1, 2, none⟩ (.string ⟨#[]⟩)).setCell ⟨w.heap.size + 1 + 1, 3, none⟩ (.string ⟨#[]⟩)).setCell ⟨w.heap.size + 1 + 1, 4, none⟩ (.string ⟨#[]⟩)).setCell ⟨w.heap.size + 1 + 1, 5, none⟩ (.string ⟨#[]⟩)).setCell ⟨w.heap.size + 1 + 1, 6, none⟩ (.string ⟨#[]⟩)).setCell ⟨w.heap.size + 1 + 1, 7, none⟩ (.string ⟨#[]⟩)).setCell ⟨w.heap.size + 1 + 1, 8, none⟩ (.string ⟨#[]⟩)) (w.heap.size + 1 + 1) 26 Z9 := (((((((((HFm.out.r.set_ 0 (.string ⟨#[]⟩)).set_ 1 (.string ⟨#[]⟩)).set_ 2 (.string ⟨#[]⟩)).set_ 3 (.string ⟨#[]⟩)).set_ 4 (.string ⟨#[]⟩)).set_ 5 (.string ⟨#[]⟩)).set_ 6 (.string ⟨#[]⟩)).set_ 7 (.string ⟨#[]⟩)).set_ 8 (.string ⟨#[]⟩))
                            refine bodyPost_ret (results_ctt (p := 4) (u := 5) (x := 6) rfl _ _ (w.heap.size + 1 + 1) 26 _ _ rfl hbk Tryz.underlying26 rfl (by kernel_rfl)) rfl ⟨?_, (((((((((HFm.out.bel.setCell (p := ⟨w.heap.size + 1 + 1, 0, none⟩) (by show w.heap.size ≤ w.heap.size + 1 + 1; omega) (.string ⟨#[]⟩)).setCell (p := ⟨w.heap.size + 1 + 1, 1, none⟩) (by show w.heap.size ≤ w.heap.size + 1 + 1; omega) (.string ⟨#[]⟩)).setCell (p := ⟨w.heap.size + 1 + 1, 2, none⟩) (by show w.heap.size ≤ w.heap.size + 1 + 1; omega) (.string ⟨#[]⟩)).setCell (p := ⟨w.heap.size + 1 + 1, 3, none⟩) (by show w.heap.size ≤ w.heap.size + 1 + 1; omega) (.string ⟨#[]⟩)).setCell (p := ⟨w.heap.size + 1 + 1, 4, none⟩) (by show w.heap.size ≤ w.heap.size + 1 + 1; omega) (.string ⟨#[]⟩)).setCell (p := ⟨w.heap.size + 1 + 1, 5, none⟩) (by show w.heap.size ≤ w.heap.size + 1 + 1; omega) (.string ⟨#[]⟩)).setCell (p := ⟨w.heap.size + 1 + 1, 6, none⟩) (by show w.heap.size ≤ w.heap.size + 1 + 1; omega) (.string ⟨#[]⟩)).setCell (p := ⟨w.heap.size + 1 + 1, 7, none⟩) (by show w.heap.size ≤ w.heap.size + 1 + 1; omega) (.string ⟨#[]⟩)).setCell (p := ⟨w.heap.size + 1 + 1, 8, none⟩) (by show w.heap.size ≤ w.heap.size + 1 + 1; omega) (.string ⟨#[]⟩))⟩
                            rw [HFIN.out]; rfl
                      | false =>
                        rw [hmk] at mc
                        have HN2 : Hid (∀ m d, m < e + 1 → V[m]? = some d → mrk s.ps d = false) := fun m d hm hd => by
                          rcases Nat.lt_or_ge m e with h' | h'
                          · exact HNM.out m d h' hd
                          · obtain rfl : m = e := by omega
                            rw [hcv] at hd; cases hd; exact hmk
                        clear hcv hmk
                        go_wp2_with fail
                        go_roundw
                        case rel => exact ⟨e + 1, by omega, by go_num, HN2.out, (by first | rfl | trivial)⟩
                        case measure => simp [intOf]; omega
                    · obtain rfl : e = V.length := by omega
                      have f1 : decide ((V.length : Int) < (V.length : Int)) = false := by simp
                      obtain ⟨e, he⟩ : ∃ e, V.length = e := ⟨_, rfl⟩
                      go_upto_region 26 with fail
                      clear hel
                      have hel : e ≤ V.length := Nat.le_of_eq he.symm
                      have hE : e = V.length ∨ ∃ c, V[e]? = some c ∧ mrk s.ps c = true := .inl he.symm
                      rw [he] at HNM ⊢
                      clear he
                      have hw := tw_at V e hel HNM.out hE
                      have HTW := hide hw.1
                      have HDW := hide hw.2
                      clear hw hE HNM
                      have HVT : Hid ((bs V).extract 0 e = bs (V.take e)) := by show _ = _; rw [bs_cut]; simp
                      have hvt := HVT.out
                      have hvl : (V.take e).length ≤ 100000 := by rw [List.length_take]; omega
                      obtain ⟨j2, hj2⟩ : ∃ x, j + p.b.length = x := ⟨_, rfl⟩
                      have ej2 : (j : Int) + (p.b.length : Int) = (j2 : Int) := by omega
                      have hszb := bs_size p.b
                      have HFB6 : Hid (FB w #[.string (bs s.c), .slice A s.ps.length cp] t bm bo ba L out j2 (w6.setCell ⟨ba, 0, none⟩ (.int .i64 (j2 : Int)))) := HFB5.out.setA j2
                      have fa : w6.frozen? ⟨ba, 0, none⟩ = false := HFB5.out.a.frozen 0
                      have HX6 := hide (HX5.out.far (p := ⟨ba, 0, none⟩) (by show bx ≠ ba; exact fun e => hbax e.symm) (.int .i64 (j2 : Int)))
                      have HJ2 := hide hj2
                      have hj2l : j2 ≤ t.length := by omega
                      clear hj2
                      go_upto_region 27 with fail
                      clear a0 fa ej2 hszb x0 x1 x2 x3 t0
                      generalize w6.setCell ⟨ba, 0, none⟩ (.int .i64 (j2 : Int)) = w7 at *
                      obtain ⟨U7, hU7, h, u7, rfl, hru, hri⟩ := cls w7
                      have x0 := fun u => (((HX6.out.to (hru u)).cell 0).trans (show _ = some (Value.int IntKind.i64 (kp : Int)) from rfl))
                      have x1 := fun u => (((HX6.out.to (hru u)).cell 1).trans (show _ = some (Value.string (bs p.b)) from rfl))
                      have x2 := fun u => (((HX6.out.to (hru u)).cell 2).trans (show _ = some (Value.string (bs p.a)) from rfl))
                      have x3 := fun u => (((HX6.out.to (hru u)).cell 3).trans (show _ = some (Value.bool p.need) from rfl))
                      have CI : ∀ u, Calls Tryz.prog 73 #[.agg #[.int .i64 (kp : Int), .string (bs p.b), .string (bs p.a), .bool p.need], .string (bs (V.take e))] (h u) fun e' w' => e' = .returned (.bool (isVal numB p.k (V.take e))) ∧ ∃ u', w' = h u' := fun u => by
                        have := cls_call hru hri (fun W hb => isValue_any p (V.take e) hvl W (HGo.out.to (below_to HFB6.out.f.bel (Nat.le_refl _) hb))) u
                        rw [HKP.out] at this ⊢
                        exact this
                      cases hiv : isVal numB p.k (V.take e) with
                      | false =>
                        rw [hiv] at CI
                        have HFIN : Hid (readF (validB isNm s) numB s.ps t = (zeroF, 1, (j2 : Int))) := by
                          show _ = _
                          rw [HRY.out, ← HRI.out.eq, HDR.out, rd_yes HSK.out HPRE.out]
                          unfold stepR
                          rw [HVV.out, HTW.out, hiv]
                          show ((zeroF, (1 : Int), (t.length : Int) - (V.length : Int)) : List (List UInt8) × Int × Int) = _
                          have := HVL.out
                          have := HJ2.out
                          rw [show (t.length : Int) - (V.length : Int) = (j2 : Int) by omega]
                        clear hiv
                        refine wp_region_class h (by kernel_rfl) (by kernel_rfl) (hri _ (hru _).drew) ?_
                        repeat (go_big_quiet_step (first | with_reducible exact CI _))
                        refine wpQuiet_nil ?_
                        intro w8 hw8
                        obtain ⟨u, rfl⟩ := hw8
                        have HFB8 := hide (HFB6.out.to (hru u))
                        revert HFB8
                        generalize h u = w8
                        intro HFB8
                        clear CI x0 x1 x2 x3 HFB6 HX6 hru hri
                        have z0 : w8.cell? ⟨w.heap.size + 1 + 1, 0, none⟩ = some (.string ⟨#[]⟩) := HFB8.out.f.r.cell 0
                        have y0 := HFB8.out.f.r.frozen 0
                        have z1 : w8.cell? ⟨w.heap.size + 1 + 1, 1, none⟩ = some (.string ⟨#[]⟩) := HFB8.out.f.r.cell 1
                        have y1 := HFB8.out.f.r.frozen 1
                        have z2 : w8.cell? ⟨w.heap.size + 1 + 1, 2, none⟩ = some (.string ⟨#[]⟩) := HFB8.out.f.r.cell 2
                        have y2 := HFB8.out.f.r.frozen 2
                        have z3 : w8.cell? ⟨w.heap.size + 1 + 1, 3, none⟩ = some (.string ⟨#[]⟩) := HFB8.out.f.r.cell 3
                        have y3 := HFB8.out.f.r.frozen 3
                        have z4 : w8.cell? ⟨w.heap.size + 1 + 1, 4, none⟩ = some (.string ⟨#[]⟩) := HFB8.out.f.r.cell 4
                        have y4 := HFB8.out.f.r.frozen 4
                        have z5 : w8.cell? ⟨w.heap.size + 1 + 1, 5, none⟩ = some (.string ⟨#[]⟩) := HFB8.out.f.r.cell 5
                        have y5 := HFB8.out.f.r.frozen 5
                        have z6 : w8.cell? ⟨w.heap.size + 1 + 1, 6, none⟩ = some (.string ⟨#[]⟩) := HFB8.out.f.r.cell 6
                        have y6 := HFB8.out.f.r.frozen 6
                        have z7 : w8.cell? ⟨w.heap.size + 1 + 1, 7, none⟩ = some (.string ⟨#[]⟩) := HFB8.out.f.r.cell 7
                        have y7 := HFB8.out.f.r.frozen 7
                        have z8 : w8.cell? ⟨w.heap.size + 1 + 1, 8, none⟩ = some (.string ⟨#[]⟩) := HFB8.out.f.r.cell 8
                        have y8 := HFB8.out.f.r.frozen 8
                        have a0 : w8.cell? ⟨ba, 0, none⟩ = some (.int .i64 (j2 : Int)) := HFB8.out.a.cell 0
                        have n1 : ba ≠ w.heap.size + 1 + 1 := by have := HFB8.out.f.lt; have := HFB8.out.mo; have := HFB8.out.oa; omega
                        have n2 : w.heap.size + 1 + 1 ≠ ba := fun h => n1 h.symm
                        go_wp2_with fail
                        go_region
                        go_wp2_with fail
                        simp +zetaDelta only [Exit.noGoto, Exit.inBlock, Exit.then]
                        have hbk : Blk (((((((((w8.setCell ⟨w.heap.size + 1 + 1, 0, none⟩ (.string ⟨#[]⟩)).setCell ⟨w.heap.size + 1 + 1, 1, none⟩ (.string ⟨#[]⟩)).setCell ⟨w.heap.size + 1 + 1, 2, none⟩ (.string ⟨#[]⟩)).setCell ⟨w.heap.size + 1 + 1, 3, none⟩ (.string ⟨#[]⟩)).setCell ⟨w.heap.size + 1 + 1, 4, none⟩ (.string ⟨#[]⟩)).setCell ⟨w.heap.size + 1 + 1, 5, none⟩ (.string ⟨#[]⟩)).setCell ⟨w.heap.size + 1 + 1, 6, none⟩ (.string ⟨#[]⟩)).setCell ⟨w.heap.size + 1 + 1, 7, none⟩ (.string ⟨#[]⟩)).setCell ⟨w.heap.size + 1 + 1, 8, none⟩ (.string ⟨#[]⟩)).drew (w.heap.size + 1 + 1) 26 Z9 := (((((((((HFB8.out.f.r.set_ 0 (.string ⟨#[]⟩)).set_ 1 (.string ⟨#[]⟩)).set_ 2 (.string ⟨#[]⟩)).set_ 3 (.string ⟨#[]⟩)).set_ 4 (.string ⟨#[]⟩)).set_ 5 (.string ⟨#[]⟩)).set_ 6 (.string ⟨#[]⟩)).set_ 7 (.string ⟨#[]⟩)).set_ 8 (.string ⟨#[]⟩)).drew
                        refine bodyPost_ret (results_ctt (p := 4) (u := 5) (x := 6) rfl _ _ (w.heap.size + 1 + 1) 26 _ _ rfl hbk Tryz.underlying26 rfl (by kernel_rfl)) rfl ⟨?_, (((((((((HFB8.out.f.bel.setCell (p := ⟨w.heap.size + 1 + 1, 0, none⟩) (by show w.heap.size ≤ w.heap.size + 1 + 1; omega) (.string ⟨#[]⟩)).setCell (p := ⟨w.heap.size + 1 + 1, 1, none⟩) (by show w.heap.size ≤ w.heap.size + 1 + 1; omega) (.string ⟨#[]⟩)).setCell (p := ⟨w.heap.size + 1 + 1, 2, none⟩) (by show w.heap.size ≤ w.heap.size + 1 + 1; omega) (.string ⟨#[]⟩)).setCell (p := ⟨w.heap.size + 1 + 1, 3, none⟩) (by show w.heap.size ≤ w.heap.size + 1 + 1; omega) (.string ⟨#[]⟩)).setCell (p := ⟨w.heap.size + 1 + 1, 4, none⟩) (by show w.heap.size ≤ w.heap.size + 1 + 1; omega) (.string ⟨#[]⟩)).setCell (p := ⟨w.heap.size + 1 + 1, 5, none⟩) (by show w.heap.size ≤ w.heap.size + 1 + 1; omega) (.string ⟨#[]⟩)).setCell (p := ⟨w.heap.size + 1 + 1, 6, none⟩) (by show w.heap.size ≤ w.heap.size + 1 + 1; omega) (.string ⟨#[]⟩)).setCell (p := ⟨w.heap.size + 1 + 1, 7, none⟩) (by show w.heap.size ≤ w.heap.size + 1 + 1; omega) (.string ⟨#[]⟩)).setCell (p := ⟨w.heap.size + 1 + 1, 8, none⟩) (by show w.heap.size ≤ w.heap.size + 1 + 1; omega) (.string ⟨#[]⟩)).drew⟩
                        rw [HFIN.out]; rfl
                      | true =>
                        rw [hiv] at CI
                        have HST : Hid (stepR (mrk s.ps) numB p (r.drop (k + 1)) (t.drop j) out = if p.a <+: V.drop e then readR (mrk s.ps) numB (r.drop (k + 1)) ((V.drop e).drop p.a.length) (out.set p.k.toNat (V.take e)) else .miss (V.drop e).length) := by
                          show _ = _
                          unfold stepR
                          rw [HVV.out, HTW.out, HDW.out, hiv, if_pos rfl]
                        clear hiv
                        refine wp_region_class h (by kernel_rfl) (by kernel_rfl) (hri _ (hru _).drew) ?_
                        repeat (go_big_quiet_step (first | with_reducible exact CI _))
                        refine wpQuiet_nil ?_
                        intro w8 hw8
                        obtain ⟨u, rfl⟩ := hw8
                        have HFB8 := hide (HFB6.out.to (hru u))
                        have HX8 := hide (HX6.out.to (hru u))
                        revert HFB8 HX8
                        generalize h u = w8
                        intro HFB8 HX8
                        clear CI x0 x1 x2 x3 HFB6 HX6 hru hri
                        have x0 : w8.cell? ⟨bx, 0, none⟩ = some (.int .i64 (kp : Int)) := HX8.out.cell 0
                        have hkl : kp < out.length := by rw [hol]; exact hkp9
                        have o0 := (HFB8.out.o.cell kp).trans (fieldsC_at (List.getElem?_eq_getElem hkl))
                        have o1 := HFB8.out.o.frozen kp
                        have HFB9 : Hid (FB w #[.string (bs s.c), .slice A s.ps.length cp] t bm bo ba L (out.set kp (V.take e)) j2 (w8.setCell ⟨bo, kp, none⟩ (.string (bs (V.take e)))).drew) := (HFB8.out.setO kp (V.take e)).drew
                        have HX9 : Hid (Blk (w8.setCell ⟨bo, kp, none⟩ (.string (bs (V.take e)))).drew bx 41 #[.int .i64 (kp : Int), .string (bs p.b), .string (bs p.a), .bool p.need]) := (HX8.out.far (p := ⟨bo, kp, none⟩) (by show bx ≠ bo; exact fun e => hbox e.symm) (.string (bs (V.take e)))).drew
                        generalize out[kp]'hkl = oo at *
                        go_wp2_with fail
                        go_region
                        clear x0 o0 o1 HFB8 HX8
                        generalize (w8.setCell ⟨bo, kp, none⟩ (.string (bs (V.take e)))).drew = w9 at *
                        obtain ⟨j3, hj3⟩ : ∃ x, j2 + e = x := ⟨_, rfl⟩
                        have ej3 : (j2 : Int) + (e : Int) = (j3 : Int) := by omega
                        have a0 : w9.cell? ⟨ba, 0, none⟩ = some (.int .i64 (j2 : Int)) := HFB9.out.a.cell 0
                        have fa : w9.frozen? ⟨ba, 0, none⟩ = false := HFB9.out.a.frozen 0
                        have HFBa : Hid (FB w #[.string (bs s.c), .slice A s.ps.length cp] t bm bo ba L (out.set kp (V.take e)) j3 (w9.setCell ⟨ba, 0, none⟩ (.int .i64 (j3 : Int)))) := HFB9.out.setA j3
                        have HXa := hide (HX9.out.far (p := ⟨ba, 0, none⟩) (by show bx ≠ ba; exact fun e => hbax e.symm) (.int .i64 (j3 : Int)))
                        have HJ3 := hide hj3
                        have hj3l : j3 ≤ t.length := by have := HVL.out; have := HJ2.out; omega
                        have HD3 : Hid (t.drop j3 = V.drop e) := by show _ = _; rw [← HVV.out, List.drop_drop, List.drop_drop]; have := HJ2.out; have := HJ3.out; congr 1; omega
                        clear hj3
                        go_upto_region 31 with fail
                        clear a0 fa ej3 HFB9 HX9
                        generalize w9.setCell ⟨ba, 0, none⟩ (.int .i64 (j3 : Int)) = wa at *
                        obtain ⟨Ua, hUa, g, ua, rfl, hgu, hgi⟩ := cls wa
                        have a0 := fun u => (((HFBa.out.to (hgu u)).a.cell 0).trans (show _ = some (Value.int IntKind.i64 (j3 : Int)) from rfl))
                        have t0 := fun u => (((HFBa.out.to (hgu u)).f.t.cell 0).trans (show _ = some (Value.string (bs t)) from rfl))
                        have x2 := fun u => (((HXa.out.to (hgu u)).cell 2).trans (show _ = some (Value.string (bs p.a)) from rfl))
                        have hx3 : (bs t).extract j3 t.length = bs (V.drop e) := by rw [bs_cut, ← HD3.out, List.take_of_length_le (by rw [List.length_drop]; omega)]
                        have CH : ∀ u, Calls Tryz.prog 74 #[.string (bs (V.drop e)), .string (bs p.a)] (g u) fun e' w' => e' = .returned (.bool (decide (p.a <+: V.drop e))) ∧ ∃ u', w' = g u' := fun u => cls_call hgu hgi (fun W hb => (HasPrefix_any (V.drop e) p.a W).mono fun e w' h => ⟨h.1, h.2 ▸ Below.refl _ _⟩) u
                        by_cases hpa : p.a <+: V.drop e
                        · rw [decide_eq_true hpa] at CH
                          rw [if_pos hpa] at HST
                          have HPA := hide hpa
                          clear hpa
                          refine wp_region_class g (by kernel_rfl) (by kernel_rfl) (hgi _ (hgu _).drew) ?_
                          repeat (go_big_quiet_step (first | with_reducible exact CH _))
                          refine wpQuiet_nil ?_
                          intro wb hwb
                          obtain ⟨u, rfl⟩ := hwb
                          have HFBb := hide (HFBa.out.to (hgu u))
                          have HXb := hide (HXa.out.to (hgu u))
                          revert HFBb HXb
                          generalize g u = wb
                          intro HFBb HXb
                          clear CH a0 t0 x2 HFBa HXa hgu hgi hx3
                          obtain ⟨j4, hj4⟩ : ∃ x, j3 + p.a.length = x := ⟨_, rfl⟩
                          have ej4 : (j3 : Int) + (p.a.length : Int) = (j4 : Int) := by omega
                          have hsza := bs_size p.a
                          have hpal := HPA.out.length_le
                          have hj4l : j4 ≤ t.length := by
                            have h1 : (V.drop e).length = t.length - j3 := by rw [← HD3.out, List.length_drop]
                            omega
                          have a0 : wb.cell? ⟨ba, 0, none⟩ = some (.int .i64 (j3 : Int)) := HFBb.out.a.cell 0
                          have x2 : wb.cell? ⟨bx, 2, none⟩ = some (.string (bs p.a)) := HXb.out.cell 2
                          have fa : wb.frozen? ⟨ba, 0, none⟩ = false := HFBb.out.a.frozen 0
                          have HFBc : Hid (FB w #[.string (bs s.c), .slice A s.ps.length cp] t bm bo ba L (out.set kp (V.take e)) j4 (wb.setCell ⟨ba, 0, none⟩ (.int .i64 (j4 : Int)))) := HFBb.out.setA j4
                          have HJ4 := hide hj4
                          have HRN : Hid (RdI s t (r.drop (k + 1)) j4 (out.set kp (V.take e))) := by
                            refine ⟨?_, fun q hq => HRI0.out.sub q (List.mem_of_mem_drop hq), by rw [List.length_set]; exact hol, by rw [List.length_drop]; omega, hj4l⟩
                            rw [← HRI.out.eq, HDR.out, rd_yes HSK.out HPRE.out, HST.out, ← HD3.out, List.drop_drop, HJ4.out, HKP.out]
                            rfl
                          clear hj4 HST
                          by_cases hcc : c' = k + 1
                          · have hrl : r.length = k + 1 := by omega
                            have hd0 : r.drop (k + 1) = [] := List.drop_of_length_le (by omega)
                            have HPN : Hid (∀ A'', PartsAt w (.slice A'' 0 0) (r.drop (k + 1))) := fun A'' => by rw [hd0]; exact ⟨A'', 0, rfl, Nat.zero_le _, by simp, fun i x hx => by simp at hx⟩
                            clear hd0
                            go_wp2_with fail
                            go_roundw
                            case rel => exact ⟨r.drop (k + 1), j4, _, HPN.out _, HFBc.out, HRN.out⟩
                            case measure => simp [lenV]; omega
                          · have hc0' : ¬ (c' - (k + 1) = 0) := by omega
                            have HPN : Hid (PartsAt w (.slice (some (ad.add ((k + 1) * 4))) (r.length - (k + 1)) (c' - (k + 1))) (r.drop (k + 1))) := by
                              have := RowsAt.drop (k := k + 1) HPV.out (by rw [List.length_map]; omega) (c' - (k + 1)) (by rw [List.length_map]; omega)
                              rw [List.length_map] at this
                              show RowsAt _ _ _ _
                              rw [List.map_drop]
                              exact this
                            go_wp2_with fail
                            go_roundw
                            case rel => exact ⟨r.drop (k + 1), j4, _, HPN.out, HFBc.out, HRN.out⟩
                            case measure => simp [lenV]; omega
                        · rw [decide_eq_false hpa] at CH
                          rw [if_neg hpa] at HST
                          have HFIN : Hid (readF (validB isNm s) numB s.ps t = (zeroF, missE j3 t.length, (j3 : Int))) := by
                            show _ = _
                            have h1 : (V.drop e).length = t.length - j3 := by rw [← HD3.out, List.length_drop]
                            rw [HRY.out, ← HRI.out.eq, HDR.out, rd_yes HSK.out HPRE.out, HST.out, h1]
                            show ((zeroF, (if t.length - j3 = 0 then (6 : Int) else 5), (t.length : Int) - ((t.length - j3 : Nat) : Int)) : List (List UInt8) × Int × Int) = _
                            rw [show (t.length : Int) - ((t.length - j3 : Nat) : Int) = (j3 : Int) by omega]
                            unfold missE
                            by_cases hh : j3 = t.length
                            · rw [if_pos (by omega), if_pos hh]
                            · rw [if_neg (by omega), if_neg hh]
                          clear hpa HST
                          refine wp_region_class g (by kernel_rfl) (by kernel_rfl) (hgi _ (hgu _).drew) ?_
                          repeat (go_big_quiet_step (first | with_reducible exact CH _))
                          refine wpQuiet_nil ?_
                          intro wb hwb
                          obtain ⟨u, rfl⟩ := hwb
                          have HFBb := hide (HFBa.out.to (hgu u))
                          clear CH a0 t0 x2 HXa hx3
                          go_wp2_with fail
                          refine (missing_any t j3 hj3l ht ba (w.heap.size + 1) (g u) HFBb.out.a HFBb.out.f.t).mono ?_
                          rintro e wm ⟨rfl, hbm⟩
                          have HFm := hide (HFBb.out.f.to hbm)
                          unfold Z9
                          have z0 : wm.cell? ⟨w.heap.size + 1 + 1, 0, none⟩ = some (.string ⟨#[]⟩) := HFm.out.r.cell 0
                          have y0 := HFm.out.r.frozen 0
                          have z1 : wm.cell? ⟨w.heap.size + 1 + 1, 1, none⟩ = some (.string ⟨#[]⟩) := HFm.out.r.cell 1
                          have y1 := HFm.out.r.frozen 1
                          have z2 : wm.cell? ⟨w.heap.size + 1 + 1, 2, none⟩ = some (.string ⟨#[]⟩) := HFm.out.r.cell 2
                          have y2 := HFm.out.r.frozen 2
                          have z3 : wm.cell? ⟨w.heap.size + 1 + 1, 3, none⟩ = some (.string ⟨#[]⟩) := HFm.out.r.cell 3
                          have y3 := HFm.out.r.frozen 3
                          have z4 : wm.cell? ⟨w.heap.size + 1 + 1, 4, none⟩ = some (.string ⟨#[]⟩) := HFm.out.r.cell 4
                          have y4 := HFm.out.r.frozen 4
                          have z5 : wm.cell? ⟨w.heap.size + 1 + 1, 5, none⟩ = some (.string ⟨#[]⟩) := HFm.out.r.cell 5
                          have y5 := HFm.out.r.frozen 5
                          have z6 : wm.cell? ⟨w.heap.size + 1 + 1, 6, none⟩ = some (.string ⟨#[]⟩) := HFm.out.r.cell 6
                          have y6 := HFm.out.r.frozen 6
                          have z7 : wm.cell? ⟨w.heap.size + 1 + 1, 7, none⟩ = some (.string ⟨#[]⟩) := HFm.out.r.cell 7
                          have y7 := HFm.out.r.frozen 7
                          have z8 : wm.cell? ⟨w.heap.size + 1 + 1, 8, none⟩ = some (.string ⟨#[]⟩) := HFm.out.r.cell 8
                          have y8 := HFm.out.r.frozen 8
                          go_wp2_with fail
                          simp +zetaDelta only [Exit.noGoto, Exit.inBlock, Exit.then]
                          have hbk : Blk (((((((((wm.setCell ⟨w.heap.size + 1 + 1, 0, none⟩ (.string ⟨#[]⟩)).setCell ⟨w.heap.size + 1 + 1, 1, none⟩ (.string ⟨#[]⟩)).setCell ⟨w.heap.size + 1 + 1, 2, none⟩ (.string ⟨#[]⟩)).setCell ⟨w.heap.size + 1 + 1, 3, none⟩ (.string ⟨#[]⟩)).setCell ⟨w.heap.size + 1 + 1, 4, none⟩ (.string ⟨#[]⟩)).setCell ⟨w.heap.size + 1 + 1, 5, none⟩ (.string ⟨#[]⟩)).setCell ⟨w.heap.size + 1 + 1, 6, none⟩ (.string ⟨#[]⟩)).setCell ⟨w.heap.size + 1 + 1, 7, none⟩ (.string ⟨#[]⟩)).setCell ⟨w.heap.size + 1 + 1, 8, none⟩ (.string ⟨#[]⟩)) (w.heap.size + 1 + 1) 26 Z9 := (((((((((HFm.out.r.set_ 0 (.string ⟨#[]⟩)).set_ 1 (.string ⟨#[]⟩)).set_ 2 (.string ⟨#[]⟩)).set_ 3 (.string ⟨#[]⟩)).set_ 4 (.string ⟨#[]⟩)).set_ 5 (.string ⟨#[]⟩)).set_ 6 (.string ⟨#[]⟩)).set_ 7 (.string ⟨#[]⟩)).set_ 8 (.string ⟨#[]⟩))
                          refine bodyPost_ret (results_ctt (p := 4) (u := 5) (x := 6) rfl _ _ (w.heap.size + 1 + 1) 26 _ _ rfl hbk Tryz.underlying26 rfl (by kernel_rfl)) rfl ⟨?_, (((((((((HFm.out.bel.setCell (p := ⟨w.heap.size + 1 + 1, 0, none⟩) (by show w.heap.size ≤ w.heap.size + 1 + 1; omega) (.string ⟨#[]⟩)).setCell (p := ⟨w.heap.size + 1 + 1, 1, none⟩) (by show w.heap.size ≤ w.heap.size + 1 + 1; omega) (.string ⟨#[]⟩)).setCell (p := ⟨w.heap.size + 1 + 1, 2, none⟩) (by show w.heap.size ≤ w.heap.size + 1 + 1; omega) (.string ⟨#[]⟩)).setCell (p := ⟨w.heap.size + 1 + 1, 3, none⟩) (by show w.heap.size ≤ w.heap.size + 1 + 1; omega) (.string ⟨#[]⟩)).setCell (p := ⟨w.heap.size + 1 + 1, 4, none⟩) (by show w.heap.size ≤ w.heap.size + 1 + 1; omega) (.string ⟨#[]⟩)).setCell (p := ⟨w.heap.size + 1 + 1, 5, none⟩) (by show w.heap.size ≤ w.heap.size + 1 + 1; omega) (.string ⟨#[]⟩)).setCell (p := ⟨w.heap.size + 1 + 1, 6, none⟩) (by show w.heap.size ≤ w.heap.size + 1 + 1; omega) (.string ⟨#[]⟩)).setCell (p := ⟨w.heap.size + 1 + 1, 7, none⟩) (by show w.heap.size ≤ w.heap.size + 1 + 1; omega) (.string ⟨#[]⟩)).setCell (p := ⟨w.heap.size + 1 + 1, 8, none⟩) (by show w.heap.size ≤ w.heap.size + 1 + 1; omega) (.string ⟨#[]⟩))⟩
                          rw [HFIN.out]; rfl
                · rw [if_neg hpre, decide_eq_false hpre] at CC
                  cases hn : p.need with
                  | true =>
                    have HFIN : Hid (readF (validB isNm s) numB s.ps t = (zeroF, missE j t.length, (j : Int))) := by
                      show _ = _
                      rw [HRY.out, ← HRI.out.eq, HDR.out, rd_miss HSK.out hpre hn, List.length_drop]
                      show ((zeroF, (if t.length - j = 0 then (6 : Int) else 5), (t.length : Int) - ((t.length - j : Nat) : Int)) : List (List UInt8) × Int × Int) = _
                      rw [show (t.length : Int) - ((t.length - j : Nat) : Int) = (j : Int) by omega]
                      unfold missE
                      by_cases hh : j = t.length
                      · rw [if_pos (by omega), if_pos hh]
                      · rw [if_neg (by omega), if_neg hh]
                    rw [hn] at x3
                    clear hpre hn
                    refine wp_region_class g5 (by kernel_rfl) (by kernel_rfl) (hgi5 _ (hgu5 _).drew) ?_
                    repeat (go_big_quiet_step (first | with_reducible exact CC _))
                    refine wpQuiet_nil ?_
                    intro w6 hw6
                    obtain ⟨u, rfl⟩ := hw6
                    have HFBb := hide (HFB5.out.to (hgu5 u))
                    go_wp2_with fail
                    refine (missing_any t j hj ht ba (w.heap.size + 1) (g5 u) HFBb.out.a HFBb.out.f.t).mono ?_
                    rintro e wm ⟨rfl, hbm⟩
                    have HFm := hide (HFBb.out.f.to hbm)
                    unfold Z9
                    have z0 : wm.cell? ⟨w.heap.size + 1 + 1, 0, none⟩ = some (.string ⟨#[]⟩) := HFm.out.r.cell 0
                    have y0 := HFm.out.r.frozen 0
                    have z1 : wm.cell? ⟨w.heap.size + 1 + 1, 1, none⟩ = some (.string ⟨#[]⟩) := HFm.out.r.cell 1
                    have y1 := HFm.out.r.frozen 1
                    have z2 : wm.cell? ⟨w.heap.size + 1 + 1, 2, none⟩ = some (.string ⟨#[]⟩) := HFm.out.r.cell 2
                    have y2 := HFm.out.r.frozen 2
                    have z3 : wm.cell? ⟨w.heap.size + 1 + 1, 3, none⟩ = some (.string ⟨#[]⟩) := HFm.out.r.cell 3
                    have y3 := HFm.out.r.frozen 3
                    have z4 : wm.cell? ⟨w.heap.size + 1 + 1, 4, none⟩ = some (.string ⟨#[]⟩) := HFm.out.r.cell 4
                    have y4 := HFm.out.r.frozen 4
                    have z5 : wm.cell? ⟨w.heap.size + 1 + 1, 5, none⟩ = some (.string ⟨#[]⟩) := HFm.out.r.cell 5
                    have y5 := HFm.out.r.frozen 5
                    have z6 : wm.cell? ⟨w.heap.size + 1 + 1, 6, none⟩ = some (.string ⟨#[]⟩) := HFm.out.r.cell 6
                    have y6 := HFm.out.r.frozen 6
                    have z7 : wm.cell? ⟨w.heap.size + 1 + 1, 7, none⟩ = some (.string ⟨#[]⟩) := HFm.out.r.cell 7
                    have y7 := HFm.out.r.frozen 7
                    have z8 : wm.cell? ⟨w.heap.size + 1 + 1, 8, none⟩ = some (.string ⟨#[]⟩) := HFm.out.r.cell 8
                    have y8 := HFm.out.r.frozen 8
                    go_wp2_with fail
                    simp +zetaDelta only [Exit.noGoto, Exit.inBlock, Exit.then]
                    have hbk : Blk (((((((((wm.setCell ⟨w.heap.size + 1 + 1, 0, none⟩ (.string ⟨#[]⟩)).setCell ⟨w.heap.size + 1 + 1, 1, none⟩ (.string ⟨#[]⟩)).setCell ⟨w.heap.size + 1 + 1, 2, none⟩ (.string ⟨#[]⟩)).setCell ⟨w.heap.size + 1 + 1, 3, none⟩ (.string ⟨#[]⟩)).setCell ⟨w.heap.size + 1 + 1, 4, none⟩ (.string ⟨#[]⟩)).setCell ⟨w.heap.size + 1 + 1, 5, none⟩ (.string ⟨#[]⟩)).setCell ⟨w.heap.size + 1 + 1, 6, none⟩ (.string ⟨#[]⟩)).setCell ⟨w.heap.size + 1 + 1, 7, none⟩ (.string ⟨#[]⟩)).setCell ⟨w.heap.size + 1 + 1, 8, none⟩ (.string ⟨#[]⟩)) (w.heap.size + 1 + 1) 26 Z9 := (((((((((HFm.out.r.set_ 0 (.string ⟨#[]⟩)).set_ 1 (.string ⟨#[]⟩)).set_ 2 (.string ⟨#[]⟩)).set_ 3 (.string ⟨#[]⟩)).set_ 4 (.string ⟨#[]⟩)).set_ 5 (.string ⟨#[]⟩)).set_ 6 (.string ⟨#[]⟩)).set_ 7 (.string ⟨#[]⟩)).set_ 8 (.string ⟨#[]⟩))
                    refine bodyPost_ret (results_ctt (p := 4) (u := 5) (x := 6) rfl _ _ (w.heap.size + 1 + 1) 26 _ _ rfl hbk Tryz.underlying26 rfl (by kernel_rfl)) rfl ⟨?_, (((((((((HFm.out.bel.setCell (p := ⟨w.heap.size + 1 + 1, 0, none⟩) (by show w.heap.size ≤ w.heap.size + 1 + 1; omega) (.string ⟨#[]⟩)).setCell (p := ⟨w.heap.size + 1 + 1, 1, none⟩) (by show w.heap.size ≤ w.heap.size + 1 + 1; omega) (.string ⟨#[]⟩)).setCell (p := ⟨w.heap.size + 1 + 1, 2, none⟩) (by show w.heap.size ≤ w.heap.size + 1 + 1; omega) (.string ⟨#[]⟩)).setCell (p := ⟨w.heap.size + 1 + 1, 3, none⟩) (by show w.heap.size ≤ w.heap.size + 1 + 1; omega) (.string ⟨#[]⟩)).setCell (p := ⟨w.heap.size + 1 + 1, 4, none⟩) (by show w.heap.size ≤ w.heap.size + 1 + 1; omega) (.string ⟨#[]⟩)).setCell (p := ⟨w.heap.size + 1 + 1, 5, none⟩) (by show w.heap.size ≤ w.heap.size + 1 + 1; omega) (.string ⟨#[]⟩)).setCell (p := ⟨w.heap.size + 1 + 1, 6, none⟩) (by show w.heap.size ≤ w.heap.size + 1 + 1; omega) (.string ⟨#[]⟩)).setCell (p := ⟨w.heap.size + 1 + 1, 7, none⟩) (by show w.heap.size ≤ w.heap.size + 1 + 1; omega) (.string ⟨#[]⟩)).setCell (p := ⟨w.heap.size + 1 + 1, 8, none⟩) (by show w.heap.size ≤ w.heap.size + 1 + 1; omega) (.string ⟨#[]⟩))⟩
                    rw [HFIN.out]; rfl
                  | false =>
                    have HRN : Hid (RdI s t (r.drop (k + 1)) j out) := ⟨by rw [← HRI.out.eq, HDR.out, rd_pass HSK.out hpre hn], fun q hq => HRI0.out.sub q (List.mem_of_mem_drop hq), hol, by rw [List.length_drop]; omega, hj⟩
                    rw [hn] at x3
                    clear hpre hn
                    refine wp_region_class g5 (by kernel_rfl) (by kernel_rfl) (hgi5 _ (hgu5 _).drew) ?_
                    repeat (go_big_quiet_step (first | with_reducible exact CC _))
                    refine wpQuiet_nil ?_
                    intro w6 hw6
                    obtain ⟨u, rfl⟩ := hw6
                    have HFBb := hide (HFB5.out.to (hgu5 u))
                    go_wp2_with fail
                    go_roundw
                    case rel => exact ⟨k + 1, by omega, by go_num, rfl, HFBb.out, HRN.out⟩
                    case measure => simp [intOf]; omega
            · obtain rfl : k = r.length := by omega
              have HRE := hide HRI.out.eq
              rw [List.drop_length] at HRE
              have a0 : wr.cell? ⟨ba, 0, none⟩ = some (.int .i64 (j : Int)) := HFB.out.a.cell 0
              have t0 : wr.cell? ⟨w.heap.size + 1, 0, none⟩ = some (.string (bs t)) := HFB.out.f.t.cell 0
              by_cases hj1 : j < t.length
              · have f0 : decide ((j : Int) < (t.length : Int)) = true := decide_eq_true (by omega)
                have HFIN : Hid (readF (validB isNm s) numB s.ps t = (zeroF, missE j t.length, (j : Int))) := by
                  show _ = _
                  rw [HRY.out, ← HRE.out, readR, if_neg (by intro h; have := congrArg List.length h; rw [List.length_drop] at this; simp at this; omega), List.length_drop]
                  show ((zeroF, (if t.length - j = 0 then (6 : Int) else 5), (t.length : Int) - ((t.length - j : Nat) : Int)) : List (List UInt8) × Int × Int) = _
                  rw [show (t.length : Int) - ((t.length - j : Nat) : Int) = (j : Int) by omega]
                  unfold missE
                  rw [if_neg (by omega), if_neg (by omega)]
                go_wp2_with fail
                refine (missing_any t j hj ht ba (w.heap.size + 1) (wr) HFB.out.a HFB.out.f.t).mono ?_
                rintro e wm ⟨rfl, hbm⟩
                have HFm := hide (HFB.out.f.to hbm)
                unfold Z9
                have z0 : wm.cell? ⟨w.heap.size + 1 + 1, 0, none⟩ = some (.string ⟨#[]⟩) := HFm.out.r.cell 0
                have y0 := HFm.out.r.frozen 0
                have z1 : wm.cell? ⟨w.heap.size + 1 + 1, 1, none⟩ = some (.string ⟨#[]⟩) := HFm.out.r.cell 1
                have y1 := HFm.out.r.frozen 1
                have z2 : wm.cell? ⟨w.heap.size + 1 + 1, 2, none⟩ = some (.string ⟨#[]⟩) := HFm.out.r.cell 2
                have y2 := HFm.out.r.frozen 2
                have z3 : wm.cell? ⟨w.heap.size + 1 + 1, 3, none⟩ = some (.string ⟨#[]⟩) := HFm.out.r.cell 3
                have y3 := HFm.out.r.frozen 3
                have z4 : wm.cell? ⟨w.heap.size + 1 + 1, 4, none⟩ = some (.string ⟨#[]⟩) := HFm.out.r.cell 4
                have y4 := HFm.out.r.frozen 4
                have z5 : wm.cell? ⟨w.heap.size + 1 + 1, 5, none⟩ = some (.string ⟨#[]⟩) := HFm.out.r.cell 5
                have y5 := HFm.out.r.frozen 5
                have z6 : wm.cell? ⟨w.heap.size + 1 + 1, 6, none⟩ = some (.string ⟨#[]⟩) := HFm.out.r.cell 6
                have y6 := HFm.out.r.frozen 6
                have z7 : wm.cell? ⟨w.heap.size + 1 + 1, 7, none⟩ = some (.string ⟨#[]⟩) := HFm.out.r.cell 7
                have y7 := HFm.out.r.frozen 7
                have z8 : wm.cell? ⟨w.heap.size + 1 + 1, 8, none⟩ = some (.string ⟨#[]⟩) := HFm.out.r.cell 8
                have y8 := HFm.out.r.frozen 8
                go_wp2_with fail
                simp +zetaDelta only [Exit.noGoto, Exit.inBlock, Exit.then]
                have hbk : Blk (((((((((wm.setCell ⟨w.heap.size + 1 + 1, 0, none⟩ (.string ⟨#[]⟩)).setCell ⟨w.heap.size + 1 + 1, 1, none⟩ (.string ⟨#[]⟩)).setCell ⟨w.heap.size + 1 + 1, 2, none⟩ (.string ⟨#[]⟩)).setCell ⟨w.heap.size + 1 + 1, 3, none⟩ (.string ⟨#[]⟩)).setCell ⟨w.heap.size + 1 + 1, 4, none⟩ (.string ⟨#[]⟩)).setCell ⟨w.heap.size + 1 + 1, 5, none⟩ (.string ⟨#[]⟩)).setCell ⟨w.heap.size + 1 + 1, 6, none⟩ (.string ⟨#[]⟩)).setCell ⟨w.heap.size + 1 + 1, 7, none⟩ (.string ⟨#[]⟩)).setCell ⟨w.heap.size + 1 + 1, 8, none⟩ (.string ⟨#[]⟩)) (w.heap.size + 1 + 1) 26 Z9 := (((((((((HFm.out.r.set_ 0 (.string ⟨#[]⟩)).set_ 1 (.string ⟨#[]⟩)).set_ 2 (.string ⟨#[]⟩)).set_ 3 (.string ⟨#[]⟩)).set_ 4 (.string ⟨#[]⟩)).set_ 5 (.string ⟨#[]⟩)).set_ 6 (.string ⟨#[]⟩)).set_ 7 (.string ⟨#[]⟩)).set_ 8 (.string ⟨#[]⟩))
                refine bodyPost_ret (results_ctt (p := 4) (u := 5) (x := 6) rfl _ _ (w.heap.size + 1 + 1) 26 _ _ rfl hbk Tryz.underlying26 rfl (by kernel_rfl)) rfl ⟨?_, (((((((((HFm.out.bel.setCell (p := ⟨w.heap.size + 1 + 1, 0, none⟩) (by show w.heap.size ≤ w.heap.size + 1 + 1; omega) (.string ⟨#[]⟩)).setCell (p := ⟨w.heap.size + 1 + 1, 1, none⟩) (by show w.heap.size ≤ w.heap.size + 1 + 1; omega) (.string ⟨#[]⟩)).setCell (p := ⟨w.heap.size + 1 + 1, 2, none⟩) (by show w.heap.size ≤ w.heap.size + 1 + 1; omega) (.string ⟨#[]⟩)).setCell (p := ⟨w.heap.size + 1 + 1, 3, none⟩) (by show w.heap.size ≤ w.heap.size + 1 + 1; omega) (.string ⟨#[]⟩)).setCell (p := ⟨w.heap.size + 1 + 1, 4, none⟩) (by show w.heap.size ≤ w.heap.size + 1 + 1; omega) (.string ⟨#[]⟩)).setCell (p := ⟨w.heap.size + 1 + 1, 5, none⟩) (by show w.heap.size ≤ w.heap.size + 1 + 1; omega) (.string ⟨#[]⟩)).setCell (p := ⟨w.heap.size + 1 + 1, 6, none⟩) (by show w.heap.size ≤ w.heap.size + 1 + 1; omega) (.string ⟨#[]⟩)).setCell (p := ⟨w.heap.size + 1 + 1, 7, none⟩) (by show w.heap.size ≤ w.heap.size + 1 + 1; omega) (.string ⟨#[]⟩)).setCell (p := ⟨w.heap.size + 1 + 1, 8, none⟩) (by show w.heap.size ≤ w.heap.size + 1 + 1; omega) (.string ⟨#[]⟩))⟩
                rw [HFIN.out]; rfl
              · have f0 : decide ((j : Int) < (t.length : Int)) = false := decide_eq_false (by omega)
                have HFIN : Hid (readF (validB isNm s) numB s.ps t = (out, 0, 0)) := by
                  show _ = _
                  rw [HRY.out, ← HRE.out, readR, if_pos (List.drop_of_length_le (by omega))]; rfl
                clear HRI HRI0
                obtain ⟨o0, o1, o2, o3, o4, o5, o6, o7, o8, ho⟩ := nine hol
                subst ho
                have z0 : wr.cell? ⟨w.heap.size + 1 + 1, 0, none⟩ = some (.string ⟨#[]⟩) := HFB.out.f.r.cell 0
                have y0 := HFB.out.f.r.frozen 0
                have z1 : wr.cell? ⟨w.heap.size + 1 + 1, 1, none⟩ = some (.string ⟨#[]⟩) := HFB.out.f.r.cell 1
                have y1 := HFB.out.f.r.frozen 1
                have z2 : wr.cell? ⟨w.heap.size + 1 + 1, 2, none⟩ = some (.string ⟨#[]⟩) := HFB.out.f.r.cell 2
                have y2 := HFB.out.f.r.frozen 2
                have z3 : wr.cell? ⟨w.heap.size + 1 + 1, 3, none⟩ = some (.string ⟨#[]⟩) := HFB.out.f.r.cell 3
                have y3 := HFB.out.f.r.frozen 3
                have z4 : wr.cell? ⟨w.heap.size + 1 + 1, 4, none⟩ = some (.string ⟨#[]⟩) := HFB.out.f.r.cell 4
                have y4 := HFB.out.f.r.frozen 4
                have z5 : wr.cell? ⟨w.heap.size + 1 + 1, 5, none⟩ = some (.string ⟨#[]⟩) := HFB.out.f.r.cell 5
                have y5 := HFB.out.f.r.frozen 5
                have z6 : wr.cell? ⟨w.heap.size + 1 + 1, 6, none⟩ = some (.string ⟨#[]⟩) := HFB.out.f.r.cell 6
                have y6 := HFB.out.f.r.frozen 6
                have z7 : wr.cell? ⟨w.heap.size + 1 + 1, 7, none⟩ = some (.string ⟨#[]⟩) := HFB.out.f.r.cell 7
                have y7 := HFB.out.f.r.frozen 7
                have z8 : wr.cell? ⟨w.heap.size + 1 + 1, 8, none⟩ = some (.string ⟨#[]⟩) := HFB.out.f.r.cell 8
                have y8 := HFB.out.f.r.frozen 8
                have q0 : wr.cell? ⟨bo, 0, none⟩ = some (.string (bs o0)) := HFB.out.o.cell 0
                have q1 : wr.cell? ⟨bo, 1, none⟩ = some (.string (bs o1)) := HFB.out.o.cell 1
                have q2 : wr.cell? ⟨bo, 2, none⟩ = some (.string (bs o2)) := HFB.out.o.cell 2
                have q3 : wr.cell? ⟨bo, 3, none⟩ = some (.string (bs o3)) := HFB.out.o.cell 3
                have q4 : wr.cell? ⟨bo, 4, none⟩ = some (.string (bs o4)) := HFB.out.o.cell 4
                have q5 : wr.cell? ⟨bo, 5, none⟩ = some (.string (bs o5)) := HFB.out.o.cell 5
                have q6 : wr.cell? ⟨bo, 6, none⟩ = some (.string (bs o6)) := HFB.out.o.cell 6
                have q7 : wr.cell? ⟨bo, 7, none⟩ = some (.string (bs o7)) := HFB.out.o.cell 7
                have q8 : wr.cell? ⟨bo, 8, none⟩ = some (.string (bs o8)) := HFB.out.o.cell 8
                go_wp2_with fail
                simp +zetaDelta only [Exit.noGoto, Exit.inBlock, Exit.then]
                have hbk : Blk (((((((((wr.setCell ⟨w.heap.size + 1 + 1, 0, none⟩ (.string (bs o0))).setCell ⟨w.heap.size + 1 + 1, 1, none⟩ (.string (bs o1))).setCell ⟨w.heap.size + 1 + 1, 2, none⟩ (.string (bs o2))).setCell ⟨w.heap.size + 1 + 1, 3, none⟩ (.string (bs o3))).setCell ⟨w.heap.size + 1 + 1, 4, none⟩ (.string (bs o4))).setCell ⟨w.heap.size + 1 + 1, 5, none⟩ (.string (bs o5))).setCell ⟨w.heap.size + 1 + 1, 6, none⟩ (.string (bs o6))).setCell ⟨w.heap.size + 1 + 1, 7, none⟩ (.string (bs o7))).setCell ⟨w.heap.size + 1 + 1, 8, none⟩ (.string (bs o8))) (w.heap.size + 1 + 1) 26 (fieldsC [o0, o1, o2, o3, o4, o5, o6, o7, o8]) := (((((((((HFB.out.f.r.set_ 0 (.string (bs o0))).set_ 1 (.string (bs o1))).set_ 2 (.string (bs o2))).set_ 3 (.string (bs o3))).set_ 4 (.string (bs o4))).set_ 5 (.string (bs o5))).set_ 6 (.string (bs o6))).set_ 7 (.string (bs o7))).set_ 8 (.string (bs o8)))
                refine bodyPost_ret (results_ctt (p := 4) (u := 5) (x := 6) rfl _ _ (w.heap.size + 1 + 1) 26 _ _ rfl hbk Tryz.underlying26 rfl (by kernel_rfl)) rfl ⟨?_, (((((((((HFB.out.f.bel.setCell (p := ⟨w.heap.size + 1 + 1, 0, none⟩) (by show w.heap.size ≤ w.heap.size + 1 + 1; omega) (.string (bs o0))).setCell (p := ⟨w.heap.size + 1 + 1, 1, none⟩) (by show w.heap.size ≤ w.heap.size + 1 + 1; omega) (.string (bs o1))).setCell (p := ⟨w.heap.size + 1 + 1, 2, none⟩) (by show w.heap.size ≤ w.heap.size + 1 + 1; omega) (.string (bs o2))).setCell (p := ⟨w.heap.size + 1 + 1, 3, none⟩) (by show w.heap.size ≤ w.heap.size + 1 + 1; omega) (.string (bs o3))).setCell (p := ⟨w.heap.size + 1 + 1, 4, none⟩) (by show w.heap.size ≤ w.heap.size + 1 + 1; omega) (.string (bs o4))).setCell (p := ⟨w.heap.size + 1 + 1, 5, none⟩) (by show w.heap.size ≤ w.heap.size + 1 + 1; omega) (.string (bs o5))).setCell (p := ⟨w.heap.size + 1 + 1, 6, none⟩) (by show w.heap.size ≤ w.heap.size + 1 + 1; omega) (.string (bs o6))).setCell (p := ⟨w.heap.size + 1 + 1, 7, none⟩) (by show w.heap.size ≤ w.heap.size + 1 + 1; omega) (.string (bs o7))).setCell (p := ⟨w.heap.size + 1 + 1, 8, none⟩) (by show w.heap.size ≤ w.heap.size + 1 + 1; omega) (.string (bs o8)))⟩
                rw [HFIN.out]; rfl
end Go.Proofs.YtdcafoekbnacnaaGreatDoor

/- Walks of the references of layers 1 and 4: letters, words, names, decimal digits. -/
set_option linter.unusedVariables false
set_option linter.unusedSimpArgs false
namespace Go.Proofs.YtdcafoekbnacnaaGreatDoor
open Go.RowKit

theorem isLet_iff (c : UInt8) : isLet c = true ↔ (97 ≤ c.toNat ∧ c.toNat ≤ 122) ∨ (65 ≤ c.toNat ∧ c.toNat ≤ 90) := by
  unfold isLet clsB clsN
  split
  · simp; omega
  · rename_i h
    constructor
    · intro h'
      exfalso
      revert h'
      (repeat' split) <;> decide
    · intro h'; exact absurd (by omega) h
theorem isWd_eq (c : UInt8) : isWd c = (isLet c || isDi c || (c == 95)) := by
  have h95 : (c == 95) = decide (c.toNat = 95) := by
    by_cases h : c = 95
    · subst h; rfl
    · rw [beq_eq_false_iff_ne.2 h, decide_eq_false]; intro h'; exact h (UInt8.toNat_inj.1 h')
  rw [h95]
  unfold isWd isLet isDi clsB clsN
  by_cases h1 : 97 ≤ c.toNat ∧ c.toNat ≤ 122 ∨ 65 ≤ c.toNat ∧ c.toNat ≤ 90
  · rw [if_pos h1]; simp
  · rw [if_neg h1]
    by_cases h2 : 48 ≤ c.toNat ∧ c.toNat ≤ 57
    · rw [if_pos h2]; simp [h2]
    · rw [if_neg h2]
      by_cases h3 : c.toNat = 95
      · rw [if_pos h3]; simp [h3]
      · rw [if_neg h3]
        have h2' : (decide (48 ≤ c.toNat) && decide (c.toNat ≤ 57)) = false := by rw [Bool.and_eq_false_iff]; rcases Nat.lt_or_ge c.toNat 48 with h | h; exact .inl (decide_eq_false (by omega)); exact .inr (decide_eq_false (by omega))
        rw [h2', decide_eq_false h3]
        (repeat' split) <;> decide
set_option maxHeartbeats 1000000 in
theorem rletter_any (c : UInt8) (w : World) : Calls Tryz.prog 90 #[.int .u8 (c.toNat : Int)] w fun e w' => e = .returned (.bool (isLet c)) ∧ w' = w := by
  have hv : Hid (isLet c = true ↔ (97 ≤ c.toNat ∧ c.toNat ≤ 122) ∨ (65 ≤ c.toNat ∧ c.toNat ≤ 90)) := isLet_iff c
  have hi : ∀ {b : Bool}, (b = true ↔ (97 ≤ c.toNat ∧ c.toNat ≤ 122) ∨ (65 ≤ c.toNat ∧ c.toNat ≤ 90)) → Ending.returned (.bool b) = .returned (.bool (isLet c)) := fun h => ret_bool (by rw [Bool.eq_iff_iff]; exact h.trans hv.out.symm)
  by_cases h1 : 97 ≤ c.toNat
  · have e1 : decide ((97 : Int) ≤ (c.toNat : Int)) = true := by simp; omega
    by_cases h2 : c.toNat ≤ 122
    · have e2 : decide ((c.toNat : Int) ≤ 122) = true := by simp; omega
      have HF : Hid (Ending.returned (.bool true) = .returned (.bool (isLet c))) := hi (by simp; omega)
      go_enter Tryz.func90, Tryz.ntmps90
      go_wp2_with fail
      go_ret
      exact ⟨HF.out, rfl⟩
    · have e2 : decide ((c.toNat : Int) ≤ 122) = false := by simp; omega
      have e3 : decide ((65 : Int) ≤ (c.toNat : Int)) = true := by simp; omega
      have e4 : decide ((c.toNat : Int) ≤ 90) = false := by simp; omega
      have HF : Hid (Ending.returned (.bool false) = .returned (.bool (isLet c))) := hi (by simp; omega)
      go_enter Tryz.func90, Tryz.ntmps90
      go_wp2_with fail
      go_ret
      exact ⟨HF.out, rfl⟩
  · have e1 : decide ((97 : Int) ≤ (c.toNat : Int)) = false := by simp; omega
    by_cases h3 : 65 ≤ c.toNat
    · have e3 : decide ((65 : Int) ≤ (c.toNat : Int)) = true := by simp; omega
      by_cases h4 : c.toNat ≤ 90
      · have e4 : decide ((c.toNat : Int) ≤ 90) = true := by simp; omega
        have HF : Hid (Ending.returned (.bool true) = .returned (.bool (isLet c))) := hi (by simp; omega)
        go_enter Tryz.func90, Tryz.ntmps90
        go_wp2_with fail
        go_ret
        exact ⟨HF.out, rfl⟩
      · have e4 : decide ((c.toNat : Int) ≤ 90) = false := by simp; omega
        have HF : Hid (Ending.returned (.bool false) = .returned (.bool (isLet c))) := hi (by simp; omega)
        go_enter Tryz.func90, Tryz.ntmps90
        go_wp2_with fail
        go_ret
        exact ⟨HF.out, rfl⟩
    · have e3 : decide ((65 : Int) ≤ (c.toNat : Int)) = false := by simp; omega
      have HF : Hid (Ending.returned (.bool false) = .returned (.bool (isLet c))) := hi (by simp; omega)
      go_enter Tryz.func90, Tryz.ntmps90
      go_wp2_with fail
      go_ret
      exact ⟨HF.out, rfl⟩
set_option maxHeartbeats 1000000 in
theorem rdigit_any (c : UInt8) (w : World) : Calls Tryz.prog 120 #[.int .u8 (c.toNat : Int)] w fun e w' => e = .returned (.bool (isDi c)) ∧ w' = w := by
  have HD : Hid (isDi c = (decide (48 ≤ c.toNat) && decide (c.toNat ≤ 57))) := rfl
  by_cases h1 : 48 ≤ c.toNat
  · have e1 : decide ((48 : Int) ≤ (c.toNat : Int)) = true := by simp; omega
    have HE : Hid (decide ((c.toNat : Int) ≤ 57) = isDi c) := by show _ = _; rw [HD.out, decide_eq_true h1, Bool.true_and]; by_cases h : c.toNat ≤ 57 <;> simp [h] <;> omega
    go_enter Tryz.func120, Tryz.ntmps120
    go_wp2_with fail
    go_ret
    exact ⟨ret_bool HE.out, rfl⟩
  · have e1 : decide ((48 : Int) ≤ (c.toNat : Int)) = false := by simp; omega
    have HE : Hid (isDi c = false) := by show _ = _; rw [HD.out, decide_eq_false h1]; rfl
    go_enter Tryz.func120, Tryz.ntmps120
    go_wp2_with fail
    go_ret
    exact ⟨ret_bool (by rw [HE.out]), rfl⟩
set_option maxHeartbeats 1000000 in
theorem rword_any (c : UInt8) (w : World) : Calls Tryz.prog 89 #[.int .u8 (c.toNat : Int)] w fun e w' => e = .returned (.bool (isWd c)) ∧ w' = w := by
  have HW := hide (isWd_eq c)
  have CL := fun w => rletter_any c w
  have CD := fun w => rdigit_any c w
  have h95 : ((c.toNat : Int) == 95) = (c == 95) := by
    by_cases h : c = 95
    · subst h; rfl
    · rw [beq_eq_false_iff_ne.2 h, beq_eq_false_iff_ne]; intro h'; exact h (UInt8.toNat_inj.1 (by show c.toNat = 95; omega))
  generalize (c == 95) = C at *
  generalize isLet c = A at *
  generalize isDi c = B at *
  cases A with
  | true =>
    go_enter Tryz.func89, Tryz.ntmps89
    go_wp2_with (first | ((with_reducible refine (CL _).mono ?_); rintro e w' ⟨rfl, rfl⟩) | ((with_reducible refine (CD _).mono ?_); rintro e w' ⟨rfl, rfl⟩))
    go_ret
    exact ⟨ret_bool (by rw [HW.out]; rfl), rfl⟩
  | false =>
    cases B with
    | true =>
      go_enter Tryz.func89, Tryz.ntmps89
      go_wp2_with (first | ((with_reducible refine (CL _).mono ?_); rintro e w' ⟨rfl, rfl⟩) | ((with_reducible refine (CD _).mono ?_); rintro e w' ⟨rfl, rfl⟩))
      go_ret
      exact ⟨ret_bool (by rw [HW.out]; rfl), rfl⟩
    | false =>
      go_enter Tryz.func89, Tryz.ntmps89
      go_wp2_with (first | ((with_reducible refine (CL _).mono ?_); rintro e w' ⟨rfl, rfl⟩) | ((with_reducible refine (CD _).mono ?_); rintro e w' ⟨rfl, rfl⟩))
      go_ret
      exact ⟨ret_bool (by rw [HW.out]; rfl), rfl⟩
def hdLet : List UInt8 → Bool
  | c :: _ => isLet c
  | [] => false
theorem hdLet_at {s : List UInt8} {c : UInt8} (h : s[0]? = some c) : hdLet s = isLet c := by
  cases s with
  | nil => simp at h
  | cons a r => simp at h; subst h; rfl
theorem isNm_eq (s : List UInt8) : isNm s = (s.all isWd && decide (0 < s.length) && decide (s.length ≤ 24) && hdLet s) := by
  unfold isNm
  cases s with
  | nil => rfl
  | cons c r =>
    rw [decide_eq_true (show 0 < (c :: r).length by simp)]
    show (isLet c && (c :: r).all isWd && decide ((c :: r).length ≤ 24)) = ((c :: r).all isWd && true && decide ((c :: r).length ≤ 24) && isLet c)
    generalize isLet c = A
    generalize (c :: r).all isWd = B
    generalize decide ((c :: r).length ≤ 24) = D
    cases A <;> cases B <;> cases D <;> rfl
set_option maxRecDepth 100000 in
set_option maxHeartbeats 2000000 in
theorem rName_any (s : List UInt8) (hs : s.length ≤ 140737488355328) (w : World) : Calls Tryz.prog 54 #[.string (bs s)] w fun e w' => e = .returned (.bool (isNm s)) ∧ w' = w := by
  have hsz : (bs s).size = s.length := bs_size s
  have HNM := hide (isNm_eq s)
  go_enter Tryz.func54, Tryz.ntmps54
  go_wp2_with fail
  go_loopw [3] (fun i wr => ∃ k : Nat, i = .int .i64 (k : Int) ∧ (k ≤ s.length ∧ s.all isWd = (s.drop k).all isWd) ∧ wr = w) (fun i _ => s.length - (intOf i).toNat)
  case atStart => exact ⟨0, rfl, ⟨by omega, rfl⟩, rfl⟩
  case round =>
    obtain ⟨k, rfl, ⟨hk, hall⟩, rfl⟩ := hrel
    have HA := hide hall
    clear hall
    by_cases hlt : k < s.length
    · have e1 : decide ((k : Int) < (s.length : Int)) = true := by simp; omega
      obtain ⟨c, hc⟩ : ∃ c, s[k]? = some c := ⟨_, List.getElem?_eq_getElem hlt⟩
      have ci := index_bs s k c hc
      have CV := fun w => rword_any c w
      have HD := hide (drop_at hc)
      clear hc
      cases hv : isWd c with
      | false =>
        rw [hv] at CV
        have HV := hide hv
        clear hv
        go_wp2_with ((with_reducible refine (CV _).mono ?_); rintro e w' ⟨rfl, rfl⟩)
        go_ret
        exact ⟨ret_bool (by rw [HNM.out, HA.out, HD.out, List.all_cons, HV.out]; rfl), rfl⟩
      | true =>
        rw [hv] at CV
        have HV := hide hv
        clear hv
        go_wp2_with ((with_reducible refine (CV _).mono ?_); rintro e w' ⟨rfl, rfl⟩)
        refine ⟨⟨k + 1, by go_num, ⟨by omega, by rw [HA.out, HD.out, List.all_cons, HV.out]; rfl⟩, (by first | rfl | trivial)⟩, ?_⟩
        simp [intOf]; omega
    · obtain rfl : k = s.length := by omega
      have e1 : decide ((s.length : Int) < (s.length : Int)) = false := by simp
      have HT : Hid (s.all isWd = true) := by show _ = _; rw [HA.out, List.drop_length]; rfl
      clear HA
      by_cases h0 : 0 < s.length
      · have e2 : decide ((0 : Int) < (s.length : Int)) = true := decide_eq_true (by omega)
        obtain ⟨c, hc⟩ : ∃ c, s[0]? = some c := ⟨_, List.getElem?_eq_getElem h0⟩
        have ci : ∀ w, (Instr.index 9 (.string (bs s)) (.int .i64 0)).run Tryz.prog w = .ok (.int .u8 (c.toNat : Int)) w := index_bs s 0 c hc
        have CV := fun w => rletter_any c w
        have HL := hide (hdLet_at hc)
        clear hc
        by_cases h24 : s.length ≤ 24
        · have e3 : decide ((s.length : Int) ≤ 24) = true := by simp; omega
          have HF : Hid (isNm s = isLet c) := by show _ = _; rw [HNM.out, HT.out, HL.out, decide_eq_true h0, decide_eq_true h24]; simp
          go_wp2_with ((with_reducible refine (CV _).mono ?_); rintro e w' ⟨rfl, rfl⟩)
          go_ret
          exact ⟨ret_bool (by rw [HF.out]), rfl⟩
        · have e3 : decide ((s.length : Int) ≤ 24) = false := by simp; omega
          have HF : Hid (isNm s = false) := by show _ = _; rw [HNM.out, decide_eq_false h24]; simp
          go_wp2_with fail
          go_ret
          exact ⟨ret_bool (by rw [HF.out]), rfl⟩
      · have e2 : decide ((0 : Int) < (s.length : Int)) = false := decide_eq_false (by omega)
        have HF : Hid (isNm s = false) := by show _ = _; rw [HNM.out, decide_eq_false h0]; simp
        go_wp2_with fail
        go_ret
        exact ⟨ret_bool (by rw [HF.out]), rfl⟩
end Go.Proofs.YtdcafoekbnacnaaGreatDoor

/- Plain laws of schemes: the reference's reader, which goes on behind an error. No program in sight. -/
set_option linter.unusedVariables false
set_option linter.unusedSimpArgs false
namespace Go.Proofs.YtdcafoekbnacnaaGreatDoor
open Go.RowKit

/-- the reader: what is left, the first error, its place -/
structure RQ where
  r : List Tk
  e : Int
  a : Int
def faultQ (e a : Int) (q : RQ) : RQ := if q.e = 0 then ⟨q.r, e, a⟩ else q
def takeQ (en k : Int) (s : List UInt8) (q : RQ) : Tk × RQ :=
  match q.r with
  | [] => (zTk, faultQ 6 en q)
  | t :: r => (t, if t.k ≠ k ∨ (s ≠ [] ∧ t.s ≠ s) then ⟨r, (faultQ 5 t.a q).e, (faultQ 5 t.a q).a⟩ else ⟨r, q.e, q.a⟩)
def seesQ (k : Int) (s : List UInt8) (q : RQ) : Bool := decide (q.e = 0) && seesP k s q.r
def betwQ (en : Int) (w : List UInt8) (q : RQ) : List UInt8 × RQ :=
  if seesQ 1 w q then
    ((takeQ en 3 [] ⟨q.r.tail, q.e, q.a⟩).1.s,
      if (takeQ en 3 [] ⟨q.r.tail, q.e, q.a⟩).1.s = [] ∨ smallB (takeQ en 3 [] ⟨q.r.tail, q.e, q.a⟩).1.s = false then faultQ 1 (takeQ en 3 [] ⟨q.r.tail, q.e, q.a⟩).1.a (takeQ en 3 [] ⟨q.r.tail, q.e, q.a⟩).2 else (takeQ en 3 [] ⟨q.r.tail, q.e, q.a⟩).2)
  else ([], q)
/-- the kind of a word, 0 if there is none -/
def kindR (s : List UInt8) : Int := if kindW s < 1 then 0 else kindW s
def nameQ (others : List Prt) (t : Tk) (q : RQ) : RQ :=
  if others.any (fun y => decide (y.k = kindR t.s)) then faultQ 8 t.a (if kindR t.s = 0 then faultQ 7 t.a q else q) else (if kindR t.s = 0 then faultQ 7 t.a q else q)
def needQ (q : RQ) : RQ := if seesQ 1 wNeed q then ⟨q.r.tail, q.e, q.a⟩ else q
def partQ (en : Int) (others : List Prt) (q : RQ) : Prt × RQ :=
  let t := takeQ en 1 [] (needQ q)
  let b := betwQ en wBefore (nameQ others t.1 t.2)
  let a := betwQ en wAfter b.2
  (⟨kindR t.1.s, b.1, a.1, seesQ 1 wNeed q⟩, (takeQ en 4 [59] a.2).2)
def partsQ (en : Int) : Nat → List Prt → RQ → List Prt × RQ
  | 0, acc, q => (acc, q)
  | f + 1, acc, q => if q.e = 0 ∧ (acc = [] ∨ seesQ 4 [125] q = false) then partsQ en f (acc ++ [(partQ en acc q).1]) (partQ en acc q).2 else (acc, q)
/-- an outcome of the parser, and of the reader -/
def Rel {α : Type} (R : PR α) (x : α) (q : RQ) : Prop :=
  match R with
  | .ok y r => x = y ∧ q = ⟨r, 0, 0⟩
  | .err e a => q.e = e ∧ q.a = a ∧ e ≠ 0
/-- the error and its place stay as they are -/
def Kp (q q' : RQ) : Prop := q'.e = q.e ∧ q'.a = q.a
theorem Kp.trans {q q' q'' : RQ} (h : Kp q q') (h' : Kp q' q'') : Kp q q'' := ⟨h'.1.trans h.1, h'.2.trans h.2⟩
theorem Kp.err {α : Type} {x : α} {q q' : RQ} {e a : Int} (h : q.e = e ∧ q.a = a ∧ e ≠ 0) (hk : Kp q q') : Rel (PR.err e a) x q' := ⟨hk.1.trans h.1, hk.2.trans h.2.1, h.2.2⟩
def endQ (nm : List UInt8 → Bool) (c : List UInt8) (ps : List Prt) (z : Tk × RQ) : RQ :=
  let q := if validB nm ⟨c, ps⟩ = false then faultQ 1 z.1.a z.2 else z.2
  match q.r with
  | [] => q
  | t :: _ => faultQ 5 t.a q
def finQ (c : List UInt8) (ps : List Prt) (q : RQ) : Sch × Int × Int := if q.e ≠ 0 then (zSch, q.e, q.a) else (⟨c, ps⟩, 0, 0)
/-- the head: the scheme's name, and the reader behind it -/
def headQ (en : Int) (L : List Tk) : Tk × RQ := takeQ en 1 [] (takeQ en 1 wScheme ⟨L, 0, 0⟩).2
def schemeQ (nm : List UInt8 → Bool) (en : Int) (L : List Tk) : Sch × Int × Int :=
  let c := headQ en L
  let ps := partsQ en (L.length + 1) [] (takeQ en 4 [123] c.2).2
  finQ c.1.s ps.1 (endQ nm c.1.s ps.1 (takeQ en 4 [125] ps.2))
def outP9 : PR Sch → Sch × Int × Int
  | .ok s _ => (s, 0, 0)
  | .err e a => (zSch, e, a)
/-- what the reference's Parse returns -/
def parseQ (nm : List UInt8 → Bool) (t : List UInt8) : Sch × Int × Int := if (lexP t).2.1 ≠ 0 then (zSch, (lexP t).2.1, (lexP t).2.2) else schemeQ nm t.length (lexP t).1
end Go.Proofs.YtdcafoekbnacnaaGreatDoor

/- The reference of layer 23: small, begins, Word, kind, Mark, Next. -/
set_option linter.unusedVariables false
set_option linter.unusedSimpArgs false
namespace Go.Proofs.YtdcafoekbnacnaaGreatDoor
open Go.RowKit Go.Shelf
attribute [local go_sem] Oper.semAt_some

def okcB (c : UInt8) : Bool := decide (32 ≤ c.toNat) && (decide (c.toNat ≤ 126) && !(c == 34))
theorem small_ok (s : List UInt8) : smallB s = (s.all okcB && decide (s.length ≤ 4)) := by
  unfold smallB
  have h : (prn s && !s.contains 34) = s.all okcB := by
    unfold prn
    induction s with
    | nil => rfl
    | cons c r ih =>
      rw [List.all_cons, List.all_cons, List.contains_cons, ← ih]
      unfold okcB
      have e : ((34 : UInt8) == c) = (c == 34) := by rw [Bool.eq_iff_iff]; simp; exact eq_comm
      rw [e]
      cases decide (32 ≤ c.toNat) <;> cases decide (c.toNat ≤ 126) <;> cases (c == 34) <;> simp
  rw [h, Bool.and_comm]
theorem rsmall_any (s : List UInt8) (hs : s.length ≤ 140737488355328) (w : World) : Calls Tryz.prog 55 #[.string (bs s)] w fun e w' => e = .returned (.bool (smallB s)) ∧ w' = w := by
  have hsz := bs_size s
  have HSM := hide (small_ok s)
  go_enter Tryz.func55, Tryz.ntmps55
  go_wp2_with fail
  go_loopw [3] (fun i wr => ∃ k : Nat, i = .int .i64 (k : Int) ∧ (k ≤ s.length ∧ s.all okcB = (s.drop k).all okcB) ∧ wr = w) (fun i _ => s.length - (intOf i).toNat)
  case atStart => exact ⟨0, rfl, ⟨by omega, rfl⟩, rfl⟩
  case round =>
    obtain ⟨k, rfl, ⟨hk, hall⟩, hwr⟩ := hrel
    have hwr := hwr.symm
    subst hwr
    have HA := hide hall
    clear hall
    by_cases hlt : k < s.length
    · have e1 : decide ((k : Int) < (s.length : Int)) = true := by simp; omega
      obtain ⟨c, hc⟩ : ∃ c, s[k]? = some c := ⟨_, List.getElem?_eq_getElem hlt⟩
      have ci := index_bs s k c hc
      have HD := hide (drop_at hc)
      clear hc
      have HF : Hid (okcB c = false → smallB s = false) := fun h => by rw [HSM.out, HA.out, HD.out, List.all_cons, h]; rfl
      have HT : Hid (okcB c = true → s.all okcB = (s.drop (k + 1)).all okcB) := fun h => by rw [HA.out, HD.out, List.all_cons, h]; rfl
      by_cases h1 : c.toNat < 32
      · have e2 : decide ((c.toNat : Int) < 32) = true := decide_eq_true (by omega)
        have HR := hide (HF.out (by unfold okcB; rw [decide_eq_false (by omega)]; rfl))
        clear h1
        go_wp2_with fail
        go_ret
        exact ⟨ret_bool (by rw [HR.out]), rfl⟩
      have e2 : decide ((c.toNat : Int) < 32) = false := decide_eq_false (by omega)
      by_cases h2 : 126 < c.toNat
      · have e3 : decide ((126 : Int) < (c.toNat : Int)) = true := decide_eq_true (by omega)
        have HR := hide (HF.out (by unfold okcB; rw [decide_eq_false (show ¬ c.toNat ≤ 126 by omega)]; simp))
        clear h1 h2
        go_wp2_with fail
        go_ret
        exact ⟨ret_bool (by rw [HR.out]), rfl⟩
      have e3 : decide ((126 : Int) < (c.toNat : Int)) = false := decide_eq_false (by omega)
      by_cases h3 : c = 34
      · have e4 : ((c.toNat : Int) == 34) = true := by rw [h3]; rfl
        have HR := hide (HF.out (by unfold okcB; rw [h3]; rfl))
        clear h1 h2 h3
        go_wp2_with fail
        go_ret
        exact ⟨ret_bool (by rw [HR.out]), rfl⟩
      have e4 : ((c.toNat : Int) == 34) = false := by rw [beq_eq_false_iff_ne]; intro h; exact h3 (UInt8.toNat_inj.1 (by simp; omega))
      have HR := hide (HT.out (by unfold okcB; rw [decide_eq_true (by omega), decide_eq_true (show c.toNat ≤ 126 by omega)]; simp [h3]))
      clear h1 h2 h3
      go_wp2_with fail
      refine ⟨⟨k + 1, by go_num, ⟨by omega, HR.out⟩, (by first | rfl | trivial)⟩, ?_⟩
      simp [intOf]; omega
    · obtain rfl : k = s.length := by omega
      have e1 : decide ((s.length : Int) < (s.length : Int)) = false := by simp
      have HR : Hid (smallB s = decide (s.length ≤ 4)) := by show _ = _; rw [HSM.out, HA.out, List.drop_length]; rfl
      by_cases h4 : s.length ≤ 4
      · have e2 : decide ((s.length : Int) ≤ 4) = true := decide_eq_true (by omega)
        have HV : Hid (smallB s = true) := HR.out.trans (decide_eq_true h4)
        clear h4
        go_wp2_with fail
        go_ret
        exact ⟨ret_bool (by rw [HV.out]), rfl⟩
      · have e2 : decide ((s.length : Int) ≤ 4) = false := decide_eq_false (by omega)
        have HV : Hid (smallB s = false) := HR.out.trans (decide_eq_false h4)
        clear h4
        go_wp2_with fail
        go_ret
        exact ⟨ret_bool (by rw [HV.out]), rfl⟩
theorem rbegins_any (s p : List UInt8) (w : World) : Calls Tryz.prog 57 #[.string (bs s), .string (bs p)] w fun e w' => e = .returned (.bool (decide (p <+: s))) ∧ w' = w := by
  have hsz := bs_size s
  have hsp := bs_size p
  obtain ⟨R, hR⟩ : ∃ R, decide (p <+: s) = R := ⟨_, rfl⟩
  rw [hR]
  by_cases h : p.length ≤ s.length
  · have e1 : decide ((p.length : Int) ≤ (s.length : Int)) = true := decide_eq_true (by omega)
    have e1' : decide (p.length ≤ s.length) = true := decide_eq_true h
    have hx : (bs s).extract 0 p.length = bs (s.take p.length) := by rw [bs_cut]; simp
    have HE : Hid (((bs (s.take p.length)).toList == (bs p).toList) = R) := by
      show _ = _
      rw [bs_toList, bs_toList, ← hR, Bool.eq_iff_iff, beq_iff_eq, decide_eq_true_eq]
      constructor
      · intro h; rw [← h]; exact List.take_prefix _ _
      · intro h; exact (List.prefix_iff_eq_take.1 h).symm
    have he := HE.out
    clear hR
    generalize bs (s.take p.length) = sp at *
    go_enter Tryz.func57, Tryz.ntmps57
    go_wp2_with fail
    go_ret
    exact ⟨rfl, rfl⟩
  · have e1 : decide ((p.length : Int) ≤ (s.length : Int)) = false := decide_eq_false (by omega)
    have e1' : decide (p.length ≤ s.length) = false := decide_eq_false h
    have HR : Hid (R = false) := by show _ = _; rw [← hR]; exact decide_eq_false (fun h' => h h'.length_le)
    clear hR h
    go_enter Tryz.func57, Tryz.ntmps57
    go_wp2_with fail
    go_ret
    exact ⟨ret_bool HR.out.symm, rfl⟩
def wordsA : Array Value := #[.string ⟨#[]⟩, .string ⟨#[117, 110, 105, 116]⟩, .string ⟨#[102, 108, 111, 111, 114]⟩, .string ⟨#[110, 117, 109, 98, 101, 114]⟩, .string ⟨#[115, 116, 114, 101, 101, 116]⟩, .string ⟨#[98, 108, 111, 99, 107]⟩, .string ⟨#[100, 105, 115, 116, 114, 105, 99, 116]⟩, .string ⟨#[99, 105, 116, 121]⟩, .string ⟨#[99, 111, 100, 101]⟩]
end Go.Proofs.YtdcafoekbnacnaaGreatDoor

/- The reference of layer 23: Mark, Next. -/
set_option linter.unusedVariables false
set_option linter.unusedSimpArgs false
namespace Go.Proofs.YtdcafoekbnacnaaGreatDoor
open Go.RowKit Go.Shelf
attribute [local go_sem] Oper.semAt_some

set_option maxRecDepth 100000 in
set_option maxHeartbeats 4000000 in
theorem rMark_any (c : List UInt8) (ps : List Prt) (hl0 : ps.length ≤ 8796093022208) (v : Value) (d : UInt8) (w : World) (hP : PartsAt w v ps) :
    Calls Tryz.prog 78 #[.agg #[.string (bs c), v], .int .u8 (d.toNat : Int)] w fun e w' => e = .returned (.bool (mrk ps d)) ∧ Below w.heap.size w w' := by
  obtain ⟨A, cp, rfl, hcp⟩ := hP.slice
  have HB := hide (below_one w (.cells #[.string (bs c), .slice A ps.length cp] 24))
  have HS := hide (Blk.new w 24 #[.string (bs c), .slice A ps.length cp])
  have HP := hide (hP.to HB.out)
  clear hP
  go_enter Tryz.func78, Tryz.ntmps78
  go_wp2_with fail
  generalize w.alloc (.cells #[.string (bs c), .slice A ps.length cp] 24) = w1 at *
  go_loopw [5] (fun i wr => ∃ k : Nat, k ≤ ps.length ∧ i = .int .i64 (k : Int) ∧ (∀ j p, j < k → ps[j]? = some p → hitB p d = false) ∧ Below w1.heap.size w1 wr) (fun i _ => ps.length - (intOf i).toNat)
  case atStart => exact ⟨0, by omega, rfl, fun j p h => absurd h (by omega), Below.refl _ _⟩
  case round =>
    obtain ⟨k, hk, rfl, hH, hB⟩ := hrel
    have HBw := hide hB
    have HH := hide hH
    have s1 : wr.cell? ⟨w.heap.size, 1, none⟩ = some (.slice A ps.length cp) := (HS.out.to hB).cell 1
    clear hB hH
    by_cases hkt : k < ps.length
    · obtain ⟨p, hp⟩ : ∃ p, ps[k]? = some p := ⟨_, List.getElem?_eq_getElem hkt⟩
      obtain ⟨a, cp', ea, _, hab, c0, c1, c2, c3⟩ := (HP.out.to HBw.out).at_ hp
      injection ea with ea _ ec
      subst ec
      obtain rfl := ea
      have HYES : Hid (hitB p d = true → mrk ps d = true) := fun h => mrk_yes hp h
      have HNO : Hid (hitB p d = false → ∀ j q, j < k + 1 → ps[j]? = some q → hitB q d = false) := fun h j q hj hq => by
        rcases Nat.lt_or_ge j k with h' | h'
        · exact HH.out j q h' hq
        · obtain rfl : j = k := by omega
          rw [hp] at hq; cases hq; exact h
      have HHB : Hid (hitB p d = ((p.b.head? == some d) || (p.a.head? == some d))) := rfl
      have HBX := hide (below_alloc HBw.out (Nat.le_refl _) (.cells #[.int .i64 p.k, .string (bs p.b), .string (bs p.a), .bool p.need] 41))
      have HBP := hide (Blk.new wr 41 #[.int .i64 p.k, .string (bs p.b), .string (bs p.a), .bool p.need])
      clear hp
      go_upto_region 5 with fail
      clear c0 c1 c2 c3 s1 hab
      generalize wr.alloc (.cells #[.int .i64 p.k, .string (bs p.b), .string (bs p.a), .bool p.need] 41) = w5 at *
      have p1 : w5.cell? ⟨wr.heap.size, 1, none⟩ = some (.string (bs p.b)) := HBP.out.cell 1
      have p2 : w5.cell? ⟨wr.heap.size, 2, none⟩ = some (.string (bs p.a)) := HBP.out.cell 2
      generalize wr.heap.size = bx at *
      generalize p.b = pb at *
      generalize p.a = pa at *
      cases pb with
      | nil =>
        have e1 : (bs ([] : List UInt8)).toList.isEmpty = true := by rw [bs_toList]; rfl
        cases pa with
        | nil =>
          have e2 : (bs ([] : List UInt8)).toList.isEmpty = true := by rw [bs_toList]; rfl
          have HF := hide (HNO.out (by rw [HHB.out]; simp []))
          go_wp2_with fail
          go_roundw
          case rel => exact ⟨k + 1, by omega, by go_num, HF.out, HBX.out⟩
          case measure => simp [intOf]; omega
        | cons a0 ar =>
          have e2 : (bs (a0 :: ar)).toList.isEmpty = false := by rw [bs_toList]; rfl
          have i2 := idx0 a0 ar
          by_cases ha : a0 = d
          · have HF := hide (HYES.out (by rw [HHB.out]; simp [ha]))
            have e4 : ((a0.toNat : Int) == (d.toNat : Int)) = true := by rw [ha]; simp
            clear ha 
            go_wp2_with fail
            go_ret
            exact ⟨ret_bool (by rw [HF.out]), HB.out.trans (HBX.out.mono HB.out.size)⟩
          · have e4 : ((a0.toNat : Int) == (d.toNat : Int)) = false := by rw [beq_eq_false_iff_ne]; intro h; exact ha (UInt8.toNat_inj.1 (by omega))
            have HF := hide (HNO.out (by rw [HHB.out]; simp [ha]))
            clear ha 
            go_wp2_with fail
            go_roundw
            case rel => exact ⟨k + 1, by omega, by go_num, HF.out, HBX.out⟩
            case measure => simp [intOf]; omega
      | cons b0 br =>
        have e1 : (bs (b0 :: br)).toList.isEmpty = false := by rw [bs_toList]; rfl
        have i1 := idx0 b0 br
        by_cases hb : b0 = d
        · have HF := hide (HYES.out (by rw [HHB.out]; simp [hb]))
          have e3 : ((b0.toNat : Int) == (d.toNat : Int)) = true := by rw [hb]; simp
          clear hb
          go_wp2_with fail
          go_ret
          exact ⟨ret_bool (by rw [HF.out]), HB.out.trans (HBX.out.mono HB.out.size)⟩
        · have e3 : ((b0.toNat : Int) == (d.toNat : Int)) = false := by rw [beq_eq_false_iff_ne]; intro h; exact hb (UInt8.toNat_inj.1 (by omega))
          cases pa with
          | nil =>
            have e2 : (bs ([] : List UInt8)).toList.isEmpty = true := by rw [bs_toList]; rfl
            have HF := hide (HNO.out (by rw [HHB.out]; simp [hb]))
            clear hb
            go_wp2_with fail
            go_roundw
            case rel => exact ⟨k + 1, by omega, by go_num, HF.out, HBX.out⟩
            case measure => simp [intOf]; omega
          | cons a0 ar =>
            have e2 : (bs (a0 :: ar)).toList.isEmpty = false := by rw [bs_toList]; rfl
            have i2 := idx0 a0 ar
            by_cases ha : a0 = d
            · have HF := hide (HYES.out (by rw [HHB.out]; simp [ha]))
              have e4 : ((a0.toNat : Int) == (d.toNat : Int)) = true := by rw [ha]; simp
              clear ha hb
              go_wp2_with fail
              go_ret
              exact ⟨ret_bool (by rw [HF.out]), HB.out.trans (HBX.out.mono HB.out.size)⟩
            · have e4 : ((a0.toNat : Int) == (d.toNat : Int)) = false := by rw [beq_eq_false_iff_ne]; intro h; exact ha (UInt8.toNat_inj.1 (by omega))
              have HF := hide (HNO.out (by rw [HHB.out]; simp [ha, hb]))
              clear ha hb
              go_wp2_with fail
              go_roundw
              case rel => exact ⟨k + 1, by omega, by go_num, HF.out, HBX.out⟩
              case measure => simp [intOf]; omega
    · obtain rfl : k = ps.length := by omega
      have HF : Hid (mrk ps d = false) := by
        show _ = _
        rw [mrk_hit, List.any_eq_false]
        intro q hq
        obtain ⟨n, hn, rfl⟩ := List.getElem_of_mem hq
        rw [HH.out n _ hn (List.getElem?_eq_getElem hn)]; decide
      go_wp2_with fail
      go_ret
      exact ⟨ret_bool (by rw [HF.out]), HB.out.trans (HBw.out.mono HB.out.size)⟩
/-- the indices of the parts that may be next -/
def idxR : List Prt → Nat → List Int
  | [], _ => []
  | p :: r, a => if p.need then [(a : Int)] else (a : Int) :: idxR r (a + 1)
def OwnI (w : World) (B : Nat) (v : Value) (l : List Int) : Prop := w.ownsRow B 3 1 v l.length (l.map (Value.int .i64))
theorem OwnI.to {w w' : World} {B : Nat} {v : Value} {l : List Int} (h : OwnI w B v l) (hb : Below w.heap.size w w') : OwnI w' B v l :=
  own_to' h hb
theorem cells_newI {W : World} {xs : List Value} {ty : TypeId} {b : Nat} (hb : b = W.heap.size) : ∀ (j : Nat) (u : Value), xs[j]? = some u → (W.alloc (.cells xs.toArray ty)).cell? ((⟨b, 0, none⟩ : Addr).add j) = some u := by
  subst hb
  intro j u hu
  rw [show (⟨W.heap.size, 0, none⟩ : Addr).add j = ⟨W.heap.size, j, none⟩ by unfold Addr.add; split <;> simp_all]
  refine ((Blk.new W ty xs.toArray).cell j).trans ?_
  simpa using hu
theorem own_weak {w : World} {B B' : Nat} {v : Value} {l : List Int} (h : OwnI w B v l) (hB : B' ≤ B) : OwnI w B' v l := by
  obtain ⟨h1, h2⟩ := h
  refine ⟨h1, h2.imp id ?_⟩
  rintro ⟨g, cap, cur, a1, a2, a3⟩
  exact ⟨g, cap, cur, a1, Nat.le_trans hB a2, a3⟩
theorem OwnI.slice {w : World} {B : Nat} {v : Value} {l : List Int} (h : OwnI w B v l) : ∃ A c, v = .slice A l.length c := own_slice h
theorem OwnI.at_ {w : World} {B n c : Nat} {A : Option Addr} {l : List Int} (h : OwnI w B (.slice A n c) l) {k : Nat} {x : Int} (hx : l[k]? = some x) : ∃ g, A = some ⟨g, 0, none⟩ ∧ w.cell? ⟨g, k, none⟩ = some (.int .i64 x) ∧ g < w.heap.size ∧ l.length ≤ c := by
  obtain ⟨_, h⟩ := h
  rcases h with ⟨_, h0⟩ | ⟨g, cap, cur, hv, hB, hg, hn, _, hs, ht⟩
  · rw [List.eq_nil_of_length_eq_zero h0] at hx; cases hx
  · injection hv with e1 _ e3
    subst e1 e3
    have hb : Blk w g 3 cur := hg
    refine ⟨g, rfl, (hb.cell k).trans ?_, hb.lt, hn⟩
    have h1 : (l.map (Value.int .i64))[k]? = some (.int .i64 x) := by rw [List.getElem?_map, hx]; rfl
    rw [← ht, List.getElem?_take] at h1
    split at h1
    · simpa using h1
    · cases h1
theorem idx_need {ps : List Prt} {k : Nat} {p : Prt} (hp : ps[k]? = some p) : idxR (ps.drop k) k = if p.need then [(k : Int)] else (k : Int) :: idxR (ps.drop (k + 1)) (k + 1) := by
  obtain ⟨hlt, e⟩ := List.getElem?_eq_some_iff.1 hp
  rw [List.drop_eq_getElem_cons hlt, e, idxR]
theorem idx_len : ∀ (r : List Prt) (a : Nat), (idxR r a).length = (nxtL r).length
  | [], _ => rfl
  | p :: r, a => by
    rw [idxR, nxtL]
    split
    · rfl
    · rw [List.length_cons, List.length_cons, idx_len r]
theorem idx_at : ∀ (r : List Prt) (a m : Nat), m < (nxtL r).length → (idxR r a)[m]? = some ((a + m : Nat) : Int)
  | [], _, m, h => absurd h (Nat.not_lt_zero _)
  | p :: r, a, m, h => by
    rw [idxR]
    rw [nxtL] at h
    cases hn : p.need with
    | true =>
      rw [if_pos rfl]
      rw [hn] at h
      have : m = 0 := by simpa using h
      subst this; rfl
    | false =>
      rw [if_neg (by simp)]
      rw [hn, if_neg (by simp)] at h
      cases m with
      | zero => rfl
      | succ m =>
        rw [List.getElem?_cons_succ, idx_at r (a + 1) m (by simpa using h)]
        congr 2; omega
theorem nxt_at : ∀ (r : List Prt) (m : Nat), m < (nxtL r).length → (nxtL r)[m]? = r[m]?
  | [], m, h => absurd h (Nat.not_lt_zero _)
  | p :: r, m, h => by
    rw [nxtL] at h ⊢
    cases hn : p.need with
    | true =>
      rw [hn] at h
      have : m = 0 := by simpa using h
      subst this; rfl
    | false =>
      rw [hn, if_neg (by simp)] at h
      rw [if_neg (by simp)]
      cases m with
      | zero => rfl
      | succ m => rw [List.getElem?_cons_succ, List.getElem?_cons_succ]; exact nxt_at r m (by simpa using h)
theorem nxt_len : ∀ r : List Prt, (nxtL r).length ≤ r.length
  | [] => Nat.le_refl _
  | p :: r => by
    rw [nxtL]
    split
    · simp
    · have := nxt_len r; simp; exact this
set_option maxRecDepth 100000 in
set_option maxHeartbeats 4000000 in
theorem rNext_any (c : List UInt8) (ps : List Prt) (hl0 : ps.length ≤ 1000000) (v : Value) (i : Int) (a : Nat) (hi : i + 1 = (a : Int)) (ha : a ≤ ps.length) (w : World) (hP : PartsAt w v ps) :
    Calls Tryz.prog 56 #[.agg #[.string (bs c), v], .int .i64 i] w fun e w' => ∃ v, e = .returned v ∧ OwnI w' w.heap.size v (idxR (ps.drop a) a) ∧ Below w.heap.size w w' := by
  obtain ⟨i0, hi0, hz0, hz1, hz2⟩ := info_parts (show (Tryz.prog.info? 3).map (fun i => (i.zero, i.size, i.bytes)) = some (some (.int .i64 0), 1, 8) by kernel_rfl)
  obtain ⟨A, cp, rfl, hcp⟩ := hP.slice
  have HB := hide (below_one w (.cells #[.string (bs c), .slice A ps.length cp] 24))
  have HS := hide (Blk.new w 24 #[.string (bs c), .slice A ps.length cp])
  have HP := hide (hP.to HB.out)
  clear hP
  have hi9 : -9223372036854775808 ≤ i := by omega
  go_enter Tryz.func56, Tryz.ntmps56
  go_wp2_with fail
  generalize w.alloc (.cells #[.string (bs c), .slice A ps.length cp] 24) = w1 at *
  go_loopw [5, 6] (fun o t wr => ∃ (k : Nat) (acc : List Int), t = .int .i64 (k : Int) ∧ (a ≤ k ∧ k ≤ ps.length ∧ acc.length ≤ k ∧ acc ++ idxR (ps.drop k) k = idxR (ps.drop a) a) ∧ OwnI wr w1.heap.size o acc ∧ Below w1.heap.size w1 wr) (fun _ t _ => ps.length - (intOf t).toNat)
  case atStart => exact ⟨a, [], by go_num, ⟨Nat.le_refl _, ha, Nat.zero_le _, rfl⟩, World.ownsRow_nil _ _ _ _, Below.refl _ _⟩
  case round =>
    obtain ⟨k, acc, rfl, ⟨hak, hk, hacc, heq⟩, hO, hB⟩ := hrel
    have HEQ := hide heq
    have HBw := hide hB
    have HO := hide hO
    have s1 : wr.cell? ⟨w.heap.size, 1, none⟩ = some (.slice A ps.length cp) := (HS.out.to hB).cell 1
    have HSZ : Hid (w1.heap.size ≤ wr.heap.size) := hB.size
    clear hB hO heq
    obtain ⟨Ao, co, rfl⟩ := HO.out.slice
    by_cases hkt : k < ps.length
    · obtain ⟨p, hp⟩ : ∃ p, ps[k]? = some p := ⟨_, List.getElem?_eq_getElem hkt⟩
      have HIX := hide (idx_need hp)
      have HPP := hide hp
      clear hp
      go_wp2_with (at_builtin; refine wpList_append_own _ rfl (.tmp 16) (.tmp 18) _ rfl w1.heap.size 3 i0 (.int .i64 0) 1 8 Tryz.underlying85 hi0 hz0 hz1 hz2 rfl (by omega) _ acc.length (acc.map (Value.int .i64)) rfl ?c0 ⟨_, 0, none⟩ 1 1 [.int .i64 (k : Int)] rfl rfl ?c1 ?c2 ?c4 ?c5 ?c3 ?_)
      case c0 => exact own_to' HO.out (below_one _ _)
      case c1 => exact cells_newI (xs := [.int .i64 (k : Int)]) rfl
      case c2 => intro u hu; simp only [List.mem_cons, List.not_mem_nil, or_false] at hu; rcases hu with rfl; rfl
      case c4 => simp only [maxLen]; omega
      case c5 => omega
      case c3 => have := HSZ.out; simp; omega
      intro v' w6 hown6 hgr6 _
      have HB6 := hide ((below_alloc HBw.out (Nat.le_refl _) _).grown hgr6 (by have := HSZ.out; simp; omega) (fun b hb => (World.ownsRow.lt HO.out b hb).1))
      have HO6 : Hid (OwnI w6 w1.heap.size v' (acc ++ [(k : Int)])) := by
        show World.ownsRow _ _ _ _ _ _ _
        rw [List.map_append, List.length_append]
        exact hown6
      have s2 : w6.cell? ⟨w.heap.size, 1, none⟩ = some (.slice A ps.length cp) := (HS.out.to HB6.out).cell 1
      obtain ⟨ad, cp', ea, _, hab, c0, c1, c2, c3⟩ := (HP.out.to HB6.out).at_ HPP.out
      injection ea with ea _ ec
      subst ec
      obtain rfl := ea
      clear s1 hown6 hgr6 c0 c1 c2
      cases hn : p.need with
      | true =>
        rw [hn] at c3 HIX
        clear hn
        go_wp2_with fail
        go_ret
        exact ⟨_, rfl, own_weak (by rw [← HEQ.out, HIX.out]; exact HO6.out) HB.out.size, HB.out.trans (HB6.out.mono HB.out.size)⟩
      | false =>
        rw [hn] at c3 HIX
        clear hn
        go_wp2_with fail
        go_roundw
        case rel => exact ⟨k + 1, acc ++ [(k : Int)], by go_num, ⟨by omega, by omega, by simp; omega, by rw [← HEQ.out, HIX.out, List.append_assoc]; rfl⟩, HO6.out, HB6.out⟩
        case measure => simp [intOf]; omega
    · obtain rfl : k = ps.length := by omega
      have e1 : decide ((ps.length : Int) < (ps.length : Int)) = false := by simp
      have HE : Hid (idxR (ps.drop a) a = acc) := by show _ = _; rw [← HEQ.out, List.drop_length, idxR, List.append_nil]
      go_wp2_with fail
      go_ret
      exact ⟨_, rfl, own_weak (by rw [HE.out]; exact HO.out) HB.out.size, HB.out.trans (HBw.out.mono HB.out.size)⟩
end Go.Proofs.YtdcafoekbnacnaaGreatDoor
