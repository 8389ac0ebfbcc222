/- Several texts as one, in build order. -/
import Derived.Test.YtdcafoekbnacnaaGreatDoorMD
import Derived.Lib.Space
import Derived.Lib.SmallJoins
import Derived.Test.YtdcafoekbnacnaaGreatDoorMA
import Derived.Deep.DeepCutAuto
import Derived.Test.YtdcafoekbnacnaaGreatDoorMB
import Derived.Scope
/- Package format: isValue. -/
set_option linter.unusedVariables false
set_option linter.unusedSimpArgs false
namespace Go.Proofs.YtdcafoekbnacnaaGreatDoor
open Go.RowKit Go.Shelf Go.Lib
attribute [local go_sem] Oper.semAt_some

/-- the variables that chapter 24 reads -/
structure Glob4 (w : World) : Prop where
  g : Glob w
  sp : Lib.TabIs Tryz.prog w "strings.asciiSpace" .u8 Lib.asciiSpaceTab
theorem Glob4.to {w w' : World} (h : Glob4 w) (hb : Below w.heap.size w w') : Glob4 w' :=
  ⟨h.g.to hb, var_below h.sp (g := 0) (by kernel_rfl) hb (g_lt (w := w) h.g.top (by kernel_rfl))⟩
theorem sp_prn {c : UInt8} (h : 32 ≤ c.toNat) : isSp c = (c == 32) := by
  unfold isSp
  have h9 : (c == 9) = false := by rw [beq_eq_false_iff_ne]; intro e; rw [e] at h; simp at h
  have h10 : (c == 10) = false := by rw [beq_eq_false_iff_ne]; intro e; rw [e] at h; simp at h
  have h11 : (c == 11) = false := by rw [beq_eq_false_iff_ne]; intro e; rw [e] at h; simp at h
  have h12 : (c == 12) = false := by rw [beq_eq_false_iff_ne]; intro e; rw [e] at h; simp at h
  have h13 : (c == 13) = false := by rw [beq_eq_false_iff_ne]; intro e; rw [e] at h; simp at h
  rw [h9, h10, h11, h12, h13]; rfl
theorem trim_le (l : List UInt8) : (Lib.trimSpace l).length ≤ (l.dropWhile isSp).length := by
  unfold Lib.trimSpace
  rw [List.length_reverse]
  refine Nat.le_trans (List.dropWhile_sublist _).length_le ?_
  rw [List.length_reverse]; exact Nat.le_refl _
theorem trim_prn {v : List UInt8} (hp : prn v = true) : decide (Lib.trimSpace v = v) = (!(v.head? == some 32) && !(v.getLast? == some 32)) := by
  have hb : ∀ c ∈ v, 32 ≤ c.toNat := fun c hc => by
    unfold prn at hp
    have := List.all_eq_true.1 hp c hc
    simp only [Bool.and_eq_true, decide_eq_true_eq] at this
    exact this.1
  cases v with
  | nil => rfl
  | cons c r =>
    by_cases h0 : c = 32
    · subst h0
      have e1 : ((32 :: r).head? == some (32 : UInt8)) = true := by simp
      rw [e1, Bool.not_true, Bool.false_and, decide_eq_false]
      intro h
      have h1 := trim_le (32 :: r)
      rw [h] at h1
      have e2 : (32 :: r).dropWhile isSp = r.dropWhile isSp := by rw [List.dropWhile_cons, if_pos (by decide)]
      rw [e2] at h1
      have := (List.dropWhile_sublist isSp (l := r)).length_le
      simp at h1
      omega
    · have e1 : ((c :: r).head? == some (32 : UInt8)) = false := by simp [h0]
      have e2 : (c :: r).dropWhile isSp = c :: r := by
        rw [List.dropWhile_cons, if_neg]
        rw [sp_prn (hb c (List.mem_cons_self ..))]
        simp [h0]
      rw [e1, Bool.not_false, Bool.true_and]
      unfold Lib.trimSpace
      rw [e2]
      obtain ⟨m, d, hmd⟩ : ∃ m d, c :: r = m ++ [d] := by
        obtain ⟨m, d, h⟩ := List.eq_nil_or_concat (c :: r) |>.resolve_left (by simp)
        exact ⟨m, d, by rw [h]; simp⟩
      rw [hmd]
      have hd : 32 ≤ d.toNat := hb d (by rw [hmd]; simp)
      rw [List.getLast?_append]
      simp only [List.getLast?_singleton, Option.some_or]
      by_cases h9 : d = 32
      · subst h9
        rw [decide_eq_false]
        · simp
        · intro h
          have h2 := congrArg List.length h
          rw [List.reverse_append, List.length_reverse] at h2
          simp only [List.reverse_cons, List.reverse_nil, List.nil_append, List.singleton_append] at h2
          rw [List.dropWhile_cons, if_pos (by decide)] at h2
          have := (List.dropWhile_sublist isSp (l := m.reverse)).length_le
          rw [List.length_reverse] at this
          simp at h2
          omega
      · rw [decide_eq_true]
        · simp [h9]
        · rw [List.reverse_append]
          simp only [List.reverse_cons, List.reverse_nil, List.nil_append, List.singleton_append]
          rw [List.dropWhile_cons, if_neg]
          · simp
          · rw [sp_prn hd]; simp [h9]
theorem odd_at2 (w : World) : PredAt Tryz.prog 111 #[] encR oddR w := fun W r _ => by
  unfold FnGives
  by_cases h1 : r < 32 <;> by_cases h2 : 126 < r
  all_goals
    have z1 : (r : Int) < 32 ↔ r < 32 := by omega
    have z2 : (126 : Int) < (r : Int) ↔ 126 < r := by omega
    go_enter Tryz.func111, Tryz.ntmps111
    go_wp2
    all_goals first | (exfalso; omega) | (go_ret; exact ⟨by simp [oddR, h1, h2], 0, rfl⟩)
theorem odd_any (l : List UInt8) (w : World) : Calls Tryz.prog 91 #[.string (bs l), .func (.func 111) #[] #[]] w fun e w' => e = .returned (.bool (!prn l)) ∧ Below w.heap.size w w' := by
  have hv : decide (0 ≤ Lib.idxFunc oddR true (bs l)) = !prn l := by
    unfold Lib.idxFunc
    rw [idx_odd l (bs l).size 0 (by rw [bs_size]; omega)]; simp
  have hC := Tryz.strings_ContainsFunc 111 #[] (enters_of Tryz.func111 (by kernel_rfl) rfl) oddR (bs l) w (odd_at2 w)
  rw [hv] at hC
  exact hC
theorem TrimSpace_any (l : List UInt8) (hl : l.length ≤ 100000) (hp : prn l = true) (w : World) (hg : Glob4 w) : Calls Tryz.prog 112 #[.string (bs l)] w fun e w' => e = .returned (.string (bs (Lib.trimSpace l))) ∧ Below w.heap.size w w' := by
  have := Tryz.strings_TrimSpace (bs l) w (by rw [bs_size]; omega) (by rw [bs_list]; exact prn_ascii hp) hg.sp
  refine this.mono ?_
  rintro e w' ⟨rfl, rfl⟩
  exact ⟨by rw [bs_list]; rfl, Lib.bytesWorld_below _ _ _⟩
set_option maxRecDepth 100000 in
set_option maxHeartbeats 4000000 in
theorem isValue_any (p : Prt) (v : List UInt8) (hv0 : v.length ≤ 100000) (w : World) (hg : Glob4 w) :
    Calls Tryz.prog 73 #[.agg #[.int .i64 p.k, .string (bs p.b), .string (bs p.a), .bool p.need], .string (bs v)] w fun e w' => e = .returned (.bool (isVal numB p.k v)) ∧ Below w.heap.size w w' := by
  have hsz := bs_size v
  have HG0 := hide hg
  have HIV : Hid (isVal numB p.k v = (!v.isEmpty && (prn v && (decide (v.length ≤ 60) && (decide (Lib.trimSpace v = v) && (!decide (p.k = 3) || numB v)))))) := by
    show _ = _
    unfold isVal
    cases hp : prn v with
    | false => simp
    | true => rw [trim_prn hp]; simp [Bool.and_assoc]
  generalize isVal numB p.k v = R at *
  have HBX := hide (below_one w (.cells #[.int .i64 p.k, .string (bs p.b), .string (bs p.a), .bool p.need] 41))
  have HX := hide (Blk.new w 41 #[.int .i64 p.k, .string (bs p.b), .string (bs p.a), .bool p.need])
  clear hg
  go_enter Tryz.func73, Tryz.ntmps73
  go_wp2_with fail
  have HG1 := hide (HG0.out.to HBX.out)
  generalize w.alloc (.cells #[.int .i64 p.k, .string (bs p.b), .string (bs p.a), .bool p.need] 41) = w1 at *
  refine (odd_any v w1).mono ?_
  rintro e w2 ⟨rfl, hb⟩
  have HG := hide (HG1.out.to hb)
  have HX2 := hide (HX.out.to hb)
  have HB := hide (below_to HBX.out (Nat.le_refl _) hb)
  clear hb HG1 HX HBX HG0
  cases v with
  | nil =>
    have e1 : (bs ([] : List UInt8)).toList.isEmpty = true := by rw [bs_toList]; rfl
    have HR : Hid (R = false) := HIV.out.trans rfl
    go_wp2_with fail
    go_ret
    exact ⟨ret_bool HR.out.symm, HB.out⟩
  | cons c0 r0 =>
    have e1 : (bs (c0 :: r0)).toList.isEmpty = false := by rw [bs_toList]; rfl
    rw [show (c0 :: r0).isEmpty = false from rfl, Bool.not_false, Bool.true_and] at HIV
    generalize c0 :: r0 = v at *
    cases hp : prn v with
    | false =>
      have HR : Hid (R = false) := HIV.out.trans (by rw [hp]; rfl)
      clear hp
      go_wp2_with fail
      go_ret
      exact ⟨ret_bool HR.out.symm, HB.out⟩
    | true =>
      have CT := fun w h => TrimSpace_any v hv0 hp w h
      rw [hp, Bool.true_and] at HIV
      clear hp
      by_cases h60 : 60 < v.length
      · have HR : Hid (R = false) := HIV.out.trans (by rw [decide_eq_false (by omega)]; rfl)
        have e2 : decide ((60 : Int) < (v.length : Int)) = true := decide_eq_true (by omega)
        clear h60
        go_wp2_with fail
        go_ret
        exact ⟨ret_bool HR.out.symm, HB.out⟩
      · have e2 : decide ((60 : Int) < (v.length : Int)) = false := decide_eq_false (by omega)
        rw [decide_eq_true (by omega : v.length ≤ 60), Bool.true_and] at HIV
        clear h60
        go_wp2_with fail
        refine (CT w2 HG.out).mono ?_
        rintro e w3 ⟨rfl, hb⟩
        have HG3 := hide (HG.out.to hb)
        have HX3 := hide (HX2.out.to hb)
        have HB3 := hide (below_to HB.out (Nat.le_refl _) hb)
        clear hb HG HX2 HB CT
        by_cases ht : Lib.trimSpace v = v
        · have e3 : ((bs (Lib.trimSpace v)).toList == (bs v).toList) = true := by rw [ht]; simp
          rw [decide_eq_true ht, Bool.true_and] at HIV
          generalize Lib.trimSpace v = tv at *
          clear ht
          have x0 : w3.cell? ⟨w.heap.size, 0, none⟩ = some (.int .i64 p.k) := HX3.out.cell 0
          by_cases hk : p.k = 3
          · have e4 : (p.k != 3) = false := by rw [hk]; rfl
            rw [decide_eq_true hk, Bool.not_true, Bool.false_or] at HIV
            clear hk
            go_wp2_with fail
            refine (Parse_any v w3 hv0 HG3.out.g).mono ?_
            rintro e w4 ⟨rfl, hb⟩
            have HB4 := hide (below_to HB3.out (Nat.le_refl _) (below_alloc hb (Nat.le_refl _) (.cells (hCells (outP v)) 93)))
            have HE : Hid ((errP v == 0) = R) := by show _ = _; rw [HIV.out]; rfl
            clear hb
            unfold hval
            generalize outP v = ov at *
            obtain ⟨on, ol, onu, od⟩ := ov
            unfold hCells at HB4
            go_wp2_with fail
            go_ret
            exact ⟨ret_bool HE.out, HB4.out⟩
          · have e4 : (p.k != 3) = true := by rw [bne_iff_ne]; exact hk
            have HR : Hid (R = true) := HIV.out.trans (by rw [decide_eq_false hk]; rfl)
            clear hk
            go_wp2_with fail
            go_ret
            exact ⟨ret_bool HR.out.symm, HB3.out⟩
        · have e3 : ((bs (Lib.trimSpace v)).toList == (bs v).toList) = false := by rw [bs_toList, bs_toList, beq_eq_false_iff_ne]; exact ht
          have HR : Hid (R = false) := HIV.out.trans (by rw [decide_eq_false ht]; rfl)
          generalize bs (Lib.trimSpace v) = tv at *
          clear ht
          go_wp2_with fail
          go_ret
          exact ⟨ret_bool HR.out.symm, HB3.out⟩
end Go.Proofs.YtdcafoekbnacnaaGreatDoor

/- What a row of chapter 24 gives: the variables' cells. -/
set_option linter.unusedVariables false
set_option linter.unusedSimpArgs false
namespace Go.Proofs.YtdcafoekbnacnaaGreatDoor
open Go.RowKit

theorem space_data : (Rows.laid_strings_asciiSpace : DataW Unit) = Lib.tabData .u8 Lib.asciiSpaceTab := by kernel_rfl
theorem glob4_of {w : World} (hs : w.ShapedOpen Tryz.prog) {r : List (String × DataW Unit)}
    (hL : laidMet Tryz.prog (("math/bits.deBruijn32tab", Rows.laid_math_bits_deBruijn32tab) :: ("math/bits.deBruijn64tab", Rows.laid_math_bits_deBruijn64tab) :: ("internal/strconv.uint64pow10", Rows.laid_internal_strconv_uint64pow10) :: ("unicode/utf8.acceptRanges", Rows.laid_unicode_utf8_acceptRanges) :: ("strconv.ErrRange", Rows.laid_strconv_ErrRange) :: ("strconv.ErrSyntax", Rows.laid_strconv_ErrSyntax) :: ("unicode.White_Space", Rows.laid_unicode_White_Space) :: ("strings.asciiSpace", Rows.laid_strings_asciiSpace) :: r) w) : Glob4 w := by
  refine ⟨glob_of hs hL, ?_⟩
  have h8 := hL.tail.tail.tail.tail.tail.tail.tail
  rw [space_data] at h8
  exact Lib.tabIs_of_head (t := 157) (e := 5) (n := 256) (g := 0) (by kernel_rfl) (by kernel_rfl) Tryz.underlying157 Tryz.underlying5 (by kernel_rfl) (by kernel_rfl) h8
end Go.Proofs.YtdcafoekbnacnaaGreatDoor

/- Package format: the closures of Read. -/
set_option linter.unusedVariables false
set_option linter.unusedSimpArgs false
namespace Go.Proofs.YtdcafoekbnacnaaGreatDoor
open Go.RowKit Go.Shelf
attribute [local go_sem] Oper.semAt_some

/-- cells of a table of 256 marks -/
def boolC (L : List Bool) : Array Value := (L.map fun v => Value.bool v).toArray
theorem boolC_at {L : List Bool} {k : Nat} {x : Bool} (h : L[k]? = some x) : (boolC L)[k]? = some (.bool x) := by unfold boolC; simp [h]
theorem boolC_set (L : List Bool) (k : Nat) (x : Bool) : boolC (L.set k x) = (boolC L).setIfInBounds k (.bool x) := by unfold boolC; simp [List.map_set]
def mb0 : List Bool := (List.range 256).map fun _ => false
theorem mb0_len : mb0.length = 256 := by simp [mb0]
def setM (L : List Bool) : List UInt8 → List Bool
  | [] => L
  | c :: _ => L.set c.toNat true
theorem setM_len (L : List Bool) (l : List UInt8) : (setM L l).length = L.length := by cases l with | nil => rfl | cons c l => unfold setM; simp
/-- the marks of the parts that were seen -/
def MkF (L : List Bool) (ps : List Prt) : Prop := L.length = 256 ∧ ∀ c : UInt8, L[c.toNat]? = some (mrk ps c)
theorem mk0 : MkF mb0 [] := ⟨mb0_len, fun c => by
  have := c.toNat_lt
  unfold mb0 mrk
  rw [List.getElem?_map, List.getElem?_range this]; rfl⟩
theorem setM_at (L : List Bool) (hL : L.length = 256) (l : List UInt8) (c : UInt8) : (setM L l)[c.toNat]? = if l.head? = some c then some true else L[c.toNat]? := by
  cases l with
  | nil => rfl
  | cons d l =>
    unfold setM
    by_cases h : d = c
    · subst h
      rw [List.getElem?_set_self (by rw [hL]; exact d.toNat_lt)]; simp
    · rw [List.getElem?_set_ne (fun e => h (UInt8.toNat_inj.1 e)), if_neg (by simpa using h)]
theorem mk_step {L : List Bool} {ps : List Prt} {k : Nat} {p : Prt} (h : MkF L (ps.take k)) (hp : ps[k]? = some p) : MkF (setM (setM L p.b) p.a) (ps.take (k + 1)) := by
  refine ⟨by rw [setM_len, setM_len, h.1], fun c => ?_⟩
  rw [setM_at _ (by rw [setM_len, h.1]), setM_at _ h.1, h.2 c]
  obtain ⟨hlt, rfl⟩ := List.getElem?_eq_some_iff.1 hp
  unfold mrk
  rw [← List.take_append_getElem hlt, List.any_append]
  simp only [List.any_cons, List.any_nil, Bool.or_false]
  by_cases ha : (ps[k]).a.head? = some c
  · rw [if_pos ha, ha]; simp
  · rw [if_neg ha]
    have e2 : ((ps[k]).a.head? == some c) = false := by rw [beq_eq_false_iff_ne]; exact ha
    by_cases hb : (ps[k]).b.head? = some c
    · rw [if_pos hb, hb]; simp
    · rw [if_neg hb]
      have e1 : ((ps[k]).b.head? == some c) = false := by rw [beq_eq_false_iff_ne]; exact hb
      rw [e1, e2]; simp
set_option maxRecDepth 100000 in
set_option maxHeartbeats 4000000 in
theorem mark_any (L : List Bool) (hL : L.length = 256) (l : List UInt8) (bx : Nat) (T : TypeId) (w : World) (h : Blk w bx T (boolC L)) :
    Calls Tryz.prog 70 #[.string (bs l), .pointer (some ⟨bx, 0, none⟩)] w fun e w' => e = .returned (.tuple #[]) ∧ Blk w' bx T (boolC (setM L l)) ∧ Only w w' bx := by
  have HB := hide h
  clear h
  cases l with
  | nil =>
    have e1 : (bs ([] : List UInt8)).toList.isEmpty = true := by rw [bs_toList]; rfl
    go_enter Tryz.func70, Tryz.ntmps70
    go_wp2_with fail
    go_end0
    exact ⟨rfl, HB.out, Only.refl _ _⟩
  | cons c r =>
    have e1 : (bs (c :: r)).toList.isEmpty = false := by rw [bs_toList]; rfl
    have ci := idx0 c r
    have c0 := c.toNat_lt
    obtain ⟨x, hx⟩ : ∃ x, L[c.toNat]? = some x := ⟨_, List.getElem?_eq_getElem (by rw [hL]; exact c0)⟩
    have ck := (HB.out.cell c.toNat).trans (boolC_at hx)
    have cf := HB.out.frozen c.toNat
    have HT : Hid (Blk (w.setCell ⟨bx, c.toNat, none⟩ (.bool true)) bx T (boolC (setM L (c :: r)))) := by
      show Blk _ _ _ (boolC (L.set c.toNat true))
      rw [boolC_set]; exact HB.out.set_ _ _
    have HO := hide ((Only.refl w bx).set_ c.toNat (.bool true))
    clear hx HB
    go_enter Tryz.func70, Tryz.ntmps70
    go_wp2_with fail
    go_end0
    exact ⟨rfl, HT.out, HO.out⟩
theorem results_ctt {P : Program} {fn : Func} {p u x : Tmp} {ty : TypeId} (h : fn.results = #[.cell p ty, .tmp u, .tmp x]) (tmps : Array Value) (w : World) (g : Nat) (t : TypeId) (cs : Array Value) (d : TypeDesc)
    (hp : tmps.getD p undef = .pointer (some ⟨g, 0, none⟩)) (hg : Blk w g t cs)
    (hu : P.underlying ty = some d) (hd : (match d with | .struct _ | .array _ _ => true | _ => false) = true) (hi : (P.info? ty).map (·.size) = some cs.size) :
    (results fn tmps).run P w = .ok (.tuple #[.agg cs, tmps.getD u undef, tmps.getD x undef]) w := by
  have hp' : tmps[p]?.getD undef = .pointer (some ⟨g, 0, none⟩) := by simpa using hp
  simp [results, h, hp', asAddr, run_loadVar_row w g t ty cs (0, 0) d hg hu hd hi]
def Z9 : Array Value := #[.string ⟨#[]⟩, .string ⟨#[]⟩, .string ⟨#[]⟩, .string ⟨#[]⟩, .string ⟨#[]⟩, .string ⟨#[]⟩, .string ⟨#[]⟩, .string ⟨#[]⟩, .string ⟨#[]⟩]
def missE (a n : Nat) : Int := if a = n then 6 else 5
set_option maxRecDepth 100000 in
set_option maxHeartbeats 4000000 in
theorem missing_any (t : List UInt8) (a : Nat) (ha : a ≤ t.length) (ht : t.length ≤ 100000) (ba bt : Nat) (w : World) (hA : Blk w ba 3 #[.int .i64 (a : Int)]) (hT : Blk w bt 9 #[.string (bs t)]) :
    Calls Tryz.prog 71 #[.pointer (some ⟨ba, 0, none⟩), .pointer (some ⟨bt, 0, none⟩)] w fun e w' => e = .returned (.tuple #[.agg Z9, .int .i64 (missE a t.length), .int .i64 (a : Int)]) ∧ Below w.heap.size w w' := by
  have hsz := bs_size t
  have HZ := hide (Blk.new w 26 #[.string ⟨#[]⟩, .string ⟨#[]⟩, .string ⟨#[]⟩, .string ⟨#[]⟩, .string ⟨#[]⟩, .string ⟨#[]⟩, .string ⟨#[]⟩, .string ⟨#[]⟩, .string ⟨#[]⟩])
  have HBZ := hide (below_one w (.cells #[.string ⟨#[]⟩, .string ⟨#[]⟩, .string ⟨#[]⟩, .string ⟨#[]⟩, .string ⟨#[]⟩, .string ⟨#[]⟩, .string ⟨#[]⟩, .string ⟨#[]⟩, .string ⟨#[]⟩] 26))
  have HA := hide (hA.to HBZ.out)
  have HT := hide (hT.to HBZ.out)
  have n1 : ba ≠ w.heap.size := Nat.ne_of_lt hA.lt
  have n2 : w.heap.size ≠ ba := fun h => n1 h.symm
  clear hA hT
  go_enter Tryz.func71, Tryz.ntmps71
  go_upto_region 1 with fail
  generalize hw1 : w.alloc (.cells #[.string ⟨#[]⟩, .string ⟨#[]⟩, .string ⟨#[]⟩, .string ⟨#[]⟩, .string ⟨#[]⟩, .string ⟨#[]⟩, .string ⟨#[]⟩, .string ⟨#[]⟩, .string ⟨#[]⟩] 26) = w1 at *
  clear hw1
  generalize hbz : w.heap.size = bz at *
  have a0 : w1.cell? ⟨ba, 0, none⟩ = some (.int .i64 (a : Int)) := HA.out.cell 0
  have t0 : w1.cell? ⟨bt, 0, none⟩ = some (.string (bs t)) := HT.out.cell 0
  have z0 : w1.cell? ⟨bz, 0, none⟩ = some (.string ⟨#[]⟩) := HZ.out.cell 0
  have y0 := HZ.out.frozen 0
  have z1 : w1.cell? ⟨bz, 1, none⟩ = some (.string ⟨#[]⟩) := HZ.out.cell 1
  have y1 := HZ.out.frozen 1
  have z2 : w1.cell? ⟨bz, 2, none⟩ = some (.string ⟨#[]⟩) := HZ.out.cell 2
  have y2 := HZ.out.frozen 2
  have z3 : w1.cell? ⟨bz, 3, none⟩ = some (.string ⟨#[]⟩) := HZ.out.cell 3
  have y3 := HZ.out.frozen 3
  have z4 : w1.cell? ⟨bz, 4, none⟩ = some (.string ⟨#[]⟩) := HZ.out.cell 4
  have y4 := HZ.out.frozen 4
  have z5 : w1.cell? ⟨bz, 5, none⟩ = some (.string ⟨#[]⟩) := HZ.out.cell 5
  have y5 := HZ.out.frozen 5
  have z6 : w1.cell? ⟨bz, 6, none⟩ = some (.string ⟨#[]⟩) := HZ.out.cell 6
  have y6 := HZ.out.frozen 6
  have z7 : w1.cell? ⟨bz, 7, none⟩ = some (.string ⟨#[]⟩) := HZ.out.cell 7
  have y7 := HZ.out.frozen 7
  have z8 : w1.cell? ⟨bz, 8, none⟩ = some (.string ⟨#[]⟩) := HZ.out.cell 8
  have y8 := HZ.out.frozen 8
  have HBN := hide hbz
  clear hbz
  by_cases h : a = t.length
  · have e1 : ((a : Int) == (t.length : Int)) = true := by rw [h]; simp
    have HE : Hid (missE a t.length = 6) := if_pos h
    clear h
    go_wp2_with fail
    go_region
    go_wp2_with fail
    have hbk : Blk (((((((((w1.setCell ⟨bz, 0, none⟩ (.string ⟨#[]⟩)).setCell ⟨bz, 1, none⟩ (.string ⟨#[]⟩)).setCell ⟨bz, 2, none⟩ (.string ⟨#[]⟩)).setCell ⟨bz, 3, none⟩ (.string ⟨#[]⟩)).setCell ⟨bz, 4, none⟩ (.string ⟨#[]⟩)).setCell ⟨bz, 5, none⟩ (.string ⟨#[]⟩)).setCell ⟨bz, 6, none⟩ (.string ⟨#[]⟩)).setCell ⟨bz, 7, none⟩ (.string ⟨#[]⟩)).setCell ⟨bz, 8, none⟩ (.string ⟨#[]⟩)).drew bz 26 Z9 := (((((((((HZ.out.set_ 0 (.string ⟨#[]⟩)).set_ 1 (.string ⟨#[]⟩)).set_ 2 (.string ⟨#[]⟩)).set_ 3 (.string ⟨#[]⟩)).set_ 4 (.string ⟨#[]⟩)).set_ 5 (.string ⟨#[]⟩)).set_ 6 (.string ⟨#[]⟩)).set_ 7 (.string ⟨#[]⟩)).set_ 8 (.string ⟨#[]⟩)).drew
    refine bodyPost_ret (results_ctt (p := 2) (u := 3) (x := 4) rfl _ _ bz 26 _ _ rfl hbk Tryz.underlying26 rfl (by kernel_rfl)) rfl ⟨?_, ?_⟩
    · rw [HE.out]; rfl
    · rw [HBN.out]; exact (((((((((HBZ.out.setCell (p := ⟨bz, 0, none⟩) (Nat.le_refl _) (.string ⟨#[]⟩)).setCell (p := ⟨bz, 1, none⟩) (Nat.le_refl _) (.string ⟨#[]⟩)).setCell (p := ⟨bz, 2, none⟩) (Nat.le_refl _) (.string ⟨#[]⟩)).setCell (p := ⟨bz, 3, none⟩) (Nat.le_refl _) (.string ⟨#[]⟩)).setCell (p := ⟨bz, 4, none⟩) (Nat.le_refl _) (.string ⟨#[]⟩)).setCell (p := ⟨bz, 5, none⟩) (Nat.le_refl _) (.string ⟨#[]⟩)).setCell (p := ⟨bz, 6, none⟩) (Nat.le_refl _) (.string ⟨#[]⟩)).setCell (p := ⟨bz, 7, none⟩) (Nat.le_refl _) (.string ⟨#[]⟩)).setCell (p := ⟨bz, 8, none⟩) (Nat.le_refl _) (.string ⟨#[]⟩)).drew
  · have e1 : ((a : Int) == (t.length : Int)) = false := by rw [beq_eq_false_iff_ne]; omega
    have HE : Hid (missE a t.length = 5) := if_neg h
    clear h
    go_wp2_with fail
    go_region
    go_wp2_with fail
    have hbk : Blk (((((((((w1.setCell ⟨bz, 0, none⟩ (.string ⟨#[]⟩)).setCell ⟨bz, 1, none⟩ (.string ⟨#[]⟩)).setCell ⟨bz, 2, none⟩ (.string ⟨#[]⟩)).setCell ⟨bz, 3, none⟩ (.string ⟨#[]⟩)).setCell ⟨bz, 4, none⟩ (.string ⟨#[]⟩)).setCell ⟨bz, 5, none⟩ (.string ⟨#[]⟩)).setCell ⟨bz, 6, none⟩ (.string ⟨#[]⟩)).setCell ⟨bz, 7, none⟩ (.string ⟨#[]⟩)).setCell ⟨bz, 8, none⟩ (.string ⟨#[]⟩)).drew bz 26 Z9 := (((((((((HZ.out.set_ 0 (.string ⟨#[]⟩)).set_ 1 (.string ⟨#[]⟩)).set_ 2 (.string ⟨#[]⟩)).set_ 3 (.string ⟨#[]⟩)).set_ 4 (.string ⟨#[]⟩)).set_ 5 (.string ⟨#[]⟩)).set_ 6 (.string ⟨#[]⟩)).set_ 7 (.string ⟨#[]⟩)).set_ 8 (.string ⟨#[]⟩)).drew
    refine bodyPost_ret (results_ctt (p := 2) (u := 3) (x := 4) rfl _ _ bz 26 _ _ rfl hbk Tryz.underlying26 rfl (by kernel_rfl)) rfl ⟨?_, ?_⟩
    · rw [HE.out]; rfl
    · rw [HBN.out]; exact (((((((((HBZ.out.setCell (p := ⟨bz, 0, none⟩) (Nat.le_refl _) (.string ⟨#[]⟩)).setCell (p := ⟨bz, 1, none⟩) (Nat.le_refl _) (.string ⟨#[]⟩)).setCell (p := ⟨bz, 2, none⟩) (Nat.le_refl _) (.string ⟨#[]⟩)).setCell (p := ⟨bz, 3, none⟩) (Nat.le_refl _) (.string ⟨#[]⟩)).setCell (p := ⟨bz, 4, none⟩) (Nat.le_refl _) (.string ⟨#[]⟩)).setCell (p := ⟨bz, 5, none⟩) (Nat.le_refl _) (.string ⟨#[]⟩)).setCell (p := ⟨bz, 6, none⟩) (Nat.le_refl _) (.string ⟨#[]⟩)).setCell (p := ⟨bz, 7, none⟩) (Nat.le_refl _) (.string ⟨#[]⟩)).setCell (p := ⟨bz, 8, none⟩) (Nat.le_refl _) (.string ⟨#[]⟩)).drew
end Go.Proofs.YtdcafoekbnacnaaGreatDoor

/- Plain laws of formats: the reference's reading, one part after the other. No program in sight. -/
set_option linter.unusedVariables false
set_option linter.unusedSimpArgs false
namespace Go.Proofs.YtdcafoekbnacnaaGreatDoor
open Go.RowKit

/-- the part that is next, and what is behind it -/
def findN : List Prt → List UInt8 → Option (Prt × List Prt)
  | [], _ => none
  | p :: r, t => if p.b <+: t then some (p, r) else if p.need then none else findN r t
/-- one part is read -/
def stepR (mk : UInt8 → Bool) (num : List UInt8 → Bool) (p : Prt) (r : List Prt) (t : List UInt8) (out : List (List UInt8)) : RdR :=
  if isVal num p.k ((t.drop p.b.length).takeWhile fun c => !mk c) then
    if p.a <+: (t.drop p.b.length).dropWhile fun c => !mk c then readR mk num r (((t.drop p.b.length).dropWhile fun c => !mk c).drop p.a.length) (out.set p.k.toNat ((t.drop p.b.length).takeWhile fun c => !mk c))
    else .miss ((t.drop p.b.length).dropWhile fun c => !mk c).length
  else .arg (t.drop p.b.length).length
theorem next_ne {r : List Prt} (h : r.any (·.need) = true) : nxtL r ≠ [] := by
  cases r with
  | nil => cases h
  | cons p r => rw [nxtL]; split <;> simp
theorem read_find {mk : UInt8 → Bool} {num : List UInt8 → Bool} {t : List UInt8} {out : List (List UInt8)} : ∀ (r : List Prt) (after : List UInt8), Told after r → (t ≠ [] ∨ r.any (·.need) = true) →
    readR mk num r t out = match findN r t with | none => .miss t.length | some (p, r') => stepR mk num p r' t out
  | [], _, _, h => by
    have ht : t ≠ [] := h.resolve_right (by simp)
    rw [readR, if_neg ht]; rfl
  | p :: r, after, hT, h => by
    rw [readR, findN]
    by_cases hs : t = [] ∧ p.need = false ∧ p.b = []
    · obtain ⟨h1, h2, h3⟩ := hs
      have hr : r.any (·.need) = true := by
        have := h.resolve_left (by simpa using h1)
        rw [List.any_cons, h2] at this
        simpa using this
      have hpw := hT.pw
      rw [show nxtL (p :: r) = p :: nxtL r by rw [nxtL, h2]; rfl] at hpw
      obtain ⟨q, l, e⟩ := List.exists_cons_of_ne_nil (next_ne hr)
      have := (List.pairwise_cons.1 hpw).1 q (by rw [e]; exact List.mem_cons_self ..)
      exact absurd (by rw [h3]; exact List.nil_prefix) this.1
    · rw [if_neg hs]
      by_cases hb : p.b <+: t
      · rw [if_pos hb, if_pos hb]; rfl
      · rw [if_neg hb, if_neg hb]
        cases hn : p.need with
        | true => rw [if_pos rfl, if_pos rfl]
        | false =>
          rw [if_neg (by simp), if_neg (by simp)]
          refine read_find r after (hT.tail hn) (h.imp id fun h => ?_)
          rw [List.any_cons, hn] at h
          simpa using h
theorem read_done {mk : UInt8 → Bool} {num : List UInt8 → Bool} {out : List (List UInt8)} : ∀ (r : List Prt), r.any (·.need) = false → readR mk num r [] out = .ok out
  | [], _ => by rw [readR, if_pos rfl]
  | p :: r, h => by
    rw [List.any_cons, Bool.or_eq_false_iff] at h
    rw [readR]
    by_cases hb : p.b = []
    · rw [if_pos ⟨rfl, h.1, hb⟩]; exact read_done r h.2
    · rw [if_neg (fun hh => hb hh.2.2), if_neg (fun hh => hb (List.eq_nil_of_prefix_nil hh)), h.1]
      exact read_done r h.2
/-- of the parts that may be next at most one stands there: the last that stands there is the first -/
theorem find_only {t : List UInt8} : ∀ (r : List Prt) (after : List UInt8), Told after r → ∀ (j : Nat) (p : Prt), (nxtL r)[j]? = some p → p.b <+: t → findN r t = some (p, r.drop (j + 1)) ∧ ∀ (i : Nat) (q : Prt), (nxtL r)[i]? = some q → q.b <+: t → i = j
  | [], _, _, j, p, h, _ => by simp [nxtL] at h
  | x :: r, after, hT, j, p, h, hb => by
    rw [findN]
    cases hn : x.need with
    | true =>
      have e : nxtL (x :: r) = [x] := by rw [nxtL, hn]; rfl
      rw [e] at h ⊢
      have hj : j = 0 := by
        have := (List.getElem?_eq_some_iff.1 h).1
        simpa using this
      subst hj
      have : x = p := by simpa using h
      subst this
      rw [if_pos hb]
      refine ⟨rfl, fun i q hi _ => ?_⟩
      have := (List.getElem?_eq_some_iff.1 hi).1
      simpa using this
    | false =>
      have e : nxtL (x :: r) = x :: nxtL r := by rw [nxtL, hn]; rfl
      have hpw := hT.pw
      rw [e] at h ⊢ hpw
      have hp1 := (List.pairwise_cons.1 hpw).1
      cases j with
      | zero =>
        have : x = p := by simpa using h
        subst this
        rw [if_pos hb]
        refine ⟨rfl, fun i q hi hq => ?_⟩
        cases i with
        | zero => rfl
        | succ i =>
          have hq2 := hp1 q (List.mem_of_getElem? (by simpa using hi))
          rcases prefix_cmp hb hq with h | h
          · exact absurd h hq2.1
          · exact absurd h hq2.2
      | succ j =>
        have h' : (nxtL r)[j]? = some p := by simpa using h
        have hx : ¬ x.b <+: t := fun hx => by
          have hq2 := hp1 p (List.mem_of_getElem? h')
          rcases prefix_cmp hx hb with h | h
          · exact hq2.1 h
          · exact hq2.2 h
        rw [if_neg hx, if_neg (by simp)]
        have ih := find_only r after (hT.tail hn) j p h' hb
        refine ⟨by rw [ih.1, List.drop_succ_cons], fun i q hi hq => ?_⟩
        cases i with
        | zero =>
          have : x = q := by simpa using hi
          subst this
          exact absurd hq hx
        | succ i => rw [ih.2 i q (by simpa using hi) hq]
theorem find_none {t : List UInt8} : ∀ (r : List Prt), (∀ p ∈ nxtL r, ¬ p.b <+: t) → findN r t = none
  | [], _ => rfl
  | p :: r, h => by
    rw [findN]
    have hp : p ∈ nxtL (p :: r) := by rw [nxtL]; split <;> simp
    rw [if_neg (h p hp)]
    split
    · rfl
    · rename_i hn
      refine find_none r fun q hq => h q ?_
      rw [nxtL, if_neg hn]; exact List.mem_cons_of_mem _ hq
end Go.Proofs.YtdcafoekbnacnaaGreatDoor

/- Package format: Read. -/
set_option linter.unusedVariables false
set_option linter.unusedSimpArgs false
namespace Go.Proofs.YtdcafoekbnacnaaGreatDoor
open Go.RowKit Go.Shelf
attribute [local go_sem] Oper.semAt_some

theorem tw_at {mk : UInt8 → Bool} : ∀ (V : List UInt8) (e : Nat), e ≤ V.length → (∀ m c, m < e → V[m]? = some c → mk c = false) → (e = V.length ∨ ∃ c, V[e]? = some c ∧ mk c = true) → (V.takeWhile fun c => !mk c) = V.take e ∧ (V.dropWhile fun c => !mk c) = V.drop e := by
  intro V e he h1 h2
  have hs : V = V.take e ++ V.drop e := (List.take_append_drop e V).symm
  have ha : ∀ x ∈ V.take e, (!mk x) = true := fun x hx => by
    obtain ⟨m, hm, rfl⟩ := List.getElem_of_mem hx
    rw [List.length_take] at hm
    rw [List.getElem_take, h1 m _ (by omega) (List.getElem?_eq_getElem (by omega))]; rfl
  have hd : ∀ c, (V.drop e).head? = some c → (!mk c) = false := fun c hc => by
    rw [List.head?_drop] at hc
    rcases h2 with rfl | ⟨d, h3, h4⟩
    · rw [List.getElem?_eq_none (Nat.le_refl _)] at hc; cases hc
    · rw [h3] at hc; cases hc; rw [h4]; rfl
  constructor
  · conv => lhs; rw [hs]
    exact tw_stop _ _ ha hd
  · conv => lhs; rw [hs]
    exact dw_stop ha hd
theorem rd_skip {mk : UInt8 → Bool} {num : List UInt8 → Bool} {p : Prt} {r : List Prt} {t : List UInt8} {out : List (List UInt8)} (h : t = [] ∧ p.need = false ∧ p.b = []) : readR mk num (p :: r) t out = readR mk num r t out := by rw [readR, if_pos h]
theorem rd_miss {mk : UInt8 → Bool} {num : List UInt8 → Bool} {p : Prt} {r : List Prt} {t : List UInt8} {out : List (List UInt8)} (h : ¬ (t = [] ∧ p.need = false ∧ p.b = [])) (hb : ¬ p.b <+: t) (hn : p.need = true) : readR mk num (p :: r) t out = .miss t.length := by rw [readR, if_neg h, if_neg hb, if_pos hn]
theorem rd_pass {mk : UInt8 → Bool} {num : List UInt8 → Bool} {p : Prt} {r : List Prt} {t : List UInt8} {out : List (List UInt8)} (h : ¬ (t = [] ∧ p.need = false ∧ p.b = [])) (hb : ¬ p.b <+: t) (hn : p.need = false) : readR mk num (p :: r) t out = readR mk num r t out := by rw [readR, if_neg h, if_neg hb, hn]; rfl
theorem rd_yes {mk : UInt8 → Bool} {num : List UInt8 → Bool} {p : Prt} {r : List Prt} {t : List UInt8} {out : List (List UInt8)} (h : ¬ (t = [] ∧ p.need = false ∧ p.b = [])) (hb : p.b <+: t) : readR mk num (p :: r) t out = stepR mk num p r t out := by rw [readR, if_neg h, if_pos hb]; rfl
/-- where reading stands: what is left, and what was read -/
structure RdI (s : Sch) (t : List UInt8) (r : List Prt) (j : Nat) (out : List (List UInt8)) : Prop where
  eq : readR (mrk s.ps) numB r (t.drop j) out = readR (mrk s.ps) numB s.ps t zeroF
  sub : ∀ p ∈ r, (1 ≤ p.k ∧ p.k ≤ 8) ∧ p.b.length ≤ 4 ∧ p.a.length ≤ 4
  len : out.length = 9
  n8 : r.length ≤ 8
  j : j ≤ t.length
theorem drop_cons {α : Type} {l : List α} {k : Nat} {x : α} (h : l[k]? = some x) : l.drop k = x :: l.drop (k + 1) := by
  obtain ⟨hlt, e⟩ := List.getElem?_eq_some_iff.1 h
  rw [List.drop_eq_getElem_cons hlt, e]
def lenV : Value → Nat
  | .slice _ n _ => n
  | _ => 0
theorem nine {l : List (List UInt8)} (h : l.length = 9) : ∃ o0 o1 o2 o3 o4 o5 o6 o7 o8, l = [o0, o1, o2, o3, o4, o5, o6, o7, o8] := by
  match l, h with
  | [a, b, c, d, e, f, g, h, i], _ => exact ⟨a, b, c, d, e, f, g, h, i, rfl⟩
/-- what lies in memory while the marks are taken -/
structure FA (w : World) (sv : Array Value) (t : List UInt8) (bm : Nat) (L : List Bool) (W : World) : Prop where
  s : Blk W w.heap.size 24 sv
  t : Blk W (w.heap.size + 1) 9 #[.string (bs t)]
  r : Blk W (w.heap.size + 1 + 1) 26 Z9
  m : Blk W bm 104 (boolC L)
  bel : Below w.heap.size w W
  lt : w.heap.size + 1 + 1 < bm
section
variable {w : World} {sv : Array Value} {t : List UInt8} {bm bo ba : Nat} {L L' : List Bool} {out : List (List UInt8)} {a : Nat} {W W' : World}
theorem FA.to (h : FA w sv t bm L W) (hb : Below W.heap.size W W') : FA w sv t bm L W' := ⟨h.s.to hb, h.t.to hb, h.r.to hb, h.m.to hb, below_to h.bel (Nat.le_refl _) hb, h.lt⟩
theorem FA.mark (h : FA w sv t bm L W) (ho : Only W W' bm) (hm : Blk W' bm 104 (boolC L')) : FA w sv t bm L' W' :=
  ⟨ho.blk h.s (by have := h.lt; omega), ho.blk h.t (by have := h.lt; omega), ho.blk h.r (by have := h.lt; omega), hm, Only.below h.bel ho h.bel.size (by have := h.lt; omega), h.lt⟩
/-- nine texts -/
def fieldsC (L : List (List UInt8)) : Array Value := (L.map fun x => Value.string (bs x)).toArray
theorem fieldsC_at {L : List (List UInt8)} {k : Nat} {x : List UInt8} (h : L[k]? = some x) : (fieldsC L)[k]? = some (.string (bs x)) := by unfold fieldsC; simp [h]
theorem fieldsC_set (L : List (List UInt8)) (k : Nat) (x : List UInt8) : fieldsC (L.set k x) = (fieldsC L).setIfInBounds k (.string (bs x)) := by unfold fieldsC; simp [List.map_set]
theorem fieldsC_zero : fieldsC zeroF = Z9 := rfl
/-- what lies in memory while the parts are read -/
structure FB (w : World) (sv : Array Value) (t : List UInt8) (bm bo ba : Nat) (L : List Bool) (out : List (List UInt8)) (a : Nat) (W : World) : Prop where
  f : FA w sv t bm L W
  o : Blk W bo 26 (fieldsC out)
  a : Blk W ba 3 #[.int .i64 (a : Int)]
  mo : bm < bo
  oa : bo < ba
theorem FB.to (h : FB w sv t bm bo ba L out a W) (hb : Below W.heap.size W W') : FB w sv t bm bo ba L out a W' := ⟨h.f.to hb, h.o.to hb, h.a.to hb, h.mo, h.oa⟩
theorem FA.set (h : FA w sv t bm L W) {b : Nat} (hb : bm < b) (i : Nat) (u : Value) : FA w sv t bm L (W.setCell ⟨b, i, none⟩ u) :=
  ⟨h.s.far (p := ⟨b, i, none⟩) (by show w.heap.size ≠ b; have := h.lt; omega) u, h.t.far (p := ⟨b, i, none⟩) (by show w.heap.size + 1 ≠ b; have := h.lt; omega) u, h.r.far (p := ⟨b, i, none⟩) (by show w.heap.size + 1 + 1 ≠ b; have := h.lt; omega) u,
    h.m.far (p := ⟨b, i, none⟩) (by show bm ≠ b; omega) u, h.bel.setCell (p := ⟨b, i, none⟩) (by show w.heap.size ≤ b; have := h.lt; omega) u, h.lt⟩
theorem FB.setA (h : FB w sv t bm bo ba L out a W) (a' : Nat) : FB w sv t bm bo ba L out a' (W.setCell ⟨ba, 0, none⟩ (.int .i64 (a' : Int))) :=
  ⟨h.f.set (by have := h.mo; have := h.oa; omega) _ _, h.o.far (p := ⟨ba, 0, none⟩) (by show bo ≠ ba; have := h.oa; omega) _, h.a.set_ 0 _, h.mo, h.oa⟩
theorem FB.setO (h : FB w sv t bm bo ba L out a W) (k : Nat) (x : List UInt8) : FB w sv t bm bo ba L (out.set k x) a (W.setCell ⟨bo, k, none⟩ (.string (bs x))) :=
  ⟨h.f.set (by have := h.mo; omega) _ _, by rw [fieldsC_set]; exact h.o.set_ _ _, h.a.far (p := ⟨bo, k, none⟩) (by show ba ≠ bo; have := h.oa; omega) _, h.mo, h.oa⟩
theorem FB.drew (h : FB w sv t bm bo ba L out a W) : FB w sv t bm bo ba L out a W.drew := h.to (Below.refl _ _).drew
end
theorem readF_no (ps : List Prt) (t : List UInt8) : readF false numB ps t = (zeroF, 1, -1) := by unfold readF; rw [if_pos rfl]
def outF (n : Nat) : RdR → List (List UInt8) × Int × Int
  | .ok f => (f, 0, 0)
  | .arg m => (zeroF, 1, (n : Int) - m)
  | .miss m => (zeroF, if m = 0 then 6 else 5, (n : Int) - m)
theorem readF_yes (ps : List Prt) (t : List UInt8) : readF true numB ps t = outF t.length (readR (mrk ps) numB ps t zeroF) := by
  unfold readF
  rw [if_neg (by simp)]
  cases readR (mrk ps) numB ps t zeroF <;> rfl
theorem CutPrefix_any (l p : List UInt8) (w : World) : Calls Tryz.prog 72 #[.string (bs l), .string (bs p)] w fun e w' => e = .returned (.tuple #[.string (bs (if p <+: l then l.drop p.length else l)), .bool (decide (p <+: l))]) ∧ w' = w := by
  have := Tryz.strings_CutPrefix (bs l) (bs p) w
  rw [bs_list, bs_list] at this
  have e1 : Lib.hasPrefix l p = decide (p <+: l) := by unfold Lib.hasPrefix; rw [Bool.eq_iff_iff]; simp
  unfold Lib.trimPrefix at this
  rw [e1] at this
  simp only [decide_eq_true_eq] at this
  exact this
theorem HasPrefix_any (l p : List UInt8) (w : World) : Calls Tryz.prog 74 #[.string (bs l), .string (bs p)] w fun e w' => e = .returned (.bool (decide (p <+: l))) ∧ w' = w := by
  have := Tryz.strings_HasPrefix (bs l) (bs p) w
  rw [bs_list, bs_list] at this
  have e1 : Lib.hasPrefix l p = decide (p <+: l) := by unfold Lib.hasPrefix; rw [Bool.eq_iff_iff]; simp
  rw [e1] at this
  exact this
set_option maxRecDepth 100000 in
set_option maxHeartbeats 8000000 in
theorem FRead_any (s : Sch) (hl0 : s.ps.length ≤ 8796093022208) (hc0 : s.c.length ≤ 140737488355328) (v : Value) (t : List UInt8) (ht : t.length ≤ 100000) (w : World) (hP : PartsAt w v s.ps) (hg : Glob4 w) :
    Calls Tryz.prog 34 #[.agg #[.string (bs s.c), v], .string (bs t)] w fun e w' => e = .returned (.tuple #[.agg (fieldsC (readF (validB isNm s) numB s.ps t).1), .int .i64 (readF (validB isNm s) numB s.ps t).2.1, .int .i64 (readF (validB isNm s) numB s.ps t).2.2]) ∧ Below w.heap.size w w' := by
  have HP0 := hide hP
  have HPo := hide hP
  have HG0 := hide hg
  have HGo := hide hg
  obtain ⟨A, cp, rfl, hc⟩ := hP.slice
  clear hP hg
  have hsz := bs_size t
  go_enter Tryz.func34, Tryz.ntmps34
  go_wp2_with fail
  obtain ⟨Xs, Xt, Xr, B0⟩ := box3 w 24 #[.string (bs s.c), .slice A s.ps.length cp] 9 #[.string (bs t)] 26 #[.string ⟨#[]⟩, .string ⟨#[]⟩, .string ⟨#[]⟩, .string ⟨#[]⟩, .string ⟨#[]⟩, .string ⟨#[]⟩, .string ⟨#[]⟩, .string ⟨#[]⟩, .string ⟨#[]⟩]
  have HXs := hide Xs
  have HXt := hide Xt
  have HXr := hide Xr
  have HB := hide B0
  have HP := hide (HP0.out.to B0)
  have HG := hide (HG0.out.to B0)
  clear Xs Xt Xr B0 HP0 HG0
  generalize ((w.alloc (.cells #[.string (bs s.c), .slice A s.ps.length cp] 24)).alloc (.cells #[.string (bs t)] 9)).alloc (.cells #[.string ⟨#[]⟩, .string ⟨#[]⟩, .string ⟨#[]⟩, .string ⟨#[]⟩, .string ⟨#[]⟩, .string ⟨#[]⟩, .string ⟨#[]⟩, .string ⟨#[]⟩, .string ⟨#[]⟩] 26) = w1 at *
  refine wp_scope_straight ?_
  have s0 : w1.cell? ⟨w.heap.size, 0, none⟩ = some (.string (bs s.c)) := HXs.out.cell 0
  have s1 : w1.cell? ⟨w.heap.size, 1, none⟩ = some (.slice A s.ps.length cp) := HXs.out.cell 1
  go_wp2_with fail
  clear s0 s1
  refine (SValid_any s hl0 hc0 (.slice A s.ps.length cp) w1 HP.out).mono ?_
  rintro e w2 ⟨rfl, hb⟩
  have zHXs := hide (HXs.out.to hb)
  have zHXt := hide (HXt.out.to hb)
  have zHXr := hide (HXr.out.to hb)
  have zHP := hide (HP.out.to hb)
  have zHG := hide (HG.out.to hb)
  have zHB := hide (below_to HB.out (Nat.le_refl _) hb)
  clear hb HB HXs HXt HXr HP HG
  have HXs := zHXs
  have HXt := zHXt
  have HXr := zHXr
  have HP := zHP
  have HG := zHG
  have HB := zHB
  clear zHXs zHXt zHXr zHP zHG zHB
  cases hv : validB isNm s with
  | false =>
    have HR : Hid (readF (validB isNm s) numB s.ps t = (zeroF, 1, -1)) := by show _ = _; rw [hv]; exact readF_no _ _
    clear hv
    have z0 : w2.cell? ⟨w.heap.size + 1 + 1, 0, none⟩ = some (.string ⟨#[]⟩) := HXr.out.cell 0
    have y0 := HXr.out.frozen 0
    have z1 : w2.cell? ⟨w.heap.size + 1 + 1, 1, none⟩ = some (.string ⟨#[]⟩) := HXr.out.cell 1
    have y1 := HXr.out.frozen 1
    have z2 : w2.cell? ⟨w.heap.size + 1 + 1, 2, none⟩ = some (.string ⟨#[]⟩) := HXr.out.cell 2
    have y2 := HXr.out.frozen 2
    have z3 : w2.cell? ⟨w.heap.size + 1 + 1, 3, none⟩ = some (.string ⟨#[]⟩) := HXr.out.cell 3
    have y3 := HXr.out.frozen 3
    have z4 : w2.cell? ⟨w.heap.size + 1 + 1, 4, none⟩ = some (.string ⟨#[]⟩) := HXr.out.cell 4
    have y4 := HXr.out.frozen 4
    have z5 : w2.cell? ⟨w.heap.size + 1 + 1, 5, none⟩ = some (.string ⟨#[]⟩) := HXr.out.cell 5
    have y5 := HXr.out.frozen 5
    have z6 : w2.cell? ⟨w.heap.size + 1 + 1, 6, none⟩ = some (.string ⟨#[]⟩) := HXr.out.cell 6
    have y6 := HXr.out.frozen 6
    have z7 : w2.cell? ⟨w.heap.size + 1 + 1, 7, none⟩ = some (.string ⟨#[]⟩) := HXr.out.cell 7
    have y7 := HXr.out.frozen 7
    have z8 : w2.cell? ⟨w.heap.size + 1 + 1, 8, none⟩ = some (.string ⟨#[]⟩) := HXr.out.cell 8
    have y8 := HXr.out.frozen 8
    go_wp2_with fail
    simp +zetaDelta only [Exit.noGoto, Exit.inBlock, Exit.then]
    have hbk : Blk (((((((((w2.setCell ⟨w.heap.size + 1 + 1, 0, none⟩ (.string ⟨#[]⟩)).setCell ⟨w.heap.size + 1 + 1, 1, none⟩ (.string ⟨#[]⟩)).setCell ⟨w.heap.size + 1 + 1, 2, none⟩ (.string ⟨#[]⟩)).setCell ⟨w.heap.size + 1 + 1, 3, none⟩ (.string ⟨#[]⟩)).setCell ⟨w.heap.size + 1 + 1, 4, none⟩ (.string ⟨#[]⟩)).setCell ⟨w.heap.size + 1 + 1, 5, none⟩ (.string ⟨#[]⟩)).setCell ⟨w.heap.size + 1 + 1, 6, none⟩ (.string ⟨#[]⟩)).setCell ⟨w.heap.size + 1 + 1, 7, none⟩ (.string ⟨#[]⟩)).setCell ⟨w.heap.size + 1 + 1, 8, none⟩ (.string ⟨#[]⟩)) (w.heap.size + 1 + 1) 26 Z9 := (((((((((HXr.out.set_ 0 (.string ⟨#[]⟩)).set_ 1 (.string ⟨#[]⟩)).set_ 2 (.string ⟨#[]⟩)).set_ 3 (.string ⟨#[]⟩)).set_ 4 (.string ⟨#[]⟩)).set_ 5 (.string ⟨#[]⟩)).set_ 6 (.string ⟨#[]⟩)).set_ 7 (.string ⟨#[]⟩)).set_ 8 (.string ⟨#[]⟩))
    refine bodyPost_ret (results_ctt (p := 4) (u := 5) (x := 6) rfl _ _ (w.heap.size + 1 + 1) 26 _ _ rfl hbk Tryz.underlying26 rfl (by kernel_rfl)) rfl ⟨?_, (((((((((HB.out.setCell (p := ⟨w.heap.size + 1 + 1, 0, none⟩) (by show w.heap.size ≤ w.heap.size + 1 + 1; omega) (.string ⟨#[]⟩)).setCell (p := ⟨w.heap.size + 1 + 1, 1, none⟩) (by show w.heap.size ≤ w.heap.size + 1 + 1; omega) (.string ⟨#[]⟩)).setCell (p := ⟨w.heap.size + 1 + 1, 2, none⟩) (by show w.heap.size ≤ w.heap.size + 1 + 1; omega) (.string ⟨#[]⟩)).setCell (p := ⟨w.heap.size + 1 + 1, 3, none⟩) (by show w.heap.size ≤ w.heap.size + 1 + 1; omega) (.string ⟨#[]⟩)).setCell (p := ⟨w.heap.size + 1 + 1, 4, none⟩) (by show w.heap.size ≤ w.heap.size + 1 + 1; omega) (.string ⟨#[]⟩)).setCell (p := ⟨w.heap.size + 1 + 1, 5, none⟩) (by show w.heap.size ≤ w.heap.size + 1 + 1; omega) (.string ⟨#[]⟩)).setCell (p := ⟨w.heap.size + 1 + 1, 6, none⟩) (by show w.heap.size ≤ w.heap.size + 1 + 1; omega) (.string ⟨#[]⟩)).setCell (p := ⟨w.heap.size + 1 + 1, 7, none⟩) (by show w.heap.size ≤ w.heap.size + 1 + 1; omega) (.string ⟨#[]⟩)).setCell (p := ⟨w.heap.size + 1 + 1, 8, none⟩) (by show w.heap.size ≤ w.heap.size + 1 + 1; omega) (.string ⟨#[]⟩))⟩
    rw [HR.out]; rfl
  | true =>
    have HVL := hide ((validB_iff isNm s).1 hv)
    have HRY : Hid (readF (validB isNm s) numB s.ps t = outF t.length (readR (mrk s.ps) numB s.ps t zeroF)) := by show _ = _; rw [hv]; exact readF_yes _ _
    have h8 := HVL.out.n8
    clear hv
    have lr := HXr.out.lt
    go_upto_region 4 with fail
    rw [show Tryz.zeroCells104 = boolC mb0 by kernel_rfl]
    have HA0 : Hid (FA w #[.string (bs s.c), .slice A s.ps.length cp] t w2.heap.size mb0 (w2.alloc (.cells (boolC mb0) 104))) :=
      ⟨HXs.out.alloc _, HXt.out.alloc _, HXr.out.alloc _, Blk.new _ _ _, HB.out.alloc HB.out.size _, lr⟩
    have HP3 := hide (HP.out.to (below_one w2 (.cells (boolC mb0) 104)))
    clear HXs HXt HXr HB HP HG lr
    generalize w2.alloc (.cells (boolC mb0) 104) = w3 at *
    generalize w2.heap.size = bm at *
    have cS1 : w3.cell? ⟨w.heap.size, 1, none⟩ = some (.slice A s.ps.length cp) := HA0.out.s.cell 1
    go_wp2_with fail
    clear cS1
    go_loopw [28] (fun i wr => ∃ (k : Nat) (L : List Bool), k ≤ s.ps.length ∧ i = .int .i64 (k : Int) ∧ MkF L (s.ps.take k) ∧ FA w #[.string (bs s.c), .slice A s.ps.length cp] t bm L wr) (fun i _ => s.ps.length - (intOf i).toNat)
    case atStart => exact ⟨0, mb0, by omega, rfl, mk0, HA0.out⟩
    case round =>
      obtain ⟨k, L, hk, rfl, hM, hF⟩ := hrel
      have HM := hide hM
      have HF := hide hF
      clear hM hF
      by_cases hlt : k < s.ps.length
      · obtain ⟨p, hp⟩ : ∃ p, s.ps[k]? = some p := ⟨_, List.getElem?_eq_getElem hlt⟩
        obtain ⟨a, cp', ea, _, hab, c0, c1, c2, c3⟩ := (HPo.out.to HF.out.bel).at_ hp
        injection ea with ea _ ec
        subst ec
        obtain rfl := ea
        have HMS := hide (mk_step HM.out hp)
        have hML := HM.out.1
        clear hp
        have HF1 := hide (HF.out.to (below_one wr (.cells #[.int .i64 p.k, .string (bs p.b), .string (bs p.a), .bool p.need] 41)))
        have HX1 := hide (Blk.new wr 41 #[.int .i64 p.k, .string (bs p.b), .string (bs p.a), .bool p.need])
        have hmx : bm ≠ wr.heap.size := Nat.ne_of_lt HF.out.m.lt
        go_upto_region 8 with fail
        generalize wr.alloc (.cells #[.int .i64 p.k, .string (bs p.b), .string (bs p.a), .bool p.need] 41) = w5 at *
        generalize wr.heap.size = bx at *
        clear c0 c1 c2 c3 hab
        have x1 : w5.cell? ⟨bx, 1, none⟩ = some (.string (bs p.b)) := HX1.out.cell 1
        go_wp2_with fail
        refine (mark_any L hML p.b bm 104 w5 HF1.out.m).mono ?_
        rintro e w6 ⟨rfl, hB, hO⟩
        have HF6 := hide (HF1.out.mark hO hB)
        have HX6 := hide (hO.blk HX1.out (fun e => hmx e.symm))
        clear hB hO HF1 HX1 x1
        have x2 : w6.cell? ⟨bx, 2, none⟩ = some (.string (bs p.a)) := HX6.out.cell 2
        go_wp2_with fail
        refine (mark_any _ (by rw [setM_len]; exact hML) p.a bm 104 w6 HF6.out.m).mono ?_
        rintro e w7 ⟨rfl, hB, hO⟩
        have HF7 := hide (HF6.out.mark hO hB)
        clear hB hO HF6 HX6 x2
        go_wp2_with fail
        go_roundw
        case rel => exact ⟨k + 1, _, by omega, by go_num, HMS.out, HF7.out⟩
        case measure => simp [intOf]; omega
      · obtain rfl : k = s.ps.length := by omega
        rw [List.take_length] at HM
        have HVL0 := HVL
        clear HA0
        go_upto_region 14 with fail
        have HFB4 : Hid (FB w #[.string (bs s.c), .slice A s.ps.length cp] t bm wr.heap.size (wr.heap.size + 1) L zeroF 0 ((wr.alloc (.cells #[.string ⟨#[]⟩, .string ⟨#[]⟩, .string ⟨#[]⟩, .string ⟨#[]⟩, .string ⟨#[]⟩, .string ⟨#[]⟩, .string ⟨#[]⟩, .string ⟨#[]⟩, .string ⟨#[]⟩] 26)).alloc (.cells #[.int .i64 0] 3))) := by
          obtain ⟨h1, h2, h3⟩ := box2 wr 26 #[.string ⟨#[]⟩, .string ⟨#[]⟩, .string ⟨#[]⟩, .string ⟨#[]⟩, .string ⟨#[]⟩, .string ⟨#[]⟩, .string ⟨#[]⟩, .string ⟨#[]⟩, .string ⟨#[]⟩] 3 #[.int .i64 0]
          exact ⟨HF.out.to h3, h1, h2, HF.out.m.lt, Nat.lt_succ_self _⟩
        clear HF
        generalize (wr.alloc (.cells #[.string ⟨#[]⟩, .string ⟨#[]⟩, .string ⟨#[]⟩, .string ⟨#[]⟩, .string ⟨#[]⟩, .string ⟨#[]⟩, .string ⟨#[]⟩, .string ⟨#[]⟩, .string ⟨#[]⟩] 26)).alloc (.cells #[.int .i64 0] 3) = w4 at *
        generalize wr.heap.size + 1 = ba at *
        generalize wr.heap.size = bo at *
        have cS1 : w4.cell? ⟨w.heap.size, 1, none⟩ = some (.slice A s.ps.length cp) := HFB4.out.f.s.cell 1
        have HR0 : Hid (RdI s t s.ps 0 zeroF) := ⟨rfl, fun p hp => ⟨(HVL0.out.part p hp).1, (small_facts (HVL0.out.part p hp).2.1).1, (small_facts (HVL0.out.part p hp).2.2).1⟩, rfl, h8, Nat.zero_le _⟩
        have hbm := HFB4.out.f.lt
        have hmo := HFB4.out.mo
        have hoa := HFB4.out.oa
        go_wp2_with (first | (refine wp_label ?_))
        clear cS1
        go_loopw [14] (fun v wr => ∃ (r : List Prt) (j : Nat) (out : List (List UInt8)), PartsAt w v r ∧ FB w #[.string (bs s.c), .slice A s.ps.length cp] t bm bo ba L out j wr ∧ RdI s t r j out) (fun v _ => lenV v)
        case atStart => exact ⟨s.ps, 0, zeroF, HPo.out, HFB4.out, HR0.out⟩
        case round =>
          clear HFB4 HR0
          obtain ⟨r, j, out, hPV, hFB, hRI⟩ := hrel
          have HFBr := hide hFB
          have HRI0 := hide hRI
          obtain ⟨A', c', rfl, hcr⟩ := hPV.slice
          have HPV := hide hPV
          have hr8 := hRI.n8
          have hol := hRI.len
          have hj := hRI.j
          clear hPV hFB hRI
          go_wp2_with fail
          go_loopw [14, 46] (fun v i wr => ∃ k : Nat, k ≤ r.length ∧ i = .int .i64 (k : Int) ∧ v = .slice A' r.length c' ∧ FB w #[.string (bs s.c), .slice A s.ps.length cp] t bm bo ba L out j wr ∧ RdI s t (r.drop k) j out) (fun _ i _ => r.length - (intOf i).toNat)
          case atStart => exact ⟨0, by omega, rfl, rfl, HFBr.out, HRI0.out⟩
          case round =>
            obtain ⟨k, hk, rfl, rfl, hFB, hRI⟩ := hrel
            have HFB := hide hFB
            have HRI := hide hRI
            clear hFB hRI
            by_cases hlt : k < r.length
            · obtain ⟨p, hp⟩ : ∃ p, r[k]? = some p := ⟨_, List.getElem?_eq_getElem hlt⟩
              have HDR := hide (drop_cons hp)
              obtain ⟨ad, c2, ea, _, hab, c0, c1, c2', c3⟩ := (HPV.out.to HFB.out.f.bel).at_ hp
              have ea1 : A' = some ad := (Value.slice.inj ea).1
              clear ea
              subst ea1
              have hpk := HRI0.out.sub p (List.mem_of_getElem? hp)
              obtain ⟨kp, hkp, hkp9⟩ : ∃ k : Nat, p.k = (k : Int) ∧ k < 9 := ⟨p.k.toNat, by omega, by omega⟩
              rw [hkp] at c0
              have HKP := hide hkp
              have hb4 := hpk.2.1
              have ha4 := hpk.2.2
              have hkp0 : (kp : Int) < 9 := by omega
              clear hp hkp hpk
              have HFB5 := hide (HFB.out.to (below_one wr (.cells #[.int .i64 (kp : Int), .string (bs p.b), .string (bs p.a), .bool p.need] 41)))
              have HX5 := hide (Blk.new wr 41 #[.int .i64 (kp : Int), .string (bs p.b), .string (bs p.a), .bool p.need])
              have hbax : ba ≠ wr.heap.size := Nat.ne_of_lt HFB.out.a.lt
              have hbox : bo ≠ wr.heap.size := Nat.ne_of_lt HFB.out.o.lt
              go_upto_region 18 with fail
              clear c0 c1 c2' c3 hab HFB
              generalize wr.alloc (.cells #[.int .i64 (kp : Int), .string (bs p.b), .string (bs p.a), .bool p.need] 41) = w5 at *
              generalize wr.heap.size = bx at *
              have a0 : w5.cell? ⟨ba, 0, none⟩ = some (.int .i64 (j : Int)) := HFB5.out.a.cell 0
              have t0 : w5.cell? ⟨w.heap.size + 1, 0, none⟩ = some (.string (bs t)) := HFB5.out.f.t.cell 0
              have x1 : w5.cell? ⟨bx, 1, none⟩ = some (.string (bs p.b)) := HX5.out.cell 1
              have x3 : w5.cell? ⟨bx, 3, none⟩ = some (.bool p.need) := HX5.out.cell 3
              by_cases hj1 : j = t.length
              · have f0 : ((j : Int) == (t.length : Int)) = true := by rw [hj1]; simp
                cases hn : p.need with
                | true =>
                  have HSK : Hid (¬ (t.drop j = [] ∧ p.need = false ∧ p.b = [])) := fun h => by rw [hn] at h; cases h.2.1
                  rw [hn] at x3
                  clear hn hj1
                  go_upto_region 19 with fail
                  clear a0 t0 x1 x3 f0
                  obtain ⟨U5, hU5, g5, u5, rfl, hgu5, hgi5⟩ := cls w5
                  have a0 := fun u => (((HFB5.out.to (hgu5 u)).a.cell 0).trans (show _ = some (Value.int IntKind.i64 (j : Int)) from rfl))
                  have t0 := fun u => (((HFB5.out.to (hgu5 u)).f.t.cell 0).trans (show _ = some (Value.string (bs t)) from rfl))
                  have x1 := fun u => (((HX5.out.to (hgu5 u)).cell 1).trans (show _ = some (Value.string (bs p.b)) from rfl))
                  have x3 := fun u => (((HX5.out.to (hgu5 u)).cell 3).trans (show _ = some (Value.bool p.need) from rfl))
                  have hx : (bs t).extract j t.length = bs (t.drop j) := by rw [bs_cut, List.take_of_length_le (by rw [List.length_drop]; omega)]
                  have CC : ∀ u, Calls Tryz.prog 72 #[.string (bs (t.drop j)), .string (bs p.b)] (g5 u) fun e w' => e = .returned (.tuple #[.string (bs (if p.b <+: t.drop j then (t.drop j).drop p.b.length else t.drop j)), .bool (decide (p.b <+: t.drop j))]) ∧ ∃ u', w' = g5 u' := fun u => cls_call hgu5 hgi5 (fun W hb => (CutPrefix_any (t.drop j) p.b W).mono fun e w' h => ⟨h.1, h.2 ▸ Below.refl _ _⟩) u
                  by_cases hpre : p.b <+: t.drop j
                  · rw [if_pos hpre, decide_eq_true hpre] at CC
                    have HPRE := hide hpre
                    obtain ⟨V, hV⟩ : ∃ V, (t.drop j).drop p.b.length = V := ⟨_, rfl⟩
                    rw [hV] at CC
                    have HVV := hide hV
                    have HVL : Hid (V.length + p.b.length = t.length - j) := by
                      show _ = _
                      have h1 := hpre.length_le
                      rw [← hV, List.length_drop, List.length_drop]
                      rw [List.length_drop] at h1
                      omega
                    have hszV := bs_size V
                    clear hV hpre
                    refine wp_region_class g5 (by kernel_rfl) (by kernel_rfl) (hgi5 _ (hgu5 _).drew) ?_
                    repeat (go_big_quiet_step (first | with_reducible exact CC _))
                    refine wpQuiet_nil ?_
                    intro w6 hw6
                    obtain ⟨u, rfl⟩ := hw6
                    have HFB6 := hide (HFB5.out.to (hgu5 u))
                    have HX6 := hide (HX5.out.to (hgu5 u))
                    revert HFB6 HX6
                    generalize g5 u = w6
                    intro HFB6 HX6
                    clear CC a0 t0 x1 x3 HFB5 HX5 hgu5 hgi5 hx
                    have HFB5 := HFB6
                    have HX5 := HX6
                    clear HFB6 HX6
                    have x0 : w6.cell? ⟨bx, 0, none⟩ = some (.int .i64 (kp : Int)) := HX5.out.cell 0
                    have x1 : w6.cell? ⟨bx, 1, none⟩ = some (.string (bs p.b)) := HX5.out.cell 1
                    have x2 : w6.cell? ⟨bx, 2, none⟩ = some (.string (bs p.a)) := HX5.out.cell 2
                    have x3 : w6.cell? ⟨bx, 3, none⟩ = some (.bool p.need) := HX5.out.cell 3
                    have a0 : w6.cell? ⟨ba, 0, none⟩ = some (.int .i64 (j : Int)) := HFB5.out.a.cell 0
                    have t0 : w6.cell? ⟨w.heap.size + 1, 0, none⟩ = some (.string (bs t)) := HFB5.out.f.t.cell 0
                    have hVl : V.length ≤ t.length := by have := HVL.out; omega
                    have hbl : p.b.length ≤ t.length - j := by have := HVL.out; omega
                    have hvj : V.length + p.b.length + j ≤ t.length := by have := HVL.out; omega
                    go_wp2_with fail
                    go_loopw [19] (fun i wr => ∃ e : Nat, e ≤ V.length ∧ i = .int .i64 (e : Int) ∧ (∀ m c, m < e → V[m]? = some c → mrk s.ps c = false) ∧ wr = w6) (fun i _ => V.length - (intOf i).toNat)
                    case atStart => exact ⟨0, by omega, rfl, fun m c h => absurd h (by omega), rfl⟩
                    case round =>
                      obtain ⟨e, hel, rfl, hnm, hwr⟩ := hrel
                      have hwr := hwr.symm
                      subst hwr
                      have HNM := hide hnm
                      clear hnm
                      by_cases helt : e < V.length
                      · have f1 : decide ((e : Int) < (V.length : Int)) = true := decide_eq_true (by omega)
                        obtain ⟨c, hcv⟩ : ∃ c, V[e]? = some c := ⟨_, List.getElem?_eq_getElem helt⟩
                        have ci := index_bs V e c hcv
                        have mc : w6.cell? ⟨bm, c.toNat, none⟩ = some (.bool (mrk s.ps c)) := (HFB5.out.f.m.cell c.toNat).trans (boolC_at (HM.out.2 c))
                        have c0 := c.toNat_lt
                        cases hmk : mrk s.ps c with
                        | true =>
                          rw [hmk] at mc
                          have hE : e = V.length ∨ ∃ c, V[e]? = some c ∧ mrk s.ps c = true := .inr ⟨c, hcv, hmk⟩
                          clear hcv hmk
                          go_upto_region 26 with fail
                          clear ci mc c0
                          have hw := tw_at V e hel HNM.out hE
                          have HTW := hide hw.1
                          have HDW := hide hw.2
                          clear hw hE HNM
                          have HVT : Hid ((bs V).extract 0 e = bs (V.take e)) := by show _ = _; rw [bs_cut]; simp
                          have hvt := HVT.out
                          have hvl : (V.take e).length ≤ 100000 := by rw [List.length_take]; omega
                          obtain ⟨j2, hj2⟩ : ∃ x, j + p.b.length = x := ⟨_, rfl⟩
                          have ej2 : (j : Int) + (p.b.length : Int) = (j2 : Int) := by omega
                          have hszb := bs_size p.b
                          have HFB6 : Hid (FB w #[.string (bs s.c), .slice A s.ps.length cp] t bm bo ba L out j2 (w6.setCell ⟨ba, 0, none⟩ (.int .i64 (j2 : Int)))) := HFB5.out.setA j2
                          have fa : w6.frozen? ⟨ba, 0, none⟩ = false := HFB5.out.a.frozen 0
                          have HX6 := hide (HX5.out.far (p := ⟨ba, 0, none⟩) (by show bx ≠ ba; exact fun e => hbax e.symm) (.int .i64 (j2 : Int)))
                          have HJ2 := hide hj2
                          have hj2l : j2 ≤ t.length := by omega
                          clear hj2
                          go_upto_region 27 with fail
                          clear a0 fa ej2 hszb x0 x1 x2 x3 t0
                          generalize w6.setCell ⟨ba, 0, none⟩ (.int .i64 (j2 : Int)) = w7 at *
                          obtain ⟨U7, hU7, h, u7, rfl, hru, hri⟩ := cls w7
                          have x0 := fun u => (((HX6.out.to (hru u)).cell 0).trans (show _ = some (Value.int IntKind.i64 (kp : Int)) from rfl))
                          have x1 := fun u => (((HX6.out.to (hru u)).cell 1).trans (show _ = some (Value.string (bs p.b)) from rfl))
                          have x2 := fun u => (((HX6.out.to (hru u)).cell 2).trans (show _ = some (Value.string (bs p.a)) from rfl))
                          have x3 := fun u => (((HX6.out.to (hru u)).cell 3).trans (show _ = some (Value.bool p.need) from rfl))
                          have CI : ∀ u, Calls Tryz.prog 73 #[.agg #[.int .i64 (kp : Int), .string (bs p.b), .string (bs p.a), .bool p.need], .string (bs (V.take e))] (h u) fun e' w' => e' = .returned (.bool (isVal numB p.k (V.take e))) ∧ ∃ u', w' = h u' := fun u => by
                            have := cls_call hru hri (fun W hb => isValue_any p (V.take e) hvl W (HGo.out.to (below_to HFB6.out.f.bel (Nat.le_refl _) hb))) u
                            rw [HKP.out] at this ⊢
                            exact this
                          cases hiv : isVal numB p.k (V.take e) with
                          | false =>
                            rw [hiv] at CI
                            have HFIN : Hid (readF (validB isNm s) numB s.ps t = (zeroF, 1, (j2 : Int))) := by
                              show _ = _
                              rw [HRY.out, ← HRI.out.eq, HDR.out, rd_yes HSK.out HPRE.out]
                              unfold stepR
                              rw [HVV.out, HTW.out, hiv]
                              show ((zeroF, (1 : Int), (t.length : Int) - (V.length : Int)) : List (List UInt8) × Int × Int) = _
                              have := HVL.out
                              have := HJ2.out
                              rw [show (t.length : Int) - (V.length : Int) = (j2 : Int) by omega]
                            clear hiv
                            refine wp_region_class h (by kernel_rfl) (by kernel_rfl) (hri _ (hru _).drew) ?_
                            repeat (go_big_quiet_step (first | with_reducible exact CI _))
                            refine wpQuiet_nil ?_
                            intro w8 hw8
                            obtain ⟨u, rfl⟩ := hw8
                            have HFB8 := hide (HFB6.out.to (hru u))
                            revert HFB8
                            generalize h u = w8
                            intro HFB8
                            clear CI x0 x1 x2 x3 HFB6 HX6 hru hri
                            have z0 : w8.cell? ⟨w.heap.size + 1 + 1, 0, none⟩ = some (.string ⟨#[]⟩) := HFB8.out.f.r.cell 0
                            have y0 := HFB8.out.f.r.frozen 0
                            have z1 : w8.cell? ⟨w.heap.size + 1 + 1, 1, none⟩ = some (.string ⟨#[]⟩) := HFB8.out.f.r.cell 1
                            have y1 := HFB8.out.f.r.frozen 1
                            have z2 : w8.cell? ⟨w.heap.size + 1 + 1, 2, none⟩ = some (.string ⟨#[]⟩) := HFB8.out.f.r.cell 2
                            have y2 := HFB8.out.f.r.frozen 2
                            have z3 : w8.cell? ⟨w.heap.size + 1 + 1, 3, none⟩ = some (.string ⟨#[]⟩) := HFB8.out.f.r.cell 3
                            have y3 := HFB8.out.f.r.frozen 3
                            have z4 : w8.cell? ⟨w.heap.size + 1 + 1, 4, none⟩ = some (.string ⟨#[]⟩) := HFB8.out.f.r.cell 4
                            have y4 := HFB8.out.f.r.frozen 4
                            have z5 : w8.cell? ⟨w.heap.size + 1 + 1, 5, none⟩ = some (.string ⟨#[]⟩) := HFB8.out.f.r.cell 5
                            have y5 := HFB8.out.f.r.frozen 5
                            have z6 : w8.cell? ⟨w.heap.size + 1 + 1, 6, none⟩ = some (.string ⟨#[]⟩) := HFB8.out.f.r.cell 6
                            have y6 := HFB8.out.f.r.frozen 6
                            have z7 : w8.cell? ⟨w.heap.size + 1 + 1, 7, none⟩ = some (.string ⟨#[]⟩) := HFB8.out.f.r.cell 7
                            have y7 := HFB8.out.f.r.frozen 7
                            have z8 : w8.cell? ⟨w.heap.size + 1 + 1, 8, none⟩ = some (.string ⟨#[]⟩) := HFB8.out.f.r.cell 8
                            have y8 := HFB8.out.f.r.frozen 8
                            have a0 : w8.cell? ⟨ba, 0, none⟩ = some (.int .i64 (j2 : Int)) := HFB8.out.a.cell 0
                            have n1 : ba ≠ w.heap.size + 1 + 1 := by have := HFB8.out.f.lt; have := HFB8.out.mo; have := HFB8.out.oa; omega
                            have n2 : w.heap.size + 1 + 1 ≠ ba := fun h => n1 h.symm
                            go_wp2_with fail
                            go_region
                            go_wp2_with fail
                            simp +zetaDelta only [Exit.noGoto, Exit.inBlock, Exit.then]
                            have hbk : Blk (((((((((w8.setCell ⟨w.heap.size + 1 + 1, 0, none⟩ (.string ⟨#[]⟩)).setCell ⟨w.heap.size + 1 + 1, 1, none⟩ (.string ⟨#[]⟩)).setCell ⟨w.heap.size + 1 + 1, 2, none⟩ (.string ⟨#[]⟩)).setCell ⟨w.heap.size + 1 + 1, 3, none⟩ (.string ⟨#[]⟩)).setCell ⟨w.heap.size + 1 + 1, 4, none⟩ (.string ⟨#[]⟩)).setCell ⟨w.heap.size + 1 + 1, 5, none⟩ (.string ⟨#[]⟩)).setCell ⟨w.heap.size + 1 + 1, 6, none⟩ (.string ⟨#[]⟩)).setCell ⟨w.heap.size + 1 + 1, 7, none⟩ (.string ⟨#[]⟩)).setCell ⟨w.heap.size + 1 + 1, 8, none⟩ (.string ⟨#[]⟩)).drew (w.heap.size + 1 + 1) 26 Z9 := (((((((((HFB8.out.f.r.set_ 0 (.string ⟨#[]⟩)).set_ 1 (.string ⟨#[]⟩)).set_ 2 (.string ⟨#[]⟩)).set_ 3 (.string ⟨#[]⟩)).set_ 4 (.string ⟨#[]⟩)).set_ 5 (.string ⟨#[]⟩)).set_ 6 (.string ⟨#[]⟩)).set_ 7 (.string ⟨#[]⟩)).set_ 8 (.string ⟨#[]⟩)).drew
                            refine bodyPost_ret (results_ctt (p := 4) (u := 5) (x := 6) rfl _ _ (w.heap.size + 1 + 1) 26 _ _ rfl hbk Tryz.underlying26 rfl (by kernel_rfl)) rfl ⟨?_, (((((((((HFB8.out.f.bel.setCell (p := ⟨w.heap.size + 1 + 1, 0, none⟩) (by show w.heap.size ≤ w.heap.size + 1 + 1; omega) (.string ⟨#[]⟩)).setCell (p := ⟨w.heap.size + 1 + 1, 1, none⟩) (by show w.heap.size ≤ w.heap.size + 1 + 1; omega) (.string ⟨#[]⟩)).setCell (p := ⟨w.heap.size + 1 + 1, 2, none⟩) (by show w.heap.size ≤ w.heap.size + 1 + 1; omega) (.string ⟨#[]⟩)).setCell (p := ⟨w.heap.size + 1 + 1, 3, none⟩) (by show w.heap.size ≤ w.heap.size + 1 + 1; omega) (.string ⟨#[]⟩)).setCell (p := ⟨w.heap.size + 1 + 1, 4, none⟩) (by show w.heap.size ≤ w.heap.size + 1 + 1; omega) (.string ⟨#[]⟩)).setCell (p := ⟨w.heap.size + 1 + 1, 5, none⟩) (by show w.heap.size ≤ w.heap.size + 1 + 1; omega) (.string ⟨#[]⟩)).setCell (p := ⟨w.heap.size + 1 + 1, 6, none⟩) (by show w.heap.size ≤ w.heap.size + 1 + 1; omega) (.string ⟨#[]⟩)).setCell (p := ⟨w.heap.size + 1 + 1, 7, none⟩) (by show w.heap.size ≤ w.heap.size + 1 + 1; omega) (.string ⟨#[]⟩)).setCell (p := ⟨w.heap.size + 1 + 1, 8, none⟩) (by show w.heap.size ≤ w.heap.size + 1 + 1; omega) (.string ⟨#[]⟩)).drew⟩
                            rw [HFIN.out]; rfl
                          | true =>
                            rw [hiv] at CI
                            have HST : Hid (stepR (mrk s.ps) numB p (r.drop (k + 1)) (t.drop j) out = if p.a <+: V.drop e then readR (mrk s.ps) numB (r.drop (k + 1)) ((V.drop e).drop p.a.length) (out.set p.k.toNat (V.take e)) else .miss (V.drop e).length) := by
                              show _ = _
                              unfold stepR
                              rw [HVV.out, HTW.out, HDW.out, hiv, if_pos rfl]
                            clear hiv
                            refine wp_region_class h (by kernel_rfl) (by kernel_rfl) (hri _ (hru _).drew) ?_
                            repeat (go_big_quiet_step (first | with_reducible exact CI _))
                            refine wpQuiet_nil ?_
                            intro w8 hw8
                            obtain ⟨u, rfl⟩ := hw8
                            have HFB8 := hide (HFB6.out.to (hru u))
                            have HX8 := hide (HX6.out.to (hru u))
                            revert HFB8 HX8
                            generalize h u = w8
                            intro HFB8 HX8
                            clear CI x0 x1 x2 x3 HFB6 HX6 hru hri
                            have x0 : w8.cell? ⟨bx, 0, none⟩ = some (.int .i64 (kp : Int)) := HX8.out.cell 0
                            have hkl : kp < out.length := by rw [hol]; exact hkp9
                            have o0 := (HFB8.out.o.cell kp).trans (fieldsC_at (List.getElem?_eq_getElem hkl))
                            have o1 := HFB8.out.o.frozen kp
                            have HFB9 : Hid (FB w #[.string (bs s.c), .slice A s.ps.length cp] t bm bo ba L (out.set kp (V.take e)) j2 (w8.setCell ⟨bo, kp, none⟩ (.string (bs (V.take e)))).drew) := (HFB8.out.setO kp (V.take e)).drew
                            have HX9 : Hid (Blk (w8.setCell ⟨bo, kp, none⟩ (.string (bs (V.take e)))).drew bx 41 #[.int .i64 (kp : Int), .string (bs p.b), .string (bs p.a), .bool p.need]) := (HX8.out.far (p := ⟨bo, kp, none⟩) (by show bx ≠ bo; exact fun e => hbox e.symm) (.string (bs (V.take e)))).drew
                            generalize out[kp]'hkl = oo at *
                            go_wp2_with fail
                            go_region
                            clear x0 o0 o1 HFB8 HX8
                            generalize (w8.setCell ⟨bo, kp, none⟩ (.string (bs (V.take e)))).drew = w9 at *
                            obtain ⟨j3, hj3⟩ : ∃ x, j2 + e = x := ⟨_, rfl⟩
                            have ej3 : (j2 : Int) + (e : Int) = (j3 : Int) := by omega
                            have a0 : w9.cell? ⟨ba, 0, none⟩ = some (.int .i64 (j2 : Int)) := HFB9.out.a.cell 0
                            have fa : w9.frozen? ⟨ba, 0, none⟩ = false := HFB9.out.a.frozen 0
                            have HFBa : Hid (FB w #[.string (bs s.c), .slice A s.ps.length cp] t bm bo ba L (out.set kp (V.take e)) j3 (w9.setCell ⟨ba, 0, none⟩ (.int .i64 (j3 : Int)))) := HFB9.out.setA j3
                            have HXa := hide (HX9.out.far (p := ⟨ba, 0, none⟩) (by show bx ≠ ba; exact fun e => hbax e.symm) (.int .i64 (j3 : Int)))
                            have HJ3 := hide hj3
                            have hj3l : j3 ≤ t.length := by have := HVL.out; have := HJ2.out; omega
                            have HD3 : Hid (t.drop j3 = V.drop e) := by show _ = _; rw [← HVV.out, List.drop_drop, List.drop_drop]; have := HJ2.out; have := HJ3.out; congr 1; omega
                            clear hj3
                            go_upto_region 31 with fail
                            clear a0 fa ej3 HFB9 HX9
                            generalize w9.setCell ⟨ba, 0, none⟩ (.int .i64 (j3 : Int)) = wa at *
                            obtain ⟨Ua, hUa, g, ua, rfl, hgu, hgi⟩ := cls wa
                            have a0 := fun u => (((HFBa.out.to (hgu u)).a.cell 0).trans (show _ = some (Value.int IntKind.i64 (j3 : Int)) from rfl))
                            have t0 := fun u => (((HFBa.out.to (hgu u)).f.t.cell 0).trans (show _ = some (Value.string (bs t)) from rfl))
                            have x2 := fun u => (((HXa.out.to (hgu u)).cell 2).trans (show _ = some (Value.string (bs p.a)) from rfl))
                            have hx3 : (bs t).extract j3 t.length = bs (V.drop e) := by rw [bs_cut, ← HD3.out, List.take_of_length_le (by rw [List.length_drop]; omega)]
                            have CH : ∀ u, Calls Tryz.prog 74 #[.string (bs (V.drop e)), .string (bs p.a)] (g u) fun e' w' => e' = .returned (.bool (decide (p.a <+: V.drop e))) ∧ ∃ u', w' = g u' := fun u => cls_call hgu hgi (fun W hb => (HasPrefix_any (V.drop e) p.a W).mono fun e w' h => ⟨h.1, h.2 ▸ Below.refl _ _⟩) u
                            by_cases hpa : p.a <+: V.drop e
                            · rw [decide_eq_true hpa] at CH
                              rw [if_pos hpa] at HST
                              have HPA := hide hpa
                              clear hpa
                              refine wp_region_class g (by kernel_rfl) (by kernel_rfl) (hgi _ (hgu _).drew) ?_
                              repeat (go_big_quiet_step (first | with_reducible exact CH _))
                              refine wpQuiet_nil ?_
                              intro wb hwb
                              obtain ⟨u, rfl⟩ := hwb
                              have HFBb := hide (HFBa.out.to (hgu u))
                              have HXb := hide (HXa.out.to (hgu u))
                              revert HFBb HXb
                              generalize g u = wb
                              intro HFBb HXb
                              clear CH a0 t0 x2 HFBa HXa hgu hgi hx3
                              obtain ⟨j4, hj4⟩ : ∃ x, j3 + p.a.length = x := ⟨_, rfl⟩
                              have ej4 : (j3 : Int) + (p.a.length : Int) = (j4 : Int) := by omega
                              have hsza := bs_size p.a
                              have hpal := HPA.out.length_le
                              have hj4l : j4 ≤ t.length := by
                                have h1 : (V.drop e).length = t.length - j3 := by rw [← HD3.out, List.length_drop]
                                omega
                              have a0 : wb.cell? ⟨ba, 0, none⟩ = some (.int .i64 (j3 : Int)) := HFBb.out.a.cell 0
                              have x2 : wb.cell? ⟨bx, 2, none⟩ = some (.string (bs p.a)) := HXb.out.cell 2
                              have fa : wb.frozen? ⟨ba, 0, none⟩ = false := HFBb.out.a.frozen 0
                              have HFBc : Hid (FB w #[.string (bs s.c), .slice A s.ps.length cp] t bm bo ba L (out.set kp (V.take e)) j4 (wb.setCell ⟨ba, 0, none⟩ (.int .i64 (j4 : Int)))) := HFBb.out.setA j4
                              have HJ4 := hide hj4
                              have HRN : Hid (RdI s t (r.drop (k + 1)) j4 (out.set kp (V.take e))) := by
                                refine ⟨?_, fun q hq => HRI0.out.sub q (List.mem_of_mem_drop hq), by rw [List.length_set]; exact hol, by rw [List.length_drop]; omega, hj4l⟩
                                rw [← HRI.out.eq, HDR.out, rd_yes HSK.out HPRE.out, HST.out, ← HD3.out, List.drop_drop, HJ4.out, HKP.out]
                                rfl
                              clear hj4 HST
                              by_cases hcc : c' = k + 1
                              · have hrl : r.length = k + 1 := by omega
                                have hd0 : r.drop (k + 1) = [] := List.drop_of_length_le (by omega)
                                have HPN : Hid (∀ A'', PartsAt w (.slice A'' 0 0) (r.drop (k + 1))) := fun A'' => by rw [hd0]; exact ⟨A'', 0, rfl, Nat.zero_le _, by simp, fun i x hx => by simp at hx⟩
                                clear hd0
                                go_wp2_with fail
                                go_roundw
                                case rel => exact ⟨r.drop (k + 1), j4, _, HPN.out _, HFBc.out, HRN.out⟩
                                case measure => simp [lenV]; omega
                              · have hc0' : ¬ (c' - (k + 1) = 0) := by omega
                                have HPN : Hid (PartsAt w (.slice (some (ad.add ((k + 1) * 4))) (r.length - (k + 1)) (c' - (k + 1))) (r.drop (k + 1))) := by
                                  have := RowsAt.drop (k := k + 1) HPV.out (by rw [List.length_map]; omega) (c' - (k + 1)) (by rw [List.length_map]; omega)
                                  rw [List.length_map] at this
                                  show RowsAt _ _ _ _
                                  rw [List.map_drop]
                                  exact this
                                go_wp2_with fail
                                go_roundw
                                case rel => exact ⟨r.drop (k + 1), j4, _, HPN.out, HFBc.out, HRN.out⟩
                                case measure => simp [lenV]; omega
                            · rw [decide_eq_false hpa] at CH
                              rw [if_neg hpa] at HST
                              have HFIN : Hid (readF (validB isNm s) numB s.ps t = (zeroF, missE j3 t.length, (j3 : Int))) := by
                                show _ = _
                                have h1 : (V.drop e).length = t.length - j3 := by rw [← HD3.out, List.length_drop]
                                rw [HRY.out, ← HRI.out.eq, HDR.out, rd_yes HSK.out HPRE.out, HST.out, h1]
                                show ((zeroF, (if t.length - j3 = 0 then (6 : Int) else 5), (t.length : Int) - ((t.length - j3 : Nat) : Int)) : List (List UInt8) × Int × Int) = _
                                rw [show (t.length : Int) - ((t.length - j3 : Nat) : Int) = (j3 : Int) by omega]
                                unfold missE
                                by_cases hh : j3 = t.length
                                · rw [if_pos (by omega), if_pos hh]
                                · rw [if_neg (by omega), if_neg hh]
                              clear hpa HST
                              refine wp_region_class g (by kernel_rfl) (by kernel_rfl) (hgi _ (hgu _).drew) ?_
                              repeat (go_big_quiet_step (first | with_reducible exact CH _))
                              refine wpQuiet_nil ?_
                              intro wb hwb
                              obtain ⟨u, rfl⟩ := hwb
                              have HFBb := hide (HFBa.out.to (hgu u))
                              clear CH a0 t0 x2 HXa hx3
                              go_wp2_with fail
                              refine (missing_any t j3 hj3l ht ba (w.heap.size + 1) (g u) HFBb.out.a HFBb.out.f.t).mono ?_
                              rintro e wm ⟨rfl, hbm⟩
                              have HFm := hide (HFBb.out.f.to hbm)
                              unfold Z9
                              have z0 : wm.cell? ⟨w.heap.size + 1 + 1, 0, none⟩ = some (.string ⟨#[]⟩) := HFm.out.r.cell 0
                              have y0 := HFm.out.r.frozen 0
                              have z1 : wm.cell? ⟨w.heap.size + 1 + 1, 1, none⟩ = some (.string ⟨#[]⟩) := HFm.out.r.cell 1
                              have y1 := HFm.out.r.frozen 1
                              have z2 : wm.cell? ⟨w.heap.size + 1 + 1, 2, none⟩ = some (.string ⟨#[]⟩) := HFm.out.r.cell 2
                              have y2 := HFm.out.r.frozen 2
                              have z3 : wm.cell? ⟨w.heap.size + 1 + 1, 3, none⟩ = some (.string ⟨#[]⟩) := HFm.out.r.cell 3
                              have y3 := HFm.out.r.frozen 3
                              have z4 : wm.cell? ⟨w.heap.size + 1 + 1, 4, none⟩ = some (.string ⟨#[]⟩) := HFm.out.r.cell 4
                              have y4 := HFm.out.r.frozen 4
                              have z5 : wm.cell? ⟨w.heap.size + 1 + 1, 5, none⟩ = some (.string ⟨#[]⟩) := HFm.out.r.cell 5
                              have y5 := HFm.out.r.frozen 5
                              have z6 : wm.cell? ⟨w.heap.size + 1 + 1, 6, none⟩ = some (.string ⟨#[]⟩) := HFm.out.r.cell 6
                              have y6 := HFm.out.r.frozen 6
                              have z7 : wm.cell? ⟨w.heap.size + 1 + 1, 7, none⟩ = some (.string ⟨#[]⟩) := HFm.out.r.cell 7
                              have y7 := HFm.out.r.frozen 7
                              have z8 : wm.cell? ⟨w.heap.size + 1 + 1, 8, none⟩ = some (.string ⟨#[]⟩) := HFm.out.r.cell 8
                              have y8 := HFm.out.r.frozen 8
                              go_wp2_with fail
                              simp +zetaDelta only [Exit.noGoto, Exit.inBlock, Exit.then]
                              have hbk : Blk (((((((((wm.setCell ⟨w.heap.size + 1 + 1, 0, none⟩ (.string ⟨#[]⟩)).setCell ⟨w.heap.size + 1 + 1, 1, none⟩ (.string ⟨#[]⟩)).setCell ⟨w.heap.size + 1 + 1, 2, none⟩ (.string ⟨#[]⟩)).setCell ⟨w.heap.size + 1 + 1, 3, none⟩ (.string ⟨#[]⟩)).setCell ⟨w.heap.size + 1 + 1, 4, none⟩ (.string ⟨#[]⟩)).setCell ⟨w.heap.size + 1 + 1, 5, none⟩ (.string ⟨#[]⟩)).setCell ⟨w.heap.size + 1 + 1, 6, none⟩ (.string ⟨#[]⟩)).setCell ⟨w.heap.size + 1 + 1, 7, none⟩ (.string ⟨#[]⟩)).setCell ⟨w.heap.size + 1 + 1, 8, none⟩ (.string ⟨#[]⟩)) (w.heap.size + 1 + 1) 26 Z9 := (((((((((HFm.out.r.set_ 0 (.string ⟨#[]⟩)).set_ 1 (.string ⟨#[]⟩)).set_ 2 (.string ⟨#[]⟩)).set_ 3 (.string ⟨#[]⟩)).set_ 4 (.string ⟨#[]⟩)).set_ 5 (.string ⟨#[]⟩)).set_ 6 (.string ⟨#[]⟩)).set_ 7 (.string ⟨#[]⟩)).set_ 8 (.string ⟨#[]⟩))
                              refine bodyPost_ret (results_ctt (p := 4) (u := 5) (x := 6) rfl _ _ (w.heap.size + 1 + 1) 26 _ _ rfl hbk Tryz.underlying26 rfl (by kernel_rfl)) rfl ⟨?_, (((((((((HFm.out.bel.setCell (p := ⟨w.heap.size + 1 + 1, 0, none⟩) (by show w.heap.size ≤ w.heap.size + 1 + 1; omega) (.string ⟨#[]⟩)).setCell (p := ⟨w.heap.size + 1 + 1, 1, none⟩) (by show w.heap.size ≤ w.heap.size + 1 + 1; omega) (.string ⟨#[]⟩)).setCell (p := ⟨w.heap.size + 1 + 1, 2, none⟩) (by show w.heap.size ≤ w.heap.size + 1 + 1; omega) (.string ⟨#[]⟩)).setCell (p := ⟨w.heap.size + 1 + 1, 3, none⟩) (by show w.heap.size ≤ w.heap.size + 1 + 1; omega) (.string ⟨#[]⟩)).setCell (p := ⟨w.heap.size + 1 + 1, 4, none⟩) (by show w.heap.size ≤ w.heap.size + 1 + 1; omega) (.string ⟨#[]⟩)).setCell (p := ⟨w.heap.size + 1 + 1, 5, none⟩) (by show w.heap.size ≤ w.heap.size + 1 + 1; omega) (.string ⟨#[]⟩)).setCell (p := ⟨w.heap.size + 1 + 1, 6, none⟩) (by show w.heap.size ≤ w.heap.size + 1 + 1; omega) (.string ⟨#[]⟩)).setCell (p := ⟨w.heap.size + 1 + 1, 7, none⟩) (by show w.heap.size ≤ w.heap.size + 1 + 1; omega) (.string ⟨#[]⟩)).setCell (p := ⟨w.heap.size + 1 + 1, 8, none⟩) (by show w.heap.size ≤ w.heap.size + 1 + 1; omega) (.string ⟨#[]⟩))⟩
                              rw [HFIN.out]; rfl
                        | false =>
                          rw [hmk] at mc
                          have HN2 : Hid (∀ m d, m < e + 1 → V[m]? = some d → mrk s.ps d = false) := fun m d hm hd => by
                            rcases Nat.lt_or_ge m e with h' | h'
                            · exact HNM.out m d h' hd
                            · obtain rfl : m = e := by omega
                              rw [hcv] at hd; cases hd; exact hmk
                          clear hcv hmk
                          go_wp2_with fail
                          go_roundw
                          case rel => exact ⟨e + 1, by omega, by go_num, HN2.out, (by first | rfl | trivial)⟩
                          case measure => simp [intOf]; omega
                      · obtain rfl : e = V.length := by omega
                        have f1 : decide ((V.length : Int) < (V.length : Int)) = false := by simp
                        obtain ⟨e, he⟩ : ∃ e, V.length = e := ⟨_, rfl⟩
                        go_upto_region 26 with fail
                        clear hel
                        have hel : e ≤ V.length := Nat.le_of_eq he.symm
                        have hE : e = V.length ∨ ∃ c, V[e]? = some c ∧ mrk s.ps c = true := .inl he.symm
                        rw [he] at HNM ⊢
                        clear he
                        have hw := tw_at V e hel HNM.out hE
                        have HTW := hide hw.1
                        have HDW := hide hw.2
                        clear hw hE HNM
                        have HVT : Hid ((bs V).extract 0 e = bs (V.take e)) := by show _ = _; rw [bs_cut]; simp
                        have hvt := HVT.out
                        have hvl : (V.take e).length ≤ 100000 := by rw [List.length_take]; omega
                        obtain ⟨j2, hj2⟩ : ∃ x, j + p.b.length = x := ⟨_, rfl⟩
                        have ej2 : (j : Int) + (p.b.length : Int) = (j2 : Int) := by omega
                        have hszb := bs_size p.b
                        have HFB6 : Hid (FB w #[.string (bs s.c), .slice A s.ps.length cp] t bm bo ba L out j2 (w6.setCell ⟨ba, 0, none⟩ (.int .i64 (j2 : Int)))) := HFB5.out.setA j2
                        have fa : w6.frozen? ⟨ba, 0, none⟩ = false := HFB5.out.a.frozen 0
                        have HX6 := hide (HX5.out.far (p := ⟨ba, 0, none⟩) (by show bx ≠ ba; exact fun e => hbax e.symm) (.int .i64 (j2 : Int)))
                        have HJ2 := hide hj2
                        have hj2l : j2 ≤ t.length := by omega
                        clear hj2
                        go_upto_region 27 with fail
                        clear a0 fa ej2 hszb x0 x1 x2 x3 t0
                        generalize w6.setCell ⟨ba, 0, none⟩ (.int .i64 (j2 : Int)) = w7 at *
                        obtain ⟨U7, hU7, h, u7, rfl, hru, hri⟩ := cls w7
                        have x0 := fun u => (((HX6.out.to (hru u)).cell 0).trans (show _ = some (Value.int IntKind.i64 (kp : Int)) from rfl))
                        have x1 := fun u => (((HX6.out.to (hru u)).cell 1).trans (show _ = some (Value.string (bs p.b)) from rfl))
                        have x2 := fun u => (((HX6.out.to (hru u)).cell 2).trans (show _ = some (Value.string (bs p.a)) from rfl))
                        have x3 := fun u => (((HX6.out.to (hru u)).cell 3).trans (show _ = some (Value.bool p.need) from rfl))
                        have CI : ∀ u, Calls Tryz.prog 73 #[.agg #[.int .i64 (kp : Int), .string (bs p.b), .string (bs p.a), .bool p.need], .string (bs (V.take e))] (h u) fun e' w' => e' = .returned (.bool (isVal numB p.k (V.take e))) ∧ ∃ u', w' = h u' := fun u => by
                          have := cls_call hru hri (fun W hb => isValue_any p (V.take e) hvl W (HGo.out.to (below_to HFB6.out.f.bel (Nat.le_refl _) hb))) u
                          rw [HKP.out] at this ⊢
                          exact this
                        cases hiv : isVal numB p.k (V.take e) with
                        | false =>
                          rw [hiv] at CI
                          have HFIN : Hid (readF (validB isNm s) numB s.ps t = (zeroF, 1, (j2 : Int))) := by
                            show _ = _
                            rw [HRY.out, ← HRI.out.eq, HDR.out, rd_yes HSK.out HPRE.out]
                            unfold stepR
                            rw [HVV.out, HTW.out, hiv]
                            show ((zeroF, (1 : Int), (t.length : Int) - (V.length : Int)) : List (List UInt8) × Int × Int) = _
                            have := HVL.out
                            have := HJ2.out
                            rw [show (t.length : Int) - (V.length : Int) = (j2 : Int) by omega]
                          clear hiv
                          refine wp_region_class h (by kernel_rfl) (by kernel_rfl) (hri _ (hru _).drew) ?_
                          repeat (go_big_quiet_step (first | with_reducible exact CI _))
                          refine wpQuiet_nil ?_
                          intro w8 hw8
                          obtain ⟨u, rfl⟩ := hw8
                          have HFB8 := hide (HFB6.out.to (hru u))
                          revert HFB8
                          generalize h u = w8
                          intro HFB8
                          clear CI x0 x1 x2 x3 HFB6 HX6 hru hri
                          have z0 : w8.cell? ⟨w.heap.size + 1 + 1, 0, none⟩ = some (.string ⟨#[]⟩) := HFB8.out.f.r.cell 0
                          have y0 := HFB8.out.f.r.frozen 0
                          have z1 : w8.cell? ⟨w.heap.size + 1 + 1, 1, none⟩ = some (.string ⟨#[]⟩) := HFB8.out.f.r.cell 1
                          have y1 := HFB8.out.f.r.frozen 1
                          have z2 : w8.cell? ⟨w.heap.size + 1 + 1, 2, none⟩ = some (.string ⟨#[]⟩) := HFB8.out.f.r.cell 2
                          have y2 := HFB8.out.f.r.frozen 2
                          have z3 : w8.cell? ⟨w.heap.size + 1 + 1, 3, none⟩ = some (.string ⟨#[]⟩) := HFB8.out.f.r.cell 3
                          have y3 := HFB8.out.f.r.frozen 3
                          have z4 : w8.cell? ⟨w.heap.size + 1 + 1, 4, none⟩ = some (.string ⟨#[]⟩) := HFB8.out.f.r.cell 4
                          have y4 := HFB8.out.f.r.frozen 4
                          have z5 : w8.cell? ⟨w.heap.size + 1 + 1, 5, none⟩ = some (.string ⟨#[]⟩) := HFB8.out.f.r.cell 5
                          have y5 := HFB8.out.f.r.frozen 5
                          have z6 : w8.cell? ⟨w.heap.size + 1 + 1, 6, none⟩ = some (.string ⟨#[]⟩) := HFB8.out.f.r.cell 6
                          have y6 := HFB8.out.f.r.frozen 6
                          have z7 : w8.cell? ⟨w.heap.size + 1 + 1, 7, none⟩ = some (.string ⟨#[]⟩) := HFB8.out.f.r.cell 7
                          have y7 := HFB8.out.f.r.frozen 7
                          have z8 : w8.cell? ⟨w.heap.size + 1 + 1, 8, none⟩ = some (.string ⟨#[]⟩) := HFB8.out.f.r.cell 8
                          have y8 := HFB8.out.f.r.frozen 8
                          have a0 : w8.cell? ⟨ba, 0, none⟩ = some (.int .i64 (j2 : Int)) := HFB8.out.a.cell 0
                          have n1 : ba ≠ w.heap.size + 1 + 1 := by have := HFB8.out.f.lt; have := HFB8.out.mo; have := HFB8.out.oa; omega
                          have n2 : w.heap.size + 1 + 1 ≠ ba := fun h => n1 h.symm
                          go_wp2_with fail
                          go_region
                          go_wp2_with fail
                          simp +zetaDelta only [Exit.noGoto, Exit.inBlock, Exit.then]
                          have hbk : Blk (((((((((w8.setCell ⟨w.heap.size + 1 + 1, 0, none⟩ (.string ⟨#[]⟩)).setCell ⟨w.heap.size + 1 + 1, 1, none⟩ (.string ⟨#[]⟩)).setCell ⟨w.heap.size + 1 + 1, 2, none⟩ (.string ⟨#[]⟩)).setCell ⟨w.heap.size + 1 + 1, 3, none⟩ (.string ⟨#[]⟩)).setCell ⟨w.heap.size + 1 + 1, 4, none⟩ (.string ⟨#[]⟩)).setCell ⟨w.heap.size + 1 + 1, 5, none⟩ (.string ⟨#[]⟩)).setCell ⟨w.heap.size + 1 + 1, 6, none⟩ (.string ⟨#[]⟩)).setCell ⟨w.heap.size + 1 + 1, 7, none⟩ (.string ⟨#[]⟩)).setCell ⟨w.heap.size + 1 + 1, 8, none⟩ (.string ⟨#[]⟩)).drew (w.heap.size + 1 + 1) 26 Z9 := (((((((((HFB8.out.f.r.set_ 0 (.string ⟨#[]⟩)).set_ 1 (.string ⟨#[]⟩)).set_ 2 (.string ⟨#[]⟩)).set_ 3 (.string ⟨#[]⟩)).set_ 4 (.string ⟨#[]⟩)).set_ 5 (.string ⟨#[]⟩)).set_ 6 (.string ⟨#[]⟩)).set_ 7 (.string ⟨#[]⟩)).set_ 8 (.string ⟨#[]⟩)).drew
                          refine bodyPost_ret (results_ctt (p := 4) (u := 5) (x := 6) rfl _ _ (w.heap.size + 1 + 1) 26 _ _ rfl hbk Tryz.underlying26 rfl (by kernel_rfl)) rfl ⟨?_, (((((((((HFB8.out.f.bel.setCell (p := ⟨w.heap.size + 1 + 1, 0, none⟩) (by show w.heap.size ≤ w.heap.size + 1 + 1; omega) (.string ⟨#[]⟩)).setCell (p := ⟨w.heap.size + 1 + 1, 1, none⟩) (by show w.heap.size ≤ w.heap.size + 1 + 1; omega) (.string ⟨#[]⟩)).setCell (p := ⟨w.heap.size + 1 + 1, 2, none⟩) (by show w.heap.size ≤ w.heap.size + 1 + 1; omega) (.string ⟨#[]⟩)).setCell (p := ⟨w.heap.size + 1 + 1, 3, none⟩) (by show w.heap.size ≤ w.heap.size + 1 + 1; omega) (.string ⟨#[]⟩)).setCell (p := ⟨w.heap.size + 1 + 1, 4, none⟩) (by show w.heap.size ≤ w.heap.size + 1 + 1; omega) (.string ⟨#[]⟩)).setCell (p := ⟨w.heap.size + 1 + 1, 5, none⟩) (by show w.heap.size ≤ w.heap.size + 1 + 1; omega) (.string ⟨#[]⟩)).setCell (p := ⟨w.heap.size + 1 + 1, 6, none⟩) (by show w.heap.size ≤ w.heap.size + 1 + 1; omega) (.string ⟨#[]⟩)).setCell (p := ⟨w.heap.size + 1 + 1, 7, none⟩) (by show w.heap.size ≤ w.heap.size + 1 + 1; omega) (.string ⟨#[]⟩)).setCell (p := ⟨w.heap.size + 1 + 1, 8, none⟩) (by show w.heap.size ≤ w.heap.size + 1 + 1; omega) (.string ⟨#[]⟩)).drew⟩
                          rw [HFIN.out]; rfl
                        | true =>
                          rw [hiv] at CI
                          have HST : Hid (stepR (mrk s.ps) numB p (r.drop (k + 1)) (t.drop j) out = if p.a <+: V.drop e then readR (mrk s.ps) numB (r.drop (k + 1)) ((V.drop e).drop p.a.length) (out.set p.k.toNat (V.take e)) else .miss (V.drop e).length) := by
                            show _ = _
                            unfold stepR
                            rw [HVV.out, HTW.out, HDW.out, hiv, if_pos rfl]
                          clear hiv
                          refine wp_region_class h (by kernel_rfl) (by kernel_rfl) (hri _ (hru _).drew) ?_
                          repeat (go_big_quiet_step (first | with_reducible exact CI _))
                          refine wpQuiet_nil ?_
                          intro w8 hw8
                          obtain ⟨u, rfl⟩ := hw8
                          have HFB8 := hide (HFB6.out.to (hru u))
                          have HX8 := hide (HX6.out.to (hru u))
                          revert HFB8 HX8
                          generalize h u = w8
                          intro HFB8 HX8
                          clear CI x0 x1 x2 x3 HFB6 HX6 hru hri
                          have x0 : w8.cell? ⟨bx, 0, none⟩ = some (.int .i64 (kp : Int)) := HX8.out.cell 0
                          have hkl : kp < out.length := by rw [hol]; exact hkp9
                          have o0 := (HFB8.out.o.cell kp).trans (fieldsC_at (List.getElem?_eq_getElem hkl))
                          have o1 := HFB8.out.o.frozen kp
                          have HFB9 : Hid (FB w #[.string (bs s.c), .slice A s.ps.length cp] t bm bo ba L (out.set kp (V.take e)) j2 (w8.setCell ⟨bo, kp, none⟩ (.string (bs (V.take e)))).drew) := (HFB8.out.setO kp (V.take e)).drew
                          have HX9 : Hid (Blk (w8.setCell ⟨bo, kp, none⟩ (.string (bs (V.take e)))).drew bx 41 #[.int .i64 (kp : Int), .string (bs p.b), .string (bs p.a), .bool p.need]) := (HX8.out.far (p := ⟨bo, kp, none⟩) (by show bx ≠ bo; exact fun e => hbox e.symm) (.string (bs (V.take e)))).drew
                          generalize out[kp]'hkl = oo at *
                          go_wp2_with fail
                          go_region
                          clear x0 o0 o1 HFB8 HX8
                          generalize (w8.setCell ⟨bo, kp, none⟩ (.string (bs (V.take e)))).drew = w9 at *
                          obtain ⟨j3, hj3⟩ : ∃ x, j2 + e = x := ⟨_, rfl⟩
                          have ej3 : (j2 : Int) + (e : Int) = (j3 : Int) := by omega
                          have a0 : w9.cell? ⟨ba, 0, none⟩ = some (.int .i64 (j2 : Int)) := HFB9.out.a.cell 0
                          have fa : w9.frozen? ⟨ba, 0, none⟩ = false := HFB9.out.a.frozen 0
                          have HFBa : Hid (FB w #[.string (bs s.c), .slice A s.ps.length cp] t bm bo ba L (out.set kp (V.take e)) j3 (w9.setCell ⟨ba, 0, none⟩ (.int .i64 (j3 : Int)))) := HFB9.out.setA j3
                          have HXa := hide (HX9.out.far (p := ⟨ba, 0, none⟩) (by show bx ≠ ba; exact fun e => hbax e.symm) (.int .i64 (j3 : Int)))
                          have HJ3 := hide hj3
                          have hj3l : j3 ≤ t.length := by have := HVL.out; have := HJ2.out; omega
                          have HD3 : Hid (t.drop j3 = V.drop e) := by show _ = _; rw [← HVV.out, List.drop_drop, List.drop_drop]; have := HJ2.out; have := HJ3.out; congr 1; omega
                          clear hj3
                          go_upto_region 31 with fail
                          clear a0 fa ej3 HFB9 HX9
                          generalize w9.setCell ⟨ba, 0, none⟩ (.int .i64 (j3 : Int)) = wa at *
                          obtain ⟨Ua, hUa, g, ua, rfl, hgu, hgi⟩ := cls wa
                          have a0 := fun u => (((HFBa.out.to (hgu u)).a.cell 0).trans (show _ = some (Value.int IntKind.i64 (j3 : Int)) from rfl))
                          have t0 := fun u => (((HFBa.out.to (hgu u)).f.t.cell 0).trans (show _ = some (Value.string (bs t)) from rfl))
                          have x2 := fun u => (((HXa.out.to (hgu u)).cell 2).trans (show _ = some (Value.string (bs p.a)) from rfl))
                          have hx3 : (bs t).extract j3 t.length = bs (V.drop e) := by rw [bs_cut, ← HD3.out, List.take_of_length_le (by rw [List.length_drop]; omega)]
                          have CH : ∀ u, Calls Tryz.prog 74 #[.string (bs (V.drop e)), .string (bs p.a)] (g u) fun e' w' => e' = .returned (.bool (decide (p.a <+: V.drop e))) ∧ ∃ u', w' = g u' := fun u => cls_call hgu hgi (fun W hb => (HasPrefix_any (V.drop e) p.a W).mono fun e w' h => ⟨h.1, h.2 ▸ Below.refl _ _⟩) u
                          by_cases hpa : p.a <+: V.drop e
                          · rw [decide_eq_true hpa] at CH
                            rw [if_pos hpa] at HST
                            have HPA := hide hpa
                            clear hpa
                            refine wp_region_class g (by kernel_rfl) (by kernel_rfl) (hgi _ (hgu _).drew) ?_
                            repeat (go_big_quiet_step (first | with_reducible exact CH _))
                            refine wpQuiet_nil ?_
                            intro wb hwb
                            obtain ⟨u, rfl⟩ := hwb
                            have HFBb := hide (HFBa.out.to (hgu u))
                            have HXb := hide (HXa.out.to (hgu u))
                            revert HFBb HXb
                            generalize g u = wb
                            intro HFBb HXb
                            clear CH a0 t0 x2 HFBa HXa hgu hgi hx3
                            obtain ⟨j4, hj4⟩ : ∃ x, j3 + p.a.length = x := ⟨_, rfl⟩
                            have ej4 : (j3 : Int) + (p.a.length : Int) = (j4 : Int) := by omega
                            have hsza := bs_size p.a
                            have hpal := HPA.out.length_le
                            have hj4l : j4 ≤ t.length := by
                              have h1 : (V.drop e).length = t.length - j3 := by rw [← HD3.out, List.length_drop]
                              omega
                            have a0 : wb.cell? ⟨ba, 0, none⟩ = some (.int .i64 (j3 : Int)) := HFBb.out.a.cell 0
                            have x2 : wb.cell? ⟨bx, 2, none⟩ = some (.string (bs p.a)) := HXb.out.cell 2
                            have fa : wb.frozen? ⟨ba, 0, none⟩ = false := HFBb.out.a.frozen 0
                            have HFBc : Hid (FB w #[.string (bs s.c), .slice A s.ps.length cp] t bm bo ba L (out.set kp (V.take e)) j4 (wb.setCell ⟨ba, 0, none⟩ (.int .i64 (j4 : Int)))) := HFBb.out.setA j4
                            have HJ4 := hide hj4
                            have HRN : Hid (RdI s t (r.drop (k + 1)) j4 (out.set kp (V.take e))) := by
                              refine ⟨?_, fun q hq => HRI0.out.sub q (List.mem_of_mem_drop hq), by rw [List.length_set]; exact hol, by rw [List.length_drop]; omega, hj4l⟩
                              rw [← HRI.out.eq, HDR.out, rd_yes HSK.out HPRE.out, HST.out, ← HD3.out, List.drop_drop, HJ4.out, HKP.out]
                              rfl
                            clear hj4 HST
                            by_cases hcc : c' = k + 1
                            · have hrl : r.length = k + 1 := by omega
                              have hd0 : r.drop (k + 1) = [] := List.drop_of_length_le (by omega)
                              have HPN : Hid (∀ A'', PartsAt w (.slice A'' 0 0) (r.drop (k + 1))) := fun A'' => by rw [hd0]; exact ⟨A'', 0, rfl, Nat.zero_le _, by simp, fun i x hx => by simp at hx⟩
                              clear hd0
                              go_wp2_with fail
                              go_roundw
                              case rel => exact ⟨r.drop (k + 1), j4, _, HPN.out _, HFBc.out, HRN.out⟩
                              case measure => simp [lenV]; omega
                            · have hc0' : ¬ (c' - (k + 1) = 0) := by omega
                              have HPN : Hid (PartsAt w (.slice (some (ad.add ((k + 1) * 4))) (r.length - (k + 1)) (c' - (k + 1))) (r.drop (k + 1))) := by
                                have := RowsAt.drop (k := k + 1) HPV.out (by rw [List.length_map]; omega) (c' - (k + 1)) (by rw [List.length_map]; omega)
                                rw [List.length_map] at this
                                show RowsAt _ _ _ _
                                rw [List.map_drop]
                                exact this
                              go_wp2_with fail
                              go_roundw
                              case rel => exact ⟨r.drop (k + 1), j4, _, HPN.out, HFBc.out, HRN.out⟩
                              case measure => simp [lenV]; omega
                          · rw [decide_eq_false hpa] at CH
                            rw [if_neg hpa] at HST
                            have HFIN : Hid (readF (validB isNm s) numB s.ps t = (zeroF, missE j3 t.length, (j3 : Int))) := by
                              show _ = _
                              have h1 : (V.drop e).length = t.length - j3 := by rw [← HD3.out, List.length_drop]
                              rw [HRY.out, ← HRI.out.eq, HDR.out, rd_yes HSK.out HPRE.out, HST.out, h1]
                              show ((zeroF, (if t.length - j3 = 0 then (6 : Int) else 5), (t.length : Int) - ((t.length - j3 : Nat) : Int)) : List (List UInt8) × Int × Int) = _
                              rw [show (t.length : Int) - ((t.length - j3 : Nat) : Int) = (j3 : Int) by omega]
                              unfold missE
                              by_cases hh : j3 = t.length
                              · rw [if_pos (by omega), if_pos hh]
                              · rw [if_neg (by omega), if_neg hh]
                            clear hpa HST
                            refine wp_region_class g (by kernel_rfl) (by kernel_rfl) (hgi _ (hgu _).drew) ?_
                            repeat (go_big_quiet_step (first | with_reducible exact CH _))
                            refine wpQuiet_nil ?_
                            intro wb hwb
                            obtain ⟨u, rfl⟩ := hwb
                            have HFBb := hide (HFBa.out.to (hgu u))
                            clear CH a0 t0 x2 HXa hx3
                            go_wp2_with fail
                            refine (missing_any t j3 hj3l ht ba (w.heap.size + 1) (g u) HFBb.out.a HFBb.out.f.t).mono ?_
                            rintro e wm ⟨rfl, hbm⟩
                            have HFm := hide (HFBb.out.f.to hbm)
                            unfold Z9
                            have z0 : wm.cell? ⟨w.heap.size + 1 + 1, 0, none⟩ = some (.string ⟨#[]⟩) := HFm.out.r.cell 0
                            have y0 := HFm.out.r.frozen 0
                            have z1 : wm.cell? ⟨w.heap.size + 1 + 1, 1, none⟩ = some (.string ⟨#[]⟩) := HFm.out.r.cell 1
                            have y1 := HFm.out.r.frozen 1
                            have z2 : wm.cell? ⟨w.heap.size + 1 + 1, 2, none⟩ = some (.string ⟨#[]⟩) := HFm.out.r.cell 2
                            have y2 := HFm.out.r.frozen 2
                            have z3 : wm.cell? ⟨w.heap.size + 1 + 1, 3, none⟩ = some (.string ⟨#[]⟩) := HFm.out.r.cell 3
                            have y3 := HFm.out.r.frozen 3
                            have z4 : wm.cell? ⟨w.heap.size + 1 + 1, 4, none⟩ = some (.string ⟨#[]⟩) := HFm.out.r.cell 4
                            have y4 := HFm.out.r.frozen 4
                            have z5 : wm.cell? ⟨w.heap.size + 1 + 1, 5, none⟩ = some (.string ⟨#[]⟩) := HFm.out.r.cell 5
                            have y5 := HFm.out.r.frozen 5
                            have z6 : wm.cell? ⟨w.heap.size + 1 + 1, 6, none⟩ = some (.string ⟨#[]⟩) := HFm.out.r.cell 6
                            have y6 := HFm.out.r.frozen 6
                            have z7 : wm.cell? ⟨w.heap.size + 1 + 1, 7, none⟩ = some (.string ⟨#[]⟩) := HFm.out.r.cell 7
                            have y7 := HFm.out.r.frozen 7
                            have z8 : wm.cell? ⟨w.heap.size + 1 + 1, 8, none⟩ = some (.string ⟨#[]⟩) := HFm.out.r.cell 8
                            have y8 := HFm.out.r.frozen 8
                            go_wp2_with fail
                            simp +zetaDelta only [Exit.noGoto, Exit.inBlock, Exit.then]
                            have hbk : Blk (((((((((wm.setCell ⟨w.heap.size + 1 + 1, 0, none⟩ (.string ⟨#[]⟩)).setCell ⟨w.heap.size + 1 + 1, 1, none⟩ (.string ⟨#[]⟩)).setCell ⟨w.heap.size + 1 + 1, 2, none⟩ (.string ⟨#[]⟩)).setCell ⟨w.heap.size + 1 + 1, 3, none⟩ (.string ⟨#[]⟩)).setCell ⟨w.heap.size + 1 + 1, 4, none⟩ (.string ⟨#[]⟩)).setCell ⟨w.heap.size + 1 + 1, 5, none⟩ (.string ⟨#[]⟩)).setCell ⟨w.heap.size + 1 + 1, 6, none⟩ (.string ⟨#[]⟩)).setCell ⟨w.heap.size + 1 + 1, 7, none⟩ (.string ⟨#[]⟩)).setCell ⟨w.heap.size + 1 + 1, 8, none⟩ (.string ⟨#[]⟩)) (w.heap.size + 1 + 1) 26 Z9 := (((((((((HFm.out.r.set_ 0 (.string ⟨#[]⟩)).set_ 1 (.string ⟨#[]⟩)).set_ 2 (.string ⟨#[]⟩)).set_ 3 (.string ⟨#[]⟩)).set_ 4 (.string ⟨#[]⟩)).set_ 5 (.string ⟨#[]⟩)).set_ 6 (.string ⟨#[]⟩)).set_ 7 (.string ⟨#[]⟩)).set_ 8 (.string ⟨#[]⟩))
                            refine bodyPost_ret (results_ctt (p := 4) (u := 5) (x := 6) rfl _ _ (w.heap.size + 1 + 1) 26 _ _ rfl hbk Tryz.underlying26 rfl (by kernel_rfl)) rfl ⟨?_, (((((((((HFm.out.bel.setCell (p := ⟨w.heap.size + 1 + 1, 0, none⟩) (by show w.heap.size ≤ w.heap.size + 1 + 1; omega) (.string ⟨#[]⟩)).setCell (p := ⟨w.heap.size + 1 + 1, 1, none⟩) (by show w.heap.size ≤ w.heap.size + 1 + 1; omega) (.string ⟨#[]⟩)).setCell (p := ⟨w.heap.size + 1 + 1, 2, none⟩) (by show w.heap.size ≤ w.heap.size + 1 + 1; omega) (.string ⟨#[]⟩)).setCell (p := ⟨w.heap.size + 1 + 1, 3, none⟩) (by show w.heap.size ≤ w.heap.size + 1 + 1; omega) (.string ⟨#[]⟩)).setCell (p := ⟨w.heap.size + 1 + 1, 4, none⟩) (by show w.heap.size ≤ w.heap.size + 1 + 1; omega) (.string ⟨#[]⟩)).setCell (p := ⟨w.heap.size + 1 + 1, 5, none⟩) (by show w.heap.size ≤ w.heap.size + 1 + 1; omega) (.string ⟨#[]⟩)).setCell (p := ⟨w.heap.size + 1 + 1, 6, none⟩) (by show w.heap.size ≤ w.heap.size + 1 + 1; omega) (.string ⟨#[]⟩)).setCell (p := ⟨w.heap.size + 1 + 1, 7, none⟩) (by show w.heap.size ≤ w.heap.size + 1 + 1; omega) (.string ⟨#[]⟩)).setCell (p := ⟨w.heap.size + 1 + 1, 8, none⟩) (by show w.heap.size ≤ w.heap.size + 1 + 1; omega) (.string ⟨#[]⟩))⟩
                            rw [HFIN.out]; rfl
                  · rw [if_neg hpre, decide_eq_false hpre] at CC
                    cases hn : p.need with
                    | true =>
                      have HFIN : Hid (readF (validB isNm s) numB s.ps t = (zeroF, missE j t.length, (j : Int))) := by
                        show _ = _
                        rw [HRY.out, ← HRI.out.eq, HDR.out, rd_miss HSK.out hpre hn, List.length_drop]
                        show ((zeroF, (if t.length - j = 0 then (6 : Int) else 5), (t.length : Int) - ((t.length - j : Nat) : Int)) : List (List UInt8) × Int × Int) = _
                        rw [show (t.length : Int) - ((t.length - j : Nat) : Int) = (j : Int) by omega]
                        unfold missE
                        by_cases hh : j = t.length
                        · rw [if_pos (by omega), if_pos hh]
                        · rw [if_neg (by omega), if_neg hh]
                      rw [hn] at x3
                      clear hpre hn
                      refine wp_region_class g5 (by kernel_rfl) (by kernel_rfl) (hgi5 _ (hgu5 _).drew) ?_
                      repeat (go_big_quiet_step (first | with_reducible exact CC _))
                      refine wpQuiet_nil ?_
                      intro w6 hw6
                      obtain ⟨u, rfl⟩ := hw6
                      have HFBb := hide (HFB5.out.to (hgu5 u))
                      go_wp2_with fail
                      refine (missing_any t j hj ht ba (w.heap.size + 1) (g5 u) HFBb.out.a HFBb.out.f.t).mono ?_
                      rintro e wm ⟨rfl, hbm⟩
                      have HFm := hide (HFBb.out.f.to hbm)
                      unfold Z9
                      have z0 : wm.cell? ⟨w.heap.size + 1 + 1, 0, none⟩ = some (.string ⟨#[]⟩) := HFm.out.r.cell 0
                      have y0 := HFm.out.r.frozen 0
                      have z1 : wm.cell? ⟨w.heap.size + 1 + 1, 1, none⟩ = some (.string ⟨#[]⟩) := HFm.out.r.cell 1
                      have y1 := HFm.out.r.frozen 1
                      have z2 : wm.cell? ⟨w.heap.size + 1 + 1, 2, none⟩ = some (.string ⟨#[]⟩) := HFm.out.r.cell 2
                      have y2 := HFm.out.r.frozen 2
                      have z3 : wm.cell? ⟨w.heap.size + 1 + 1, 3, none⟩ = some (.string ⟨#[]⟩) := HFm.out.r.cell 3
                      have y3 := HFm.out.r.frozen 3
                      have z4 : wm.cell? ⟨w.heap.size + 1 + 1, 4, none⟩ = some (.string ⟨#[]⟩) := HFm.out.r.cell 4
                      have y4 := HFm.out.r.frozen 4
                      have z5 : wm.cell? ⟨w.heap.size + 1 + 1, 5, none⟩ = some (.string ⟨#[]⟩) := HFm.out.r.cell 5
                      have y5 := HFm.out.r.frozen 5
                      have z6 : wm.cell? ⟨w.heap.size + 1 + 1, 6, none⟩ = some (.string ⟨#[]⟩) := HFm.out.r.cell 6
                      have y6 := HFm.out.r.frozen 6
                      have z7 : wm.cell? ⟨w.heap.size + 1 + 1, 7, none⟩ = some (.string ⟨#[]⟩) := HFm.out.r.cell 7
                      have y7 := HFm.out.r.frozen 7
                      have z8 : wm.cell? ⟨w.heap.size + 1 + 1, 8, none⟩ = some (.string ⟨#[]⟩) := HFm.out.r.cell 8
                      have y8 := HFm.out.r.frozen 8
                      go_wp2_with fail
                      simp +zetaDelta only [Exit.noGoto, Exit.inBlock, Exit.then]
                      have hbk : Blk (((((((((wm.setCell ⟨w.heap.size + 1 + 1, 0, none⟩ (.string ⟨#[]⟩)).setCell ⟨w.heap.size + 1 + 1, 1, none⟩ (.string ⟨#[]⟩)).setCell ⟨w.heap.size + 1 + 1, 2, none⟩ (.string ⟨#[]⟩)).setCell ⟨w.heap.size + 1 + 1, 3, none⟩ (.string ⟨#[]⟩)).setCell ⟨w.heap.size + 1 + 1, 4, none⟩ (.string ⟨#[]⟩)).setCell ⟨w.heap.size + 1 + 1, 5, none⟩ (.string ⟨#[]⟩)).setCell ⟨w.heap.size + 1 + 1, 6, none⟩ (.string ⟨#[]⟩)).setCell ⟨w.heap.size + 1 + 1, 7, none⟩ (.string ⟨#[]⟩)).setCell ⟨w.heap.size + 1 + 1, 8, none⟩ (.string ⟨#[]⟩)) (w.heap.size + 1 + 1) 26 Z9 := (((((((((HFm.out.r.set_ 0 (.string ⟨#[]⟩)).set_ 1 (.string ⟨#[]⟩)).set_ 2 (.string ⟨#[]⟩)).set_ 3 (.string ⟨#[]⟩)).set_ 4 (.string ⟨#[]⟩)).set_ 5 (.string ⟨#[]⟩)).set_ 6 (.string ⟨#[]⟩)).set_ 7 (.string ⟨#[]⟩)).set_ 8 (.string ⟨#[]⟩))
                      refine bodyPost_ret (results_ctt (p := 4) (u := 5) (x := 6) rfl _ _ (w.heap.size + 1 + 1) 26 _ _ rfl hbk Tryz.underlying26 rfl (by kernel_rfl)) rfl ⟨?_, (((((((((HFm.out.bel.setCell (p := ⟨w.heap.size + 1 + 1, 0, none⟩) (by show w.heap.size ≤ w.heap.size + 1 + 1; omega) (.string ⟨#[]⟩)).setCell (p := ⟨w.heap.size + 1 + 1, 1, none⟩) (by show w.heap.size ≤ w.heap.size + 1 + 1; omega) (.string ⟨#[]⟩)).setCell (p := ⟨w.heap.size + 1 + 1, 2, none⟩) (by show w.heap.size ≤ w.heap.size + 1 + 1; omega) (.string ⟨#[]⟩)).setCell (p := ⟨w.heap.size + 1 + 1, 3, none⟩) (by show w.heap.size ≤ w.heap.size + 1 + 1; omega) (.string ⟨#[]⟩)).setCell (p := ⟨w.heap.size + 1 + 1, 4, none⟩) (by show w.heap.size ≤ w.heap.size + 1 + 1; omega) (.string ⟨#[]⟩)).setCell (p := ⟨w.heap.size + 1 + 1, 5, none⟩) (by show w.heap.size ≤ w.heap.size + 1 + 1; omega) (.string ⟨#[]⟩)).setCell (p := ⟨w.heap.size + 1 + 1, 6, none⟩) (by show w.heap.size ≤ w.heap.size + 1 + 1; omega) (.string ⟨#[]⟩)).setCell (p := ⟨w.heap.size + 1 + 1, 7, none⟩) (by show w.heap.size ≤ w.heap.size + 1 + 1; omega) (.string ⟨#[]⟩)).setCell (p := ⟨w.heap.size + 1 + 1, 8, none⟩) (by show w.heap.size ≤ w.heap.size + 1 + 1; omega) (.string ⟨#[]⟩))⟩
                      rw [HFIN.out]; rfl
                    | false =>
                      have HRN : Hid (RdI s t (r.drop (k + 1)) j out) := ⟨by rw [← HRI.out.eq, HDR.out, rd_pass HSK.out hpre hn], fun q hq => HRI0.out.sub q (List.mem_of_mem_drop hq), hol, by rw [List.length_drop]; omega, hj⟩
                      rw [hn] at x3
                      clear hpre hn
                      refine wp_region_class g5 (by kernel_rfl) (by kernel_rfl) (hgi5 _ (hgu5 _).drew) ?_
                      repeat (go_big_quiet_step (first | with_reducible exact CC _))
                      refine wpQuiet_nil ?_
                      intro w6 hw6
                      obtain ⟨u, rfl⟩ := hw6
                      have HFBb := hide (HFB5.out.to (hgu5 u))
                      go_wp2_with fail
                      go_roundw
                      case rel => exact ⟨k + 1, by omega, by go_num, rfl, HFBb.out, HRN.out⟩
                      case measure => simp [intOf]; omega
                | false =>
                  by_cases hb0 : p.b = []
                  · have HRN : Hid (RdI s t (r.drop (k + 1)) j out) := ⟨by rw [← HRI.out.eq, HDR.out, rd_skip ⟨by rw [hj1, List.drop_length], hn, hb0⟩], fun q hq => HRI0.out.sub q (List.mem_of_mem_drop hq), hol, by rw [List.length_drop]; omega, hj⟩
                    have g0 : (bs p.b).toList.isEmpty = true := by rw [bs_toList, hb0]; rfl
                    rw [hn] at x3
                    clear hn hj1 hb0
                    go_wp2_with fail
                    go_roundw
                    case rel => exact ⟨k + 1, by omega, by go_num, rfl, HFB5.out, HRN.out⟩
                    case measure => simp [intOf]; omega
                  · have HSK : Hid (¬ (t.drop j = [] ∧ p.need = false ∧ p.b = [])) := fun h => hb0 h.2.2
                    have g0 : (bs p.b).toList.isEmpty = false := by rw [bs_toList]; cases hq : p.b with | nil => exact absurd hq hb0 | cons a l => rfl
                    rw [hn] at x3
                    have hn' := hide hn
                    have hj' := hide hj1
                    have hb' := hide hb0
                    clear hn hj1 hb0
                    go_upto_region 19 with fail
                    clear a0 t0 x1 x3 f0 g0
                    have hn := hn'.out
                    have hj1 := hj'.out
                    have hb0 := hb'.out
                    obtain ⟨U5, hU5, g5, u5, rfl, hgu5, hgi5⟩ := cls w5
                    have a0 := fun u => (((HFB5.out.to (hgu5 u)).a.cell 0).trans (show _ = some (Value.int IntKind.i64 (j : Int)) from rfl))
                    have t0 := fun u => (((HFB5.out.to (hgu5 u)).f.t.cell 0).trans (show _ = some (Value.string (bs t)) from rfl))
                    have x1 := fun u => (((HX5.out.to (hgu5 u)).cell 1).trans (show _ = some (Value.string (bs p.b)) from rfl))
                    have x3 := fun u => (((HX5.out.to (hgu5 u)).cell 3).trans (show _ = some (Value.bool p.need) from rfl))
                    have hx : (bs t).extract j t.length = bs (t.drop j) := by rw [bs_cut, List.take_of_length_le (by rw [List.length_drop]; omega)]
                    have CC : ∀ u, Calls Tryz.prog 72 #[.string (bs (t.drop j)), .string (bs p.b)] (g5 u) fun e w' => e = .returned (.tuple #[.string (bs (if p.b <+: t.drop j then (t.drop j).drop p.b.length else t.drop j)), .bool (decide (p.b <+: t.drop j))]) ∧ ∃ u', w' = g5 u' := fun u => cls_call hgu5 hgi5 (fun W hb => (CutPrefix_any (t.drop j) p.b W).mono fun e w' h => ⟨h.1, h.2 ▸ Below.refl _ _⟩) u
                    have hpre : ¬ p.b <+: t.drop j := fun h => by
                      rw [hj1, List.drop_length] at h
                      exact hb0 (List.eq_nil_of_prefix_nil h)
                    rw [if_neg hpre, decide_eq_false hpre] at CC
                    have HRN : Hid (RdI s t (r.drop (k + 1)) j out) := ⟨by rw [← HRI.out.eq, HDR.out, rd_pass HSK.out hpre hn], fun q hq => HRI0.out.sub q (List.mem_of_mem_drop hq), hol, by rw [List.length_drop]; omega, hj⟩
                    rw [hn] at x3
                    clear hpre hn hj1 hb0
                    refine wp_region_class g5 (by kernel_rfl) (by kernel_rfl) (hgi5 _ (hgu5 _).drew) ?_
                    repeat (go_big_quiet_step (first | with_reducible exact CC _))
                    refine wpQuiet_nil ?_
                    intro w6 hw6
                    obtain ⟨u, rfl⟩ := hw6
                    have HFBb := hide (HFB5.out.to (hgu5 u))
                    go_wp2_with fail
                    go_roundw
                    case rel => exact ⟨k + 1, by omega, by go_num, rfl, HFBb.out, HRN.out⟩
                    case measure => simp [intOf]; omega
              · have f0 : ((j : Int) == (t.length : Int)) = false := by rw [beq_eq_false_iff_ne]; omega
                have HSK : Hid (¬ (t.drop j = [] ∧ p.need = false ∧ p.b = [])) := fun h => hj1 (by have := congrArg List.length h.1; rw [List.length_drop] at this; simp at this; omega)
                clear hj1
                go_upto_region 19 with fail
                clear a0 t0 x1 x3 f0
                obtain ⟨U5, hU5, g5, u5, rfl, hgu5, hgi5⟩ := cls w5
                have a0 := fun u => (((HFB5.out.to (hgu5 u)).a.cell 0).trans (show _ = some (Value.int IntKind.i64 (j : Int)) from rfl))
                have t0 := fun u => (((HFB5.out.to (hgu5 u)).f.t.cell 0).trans (show _ = some (Value.string (bs t)) from rfl))
                have x1 := fun u => (((HX5.out.to (hgu5 u)).cell 1).trans (show _ = some (Value.string (bs p.b)) from rfl))
                have x3 := fun u => (((HX5.out.to (hgu5 u)).cell 3).trans (show _ = some (Value.bool p.need) from rfl))
                have hx : (bs t).extract j t.length = bs (t.drop j) := by rw [bs_cut, List.take_of_length_le (by rw [List.length_drop]; omega)]
                have CC : ∀ u, Calls Tryz.prog 72 #[.string (bs (t.drop j)), .string (bs p.b)] (g5 u) fun e w' => e = .returned (.tuple #[.string (bs (if p.b <+: t.drop j then (t.drop j).drop p.b.length else t.drop j)), .bool (decide (p.b <+: t.drop j))]) ∧ ∃ u', w' = g5 u' := fun u => cls_call hgu5 hgi5 (fun W hb => (CutPrefix_any (t.drop j) p.b W).mono fun e w' h => ⟨h.1, h.2 ▸ Below.refl _ _⟩) u
                by_cases hpre : p.b <+: t.drop j
                · rw [if_pos hpre, decide_eq_true hpre] at CC
                  have HPRE := hide hpre
                  obtain ⟨V, hV⟩ : ∃ V, (t.drop j).drop p.b.length = V := ⟨_, rfl⟩
                  rw [hV] at CC
                  have HVV := hide hV
                  have HVL : Hid (V.length + p.b.length = t.length - j) := by
                    show _ = _
                    have h1 := hpre.length_le
                    rw [← hV, List.length_drop, List.length_drop]
                    rw [List.length_drop] at h1
                    omega
                  have hszV := bs_size V
                  clear hV hpre
                  refine wp_region_class g5 (by kernel_rfl) (by kernel_rfl) (hgi5 _ (hgu5 _).drew) ?_
                  repeat (go_big_quiet_step (first | with_reducible exact CC _))
                  refine wpQuiet_nil ?_
                  intro w6 hw6
                  obtain ⟨u, rfl⟩ := hw6
                  have HFB6 := hide (HFB5.out.to (hgu5 u))
                  have HX6 := hide (HX5.out.to (hgu5 u))
                  revert HFB6 HX6
                  generalize g5 u = w6
                  intro HFB6 HX6
                  clear CC a0 t0 x1 x3 HFB5 HX5 hgu5 hgi5 hx
                  have HFB5 := HFB6
                  have HX5 := HX6
                  clear HFB6 HX6
                  have x0 : w6.cell? ⟨bx, 0, none⟩ = some (.int .i64 (kp : Int)) := HX5.out.cell 0
                  have x1 : w6.cell? ⟨bx, 1, none⟩ = some (.string (bs p.b)) := HX5.out.cell 1
                  have x2 : w6.cell? ⟨bx, 2, none⟩ = some (.string (bs p.a)) := HX5.out.cell 2
                  have x3 : w6.cell? ⟨bx, 3, none⟩ = some (.bool p.need) := HX5.out.cell 3
                  have a0 : w6.cell? ⟨ba, 0, none⟩ = some (.int .i64 (j : Int)) := HFB5.out.a.cell 0
                  have t0 : w6.cell? ⟨w.heap.size + 1, 0, none⟩ = some (.string (bs t)) := HFB5.out.f.t.cell 0
                  have hVl : V.length ≤ t.length := by have := HVL.out; omega
                  have hbl : p.b.length ≤ t.length - j := by have := HVL.out; omega
                  have hvj : V.length + p.b.length + j ≤ t.length := by have := HVL.out; omega
                  go_wp2_with fail
                  go_loopw [19] (fun i wr => ∃ e : Nat, e ≤ V.length ∧ i = .int .i64 (e : Int) ∧ (∀ m c, m < e → V[m]? = some c → mrk s.ps c = false) ∧ wr = w6) (fun i _ => V.length - (intOf i).toNat)
                  case atStart => exact ⟨0, by omega, rfl, fun m c h => absurd h (by omega), rfl⟩
                  case round =>
                    obtain ⟨e, hel, rfl, hnm, hwr⟩ := hrel
                    have hwr := hwr.symm
                    subst hwr
                    have HNM := hide hnm
                    clear hnm
                    by_cases helt : e < V.length
                    · have f1 : decide ((e : Int) < (V.length : Int)) = true := decide_eq_true (by omega)
                      obtain ⟨c, hcv⟩ : ∃ c, V[e]? = some c := ⟨_, List.getElem?_eq_getElem helt⟩
                      have ci := index_bs V e c hcv
                      have mc : w6.cell? ⟨bm, c.toNat, none⟩ = some (.bool (mrk s.ps c)) := (HFB5.out.f.m.cell c.toNat).trans (boolC_at (HM.out.2 c))
                      have c0 := c.toNat_lt
                      cases hmk : mrk s.ps c with
                      | true =>
                        rw [hmk] at mc
                        have hE : e = V.length ∨ ∃ c, V[e]? = some c ∧ mrk s.ps c = true := .inr ⟨c, hcv, hmk⟩
                        clear hcv hmk
                        go_upto_region 26 with fail
                        clear ci mc c0
                        have hw := tw_at V e hel HNM.out hE
                        have HTW := hide hw.1
                        have HDW := hide hw.2
                        clear hw hE HNM
                        have HVT : Hid ((bs V).extract 0 e = bs (V.take e)) := by show _ = _; rw [bs_cut]; simp
                        have hvt := HVT.out
                        have hvl : (V.take e).length ≤ 100000 := by rw [List.length_take]; omega
                        obtain ⟨j2, hj2⟩ : ∃ x, j + p.b.length = x := ⟨_, rfl⟩
                        have ej2 : (j : Int) + (p.b.length : Int) = (j2 : Int) := by omega
                        have hszb := bs_size p.b
                        have HFB6 : Hid (FB w #[.string (bs s.c), .slice A s.ps.length cp] t bm bo ba L out j2 (w6.setCell ⟨ba, 0, none⟩ (.int .i64 (j2 : Int)))) := HFB5.out.setA j2
                        have fa : w6.frozen? ⟨ba, 0, none⟩ = false := HFB5.out.a.frozen 0
                        have HX6 := hide (HX5.out.far (p := ⟨ba, 0, none⟩) (by show bx ≠ ba; exact fun e => hbax e.symm) (.int .i64 (j2 : Int)))
                        have HJ2 := hide hj2
                        have hj2l : j2 ≤ t.length := by omega
                        clear hj2
                        go_upto_region 27 with fail
                        clear a0 fa ej2 hszb x0 x1 x2 x3 t0
                        generalize w6.setCell ⟨ba, 0, none⟩ (.int .i64 (j2 : Int)) = w7 at *
                        obtain ⟨U7, hU7, h, u7, rfl, hru, hri⟩ := cls w7
                        have x0 := fun u => (((HX6.out.to (hru u)).cell 0).trans (show _ = some (Value.int IntKind.i64 (kp : Int)) from rfl))
                        have x1 := fun u => (((HX6.out.to (hru u)).cell 1).trans (show _ = some (Value.string (bs p.b)) from rfl))
                        have x2 := fun u => (((HX6.out.to (hru u)).cell 2).trans (show _ = some (Value.string (bs p.a)) from rfl))
                        have x3 := fun u => (((HX6.out.to (hru u)).cell 3).trans (show _ = some (Value.bool p.need) from rfl))
                        have CI : ∀ u, Calls Tryz.prog 73 #[.agg #[.int .i64 (kp : Int), .string (bs p.b), .string (bs p.a), .bool p.need], .string (bs (V.take e))] (h u) fun e' w' => e' = .returned (.bool (isVal numB p.k (V.take e))) ∧ ∃ u', w' = h u' := fun u => by
                          have := cls_call hru hri (fun W hb => isValue_any p (V.take e) hvl W (HGo.out.to (below_to HFB6.out.f.bel (Nat.le_refl _) hb))) u
                          rw [HKP.out] at this ⊢
                          exact this
                        cases hiv : isVal numB p.k (V.take e) with
                        | false =>
                          rw [hiv] at CI
                          have HFIN : Hid (readF (validB isNm s) numB s.ps t = (zeroF, 1, (j2 : Int))) := by
                            show _ = _
                            rw [HRY.out, ← HRI.out.eq, HDR.out, rd_yes HSK.out HPRE.out]
                            unfold stepR
                            rw [HVV.out, HTW.out, hiv]
                            show ((zeroF, (1 : Int), (t.length : Int) - (V.length : Int)) : List (List UInt8) × Int × Int) = _
                            have := HVL.out
                            have := HJ2.out
                            rw [show (t.length : Int) - (V.length : Int) = (j2 : Int) by omega]
                          clear hiv
                          refine wp_region_class h (by kernel_rfl) (by kernel_rfl) (hri _ (hru _).drew) ?_
                          repeat (go_big_quiet_step (first | with_reducible exact CI _))
                          refine wpQuiet_nil ?_
                          intro w8 hw8
                          obtain ⟨u, rfl⟩ := hw8
                          have HFB8 := hide (HFB6.out.to (hru u))
                          revert HFB8
                          generalize h u = w8
                          intro HFB8
                          clear CI x0 x1 x2 x3 HFB6 HX6 hru hri
                          have z0 : w8.cell? ⟨w.heap.size + 1 + 1, 0, none⟩ = some (.string ⟨#[]⟩) := HFB8.out.f.r.cell 0
                          have y0 := HFB8.out.f.r.frozen 0
                          have z1 : w8.cell? ⟨w.heap.size + 1 + 1, 1, none⟩ = some (.string ⟨#[]⟩) := HFB8.out.f.r.cell 1
                          have y1 := HFB8.out.f.r.frozen 1
                          have z2 : w8.cell? ⟨w.heap.size + 1 + 1, 2, none⟩ = some (.string ⟨#[]⟩) := HFB8.out.f.r.cell 2
                          have y2 := HFB8.out.f.r.frozen 2
                          have z3 : w8.cell? ⟨w.heap.size + 1 + 1, 3, none⟩ = some (.string ⟨#[]⟩) := HFB8.out.f.r.cell 3
                          have y3 := HFB8.out.f.r.frozen 3
                          have z4 : w8.cell? ⟨w.heap.size + 1 + 1, 4, none⟩ = some (.string ⟨#[]⟩) := HFB8.out.f.r.cell 4
                          have y4 := HFB8.out.f.r.frozen 4
                          have z5 : w8.cell? ⟨w.heap.size + 1 + 1, 5, none⟩ = some (.string ⟨#[]⟩) := HFB8.out.f.r.cell 5
                          have y5 := HFB8.out.f.r.frozen 5
                          have z6 : w8.cell? ⟨w.heap.size + 1 + 1, 6, none⟩ = some (.string ⟨#[]⟩) := HFB8.out.f.r.cell 6
                          have y6 := HFB8.out.f.r.frozen 6
                          have z7 : w8.cell? ⟨w.heap.size + 1 + 1, 7, none⟩ = some (.string ⟨#[]⟩) := HFB8.out.f.r.cell 7
                          have y7 := HFB8.out.f.r.frozen 7
                          have z8 : w8.cell? ⟨w.heap.size + 1 + 1, 8, none⟩ = some (.string ⟨#[]⟩) := HFB8.out.f.r.cell 8
                          have y8 := HFB8.out.f.r.frozen 8
                          have a0 : w8.cell? ⟨ba, 0, none⟩ = some (.int .i64 (j2 : Int)) := HFB8.out.a.cell 0
                          have n1 : ba ≠ w.heap.size + 1 + 1 := by have := HFB8.out.f.lt; have := HFB8.out.mo; have := HFB8.out.oa; omega
                          have n2 : w.heap.size + 1 + 1 ≠ ba := fun h => n1 h.symm
                          go_wp2_with fail
                          go_region
                          go_wp2_with fail
                          simp +zetaDelta only [Exit.noGoto, Exit.inBlock, Exit.then]
                          have hbk : Blk (((((((((w8.setCell ⟨w.heap.size + 1 + 1, 0, none⟩ (.string ⟨#[]⟩)).setCell ⟨w.heap.size + 1 + 1, 1, none⟩ (.string ⟨#[]⟩)).setCell ⟨w.heap.size + 1 + 1, 2, none⟩ (.string ⟨#[]⟩)).setCell ⟨w.heap.size + 1 + 1, 3, none⟩ (.string ⟨#[]⟩)).setCell ⟨w.heap.size + 1 + 1, 4, none⟩ (.string ⟨#[]⟩)).setCell ⟨w.heap.size + 1 + 1, 5, none⟩ (.string ⟨#[]⟩)).setCell ⟨w.heap.size + 1 + 1, 6, none⟩ (.string ⟨#[]⟩)).setCell ⟨w.heap.size + 1 + 1, 7, none⟩ (.string ⟨#[]⟩)).setCell ⟨w.heap.size + 1 + 1, 8, none⟩ (.string ⟨#[]⟩)).drew (w.heap.size + 1 + 1) 26 Z9 := (((((((((HFB8.out.f.r.set_ 0 (.string ⟨#[]⟩)).set_ 1 (.string ⟨#[]⟩)).set_ 2 (.string ⟨#[]⟩)).set_ 3 (.string ⟨#[]⟩)).set_ 4 (.string ⟨#[]⟩)).set_ 5 (.string ⟨#[]⟩)).set_ 6 (.string ⟨#[]⟩)).set_ 7 (.string ⟨#[]⟩)).set_ 8 (.string ⟨#[]⟩)).drew
                          refine bodyPost_ret (results_ctt (p := 4) (u := 5) (x := 6) rfl _ _ (w.heap.size + 1 + 1) 26 _ _ rfl hbk Tryz.underlying26 rfl (by kernel_rfl)) rfl ⟨?_, (((((((((HFB8.out.f.bel.setCell (p := ⟨w.heap.size + 1 + 1, 0, none⟩) (by show w.heap.size ≤ w.heap.size + 1 + 1; omega) (.string ⟨#[]⟩)).setCell (p := ⟨w.heap.size + 1 + 1, 1, none⟩) (by show w.heap.size ≤ w.heap.size + 1 + 1; omega) (.string ⟨#[]⟩)).setCell (p := ⟨w.heap.size + 1 + 1, 2, none⟩) (by show w.heap.size ≤ w.heap.size + 1 + 1; omega) (.string ⟨#[]⟩)).setCell (p := ⟨w.heap.size + 1 + 1, 3, none⟩) (by show w.heap.size ≤ w.heap.size + 1 + 1; omega) (.string ⟨#[]⟩)).setCell (p := ⟨w.heap.size + 1 + 1, 4, none⟩) (by show w.heap.size ≤ w.heap.size + 1 + 1; omega) (.string ⟨#[]⟩)).setCell (p := ⟨w.heap.size + 1 + 1, 5, none⟩) (by show w.heap.size ≤ w.heap.size + 1 + 1; omega) (.string ⟨#[]⟩)).setCell (p := ⟨w.heap.size + 1 + 1, 6, none⟩) (by show w.heap.size ≤ w.heap.size + 1 + 1; omega) (.string ⟨#[]⟩)).setCell (p := ⟨w.heap.size + 1 + 1, 7, none⟩) (by show w.heap.size ≤ w.heap.size + 1 + 1; omega) (.string ⟨#[]⟩)).setCell (p := ⟨w.heap.size + 1 + 1, 8, none⟩) (by show w.heap.size ≤ w.heap.size + 1 + 1; omega) (.string ⟨#[]⟩)).drew⟩
                          rw [HFIN.out]; rfl
                        | true =>
                          rw [hiv] at CI
                          have HST : Hid (stepR (mrk s.ps) numB p (r.drop (k + 1)) (t.drop j) out = if p.a <+: V.drop e then readR (mrk s.ps) numB (r.drop (k + 1)) ((V.drop e).drop p.a.length) (out.set p.k.toNat (V.take e)) else .miss (V.drop e).length) := by
                            show _ = _
                            unfold stepR
                            rw [HVV.out, HTW.out, HDW.out, hiv, if_pos rfl]
                          clear hiv
                          refine wp_region_class h (by kernel_rfl) (by kernel_rfl) (hri _ (hru _).drew) ?_
                          repeat (go_big_quiet_step (first | with_reducible exact CI _))
                          refine wpQuiet_nil ?_
                          intro w8 hw8
                          obtain ⟨u, rfl⟩ := hw8
                          have HFB8 := hide (HFB6.out.to (hru u))
                          have HX8 := hide (HX6.out.to (hru u))
                          revert HFB8 HX8
                          generalize h u = w8
                          intro HFB8 HX8
                          clear CI x0 x1 x2 x3 HFB6 HX6 hru hri
                          have x0 : w8.cell? ⟨bx, 0, none⟩ = some (.int .i64 (kp : Int)) := HX8.out.cell 0
                          have hkl : kp < out.length := by rw [hol]; exact hkp9
                          have o0 := (HFB8.out.o.cell kp).trans (fieldsC_at (List.getElem?_eq_getElem hkl))
                          have o1 := HFB8.out.o.frozen kp
                          have HFB9 : Hid (FB w #[.string (bs s.c), .slice A s.ps.length cp] t bm bo ba L (out.set kp (V.take e)) j2 (w8.setCell ⟨bo, kp, none⟩ (.string (bs (V.take e)))).drew) := (HFB8.out.setO kp (V.take e)).drew
                          have HX9 : Hid (Blk (w8.setCell ⟨bo, kp, none⟩ (.string (bs (V.take e)))).drew bx 41 #[.int .i64 (kp : Int), .string (bs p.b), .string (bs p.a), .bool p.need]) := (HX8.out.far (p := ⟨bo, kp, none⟩) (by show bx ≠ bo; exact fun e => hbox e.symm) (.string (bs (V.take e)))).drew
                          generalize out[kp]'hkl = oo at *
                          go_wp2_with fail
                          go_region
                          clear x0 o0 o1 HFB8 HX8
                          generalize (w8.setCell ⟨bo, kp, none⟩ (.string (bs (V.take e)))).drew = w9 at *
                          obtain ⟨j3, hj3⟩ : ∃ x, j2 + e = x := ⟨_, rfl⟩
                          have ej3 : (j2 : Int) + (e : Int) = (j3 : Int) := by omega
                          have a0 : w9.cell? ⟨ba, 0, none⟩ = some (.int .i64 (j2 : Int)) := HFB9.out.a.cell 0
                          have fa : w9.frozen? ⟨ba, 0, none⟩ = false := HFB9.out.a.frozen 0
                          have HFBa : Hid (FB w #[.string (bs s.c), .slice A s.ps.length cp] t bm bo ba L (out.set kp (V.take e)) j3 (w9.setCell ⟨ba, 0, none⟩ (.int .i64 (j3 : Int)))) := HFB9.out.setA j3
                          have HXa := hide (HX9.out.far (p := ⟨ba, 0, none⟩) (by show bx ≠ ba; exact fun e => hbax e.symm) (.int .i64 (j3 : Int)))
                          have HJ3 := hide hj3
                          have hj3l : j3 ≤ t.length := by have := HVL.out; have := HJ2.out; omega
                          have HD3 : Hid (t.drop j3 = V.drop e) := by show _ = _; rw [← HVV.out, List.drop_drop, List.drop_drop]; have := HJ2.out; have := HJ3.out; congr 1; omega
                          clear hj3
                          go_upto_region 31 with fail
                          clear a0 fa ej3 HFB9 HX9
                          generalize w9.setCell ⟨ba, 0, none⟩ (.int .i64 (j3 : Int)) = wa at *
                          obtain ⟨Ua, hUa, g, ua, rfl, hgu, hgi⟩ := cls wa
                          have a0 := fun u => (((HFBa.out.to (hgu u)).a.cell 0).trans (show _ = some (Value.int IntKind.i64 (j3 : Int)) from rfl))
                          have t0 := fun u => (((HFBa.out.to (hgu u)).f.t.cell 0).trans (show _ = some (Value.string (bs t)) from rfl))
                          have x2 := fun u => (((HXa.out.to (hgu u)).cell 2).trans (show _ = some (Value.string (bs p.a)) from rfl))
                          have hx3 : (bs t).extract j3 t.length = bs (V.drop e) := by rw [bs_cut, ← HD3.out, List.take_of_length_le (by rw [List.length_drop]; omega)]
                          have CH : ∀ u, Calls Tryz.prog 74 #[.string (bs (V.drop e)), .string (bs p.a)] (g u) fun e' w' => e' = .returned (.bool (decide (p.a <+: V.drop e))) ∧ ∃ u', w' = g u' := fun u => cls_call hgu hgi (fun W hb => (HasPrefix_any (V.drop e) p.a W).mono fun e w' h => ⟨h.1, h.2 ▸ Below.refl _ _⟩) u
                          by_cases hpa : p.a <+: V.drop e
                          · rw [decide_eq_true hpa] at CH
                            rw [if_pos hpa] at HST
                            have HPA := hide hpa
                            clear hpa
                            refine wp_region_class g (by kernel_rfl) (by kernel_rfl) (hgi _ (hgu _).drew) ?_
                            repeat (go_big_quiet_step (first | with_reducible exact CH _))
                            refine wpQuiet_nil ?_
                            intro wb hwb
                            obtain ⟨u, rfl⟩ := hwb
                            have HFBb := hide (HFBa.out.to (hgu u))
                            have HXb := hide (HXa.out.to (hgu u))
                            revert HFBb HXb
                            generalize g u = wb
                            intro HFBb HXb
                            clear CH a0 t0 x2 HFBa HXa hgu hgi hx3
                            obtain ⟨j4, hj4⟩ : ∃ x, j3 + p.a.length = x := ⟨_, rfl⟩
                            have ej4 : (j3 : Int) + (p.a.length : Int) = (j4 : Int) := by omega
                            have hsza := bs_size p.a
                            have hpal := HPA.out.length_le
                            have hj4l : j4 ≤ t.length := by
                              have h1 : (V.drop e).length = t.length - j3 := by rw [← HD3.out, List.length_drop]
                              omega
                            have a0 : wb.cell? ⟨ba, 0, none⟩ = some (.int .i64 (j3 : Int)) := HFBb.out.a.cell 0
                            have x2 : wb.cell? ⟨bx, 2, none⟩ = some (.string (bs p.a)) := HXb.out.cell 2
                            have fa : wb.frozen? ⟨ba, 0, none⟩ = false := HFBb.out.a.frozen 0
                            have HFBc : Hid (FB w #[.string (bs s.c), .slice A s.ps.length cp] t bm bo ba L (out.set kp (V.take e)) j4 (wb.setCell ⟨ba, 0, none⟩ (.int .i64 (j4 : Int)))) := HFBb.out.setA j4
                            have HJ4 := hide hj4
                            have HRN : Hid (RdI s t (r.drop (k + 1)) j4 (out.set kp (V.take e))) := by
                              refine ⟨?_, fun q hq => HRI0.out.sub q (List.mem_of_mem_drop hq), by rw [List.length_set]; exact hol, by rw [List.length_drop]; omega, hj4l⟩
                              rw [← HRI.out.eq, HDR.out, rd_yes HSK.out HPRE.out, HST.out, ← HD3.out, List.drop_drop, HJ4.out, HKP.out]
                              rfl
                            clear hj4 HST
                            by_cases hcc : c' = k + 1
                            · have hrl : r.length = k + 1 := by omega
                              have hd0 : r.drop (k + 1) = [] := List.drop_of_length_le (by omega)
                              have HPN : Hid (∀ A'', PartsAt w (.slice A'' 0 0) (r.drop (k + 1))) := fun A'' => by rw [hd0]; exact ⟨A'', 0, rfl, Nat.zero_le _, by simp, fun i x hx => by simp at hx⟩
                              clear hd0
                              go_wp2_with fail
                              go_roundw
                              case rel => exact ⟨r.drop (k + 1), j4, _, HPN.out _, HFBc.out, HRN.out⟩
                              case measure => simp [lenV]; omega
                            · have hc0' : ¬ (c' - (k + 1) = 0) := by omega
                              have HPN : Hid (PartsAt w (.slice (some (ad.add ((k + 1) * 4))) (r.length - (k + 1)) (c' - (k + 1))) (r.drop (k + 1))) := by
                                have := RowsAt.drop (k := k + 1) HPV.out (by rw [List.length_map]; omega) (c' - (k + 1)) (by rw [List.length_map]; omega)
                                rw [List.length_map] at this
                                show RowsAt _ _ _ _
                                rw [List.map_drop]
                                exact this
                              go_wp2_with fail
                              go_roundw
                              case rel => exact ⟨r.drop (k + 1), j4, _, HPN.out, HFBc.out, HRN.out⟩
                              case measure => simp [lenV]; omega
                          · rw [decide_eq_false hpa] at CH
                            rw [if_neg hpa] at HST
                            have HFIN : Hid (readF (validB isNm s) numB s.ps t = (zeroF, missE j3 t.length, (j3 : Int))) := by
                              show _ = _
                              have h1 : (V.drop e).length = t.length - j3 := by rw [← HD3.out, List.length_drop]
                              rw [HRY.out, ← HRI.out.eq, HDR.out, rd_yes HSK.out HPRE.out, HST.out, h1]
                              show ((zeroF, (if t.length - j3 = 0 then (6 : Int) else 5), (t.length : Int) - ((t.length - j3 : Nat) : Int)) : List (List UInt8) × Int × Int) = _
                              rw [show (t.length : Int) - ((t.length - j3 : Nat) : Int) = (j3 : Int) by omega]
                              unfold missE
                              by_cases hh : j3 = t.length
                              · rw [if_pos (by omega), if_pos hh]
                              · rw [if_neg (by omega), if_neg hh]
                            clear hpa HST
                            refine wp_region_class g (by kernel_rfl) (by kernel_rfl) (hgi _ (hgu _).drew) ?_
                            repeat (go_big_quiet_step (first | with_reducible exact CH _))
                            refine wpQuiet_nil ?_
                            intro wb hwb
                            obtain ⟨u, rfl⟩ := hwb
                            have HFBb := hide (HFBa.out.to (hgu u))
                            clear CH a0 t0 x2 HXa hx3
                            go_wp2_with fail
                            refine (missing_any t j3 hj3l ht ba (w.heap.size + 1) (g u) HFBb.out.a HFBb.out.f.t).mono ?_
                            rintro e wm ⟨rfl, hbm⟩
                            have HFm := hide (HFBb.out.f.to hbm)
                            unfold Z9
                            have z0 : wm.cell? ⟨w.heap.size + 1 + 1, 0, none⟩ = some (.string ⟨#[]⟩) := HFm.out.r.cell 0
                            have y0 := HFm.out.r.frozen 0
                            have z1 : wm.cell? ⟨w.heap.size + 1 + 1, 1, none⟩ = some (.string ⟨#[]⟩) := HFm.out.r.cell 1
                            have y1 := HFm.out.r.frozen 1
                            have z2 : wm.cell? ⟨w.heap.size + 1 + 1, 2, none⟩ = some (.string ⟨#[]⟩) := HFm.out.r.cell 2
                            have y2 := HFm.out.r.frozen 2
                            have z3 : wm.cell? ⟨w.heap.size + 1 + 1, 3, none⟩ = some (.string ⟨#[]⟩) := HFm.out.r.cell 3
                            have y3 := HFm.out.r.frozen 3
                            have z4 : wm.cell? ⟨w.heap.size + 1 + 1, 4, none⟩ = some (.string ⟨#[]⟩) := HFm.out.r.cell 4
                            have y4 := HFm.out.r.frozen 4
                            have z5 : wm.cell? ⟨w.heap.size + 1 + 1, 5, none⟩ = some (.string ⟨#[]⟩) := HFm.out.r.cell 5
                            have y5 := HFm.out.r.frozen 5
                            have z6 : wm.cell? ⟨w.heap.size + 1 + 1, 6, none⟩ = some (.string ⟨#[]⟩) := HFm.out.r.cell 6
                            have y6 := HFm.out.r.frozen 6
                            have z7 : wm.cell? ⟨w.heap.size + 1 + 1, 7, none⟩ = some (.string ⟨#[]⟩) := HFm.out.r.cell 7
                            have y7 := HFm.out.r.frozen 7
                            have z8 : wm.cell? ⟨w.heap.size + 1 + 1, 8, none⟩ = some (.string ⟨#[]⟩) := HFm.out.r.cell 8
                            have y8 := HFm.out.r.frozen 8
                            go_wp2_with fail
                            simp +zetaDelta only [Exit.noGoto, Exit.inBlock, Exit.then]
                            have hbk : Blk (((((((((wm.setCell ⟨w.heap.size + 1 + 1, 0, none⟩ (.string ⟨#[]⟩)).setCell ⟨w.heap.size + 1 + 1, 1, none⟩ (.string ⟨#[]⟩)).setCell ⟨w.heap.size + 1 + 1, 2, none⟩ (.string ⟨#[]⟩)).setCell ⟨w.heap.size + 1 + 1, 3, none⟩ (.string ⟨#[]⟩)).setCell ⟨w.heap.size + 1 + 1, 4, none⟩ (.string ⟨#[]⟩)).setCell ⟨w.heap.size + 1 + 1, 5, none⟩ (.string ⟨#[]⟩)).setCell ⟨w.heap.size + 1 + 1, 6, none⟩ (.string ⟨#[]⟩)).setCell ⟨w.heap.size + 1 + 1, 7, none⟩ (.string ⟨#[]⟩)).setCell ⟨w.heap.size + 1 + 1, 8, none⟩ (.string ⟨#[]⟩)) (w.heap.size + 1 + 1) 26 Z9 := (((((((((HFm.out.r.set_ 0 (.string ⟨#[]⟩)).set_ 1 (.string ⟨#[]⟩)).set_ 2 (.string ⟨#[]⟩)).set_ 3 (.string ⟨#[]⟩)).set_ 4 (.string ⟨#[]⟩)).set_ 5 (.string ⟨#[]⟩)).set_ 6 (.string ⟨#[]⟩)).set_ 7 (.string ⟨#[]⟩)).set_ 8 (.string ⟨#[]⟩))
                            refine bodyPost_ret (results_ctt (p := 4) (u := 5) (x := 6) rfl _ _ (w.heap.size + 1 + 1) 26 _ _ rfl hbk Tryz.underlying26 rfl (by kernel_rfl)) rfl ⟨?_, (((((((((HFm.out.bel.setCell (p := ⟨w.heap.size + 1 + 1, 0, none⟩) (by show w.heap.size ≤ w.heap.size + 1 + 1; omega) (.string ⟨#[]⟩)).setCell (p := ⟨w.heap.size + 1 + 1, 1, none⟩) (by show w.heap.size ≤ w.heap.size + 1 + 1; omega) (.string ⟨#[]⟩)).setCell (p := ⟨w.heap.size + 1 + 1, 2, none⟩) (by show w.heap.size ≤ w.heap.size + 1 + 1; omega) (.string ⟨#[]⟩)).setCell (p := ⟨w.heap.size + 1 + 1, 3, none⟩) (by show w.heap.size ≤ w.heap.size + 1 + 1; omega) (.string ⟨#[]⟩)).setCell (p := ⟨w.heap.size + 1 + 1, 4, none⟩) (by show w.heap.size ≤ w.heap.size + 1 + 1; omega) (.string ⟨#[]⟩)).setCell (p := ⟨w.heap.size + 1 + 1, 5, none⟩) (by show w.heap.size ≤ w.heap.size + 1 + 1; omega) (.string ⟨#[]⟩)).setCell (p := ⟨w.heap.size + 1 + 1, 6, none⟩) (by show w.heap.size ≤ w.heap.size + 1 + 1; omega) (.string ⟨#[]⟩)).setCell (p := ⟨w.heap.size + 1 + 1, 7, none⟩) (by show w.heap.size ≤ w.heap.size + 1 + 1; omega) (.string ⟨#[]⟩)).setCell (p := ⟨w.heap.size + 1 + 1, 8, none⟩) (by show w.heap.size ≤ w.heap.size + 1 + 1; omega) (.string ⟨#[]⟩))⟩
                            rw [HFIN.out]; rfl
                      | false =>
                        rw [hmk] at mc
                        have HN2 : Hid (∀ m d, m < e + 1 → V[m]? = some d → mrk s.ps d = false) := fun m d hm hd => by
                          rcases Nat.lt_or_ge m e with h' | h'
                          · exact HNM.out m d h' hd
                          · obtain rfl : m = e := by omega
                            rw [hcv] at hd; cases hd; exact hmk
                        clear hcv hmk
                        go_wp2_with fail
                        go_roundw
                        case rel => exact ⟨e + 1, by omega, by go_num, HN2.out, (by first | rfl | trivial)⟩
                        case measure => simp [intOf]; omega
                    · obtain rfl : e = V.length := by omega
                      have f1 : decide ((V.length : Int) < (V.length : Int)) = false := by simp
                      obtain ⟨e, he⟩ : ∃ e, V.length = e := ⟨_, rfl⟩
                      go_upto_region 26 with fail
                      clear hel
                      have hel : e ≤ V.length := Nat.le_of_eq he.symm
                      have hE : e = V.length ∨ ∃ c, V[e]? = some c ∧ mrk s.ps c = true := .inl he.symm
                      rw [he] at HNM ⊢
                      clear he
                      have hw := tw_at V e hel HNM.out hE
                      have HTW := hide hw.1
                      have HDW := hide hw.2
                      clear hw hE HNM
                      have HVT : Hid ((bs V).extract 0 e = bs (V.take e)) := by show _ = _; rw [bs_cut]; simp
                      have hvt := HVT.out
                      have hvl : (V.take e).length ≤ 100000 := by rw [List.length_take]; omega
                      obtain ⟨j2, hj2⟩ : ∃ x, j + p.b.length = x := ⟨_, rfl⟩
                      have ej2 : (j : Int) + (p.b.length : Int) = (j2 : Int) := by omega
                      have hszb := bs_size p.b
                      have HFB6 : Hid (FB w #[.string (bs s.c), .slice A s.ps.length cp] t bm bo ba L out j2 (w6.setCell ⟨ba, 0, none⟩ (.int .i64 (j2 : Int)))) := HFB5.out.setA j2
                      have fa : w6.frozen? ⟨ba, 0, none⟩ = false := HFB5.out.a.frozen 0
                      have HX6 := hide (HX5.out.far (p := ⟨ba, 0, none⟩) (by show bx ≠ ba; exact fun e => hbax e.symm) (.int .i64 (j2 : Int)))
                      have HJ2 := hide hj2
                      have hj2l : j2 ≤ t.length := by omega
                      clear hj2
                      go_upto_region 27 with fail
                      clear a0 fa ej2 hszb x0 x1 x2 x3 t0
                      generalize w6.setCell ⟨ba, 0, none⟩ (.int .i64 (j2 : Int)) = w7 at *
                      obtain ⟨U7, hU7, h, u7, rfl, hru, hri⟩ := cls w7
                      have x0 := fun u => (((HX6.out.to (hru u)).cell 0).trans (show _ = some (Value.int IntKind.i64 (kp : Int)) from rfl))
                      have x1 := fun u => (((HX6.out.to (hru u)).cell 1).trans (show _ = some (Value.string (bs p.b)) from rfl))
                      have x2 := fun u => (((HX6.out.to (hru u)).cell 2).trans (show _ = some (Value.string (bs p.a)) from rfl))
                      have x3 := fun u => (((HX6.out.to (hru u)).cell 3).trans (show _ = some (Value.bool p.need) from rfl))
                      have CI : ∀ u, Calls Tryz.prog 73 #[.agg #[.int .i64 (kp : Int), .string (bs p.b), .string (bs p.a), .bool p.need], .string (bs (V.take e))] (h u) fun e' w' => e' = .returned (.bool (isVal numB p.k (V.take e))) ∧ ∃ u', w' = h u' := fun u => by
                        have := cls_call hru hri (fun W hb => isValue_any p (V.take e) hvl W (HGo.out.to (below_to HFB6.out.f.bel (Nat.le_refl _) hb))) u
                        rw [HKP.out] at this ⊢
                        exact this
                      cases hiv : isVal numB p.k (V.take e) with
                      | false =>
                        rw [hiv] at CI
                        have HFIN : Hid (readF (validB isNm s) numB s.ps t = (zeroF, 1, (j2 : Int))) := by
                          show _ = _
                          rw [HRY.out, ← HRI.out.eq, HDR.out, rd_yes HSK.out HPRE.out]
                          unfold stepR
                          rw [HVV.out, HTW.out, hiv]
                          show ((zeroF, (1 : Int), (t.length : Int) - (V.length : Int)) : List (List UInt8) × Int × Int) = _
                          have := HVL.out
                          have := HJ2.out
                          rw [show (t.length : Int) - (V.length : Int) = (j2 : Int) by omega]
                        clear hiv
                        refine wp_region_class h (by kernel_rfl) (by kernel_rfl) (hri _ (hru _).drew) ?_
                        repeat (go_big_quiet_step (first | with_reducible exact CI _))
                        refine wpQuiet_nil ?_
                        intro w8 hw8
                        obtain ⟨u, rfl⟩ := hw8
                        have HFB8 := hide (HFB6.out.to (hru u))
                        revert HFB8
                        generalize h u = w8
                        intro HFB8
                        clear CI x0 x1 x2 x3 HFB6 HX6 hru hri
                        have z0 : w8.cell? ⟨w.heap.size + 1 + 1, 0, none⟩ = some (.string ⟨#[]⟩) := HFB8.out.f.r.cell 0
                        have y0 := HFB8.out.f.r.frozen 0
                        have z1 : w8.cell? ⟨w.heap.size + 1 + 1, 1, none⟩ = some (.string ⟨#[]⟩) := HFB8.out.f.r.cell 1
                        have y1 := HFB8.out.f.r.frozen 1
                        have z2 : w8.cell? ⟨w.heap.size + 1 + 1, 2, none⟩ = some (.string ⟨#[]⟩) := HFB8.out.f.r.cell 2
                        have y2 := HFB8.out.f.r.frozen 2
                        have z3 : w8.cell? ⟨w.heap.size + 1 + 1, 3, none⟩ = some (.string ⟨#[]⟩) := HFB8.out.f.r.cell 3
                        have y3 := HFB8.out.f.r.frozen 3
                        have z4 : w8.cell? ⟨w.heap.size + 1 + 1, 4, none⟩ = some (.string ⟨#[]⟩) := HFB8.out.f.r.cell 4
                        have y4 := HFB8.out.f.r.frozen 4
                        have z5 : w8.cell? ⟨w.heap.size + 1 + 1, 5, none⟩ = some (.string ⟨#[]⟩) := HFB8.out.f.r.cell 5
                        have y5 := HFB8.out.f.r.frozen 5
                        have z6 : w8.cell? ⟨w.heap.size + 1 + 1, 6, none⟩ = some (.string ⟨#[]⟩) := HFB8.out.f.r.cell 6
                        have y6 := HFB8.out.f.r.frozen 6
                        have z7 : w8.cell? ⟨w.heap.size + 1 + 1, 7, none⟩ = some (.string ⟨#[]⟩) := HFB8.out.f.r.cell 7
                        have y7 := HFB8.out.f.r.frozen 7
                        have z8 : w8.cell? ⟨w.heap.size + 1 + 1, 8, none⟩ = some (.string ⟨#[]⟩) := HFB8.out.f.r.cell 8
                        have y8 := HFB8.out.f.r.frozen 8
                        have a0 : w8.cell? ⟨ba, 0, none⟩ = some (.int .i64 (j2 : Int)) := HFB8.out.a.cell 0
                        have n1 : ba ≠ w.heap.size + 1 + 1 := by have := HFB8.out.f.lt; have := HFB8.out.mo; have := HFB8.out.oa; omega
                        have n2 : w.heap.size + 1 + 1 ≠ ba := fun h => n1 h.symm
                        go_wp2_with fail
                        go_region
                        go_wp2_with fail
                        simp +zetaDelta only [Exit.noGoto, Exit.inBlock, Exit.then]
                        have hbk : Blk (((((((((w8.setCell ⟨w.heap.size + 1 + 1, 0, none⟩ (.string ⟨#[]⟩)).setCell ⟨w.heap.size + 1 + 1, 1, none⟩ (.string ⟨#[]⟩)).setCell ⟨w.heap.size + 1 + 1, 2, none⟩ (.string ⟨#[]⟩)).setCell ⟨w.heap.size + 1 + 1, 3, none⟩ (.string ⟨#[]⟩)).setCell ⟨w.heap.size + 1 + 1, 4, none⟩ (.string ⟨#[]⟩)).setCell ⟨w.heap.size + 1 + 1, 5, none⟩ (.string ⟨#[]⟩)).setCell ⟨w.heap.size + 1 + 1, 6, none⟩ (.string ⟨#[]⟩)).setCell ⟨w.heap.size + 1 + 1, 7, none⟩ (.string ⟨#[]⟩)).setCell ⟨w.heap.size + 1 + 1, 8, none⟩ (.string ⟨#[]⟩)).drew (w.heap.size + 1 + 1) 26 Z9 := (((((((((HFB8.out.f.r.set_ 0 (.string ⟨#[]⟩)).set_ 1 (.string ⟨#[]⟩)).set_ 2 (.string ⟨#[]⟩)).set_ 3 (.string ⟨#[]⟩)).set_ 4 (.string ⟨#[]⟩)).set_ 5 (.string ⟨#[]⟩)).set_ 6 (.string ⟨#[]⟩)).set_ 7 (.string ⟨#[]⟩)).set_ 8 (.string ⟨#[]⟩)).drew
                        refine bodyPost_ret (results_ctt (p := 4) (u := 5) (x := 6) rfl _ _ (w.heap.size + 1 + 1) 26 _ _ rfl hbk Tryz.underlying26 rfl (by kernel_rfl)) rfl ⟨?_, (((((((((HFB8.out.f.bel.setCell (p := ⟨w.heap.size + 1 + 1, 0, none⟩) (by show w.heap.size ≤ w.heap.size + 1 + 1; omega) (.string ⟨#[]⟩)).setCell (p := ⟨w.heap.size + 1 + 1, 1, none⟩) (by show w.heap.size ≤ w.heap.size + 1 + 1; omega) (.string ⟨#[]⟩)).setCell (p := ⟨w.heap.size + 1 + 1, 2, none⟩) (by show w.heap.size ≤ w.heap.size + 1 + 1; omega) (.string ⟨#[]⟩)).setCell (p := ⟨w.heap.size + 1 + 1, 3, none⟩) (by show w.heap.size ≤ w.heap.size + 1 + 1; omega) (.string ⟨#[]⟩)).setCell (p := ⟨w.heap.size + 1 + 1, 4, none⟩) (by show w.heap.size ≤ w.heap.size + 1 + 1; omega) (.string ⟨#[]⟩)).setCell (p := ⟨w.heap.size + 1 + 1, 5, none⟩) (by show w.heap.size ≤ w.heap.size + 1 + 1; omega) (.string ⟨#[]⟩)).setCell (p := ⟨w.heap.size + 1 + 1, 6, none⟩) (by show w.heap.size ≤ w.heap.size + 1 + 1; omega) (.string ⟨#[]⟩)).setCell (p := ⟨w.heap.size + 1 + 1, 7, none⟩) (by show w.heap.size ≤ w.heap.size + 1 + 1; omega) (.string ⟨#[]⟩)).setCell (p := ⟨w.heap.size + 1 + 1, 8, none⟩) (by show w.heap.size ≤ w.heap.size + 1 + 1; omega) (.string ⟨#[]⟩)).drew⟩
                        rw [HFIN.out]; rfl
                      | true =>
                        rw [hiv] at CI
                        have HST : Hid (stepR (mrk s.ps) numB p (r.drop (k + 1)) (t.drop j) out = if p.a <+: V.drop e then readR (mrk s.ps) numB (r.drop (k + 1)) ((V.drop e).drop p.a.length) (out.set p.k.toNat (V.take e)) else .miss (V.drop e).length) := by
                          show _ = _
                          unfold stepR
                          rw [HVV.out, HTW.out, HDW.out, hiv, if_pos rfl]
                        clear hiv
                        refine wp_region_class h (by kernel_rfl) (by kernel_rfl) (hri _ (hru _).drew) ?_
                        repeat (go_big_quiet_step (first | with_reducible exact CI _))
                        refine wpQuiet_nil ?_
                        intro w8 hw8
                        obtain ⟨u, rfl⟩ := hw8
                        have HFB8 := hide (HFB6.out.to (hru u))
                        have HX8 := hide (HX6.out.to (hru u))
                        revert HFB8 HX8
                        generalize h u = w8
                        intro HFB8 HX8
                        clear CI x0 x1 x2 x3 HFB6 HX6 hru hri
                        have x0 : w8.cell? ⟨bx, 0, none⟩ = some (.int .i64 (kp : Int)) := HX8.out.cell 0
                        have hkl : kp < out.length := by rw [hol]; exact hkp9
                        have o0 := (HFB8.out.o.cell kp).trans (fieldsC_at (List.getElem?_eq_getElem hkl))
                        have o1 := HFB8.out.o.frozen kp
                        have HFB9 : Hid (FB w #[.string (bs s.c), .slice A s.ps.length cp] t bm bo ba L (out.set kp (V.take e)) j2 (w8.setCell ⟨bo, kp, none⟩ (.string (bs (V.take e)))).drew) := (HFB8.out.setO kp (V.take e)).drew
                        have HX9 : Hid (Blk (w8.setCell ⟨bo, kp, none⟩ (.string (bs (V.take e)))).drew bx 41 #[.int .i64 (kp : Int), .string (bs p.b), .string (bs p.a), .bool p.need]) := (HX8.out.far (p := ⟨bo, kp, none⟩) (by show bx ≠ bo; exact fun e => hbox e.symm) (.string (bs (V.take e)))).drew
                        generalize out[kp]'hkl = oo at *
                        go_wp2_with fail
                        go_region
                        clear x0 o0 o1 HFB8 HX8
                        generalize (w8.setCell ⟨bo, kp, none⟩ (.string (bs (V.take e)))).drew = w9 at *
                        obtain ⟨j3, hj3⟩ : ∃ x, j2 + e = x := ⟨_, rfl⟩
                        have ej3 : (j2 : Int) + (e : Int) = (j3 : Int) := by omega
                        have a0 : w9.cell? ⟨ba, 0, none⟩ = some (.int .i64 (j2 : Int)) := HFB9.out.a.cell 0
                        have fa : w9.frozen? ⟨ba, 0, none⟩ = false := HFB9.out.a.frozen 0
                        have HFBa : Hid (FB w #[.string (bs s.c), .slice A s.ps.length cp] t bm bo ba L (out.set kp (V.take e)) j3 (w9.setCell ⟨ba, 0, none⟩ (.int .i64 (j3 : Int)))) := HFB9.out.setA j3
                        have HXa := hide (HX9.out.far (p := ⟨ba, 0, none⟩) (by show bx ≠ ba; exact fun e => hbax e.symm) (.int .i64 (j3 : Int)))
                        have HJ3 := hide hj3
                        have hj3l : j3 ≤ t.length := by have := HVL.out; have := HJ2.out; omega
                        have HD3 : Hid (t.drop j3 = V.drop e) := by show _ = _; rw [← HVV.out, List.drop_drop, List.drop_drop]; have := HJ2.out; have := HJ3.out; congr 1; omega
                        clear hj3
                        go_upto_region 31 with fail
                        clear a0 fa ej3 HFB9 HX9
                        generalize w9.setCell ⟨ba, 0, none⟩ (.int .i64 (j3 : Int)) = wa at *
                        obtain ⟨Ua, hUa, g, ua, rfl, hgu, hgi⟩ := cls wa
                        have a0 := fun u => (((HFBa.out.to (hgu u)).a.cell 0).trans (show _ = some (Value.int IntKind.i64 (j3 : Int)) from rfl))
                        have t0 := fun u => (((HFBa.out.to (hgu u)).f.t.cell 0).trans (show _ = some (Value.string (bs t)) from rfl))
                        have x2 := fun u => (((HXa.out.to (hgu u)).cell 2).trans (show _ = some (Value.string (bs p.a)) from rfl))
                        have hx3 : (bs t).extract j3 t.length = bs (V.drop e) := by rw [bs_cut, ← HD3.out, List.take_of_length_le (by rw [List.length_drop]; omega)]
                        have CH : ∀ u, Calls Tryz.prog 74 #[.string (bs (V.drop e)), .string (bs p.a)] (g u) fun e' w' => e' = .returned (.bool (decide (p.a <+: V.drop e))) ∧ ∃ u', w' = g u' := fun u => cls_call hgu hgi (fun W hb => (HasPrefix_any (V.drop e) p.a W).mono fun e w' h => ⟨h.1, h.2 ▸ Below.refl _ _⟩) u
                        by_cases hpa : p.a <+: V.drop e
                        · rw [decide_eq_true hpa] at CH
                          rw [if_pos hpa] at HST
                          have HPA := hide hpa
                          clear hpa
                          refine wp_region_class g (by kernel_rfl) (by kernel_rfl) (hgi _ (hgu _).drew) ?_
                          repeat (go_big_quiet_step (first | with_reducible exact CH _))
                          refine wpQuiet_nil ?_
                          intro wb hwb
                          obtain ⟨u, rfl⟩ := hwb
                          have HFBb := hide (HFBa.out.to (hgu u))
                          have HXb := hide (HXa.out.to (hgu u))
                          revert HFBb HXb
                          generalize g u = wb
                          intro HFBb HXb
                          clear CH a0 t0 x2 HFBa HXa hgu hgi hx3
                          obtain ⟨j4, hj4⟩ : ∃ x, j3 + p.a.length = x := ⟨_, rfl⟩
                          have ej4 : (j3 : Int) + (p.a.length : Int) = (j4 : Int) := by omega
                          have hsza := bs_size p.a
                          have hpal := HPA.out.length_le
                          have hj4l : j4 ≤ t.length := by
                            have h1 : (V.drop e).length = t.length - j3 := by rw [← HD3.out, List.length_drop]
                            omega
                          have a0 : wb.cell? ⟨ba, 0, none⟩ = some (.int .i64 (j3 : Int)) := HFBb.out.a.cell 0
                          have x2 : wb.cell? ⟨bx, 2, none⟩ = some (.string (bs p.a)) := HXb.out.cell 2
                          have fa : wb.frozen? ⟨ba, 0, none⟩ = false := HFBb.out.a.frozen 0
                          have HFBc : Hid (FB w #[.string (bs s.c), .slice A s.ps.length cp] t bm bo ba L (out.set kp (V.take e)) j4 (wb.setCell ⟨ba, 0, none⟩ (.int .i64 (j4 : Int)))) := HFBb.out.setA j4
                          have HJ4 := hide hj4
                          have HRN : Hid (RdI s t (r.drop (k + 1)) j4 (out.set kp (V.take e))) := by
                            refine ⟨?_, fun q hq => HRI0.out.sub q (List.mem_of_mem_drop hq), by rw [List.length_set]; exact hol, by rw [List.length_drop]; omega, hj4l⟩
                            rw [← HRI.out.eq, HDR.out, rd_yes HSK.out HPRE.out, HST.out, ← HD3.out, List.drop_drop, HJ4.out, HKP.out]
                            rfl
                          clear hj4 HST
                          by_cases hcc : c' = k + 1
                          · have hrl : r.length = k + 1 := by omega
                            have hd0 : r.drop (k + 1) = [] := List.drop_of_length_le (by omega)
                            have HPN : Hid (∀ A'', PartsAt w (.slice A'' 0 0) (r.drop (k + 1))) := fun A'' => by rw [hd0]; exact ⟨A'', 0, rfl, Nat.zero_le _, by simp, fun i x hx => by simp at hx⟩
                            clear hd0
                            go_wp2_with fail
                            go_roundw
                            case rel => exact ⟨r.drop (k + 1), j4, _, HPN.out _, HFBc.out, HRN.out⟩
                            case measure => simp [lenV]; omega
                          · have hc0' : ¬ (c' - (k + 1) = 0) := by omega
                            have HPN : Hid (PartsAt w (.slice (some (ad.add ((k + 1) * 4))) (r.length - (k + 1)) (c' - (k + 1))) (r.drop (k + 1))) := by
                              have := RowsAt.drop (k := k + 1) HPV.out (by rw [List.length_map]; omega) (c' - (k + 1)) (by rw [List.length_map]; omega)
                              rw [List.length_map] at this
                              show RowsAt _ _ _ _
                              rw [List.map_drop]
                              exact this
                            go_wp2_with fail
                            go_roundw
                            case rel => exact ⟨r.drop (k + 1), j4, _, HPN.out, HFBc.out, HRN.out⟩
                            case measure => simp [lenV]; omega
                        · rw [decide_eq_false hpa] at CH
                          rw [if_neg hpa] at HST
                          have HFIN : Hid (readF (validB isNm s) numB s.ps t = (zeroF, missE j3 t.length, (j3 : Int))) := by
                            show _ = _
                            have h1 : (V.drop e).length = t.length - j3 := by rw [← HD3.out, List.length_drop]
                            rw [HRY.out, ← HRI.out.eq, HDR.out, rd_yes HSK.out HPRE.out, HST.out, h1]
                            show ((zeroF, (if t.length - j3 = 0 then (6 : Int) else 5), (t.length : Int) - ((t.length - j3 : Nat) : Int)) : List (List UInt8) × Int × Int) = _
                            rw [show (t.length : Int) - ((t.length - j3 : Nat) : Int) = (j3 : Int) by omega]
                            unfold missE
                            by_cases hh : j3 = t.length
                            · rw [if_pos (by omega), if_pos hh]
                            · rw [if_neg (by omega), if_neg hh]
                          clear hpa HST
                          refine wp_region_class g (by kernel_rfl) (by kernel_rfl) (hgi _ (hgu _).drew) ?_
                          repeat (go_big_quiet_step (first | with_reducible exact CH _))
                          refine wpQuiet_nil ?_
                          intro wb hwb
                          obtain ⟨u, rfl⟩ := hwb
                          have HFBb := hide (HFBa.out.to (hgu u))
                          clear CH a0 t0 x2 HXa hx3
                          go_wp2_with fail
                          refine (missing_any t j3 hj3l ht ba (w.heap.size + 1) (g u) HFBb.out.a HFBb.out.f.t).mono ?_
                          rintro e wm ⟨rfl, hbm⟩
                          have HFm := hide (HFBb.out.f.to hbm)
                          unfold Z9
                          have z0 : wm.cell? ⟨w.heap.size + 1 + 1, 0, none⟩ = some (.string ⟨#[]⟩) := HFm.out.r.cell 0
                          have y0 := HFm.out.r.frozen 0
                          have z1 : wm.cell? ⟨w.heap.size + 1 + 1, 1, none⟩ = some (.string ⟨#[]⟩) := HFm.out.r.cell 1
                          have y1 := HFm.out.r.frozen 1
                          have z2 : wm.cell? ⟨w.heap.size + 1 + 1, 2, none⟩ = some (.string ⟨#[]⟩) := HFm.out.r.cell 2
                          have y2 := HFm.out.r.frozen 2
                          have z3 : wm.cell? ⟨w.heap.size + 1 + 1, 3, none⟩ = some (.string ⟨#[]⟩) := HFm.out.r.cell 3
                          have y3 := HFm.out.r.frozen 3
                          have z4 : wm.cell? ⟨w.heap.size + 1 + 1, 4, none⟩ = some (.string ⟨#[]⟩) := HFm.out.r.cell 4
                          have y4 := HFm.out.r.frozen 4
                          have z5 : wm.cell? ⟨w.heap.size + 1 + 1, 5, none⟩ = some (.string ⟨#[]⟩) := HFm.out.r.cell 5
                          have y5 := HFm.out.r.frozen 5
                          have z6 : wm.cell? ⟨w.heap.size + 1 + 1, 6, none⟩ = some (.string ⟨#[]⟩) := HFm.out.r.cell 6
                          have y6 := HFm.out.r.frozen 6
                          have z7 : wm.cell? ⟨w.heap.size + 1 + 1, 7, none⟩ = some (.string ⟨#[]⟩) := HFm.out.r.cell 7
                          have y7 := HFm.out.r.frozen 7
                          have z8 : wm.cell? ⟨w.heap.size + 1 + 1, 8, none⟩ = some (.string ⟨#[]⟩) := HFm.out.r.cell 8
                          have y8 := HFm.out.r.frozen 8
                          go_wp2_with fail
                          simp +zetaDelta only [Exit.noGoto, Exit.inBlock, Exit.then]
                          have hbk : Blk (((((((((wm.setCell ⟨w.heap.size + 1 + 1, 0, none⟩ (.string ⟨#[]⟩)).setCell ⟨w.heap.size + 1 + 1, 1, none⟩ (.string ⟨#[]⟩)).setCell ⟨w.heap.size + 1 + 1, 2, none⟩ (.string ⟨#[]⟩)).setCell ⟨w.heap.size + 1 + 1, 3, none⟩ (.string ⟨#[]⟩)).setCell ⟨w.heap.size + 1 + 1, 4, none⟩ (.string ⟨#[]⟩)).setCell ⟨w.heap.size + 1 + 1, 5, none⟩ (.string ⟨#[]⟩)).setCell ⟨w.heap.size + 1 + 1, 6, none⟩ (.string ⟨#[]⟩)).setCell ⟨w.heap.size + 1 + 1, 7, none⟩ (.string ⟨#[]⟩)).setCell ⟨w.heap.size + 1 + 1, 8, none⟩ (.string ⟨#[]⟩)) (w.heap.size + 1 + 1) 26 Z9 := (((((((((HFm.out.r.set_ 0 (.string ⟨#[]⟩)).set_ 1 (.string ⟨#[]⟩)).set_ 2 (.string ⟨#[]⟩)).set_ 3 (.string ⟨#[]⟩)).set_ 4 (.string ⟨#[]⟩)).set_ 5 (.string ⟨#[]⟩)).set_ 6 (.string ⟨#[]⟩)).set_ 7 (.string ⟨#[]⟩)).set_ 8 (.string ⟨#[]⟩))
                          refine bodyPost_ret (results_ctt (p := 4) (u := 5) (x := 6) rfl _ _ (w.heap.size + 1 + 1) 26 _ _ rfl hbk Tryz.underlying26 rfl (by kernel_rfl)) rfl ⟨?_, (((((((((HFm.out.bel.setCell (p := ⟨w.heap.size + 1 + 1, 0, none⟩) (by show w.heap.size ≤ w.heap.size + 1 + 1; omega) (.string ⟨#[]⟩)).setCell (p := ⟨w.heap.size + 1 + 1, 1, none⟩) (by show w.heap.size ≤ w.heap.size + 1 + 1; omega) (.string ⟨#[]⟩)).setCell (p := ⟨w.heap.size + 1 + 1, 2, none⟩) (by show w.heap.size ≤ w.heap.size + 1 + 1; omega) (.string ⟨#[]⟩)).setCell (p := ⟨w.heap.size + 1 + 1, 3, none⟩) (by show w.heap.size ≤ w.heap.size + 1 + 1; omega) (.string ⟨#[]⟩)).setCell (p := ⟨w.heap.size + 1 + 1, 4, none⟩) (by show w.heap.size ≤ w.heap.size + 1 + 1; omega) (.string ⟨#[]⟩)).setCell (p := ⟨w.heap.size + 1 + 1, 5, none⟩) (by show w.heap.size ≤ w.heap.size + 1 + 1; omega) (.string ⟨#[]⟩)).setCell (p := ⟨w.heap.size + 1 + 1, 6, none⟩) (by show w.heap.size ≤ w.heap.size + 1 + 1; omega) (.string ⟨#[]⟩)).setCell (p := ⟨w.heap.size + 1 + 1, 7, none⟩) (by show w.heap.size ≤ w.heap.size + 1 + 1; omega) (.string ⟨#[]⟩)).setCell (p := ⟨w.heap.size + 1 + 1, 8, none⟩) (by show w.heap.size ≤ w.heap.size + 1 + 1; omega) (.string ⟨#[]⟩))⟩
                          rw [HFIN.out]; rfl
                · rw [if_neg hpre, decide_eq_false hpre] at CC
                  cases hn : p.need with
                  | true =>
                    have HFIN : Hid (readF (validB isNm s) numB s.ps t = (zeroF, missE j t.length, (j : Int))) := by
                      show _ = _
                      rw [HRY.out, ← HRI.out.eq, HDR.out, rd_miss HSK.out hpre hn, List.length_drop]
                      show ((zeroF, (if t.length - j = 0 then (6 : Int) else 5), (t.length : Int) - ((t.length - j : Nat) : Int)) : List (List UInt8) × Int × Int) = _
                      rw [show (t.length : Int) - ((t.length - j : Nat) : Int) = (j : Int) by omega]
                      unfold missE
                      by_cases hh : j = t.length
                      · rw [if_pos (by omega), if_pos hh]
                      · rw [if_neg (by omega), if_neg hh]
                    rw [hn] at x3
                    clear hpre hn
                    refine wp_region_class g5 (by kernel_rfl) (by kernel_rfl) (hgi5 _ (hgu5 _).drew) ?_
                    repeat (go_big_quiet_step (first | with_reducible exact CC _))
                    refine wpQuiet_nil ?_
                    intro w6 hw6
                    obtain ⟨u, rfl⟩ := hw6
                    have HFBb := hide (HFB5.out.to (hgu5 u))
                    go_wp2_with fail
                    refine (missing_any t j hj ht ba (w.heap.size + 1) (g5 u) HFBb.out.a HFBb.out.f.t).mono ?_
                    rintro e wm ⟨rfl, hbm⟩
                    have HFm := hide (HFBb.out.f.to hbm)
                    unfold Z9
                    have z0 : wm.cell? ⟨w.heap.size + 1 + 1, 0, none⟩ = some (.string ⟨#[]⟩) := HFm.out.r.cell 0
                    have y0 := HFm.out.r.frozen 0
                    have z1 : wm.cell? ⟨w.heap.size + 1 + 1, 1, none⟩ = some (.string ⟨#[]⟩) := HFm.out.r.cell 1
                    have y1 := HFm.out.r.frozen 1
                    have z2 : wm.cell? ⟨w.heap.size + 1 + 1, 2, none⟩ = some (.string ⟨#[]⟩) := HFm.out.r.cell 2
                    have y2 := HFm.out.r.frozen 2
                    have z3 : wm.cell? ⟨w.heap.size + 1 + 1, 3, none⟩ = some (.string ⟨#[]⟩) := HFm.out.r.cell 3
                    have y3 := HFm.out.r.frozen 3
                    have z4 : wm.cell? ⟨w.heap.size + 1 + 1, 4, none⟩ = some (.string ⟨#[]⟩) := HFm.out.r.cell 4
                    have y4 := HFm.out.r.frozen 4
                    have z5 : wm.cell? ⟨w.heap.size + 1 + 1, 5, none⟩ = some (.string ⟨#[]⟩) := HFm.out.r.cell 5
                    have y5 := HFm.out.r.frozen 5
                    have z6 : wm.cell? ⟨w.heap.size + 1 + 1, 6, none⟩ = some (.string ⟨#[]⟩) := HFm.out.r.cell 6
                    have y6 := HFm.out.r.frozen 6
                    have z7 : wm.cell? ⟨w.heap.size + 1 + 1, 7, none⟩ = some (.string ⟨#[]⟩) := HFm.out.r.cell 7
                    have y7 := HFm.out.r.frozen 7
                    have z8 : wm.cell? ⟨w.heap.size + 1 + 1, 8, none⟩ = some (.string ⟨#[]⟩) := HFm.out.r.cell 8
                    have y8 := HFm.out.r.frozen 8
                    go_wp2_with fail
                    simp +zetaDelta only [Exit.noGoto, Exit.inBlock, Exit.then]
                    have hbk : Blk (((((((((wm.setCell ⟨w.heap.size + 1 + 1, 0, none⟩ (.string ⟨#[]⟩)).setCell ⟨w.heap.size + 1 + 1, 1, none⟩ (.string ⟨#[]⟩)).setCell ⟨w.heap.size + 1 + 1, 2, none⟩ (.string ⟨#[]⟩)).setCell ⟨w.heap.size + 1 + 1, 3, none⟩ (.string ⟨#[]⟩)).setCell ⟨w.heap.size + 1 + 1, 4, none⟩ (.string ⟨#[]⟩)).setCell ⟨w.heap.size + 1 + 1, 5, none⟩ (.string ⟨#[]⟩)).setCell ⟨w.heap.size + 1 + 1, 6, none⟩ (.string ⟨#[]⟩)).setCell ⟨w.heap.size + 1 + 1, 7, none⟩ (.string ⟨#[]⟩)).setCell ⟨w.heap.size + 1 + 1, 8, none⟩ (.string ⟨#[]⟩)) (w.heap.size + 1 + 1) 26 Z9 := (((((((((HFm.out.r.set_ 0 (.string ⟨#[]⟩)).set_ 1 (.string ⟨#[]⟩)).set_ 2 (.string ⟨#[]⟩)).set_ 3 (.string ⟨#[]⟩)).set_ 4 (.string ⟨#[]⟩)).set_ 5 (.string ⟨#[]⟩)).set_ 6 (.string ⟨#[]⟩)).set_ 7 (.string ⟨#[]⟩)).set_ 8 (.string ⟨#[]⟩))
                    refine bodyPost_ret (results_ctt (p := 4) (u := 5) (x := 6) rfl _ _ (w.heap.size + 1 + 1) 26 _ _ rfl hbk Tryz.underlying26 rfl (by kernel_rfl)) rfl ⟨?_, (((((((((HFm.out.bel.setCell (p := ⟨w.heap.size + 1 + 1, 0, none⟩) (by show w.heap.size ≤ w.heap.size + 1 + 1; omega) (.string ⟨#[]⟩)).setCell (p := ⟨w.heap.size + 1 + 1, 1, none⟩) (by show w.heap.size ≤ w.heap.size + 1 + 1; omega) (.string ⟨#[]⟩)).setCell (p := ⟨w.heap.size + 1 + 1, 2, none⟩) (by show w.heap.size ≤ w.heap.size + 1 + 1; omega) (.string ⟨#[]⟩)).setCell (p := ⟨w.heap.size + 1 + 1, 3, none⟩) (by show w.heap.size ≤ w.heap.size + 1 + 1; omega) (.string ⟨#[]⟩)).setCell (p := ⟨w.heap.size + 1 + 1, 4, none⟩) (by show w.heap.size ≤ w.heap.size + 1 + 1; omega) (.string ⟨#[]⟩)).setCell (p := ⟨w.heap.size + 1 + 1, 5, none⟩) (by show w.heap.size ≤ w.heap.size + 1 + 1; omega) (.string ⟨#[]⟩)).setCell (p := ⟨w.heap.size + 1 + 1, 6, none⟩) (by show w.heap.size ≤ w.heap.size + 1 + 1; omega) (.string ⟨#[]⟩)).setCell (p := ⟨w.heap.size + 1 + 1, 7, none⟩) (by show w.heap.size ≤ w.heap.size + 1 + 1; omega) (.string ⟨#[]⟩)).setCell (p := ⟨w.heap.size + 1 + 1, 8, none⟩) (by show w.heap.size ≤ w.heap.size + 1 + 1; omega) (.string ⟨#[]⟩))⟩
                    rw [HFIN.out]; rfl
                  | false =>
                    have HRN : Hid (RdI s t (r.drop (k + 1)) j out) := ⟨by rw [← HRI.out.eq, HDR.out, rd_pass HSK.out hpre hn], fun q hq => HRI0.out.sub q (List.mem_of_mem_drop hq), hol, by rw [List.length_drop]; omega, hj⟩
                    rw [hn] at x3
                    clear hpre hn
                    refine wp_region_class g5 (by kernel_rfl) (by kernel_rfl) (hgi5 _ (hgu5 _).drew) ?_
                    repeat (go_big_quiet_step (first | with_reducible exact CC _))
                    refine wpQuiet_nil ?_
                    intro w6 hw6
                    obtain ⟨u, rfl⟩ := hw6
                    have HFBb := hide (HFB5.out.to (hgu5 u))
                    go_wp2_with fail
                    go_roundw
                    case rel => exact ⟨k + 1, by omega, by go_num, rfl, HFBb.out, HRN.out⟩
                    case measure => simp [intOf]; omega
            · obtain rfl : k = r.length := by omega
              have HRE := hide HRI.out.eq
              rw [List.drop_length] at HRE
              have a0 : wr.cell? ⟨ba, 0, none⟩ = some (.int .i64 (j : Int)) := HFB.out.a.cell 0
              have t0 : wr.cell? ⟨w.heap.size + 1, 0, none⟩ = some (.string (bs t)) := HFB.out.f.t.cell 0
              by_cases hj1 : j < t.length
              · have f0 : decide ((j : Int) < (t.length : Int)) = true := decide_eq_true (by omega)
                have HFIN : Hid (readF (validB isNm s) numB s.ps t = (zeroF, missE j t.length, (j : Int))) := by
                  show _ = _
                  rw [HRY.out, ← HRE.out, readR, if_neg (by intro h; have := congrArg List.length h; rw [List.length_drop] at this; simp at this; omega), List.length_drop]
                  show ((zeroF, (if t.length - j = 0 then (6 : Int) else 5), (t.length : Int) - ((t.length - j : Nat) : Int)) : List (List UInt8) × Int × Int) = _
                  rw [show (t.length : Int) - ((t.length - j : Nat) : Int) = (j : Int) by omega]
                  unfold missE
                  rw [if_neg (by omega), if_neg (by omega)]
                go_wp2_with fail
                refine (missing_any t j hj ht ba (w.heap.size + 1) (wr) HFB.out.a HFB.out.f.t).mono ?_
                rintro e wm ⟨rfl, hbm⟩
                have HFm := hide (HFB.out.f.to hbm)
                unfold Z9
                have z0 : wm.cell? ⟨w.heap.size + 1 + 1, 0, none⟩ = some (.string ⟨#[]⟩) := HFm.out.r.cell 0
                have y0 := HFm.out.r.frozen 0
                have z1 : wm.cell? ⟨w.heap.size + 1 + 1, 1, none⟩ = some (.string ⟨#[]⟩) := HFm.out.r.cell 1
                have y1 := HFm.out.r.frozen 1
                have z2 : wm.cell? ⟨w.heap.size + 1 + 1, 2, none⟩ = some (.string ⟨#[]⟩) := HFm.out.r.cell 2
                have y2 := HFm.out.r.frozen 2
                have z3 : wm.cell? ⟨w.heap.size + 1 + 1, 3, none⟩ = some (.string ⟨#[]⟩) := HFm.out.r.cell 3
                have y3 := HFm.out.r.frozen 3
                have z4 : wm.cell? ⟨w.heap.size + 1 + 1, 4, none⟩ = some (.string ⟨#[]⟩) := HFm.out.r.cell 4
                have y4 := HFm.out.r.frozen 4
                have z5 : wm.cell? ⟨w.heap.size + 1 + 1, 5, none⟩ = some (.string ⟨#[]⟩) := HFm.out.r.cell 5
                have y5 := HFm.out.r.frozen 5
                have z6 : wm.cell? ⟨w.heap.size + 1 + 1, 6, none⟩ = some (.string ⟨#[]⟩) := HFm.out.r.cell 6
                have y6 := HFm.out.r.frozen 6
                have z7 : wm.cell? ⟨w.heap.size + 1 + 1, 7, none⟩ = some (.string ⟨#[]⟩) := HFm.out.r.cell 7
                have y7 := HFm.out.r.frozen 7
                have z8 : wm.cell? ⟨w.heap.size + 1 + 1, 8, none⟩ = some (.string ⟨#[]⟩) := HFm.out.r.cell 8
                have y8 := HFm.out.r.frozen 8
                go_wp2_with fail
                simp +zetaDelta only [Exit.noGoto, Exit.inBlock, Exit.then]
                have hbk : Blk (((((((((wm.setCell ⟨w.heap.size + 1 + 1, 0, none⟩ (.string ⟨#[]⟩)).setCell ⟨w.heap.size + 1 + 1, 1, none⟩ (.string ⟨#[]⟩)).setCell ⟨w.heap.size + 1 + 1, 2, none⟩ (.string ⟨#[]⟩)).setCell ⟨w.heap.size + 1 + 1, 3, none⟩ (.string ⟨#[]⟩)).setCell ⟨w.heap.size + 1 + 1, 4, none⟩ (.string ⟨#[]⟩)).setCell ⟨w.heap.size + 1 + 1, 5, none⟩ (.string ⟨#[]⟩)).setCell ⟨w.heap.size + 1 + 1, 6, none⟩ (.string ⟨#[]⟩)).setCell ⟨w.heap.size + 1 + 1, 7, none⟩ (.string ⟨#[]⟩)).setCell ⟨w.heap.size + 1 + 1, 8, none⟩ (.string ⟨#[]⟩)) (w.heap.size + 1 + 1) 26 Z9 := (((((((((HFm.out.r.set_ 0 (.string ⟨#[]⟩)).set_ 1 (.string ⟨#[]⟩)).set_ 2 (.string ⟨#[]⟩)).set_ 3 (.string ⟨#[]⟩)).set_ 4 (.string ⟨#[]⟩)).set_ 5 (.string ⟨#[]⟩)).set_ 6 (.string ⟨#[]⟩)).set_ 7 (.string ⟨#[]⟩)).set_ 8 (.string ⟨#[]⟩))
                refine bodyPost_ret (results_ctt (p := 4) (u := 5) (x := 6) rfl _ _ (w.heap.size + 1 + 1) 26 _ _ rfl hbk Tryz.underlying26 rfl (by kernel_rfl)) rfl ⟨?_, (((((((((HFm.out.bel.setCell (p := ⟨w.heap.size + 1 + 1, 0, none⟩) (by show w.heap.size ≤ w.heap.size + 1 + 1; omega) (.string ⟨#[]⟩)).setCell (p := ⟨w.heap.size + 1 + 1, 1, none⟩) (by show w.heap.size ≤ w.heap.size + 1 + 1; omega) (.string ⟨#[]⟩)).setCell (p := ⟨w.heap.size + 1 + 1, 2, none⟩) (by show w.heap.size ≤ w.heap.size + 1 + 1; omega) (.string ⟨#[]⟩)).setCell (p := ⟨w.heap.size + 1 + 1, 3, none⟩) (by show w.heap.size ≤ w.heap.size + 1 + 1; omega) (.string ⟨#[]⟩)).setCell (p := ⟨w.heap.size + 1 + 1, 4, none⟩) (by show w.heap.size ≤ w.heap.size + 1 + 1; omega) (.string ⟨#[]⟩)).setCell (p := ⟨w.heap.size + 1 + 1, 5, none⟩) (by show w.heap.size ≤ w.heap.size + 1 + 1; omega) (.string ⟨#[]⟩)).setCell (p := ⟨w.heap.size + 1 + 1, 6, none⟩) (by show w.heap.size ≤ w.heap.size + 1 + 1; omega) (.string ⟨#[]⟩)).setCell (p := ⟨w.heap.size + 1 + 1, 7, none⟩) (by show w.heap.size ≤ w.heap.size + 1 + 1; omega) (.string ⟨#[]⟩)).setCell (p := ⟨w.heap.size + 1 + 1, 8, none⟩) (by show w.heap.size ≤ w.heap.size + 1 + 1; omega) (.string ⟨#[]⟩))⟩
                rw [HFIN.out]; rfl
              · have f0 : decide ((j : Int) < (t.length : Int)) = false := decide_eq_false (by omega)
                have HFIN : Hid (readF (validB isNm s) numB s.ps t = (out, 0, 0)) := by
                  show _ = _
                  rw [HRY.out, ← HRE.out, readR, if_pos (List.drop_of_length_le (by omega))]; rfl
                clear HRI HRI0
                obtain ⟨o0, o1, o2, o3, o4, o5, o6, o7, o8, ho⟩ := nine hol
                subst ho
                have z0 : wr.cell? ⟨w.heap.size + 1 + 1, 0, none⟩ = some (.string ⟨#[]⟩) := HFB.out.f.r.cell 0
                have y0 := HFB.out.f.r.frozen 0
                have z1 : wr.cell? ⟨w.heap.size + 1 + 1, 1, none⟩ = some (.string ⟨#[]⟩) := HFB.out.f.r.cell 1
                have y1 := HFB.out.f.r.frozen 1
                have z2 : wr.cell? ⟨w.heap.size + 1 + 1, 2, none⟩ = some (.string ⟨#[]⟩) := HFB.out.f.r.cell 2
                have y2 := HFB.out.f.r.frozen 2
                have z3 : wr.cell? ⟨w.heap.size + 1 + 1, 3, none⟩ = some (.string ⟨#[]⟩) := HFB.out.f.r.cell 3
                have y3 := HFB.out.f.r.frozen 3
                have z4 : wr.cell? ⟨w.heap.size + 1 + 1, 4, none⟩ = some (.string ⟨#[]⟩) := HFB.out.f.r.cell 4
                have y4 := HFB.out.f.r.frozen 4
                have z5 : wr.cell? ⟨w.heap.size + 1 + 1, 5, none⟩ = some (.string ⟨#[]⟩) := HFB.out.f.r.cell 5
                have y5 := HFB.out.f.r.frozen 5
                have z6 : wr.cell? ⟨w.heap.size + 1 + 1, 6, none⟩ = some (.string ⟨#[]⟩) := HFB.out.f.r.cell 6
                have y6 := HFB.out.f.r.frozen 6
                have z7 : wr.cell? ⟨w.heap.size + 1 + 1, 7, none⟩ = some (.string ⟨#[]⟩) := HFB.out.f.r.cell 7
                have y7 := HFB.out.f.r.frozen 7
                have z8 : wr.cell? ⟨w.heap.size + 1 + 1, 8, none⟩ = some (.string ⟨#[]⟩) := HFB.out.f.r.cell 8
                have y8 := HFB.out.f.r.frozen 8
                have q0 : wr.cell? ⟨bo, 0, none⟩ = some (.string (bs o0)) := HFB.out.o.cell 0
                have q1 : wr.cell? ⟨bo, 1, none⟩ = some (.string (bs o1)) := HFB.out.o.cell 1
                have q2 : wr.cell? ⟨bo, 2, none⟩ = some (.string (bs o2)) := HFB.out.o.cell 2
                have q3 : wr.cell? ⟨bo, 3, none⟩ = some (.string (bs o3)) := HFB.out.o.cell 3
                have q4 : wr.cell? ⟨bo, 4, none⟩ = some (.string (bs o4)) := HFB.out.o.cell 4
                have q5 : wr.cell? ⟨bo, 5, none⟩ = some (.string (bs o5)) := HFB.out.o.cell 5
                have q6 : wr.cell? ⟨bo, 6, none⟩ = some (.string (bs o6)) := HFB.out.o.cell 6
                have q7 : wr.cell? ⟨bo, 7, none⟩ = some (.string (bs o7)) := HFB.out.o.cell 7
                have q8 : wr.cell? ⟨bo, 8, none⟩ = some (.string (bs o8)) := HFB.out.o.cell 8
                go_wp2_with fail
                simp +zetaDelta only [Exit.noGoto, Exit.inBlock, Exit.then]
                have hbk : Blk (((((((((wr.setCell ⟨w.heap.size + 1 + 1, 0, none⟩ (.string (bs o0))).setCell ⟨w.heap.size + 1 + 1, 1, none⟩ (.string (bs o1))).setCell ⟨w.heap.size + 1 + 1, 2, none⟩ (.string (bs o2))).setCell ⟨w.heap.size + 1 + 1, 3, none⟩ (.string (bs o3))).setCell ⟨w.heap.size + 1 + 1, 4, none⟩ (.string (bs o4))).setCell ⟨w.heap.size + 1 + 1, 5, none⟩ (.string (bs o5))).setCell ⟨w.heap.size + 1 + 1, 6, none⟩ (.string (bs o6))).setCell ⟨w.heap.size + 1 + 1, 7, none⟩ (.string (bs o7))).setCell ⟨w.heap.size + 1 + 1, 8, none⟩ (.string (bs o8))) (w.heap.size + 1 + 1) 26 (fieldsC [o0, o1, o2, o3, o4, o5, o6, o7, o8]) := (((((((((HFB.out.f.r.set_ 0 (.string (bs o0))).set_ 1 (.string (bs o1))).set_ 2 (.string (bs o2))).set_ 3 (.string (bs o3))).set_ 4 (.string (bs o4))).set_ 5 (.string (bs o5))).set_ 6 (.string (bs o6))).set_ 7 (.string (bs o7))).set_ 8 (.string (bs o8)))
                refine bodyPost_ret (results_ctt (p := 4) (u := 5) (x := 6) rfl _ _ (w.heap.size + 1 + 1) 26 _ _ rfl hbk Tryz.underlying26 rfl (by kernel_rfl)) rfl ⟨?_, (((((((((HFB.out.f.bel.setCell (p := ⟨w.heap.size + 1 + 1, 0, none⟩) (by show w.heap.size ≤ w.heap.size + 1 + 1; omega) (.string (bs o0))).setCell (p := ⟨w.heap.size + 1 + 1, 1, none⟩) (by show w.heap.size ≤ w.heap.size + 1 + 1; omega) (.string (bs o1))).setCell (p := ⟨w.heap.size + 1 + 1, 2, none⟩) (by show w.heap.size ≤ w.heap.size + 1 + 1; omega) (.string (bs o2))).setCell (p := ⟨w.heap.size + 1 + 1, 3, none⟩) (by show w.heap.size ≤ w.heap.size + 1 + 1; omega) (.string (bs o3))).setCell (p := ⟨w.heap.size + 1 + 1, 4, none⟩) (by show w.heap.size ≤ w.heap.size + 1 + 1; omega) (.string (bs o4))).setCell (p := ⟨w.heap.size + 1 + 1, 5, none⟩) (by show w.heap.size ≤ w.heap.size + 1 + 1; omega) (.string (bs o5))).setCell (p := ⟨w.heap.size + 1 + 1, 6, none⟩) (by show w.heap.size ≤ w.heap.size + 1 + 1; omega) (.string (bs o6))).setCell (p := ⟨w.heap.size + 1 + 1, 7, none⟩) (by show w.heap.size ≤ w.heap.size + 1 + 1; omega) (.string (bs o7))).setCell (p := ⟨w.heap.size + 1 + 1, 8, none⟩) (by show w.heap.size ≤ w.heap.size + 1 + 1; omega) (.string (bs o8)))⟩
                rw [HFIN.out]; rfl
end Go.Proofs.YtdcafoekbnacnaaGreatDoor

/- Chapter 24: sample, head, few. -/
set_option linter.unusedVariables false
set_option linter.unusedSimpArgs false
namespace Go.Proofs.YtdcafoekbnacnaaGreatDoor
open Go.RowKit Go.Shelf
attribute [local go_sem] Oper.semAt_some

theorem ex24_w : fwV exS [[], [], [], [49, 50], [97, 98], [], [], [120], [55, 55]] = [97, 98, 44, 32, 49, 50, 59, 32, 55, 55, 45, 32, 120] ∧ fwE exS [[], [], [], [49, 50], [97, 98], [], [], [120], [55, 55]] = 0 := by decide +kernel
theorem ex24_r0 : readF true numB exS.ps [97, 98, 44, 32, 49, 50, 47, 51, 59, 32, 55, 55, 45, 32, 120] = ([[], [51], [], [49, 50], [97, 98], [], [], [120], [55, 55]], 0, 0) := by decide +kernel
theorem ex24_r1 : readF true numB exS.ps [97, 98, 44, 32, 49, 50, 59, 32, 55, 55] = ([[], [], [], [], [], [], [], [], []], 6, 10) := by decide +kernel
theorem ex24_r2 : readF true numB exS.ps [97, 98, 44, 32, 48, 49, 50, 59, 32, 55, 55, 45, 32, 120] = ([[], [], [], [], [], [], [], [], []], 1, 4) := by decide +kernel
theorem ex24_r3 : readF true numB exS.ps [97, 98, 47, 51, 44, 32, 49, 50, 59, 32, 55, 55, 45, 32, 120] = ([[], [], [], [], [], [], [], [], []], 5, 2) := by decide +kernel
theorem sample_any (w : World) : Calls Tryz.prog 69 #[] w fun e w' => ∃ v, e = .returned (.agg #[.string ⟨#[97, 97]⟩, v]) ∧ PartsAt w' v exS.ps ∧ Below w.heap.size w w' := by
  go_enter Tryz.func69, Tryz.ntmps69
  go_wp2_with fail
  have hB := Blk.new (w.alloc (.cells #[.string ⟨#[97, 97]⟩, .slice (some ⟨w.heap.size + 1, 0, none⟩) 5 5] 24)) 41 exC
  rw [World.size_alloc] at hB
  refine bodyPost_ret (results_cell_blk rfl _ _ w.heap.size 24 #[.string ⟨#[97, 97]⟩, .slice (some ⟨w.heap.size + 1, 0, none⟩) 5 5] _ rfl ((Blk.new w _ _).alloc _) Tryz.underlying24 rfl (by kernel_rfl)) rfl ⟨_, rfl, ?_, below_two w _ _⟩
  have hs : ∀ x ∈ exS.ps.map ptV, x.length = 4 := fun x hx => by obtain ⟨p, _, rfl⟩ := List.mem_map.1 hx; rfl
  refine RowsAt.of_blk hB rfl (Nat.le_refl _) hs fun k x hx j u hu => ?_
  have := flat_at _ hs k x j u hx hu
  rw [show exC = (exS.ps.map ptV).flatten.toArray from rfl, List.getElem?_toArray]
  exact this
theorem write_ex (A : Option Addr) (cp : Nat) (w : World) (hP : PartsAt w (.slice A 5 cp) exS.ps) (hg : Glob4 w) : Calls Tryz.prog 32 #[.agg #[.string ⟨#[97, 97]⟩, .slice A 5 cp], .agg #[.string ⟨#[]⟩, .string ⟨#[]⟩, .string ⟨#[]⟩, .string ⟨#[49, 50]⟩, .string ⟨#[97, 98]⟩, .string ⟨#[]⟩, .string ⟨#[]⟩, .string ⟨#[120]⟩, .string ⟨#[55, 55]⟩]] w fun e w' => e = .returned (.tuple #[.string ⟨#[97, 98, 44, 32, 49, 50, 59, 32, 55, 55, 45, 32, 120]⟩, .int .i64 0]) ∧ Below w.heap.size w w' := by
  have := FWrite_any exS (by decide) (by decide) (.slice A 5 cp) [] [] [] [49, 50] [97, 98] [] [] [120] [55, 55] w hP hg.g
  rw [ex24_w.1, ex24_w.2] at this
  exact this
theorem read_ex0 (A : Option Addr) (cp : Nat) (w : World) (hP : PartsAt w (.slice A 5 cp) exS.ps) (hg : Glob4 w) : Calls Tryz.prog 34 #[.agg #[.string ⟨#[97, 97]⟩, .slice A 5 cp], .string ⟨#[97, 98, 44, 32, 49, 50, 47, 51, 59, 32, 55, 55, 45, 32, 120]⟩] w fun e w' => e = .returned (.tuple #[.agg #[.string ⟨#[]⟩, .string ⟨#[51]⟩, .string ⟨#[]⟩, .string ⟨#[49, 50]⟩, .string ⟨#[97, 98]⟩, .string ⟨#[]⟩, .string ⟨#[]⟩, .string ⟨#[120]⟩, .string ⟨#[55, 55]⟩], .int .i64 0, .int .i64 0]) ∧ Below w.heap.size w w' := by
  have := FRead_any exS (by decide) (by decide) (.slice A 5 cp) [97, 98, 44, 32, 49, 50, 47, 51, 59, 32, 55, 55, 45, 32, 120] (by decide) w hP hg
  rw [ex_valid, ex24_r0] at this
  exact this
theorem read_ex1 (A : Option Addr) (cp : Nat) (w : World) (hP : PartsAt w (.slice A 5 cp) exS.ps) (hg : Glob4 w) : Calls Tryz.prog 34 #[.agg #[.string ⟨#[97, 97]⟩, .slice A 5 cp], .string ⟨#[97, 98, 44, 32, 49, 50, 59, 32, 55, 55]⟩] w fun e w' => e = .returned (.tuple #[.agg #[.string ⟨#[]⟩, .string ⟨#[]⟩, .string ⟨#[]⟩, .string ⟨#[]⟩, .string ⟨#[]⟩, .string ⟨#[]⟩, .string ⟨#[]⟩, .string ⟨#[]⟩, .string ⟨#[]⟩], .int .i64 6, .int .i64 10]) ∧ Below w.heap.size w w' := by
  have := FRead_any exS (by decide) (by decide) (.slice A 5 cp) [97, 98, 44, 32, 49, 50, 59, 32, 55, 55] (by decide) w hP hg
  rw [ex_valid, ex24_r1] at this
  exact this
theorem read_ex2 (A : Option Addr) (cp : Nat) (w : World) (hP : PartsAt w (.slice A 5 cp) exS.ps) (hg : Glob4 w) : Calls Tryz.prog 34 #[.agg #[.string ⟨#[97, 97]⟩, .slice A 5 cp], .string ⟨#[97, 98, 44, 32, 48, 49, 50, 59, 32, 55, 55, 45, 32, 120]⟩] w fun e w' => e = .returned (.tuple #[.agg #[.string ⟨#[]⟩, .string ⟨#[]⟩, .string ⟨#[]⟩, .string ⟨#[]⟩, .string ⟨#[]⟩, .string ⟨#[]⟩, .string ⟨#[]⟩, .string ⟨#[]⟩, .string ⟨#[]⟩], .int .i64 1, .int .i64 4]) ∧ Below w.heap.size w w' := by
  have := FRead_any exS (by decide) (by decide) (.slice A 5 cp) [97, 98, 44, 32, 48, 49, 50, 59, 32, 55, 55, 45, 32, 120] (by decide) w hP hg
  rw [ex_valid, ex24_r2] at this
  exact this
theorem read_ex3 (A : Option Addr) (cp : Nat) (w : World) (hP : PartsAt w (.slice A 5 cp) exS.ps) (hg : Glob4 w) : Calls Tryz.prog 34 #[.agg #[.string ⟨#[97, 97]⟩, .slice A 5 cp], .string ⟨#[97, 98, 47, 51, 44, 32, 49, 50, 59, 32, 55, 55, 45, 32, 120]⟩] w fun e w' => e = .returned (.tuple #[.agg #[.string ⟨#[]⟩, .string ⟨#[]⟩, .string ⟨#[]⟩, .string ⟨#[]⟩, .string ⟨#[]⟩, .string ⟨#[]⟩, .string ⟨#[]⟩, .string ⟨#[]⟩, .string ⟨#[]⟩], .int .i64 5, .int .i64 2]) ∧ Below w.heap.size w w' := by
  have := FRead_any exS (by decide) (by decide) (.slice A 5 cp) [97, 98, 47, 51, 44, 32, 49, 50, 59, 32, 55, 55, 45, 32, 120] (by decide) w hP hg
  rw [ex_valid, ex24_r3] at this
  exact this
theorem read_ex4 (w : World) (hg : Glob4 w) : Calls Tryz.prog 34 #[.agg #[.string ⟨#[]⟩, .slice none 0 0], .string ⟨#[120]⟩] w fun e w' => e = .returned (.tuple #[.agg #[.string ⟨#[]⟩, .string ⟨#[]⟩, .string ⟨#[]⟩, .string ⟨#[]⟩, .string ⟨#[]⟩, .string ⟨#[]⟩, .string ⟨#[]⟩, .string ⟨#[]⟩, .string ⟨#[]⟩], .int .i64 1, .int .i64 (-1)]) ∧ Below w.heap.size w w' := by
  have := FRead_any ⟨[], []⟩ (by decide) (by decide) (.slice none 0 0) [120] (by decide) w (RowsAt.nil _ _) hg
  rw [show validB isNm ⟨[], []⟩ = false by decide +kernel, readF_no] at this
  exact this
theorem ex24_eq (w : World) : (binOp .eql 26 (.agg #[.string ⟨#[]⟩, .string ⟨#[51]⟩, .string ⟨#[]⟩, .string ⟨#[49, 50]⟩, .string ⟨#[97, 98]⟩, .string ⟨#[]⟩, .string ⟨#[]⟩, .string ⟨#[120]⟩, .string ⟨#[55, 55]⟩]) (.agg #[.string ⟨#[]⟩, .string ⟨#[51]⟩, .string ⟨#[]⟩, .string ⟨#[49, 50]⟩, .string ⟨#[97, 98]⟩, .string ⟨#[]⟩, .string ⟨#[]⟩, .string ⟨#[120]⟩, .string ⟨#[55, 55]⟩])).run Tryz.prog w = .ok (.bool true) w := by
  have := fields_eq [] [51] [] [49, 50] [97, 98] [] [] [120] [55, 55] [] [51] [] [49, 50] [97, 98] [] [] [120] [55, 55] w
  rw [decide_eq_true rfl] at this
  exact this
set_option maxRecDepth 100000 in
set_option maxHeartbeats 8000000 in
theorem head24_any (w : World) (hg : Glob4 w) : Calls Tryz.prog 30 #[] w fun e w' => e = .returned (.bool true) ∧ Below w.heap.size w w' := by
  have HG0 := hide hg
  have HGo := hide hg
  clear hg
  go_enter Tryz.func30, Tryz.ntmps30
  go_wp2_with fail
  refine (sample_any w).mono ?_
  rintro e w1 ⟨v, rfl, hP, hb⟩
  obtain ⟨A, cp, rfl, _⟩ := hP.slice
  rw [show exS.ps.length = 5 from rfl] at hP ⊢
  obtain ⟨X1, X2, B2⟩ := box2 w1 24 #[.string ⟨#[97, 97]⟩, .slice A 5 cp] 26 #[.string ⟨#[]⟩, .string ⟨#[]⟩, .string ⟨#[]⟩, .string ⟨#[49, 50]⟩, .string ⟨#[97, 98]⟩, .string ⟨#[]⟩, .string ⟨#[]⟩, .string ⟨#[120]⟩, .string ⟨#[55, 55]⟩]
  have HXs := hide X1
  have HXf := hide X2
  have HP := hide (hP.to B2)
  have HG := hide ((HG0.out.to hb).to B2)
  have HB := hide (below_to hb (Nat.le_refl _) B2)
  have lwf : w.heap.size ≤ w1.heap.size + 1 := by have := hb.size; omega
  clear X1 X2 B2 hP hb HG0
  go_upto_region 3 with fail
  generalize (w1.alloc (.cells #[.string ⟨#[97, 97]⟩, .slice A 5 cp] 24)).alloc (.cells #[.string ⟨#[]⟩, .string ⟨#[]⟩, .string ⟨#[]⟩, .string ⟨#[49, 50]⟩, .string ⟨#[97, 98]⟩, .string ⟨#[]⟩, .string ⟨#[]⟩, .string ⟨#[120]⟩, .string ⟨#[55, 55]⟩] 26) = w2 at *
  have bs1 : w1.heap.size ≠ w1.heap.size + 1 := by omega
  generalize w1.heap.size + 1 = bf at *
  generalize w1.heap.size = b1 at *
  have s0 : w2.cell? ⟨b1, 0, none⟩ = some (.string ⟨#[97, 97]⟩) := HXs.out.cell 0
  have s1 : w2.cell? ⟨b1, 1, none⟩ = some (.slice A 5 cp) := HXs.out.cell 1
  have f0 : w2.cell? ⟨bf, 0, none⟩ = some (.string ⟨#[]⟩) := HXf.out.cell 0
  have f1 : w2.cell? ⟨bf, 1, none⟩ = some (.string ⟨#[]⟩) := HXf.out.cell 1
  have f2 : w2.cell? ⟨bf, 2, none⟩ = some (.string ⟨#[]⟩) := HXf.out.cell 2
  have f3 : w2.cell? ⟨bf, 3, none⟩ = some (.string ⟨#[49, 50]⟩) := HXf.out.cell 3
  have f4 : w2.cell? ⟨bf, 4, none⟩ = some (.string ⟨#[97, 98]⟩) := HXf.out.cell 4
  have f5 : w2.cell? ⟨bf, 5, none⟩ = some (.string ⟨#[]⟩) := HXf.out.cell 5
  have f6 : w2.cell? ⟨bf, 6, none⟩ = some (.string ⟨#[]⟩) := HXf.out.cell 6
  have f7 : w2.cell? ⟨bf, 7, none⟩ = some (.string ⟨#[120]⟩) := HXf.out.cell 7
  have f8 : w2.cell? ⟨bf, 8, none⟩ = some (.string ⟨#[55, 55]⟩) := HXf.out.cell 8
  go_wp2_with fail
  refine (write_ex A cp w2 HP.out HG.out).mono ?_
  rintro e w3 ⟨rfl, hb⟩
  clear s0 s1 f0 f1 f2 f3 f4 f5 f6 f7 f8
  have zHP := hide (HP.out.to hb)
  have zHG := hide (HG.out.to hb)
  have zHXs := hide (HXs.out.to hb)
  have zHXf := hide (HXf.out.to hb)
  have zHB := hide (below_to HB.out (Nat.le_refl _) hb)
  clear hb HB HP HG HXs HXf
  have HP := zHP
  have HG := zHG
  have HXs := zHXs
  have HXf := zHXf
  have HB := zHB
  clear zHP zHG zHXs zHXf zHB
  have s0 : w3.cell? ⟨b1, 0, none⟩ = some (.string ⟨#[97, 97]⟩) := HXs.out.cell 0
  have s1 : w3.cell? ⟨b1, 1, none⟩ = some (.slice A 5 cp) := HXs.out.cell 1
  go_wp2_with fail
  refine (read_ex0 A cp w3 HP.out HG.out).mono ?_
  rintro e w4 ⟨rfl, hb0⟩
  clear s0 s1
  have hb : Below w3.heap.size w3 (w4.alloc (.cells #[.string ⟨#[]⟩, .string ⟨#[51]⟩, .string ⟨#[]⟩, .string ⟨#[49, 50]⟩, .string ⟨#[97, 98]⟩, .string ⟨#[]⟩, .string ⟨#[]⟩, .string ⟨#[120]⟩, .string ⟨#[55, 55]⟩] 26)) := below_alloc hb0 (Nat.le_refl _) _
  have nbb : bf ≠ w4.heap.size := by have := HXf.out.lt; have := hb0.size; omega
  have yHXb := hide (Blk.new w4 26 #[.string ⟨#[]⟩, .string ⟨#[51]⟩, .string ⟨#[]⟩, .string ⟨#[49, 50]⟩, .string ⟨#[97, 98]⟩, .string ⟨#[]⟩, .string ⟨#[]⟩, .string ⟨#[120]⟩, .string ⟨#[55, 55]⟩])
  have zHP := hide (HP.out.to hb)
  have zHG := hide (HG.out.to hb)
  have zHXs := hide (HXs.out.to hb)
  have zHXf := hide (HXf.out.to hb)
  have zHB := hide (below_to HB.out (Nat.le_refl _) hb)
  clear hb HB HP HG HXs HXf
  have HP := zHP
  have HG := zHG
  have HXs := zHXs
  have HXf := zHXf
  have HB := zHB
  clear zHP zHG zHXs zHXf zHB
  have HXb := yHXb
  clear yHXb
  clear hb0
  go_upto_region 5 with fail
  generalize w4.alloc (.cells #[.string ⟨#[]⟩, .string ⟨#[51]⟩, .string ⟨#[]⟩, .string ⟨#[49, 50]⟩, .string ⟨#[97, 98]⟩, .string ⟨#[]⟩, .string ⟨#[]⟩, .string ⟨#[120]⟩, .string ⟨#[55, 55]⟩] 26) = w5 at *
  generalize w4.heap.size = bb at *
  have s0 : w5.cell? ⟨b1, 0, none⟩ = some (.string ⟨#[97, 97]⟩) := HXs.out.cell 0
  have s1 : w5.cell? ⟨b1, 1, none⟩ = some (.slice A 5 cp) := HXs.out.cell 1
  go_wp2_with fail
  refine (read_ex1 A cp w5 HP.out HG.out).mono ?_
  rintro e w6 ⟨rfl, hb0⟩
  clear s0 s1
  have hb : Below w5.heap.size w5 (w6.alloc (.cells #[.string ⟨#[]⟩, .string ⟨#[]⟩, .string ⟨#[]⟩, .string ⟨#[]⟩, .string ⟨#[]⟩, .string ⟨#[]⟩, .string ⟨#[]⟩, .string ⟨#[]⟩, .string ⟨#[]⟩] 26)) := below_alloc hb0 (Nat.le_refl _) _
  have zHP := hide (HP.out.to hb)
  have zHG := hide (HG.out.to hb)
  have zHXs := hide (HXs.out.to hb)
  have zHXf := hide (HXf.out.to hb)
  have zHXb := hide (HXb.out.to hb)
  have zHB := hide (below_to HB.out (Nat.le_refl _) hb)
  clear hb HB HP HG HXs HXf HXb
  have HP := zHP
  have HG := zHG
  have HXs := zHXs
  have HXf := zHXf
  have HXb := zHXb
  have HB := zHB
  clear zHP zHG zHXs zHXf zHXb zHB
  clear hb0
  go_upto_region 6 with fail
  generalize w6.alloc (.cells #[.string ⟨#[]⟩, .string ⟨#[]⟩, .string ⟨#[]⟩, .string ⟨#[]⟩, .string ⟨#[]⟩, .string ⟨#[]⟩, .string ⟨#[]⟩, .string ⟨#[]⟩, .string ⟨#[]⟩] 26) = w7 at *
  generalize w6.heap.size = bu1 at *
  have s0 : w7.cell? ⟨b1, 0, none⟩ = some (.string ⟨#[97, 97]⟩) := HXs.out.cell 0
  have s1 : w7.cell? ⟨b1, 1, none⟩ = some (.slice A 5 cp) := HXs.out.cell 1
  go_wp2_with fail
  refine (read_ex2 A cp w7 HP.out HG.out).mono ?_
  rintro e w8 ⟨rfl, hb0⟩
  clear s0 s1
  have hb : Below w7.heap.size w7 (w8.alloc (.cells #[.string ⟨#[]⟩, .string ⟨#[]⟩, .string ⟨#[]⟩, .string ⟨#[]⟩, .string ⟨#[]⟩, .string ⟨#[]⟩, .string ⟨#[]⟩, .string ⟨#[]⟩, .string ⟨#[]⟩] 26)) := below_alloc hb0 (Nat.le_refl _) _
  have zHP := hide (HP.out.to hb)
  have zHG := hide (HG.out.to hb)
  have zHXs := hide (HXs.out.to hb)
  have zHXf := hide (HXf.out.to hb)
  have zHXb := hide (HXb.out.to hb)
  have zHB := hide (below_to HB.out (Nat.le_refl _) hb)
  clear hb HB HP HG HXs HXf HXb
  have HP := zHP
  have HG := zHG
  have HXs := zHXs
  have HXf := zHXf
  have HXb := zHXb
  have HB := zHB
  clear zHP zHG zHXs zHXf zHXb zHB
  clear hb0
  go_upto_region 7 with fail
  generalize w8.alloc (.cells #[.string ⟨#[]⟩, .string ⟨#[]⟩, .string ⟨#[]⟩, .string ⟨#[]⟩, .string ⟨#[]⟩, .string ⟨#[]⟩, .string ⟨#[]⟩, .string ⟨#[]⟩, .string ⟨#[]⟩] 26) = w9 at *
  generalize w8.heap.size = bu2 at *
  have s0 : w9.cell? ⟨b1, 0, none⟩ = some (.string ⟨#[97, 97]⟩) := HXs.out.cell 0
  have s1 : w9.cell? ⟨b1, 1, none⟩ = some (.slice A 5 cp) := HXs.out.cell 1
  go_wp2_with fail
  refine (read_ex3 A cp w9 HP.out HG.out).mono ?_
  rintro e w10 ⟨rfl, hb0⟩
  clear s0 s1
  have hb : Below w9.heap.size w9 (w10.alloc (.cells #[.string ⟨#[]⟩, .string ⟨#[]⟩, .string ⟨#[]⟩, .string ⟨#[]⟩, .string ⟨#[]⟩, .string ⟨#[]⟩, .string ⟨#[]⟩, .string ⟨#[]⟩, .string ⟨#[]⟩] 26)) := below_alloc hb0 (Nat.le_refl _) _
  have zHP := hide (HP.out.to hb)
  have zHG := hide (HG.out.to hb)
  have zHXs := hide (HXs.out.to hb)
  have zHXf := hide (HXf.out.to hb)
  have zHXb := hide (HXb.out.to hb)
  have zHB := hide (below_to HB.out (Nat.le_refl _) hb)
  clear hb HB HP HG HXs HXf HXb
  have HP := zHP
  have HG := zHG
  have HXs := zHXs
  have HXf := zHXf
  have HXb := zHXb
  have HB := zHB
  clear zHP zHG zHXs zHXf zHXb zHB
  clear hb0
  go_upto_region 8 with fail
  generalize w10.alloc (.cells #[.string ⟨#[]⟩, .string ⟨#[]⟩, .string ⟨#[]⟩, .string ⟨#[]⟩, .string ⟨#[]⟩, .string ⟨#[]⟩, .string ⟨#[]⟩, .string ⟨#[]⟩, .string ⟨#[]⟩] 26) = w11 at *
  generalize w10.heap.size = bu3 at *
  have q1 : w11.cell? ⟨bf, 1, none⟩ = some (.string ⟨#[]⟩) := HXf.out.cell 1
  have q2 := HXf.out.frozen 1
  have HF2 := hide (HXf.out.set_ 1 (.string ⟨#[51]⟩))
  have HB2 := hide (HXb.out.far (p := ⟨bf, 1, none⟩) (by show bb ≠ bf; exact fun h => nbb h.symm) (.string ⟨#[51]⟩))
  have HBB := hide (HB.out.setCell (p := ⟨bf, 1, none⟩) lwf (.string ⟨#[51]⟩))
  clear HP HG HXs HXf HXb HB
  go_upto_region 9 with fail
  clear q1 q2
  generalize w11.setCell ⟨bf, 1, none⟩ (.string ⟨#[51]⟩) = v1 at *
  go_wp2_with fail
  refine (read_ex4 v1 (HGo.out.to HBB.out)).mono ?_
  rintro e v2 ⟨rfl, hb0⟩
  have hb : Below v1.heap.size v1 (v2.alloc (.cells #[.string ⟨#[]⟩, .string ⟨#[]⟩, .string ⟨#[]⟩, .string ⟨#[]⟩, .string ⟨#[]⟩, .string ⟨#[]⟩, .string ⟨#[]⟩, .string ⟨#[]⟩, .string ⟨#[]⟩] 26)) := below_alloc hb0 (Nat.le_refl _) _
  have HF3 := hide (HF2.out.to hb)
  have HB3 := hide (HB2.out.to hb)
  have HBC := hide (below_to HBB.out (Nat.le_refl _) hb)
  clear hb hb0 HF2 HB2 HBB
  go_upto_region 10 with fail
  generalize v2.alloc (.cells #[.string ⟨#[]⟩, .string ⟨#[]⟩, .string ⟨#[]⟩, .string ⟨#[]⟩, .string ⟨#[]⟩, .string ⟨#[]⟩, .string ⟨#[]⟩, .string ⟨#[]⟩, .string ⟨#[]⟩] 26) = v3 at *
  generalize v2.heap.size = bz at *
  have f0 : v3.cell? ⟨bf, 0, none⟩ = some (.string ⟨#[]⟩) := HF3.out.cell 0
  have g0 : v3.cell? ⟨bb, 0, none⟩ = some (.string ⟨#[]⟩) := HB3.out.cell 0
  have f1 : v3.cell? ⟨bf, 1, none⟩ = some (.string ⟨#[51]⟩) := HF3.out.cell 1
  have g1 : v3.cell? ⟨bb, 1, none⟩ = some (.string ⟨#[51]⟩) := HB3.out.cell 1
  have f2 : v3.cell? ⟨bf, 2, none⟩ = some (.string ⟨#[]⟩) := HF3.out.cell 2
  have g2 : v3.cell? ⟨bb, 2, none⟩ = some (.string ⟨#[]⟩) := HB3.out.cell 2
  have f3 : v3.cell? ⟨bf, 3, none⟩ = some (.string ⟨#[49, 50]⟩) := HF3.out.cell 3
  have g3 : v3.cell? ⟨bb, 3, none⟩ = some (.string ⟨#[49, 50]⟩) := HB3.out.cell 3
  have f4 : v3.cell? ⟨bf, 4, none⟩ = some (.string ⟨#[97, 98]⟩) := HF3.out.cell 4
  have g4 : v3.cell? ⟨bb, 4, none⟩ = some (.string ⟨#[97, 98]⟩) := HB3.out.cell 4
  have f5 : v3.cell? ⟨bf, 5, none⟩ = some (.string ⟨#[]⟩) := HF3.out.cell 5
  have g5 : v3.cell? ⟨bb, 5, none⟩ = some (.string ⟨#[]⟩) := HB3.out.cell 5
  have f6 : v3.cell? ⟨bf, 6, none⟩ = some (.string ⟨#[]⟩) := HF3.out.cell 6
  have g6 : v3.cell? ⟨bb, 6, none⟩ = some (.string ⟨#[]⟩) := HB3.out.cell 6
  have f7 : v3.cell? ⟨bf, 7, none⟩ = some (.string ⟨#[120]⟩) := HF3.out.cell 7
  have g7 : v3.cell? ⟨bb, 7, none⟩ = some (.string ⟨#[120]⟩) := HB3.out.cell 7
  have f8 : v3.cell? ⟨bf, 8, none⟩ = some (.string ⟨#[55, 55]⟩) := HF3.out.cell 8
  have g8 : v3.cell? ⟨bb, 8, none⟩ = some (.string ⟨#[55, 55]⟩) := HB3.out.cell 8
  have eqT : ((⟨#[97, 98, 44, 32, 49, 50, 59, 32, 55, 55, 45, 32, 120]⟩ : ByteArray).toList == (⟨#[97, 98, 44, 32, 49, 50, 59, 32, 55, 55, 45, 32, 120]⟩ : ByteArray).toList) = true := by simp
  have EQ := ex24_eq
  go_wp2_with fail
  go_ret
  exact ⟨rfl, HBC.out⟩
end Go.Proofs.YtdcafoekbnacnaaGreatDoor

/- Chapter 24: few; the walk of FormatReads. -/
set_option linter.unusedVariables false
set_option linter.unusedSimpArgs false
namespace Go.Proofs.YtdcafoekbnacnaaGreatDoor
open Go.RowKit Go.Shelf
attribute [local go_sem] Oper.semAt_some

set_option maxRecDepth 100000 in
set_option maxHeartbeats 4000000 in
theorem few24_any (s : Sch) (hl0 : s.ps.length ≤ 8796093022208) (v : Value) (f0 f1 f2 f3 f4 f5 f6 f7 f8 : List UInt8) (t : List UInt8) (w : World) (hP : PartsAt w v s.ps) :
    Calls Tryz.prog 31 #[.agg #[.string (bs s.c), v], .agg #[.string (bs f0), .string (bs f1), .string (bs f2), .string (bs f3), .string (bs f4), .string (bs f5), .string (bs f6), .string (bs f7), .string (bs f8)], .string (bs t)] w fun e w' => e = .returned (.bool (fewB s && (shortF [f0, f1, f2, f3, f4, f5, f6, f7, f8] && decide (t.length ≤ 800)))) ∧ Below w.heap.size w w' := by
  have HP0 := hide hP
  obtain ⟨A, c, rfl, hc⟩ := hP.slice
  clear hP
  have hsz := bs_size t
  go_enter Tryz.func31, Tryz.ntmps31
  go_wp2_with fail
  obtain ⟨Xs, Xf, B0⟩ := box2 w 24 #[.string (bs s.c), .slice A s.ps.length c] 26 #[.string (bs f0), .string (bs f1), .string (bs f2), .string (bs f3), .string (bs f4), .string (bs f5), .string (bs f6), .string (bs f7), .string (bs f8)]
  have HXs := hide Xs
  have HXf := hide Xf
  have HB := hide B0
  have HP := hide (HP0.out.to B0)
  clear Xs Xf B0 HP0
  generalize (w.alloc (.cells #[.string (bs s.c), .slice A s.ps.length c] 24)).alloc (.cells #[.string (bs f0), .string (bs f1), .string (bs f2), .string (bs f3), .string (bs f4), .string (bs f5), .string (bs f6), .string (bs f7), .string (bs f8)] 26) = w1 at *
  obtain ⟨U, hU, g, u0, rfl, hgu, hgi⟩ := cls w1
  have xs_0 := fun u => (((HXs.out.to (hgu u)).cell 0).trans (show _ = some (Value.string (bs s.c)) from rfl))
  have xs_1 := fun u => (((HXs.out.to (hgu u)).cell 1).trans (show _ = some (Value.slice A s.ps.length c) from rfl))
  have xf_0 := fun u => (((HXf.out.to (hgu u)).cell 0).trans (show _ = some (Value.string (bs f0)) from rfl))
  have xf_1 := fun u => (((HXf.out.to (hgu u)).cell 1).trans (show _ = some (Value.string (bs f1)) from rfl))
  have xf_2 := fun u => (((HXf.out.to (hgu u)).cell 2).trans (show _ = some (Value.string (bs f2)) from rfl))
  have xf_3 := fun u => (((HXf.out.to (hgu u)).cell 3).trans (show _ = some (Value.string (bs f3)) from rfl))
  have xf_4 := fun u => (((HXf.out.to (hgu u)).cell 4).trans (show _ = some (Value.string (bs f4)) from rfl))
  have xf_5 := fun u => (((HXf.out.to (hgu u)).cell 5).trans (show _ = some (Value.string (bs f5)) from rfl))
  have xf_6 := fun u => (((HXf.out.to (hgu u)).cell 6).trans (show _ = some (Value.string (bs f6)) from rfl))
  have xf_7 := fun u => (((HXf.out.to (hgu u)).cell 7).trans (show _ = some (Value.string (bs f7)) from rfl))
  have xf_8 := fun u => (((HXf.out.to (hgu u)).cell 8).trans (show _ = some (Value.string (bs f8)) from rfl))
  have CF : ∀ u, Calls Tryz.prog 16 #[.agg #[.string (bs s.c), .slice A s.ps.length c]] (g u) fun e w' => e = .returned (.bool (fewB s)) ∧ ∃ u', w' = g u' := fun u => cls_call hgu hgi (fun W hb => Few_any s hl0 (.slice A s.ps.length c) W (HP.out.to hb)) u
  have CS : ∀ u, Calls Tryz.prog 17 #[.agg #[.string (bs f0), .string (bs f1), .string (bs f2), .string (bs f3), .string (bs f4), .string (bs f5), .string (bs f6), .string (bs f7), .string (bs f8)]] (g u) fun e w' => e = .returned (.bool (shortF [f0, f1, f2, f3, f4, f5, f6, f7, f8])) ∧ ∃ u', w' = g u' := fun u => cls_call hgu hgi (fun W hb => Short_any f0 f1 f2 f3 f4 f5 f6 f7 f8 W) u
  obtain ⟨R, hR⟩ : ∃ R, (fewB s && (shortF [f0, f1, f2, f3, f4, f5, f6, f7, f8] && decide (t.length ≤ 800))) = R := ⟨_, rfl⟩
  have HR := hide hR
  cases h1 : fewB s with
  | false =>
    rw [h1] at CF hR
    have HV : Hid (R = false) := hR.symm
    clear h1 hR
    go_wp2_with (first | ((with_reducible refine (CF _).mono ?_); rintro e w' ⟨rfl, u, rfl⟩) | ((with_reducible refine (CS _).mono ?_); rintro e w' ⟨rfl, u, rfl⟩))
    all_goals go_ret
    all_goals exact ⟨ret_bool (by rw [HR.out, HV.out]), below_to HB.out (Nat.le_refl _) (hgu _)⟩
  | true =>
    rw [h1, Bool.true_and] at hR
    rw [h1] at CF
    clear h1
    cases h2 : shortF [f0, f1, f2, f3, f4, f5, f6, f7, f8] with
    | false =>
      rw [h2] at CS hR
      have HV : Hid (R = false) := hR.symm
      clear h2 hR
      go_wp2_with (first | ((with_reducible refine (CF _).mono ?_); rintro e w' ⟨rfl, u, rfl⟩) | ((with_reducible refine (CS _).mono ?_); rintro e w' ⟨rfl, u, rfl⟩))
      all_goals go_ret
      all_goals exact ⟨ret_bool (by rw [HR.out, HV.out]), below_to HB.out (Nat.le_refl _) (hgu _)⟩
    | true =>
      rw [h2, Bool.true_and] at hR
      rw [h2] at CS
      clear h2
      have HV : Hid (decide ((t.length : Int) ≤ 800) = R) := by show _ = _; rw [← hR]; by_cases h : t.length ≤ 800; rw [decide_eq_true h, decide_eq_true (by omega)]; rw [decide_eq_false h, decide_eq_false (by omega)]
      clear hR
      have hv := HV.out
      go_wp2_with (first | ((with_reducible refine (CF _).mono ?_); rintro e w' ⟨rfl, u, rfl⟩) | ((with_reducible refine (CS _).mono ?_); rintro e w' ⟨rfl, u, rfl⟩))
      all_goals go_ret
      all_goals exact ⟨ret_bool (by first | rw [HR.out] | rw [HR.out, HV.out]), below_to HB.out (Nat.le_refl _) (hgu _)⟩
theorem few24_facts {s : Sch} {f : List (List UInt8)} {t : List UInt8} (h : (fewB s && (shortF f && decide (t.length ≤ 800))) = true) : fewB s = true ∧ shortF f = true ∧ t.length ≤ 800 := by
  simpa using h
theorem writ_short {s : Sch} {f : List (List UInt8)} (h : Fits isNm numB s f) : (writL f s.ps).length ≤ 2000 := by
  have h8 := h.valid.n8
  have := writL_len (f := f) (fun k => Nat.le_trans (fits_len h k) (by decide)) s.ps (fun p hp => ⟨Nat.le_trans (small_facts (h.valid.part p hp).2.1).1 (by decide), Nat.le_trans (small_facts (h.valid.part p hp).2.2).1 (by decide)⟩)
  omega
theorem fw_yes {s : Sch} {f : List (List UInt8)} (h : fitsB isNm numB s f = true) : fwV s f = writL f s.ps ∧ fwE s f = 0 := by unfold fwV fwE; rw [h]; exact ⟨rfl, rfl⟩
theorem fw_no {s : Sch} {f : List (List UInt8)} (h : fitsB isNm numB s f = false) : fwV s f = [] ∧ fwE s f = 1 := by unfold fwV fwE; rw [h]; exact ⟨rfl, rfl⟩
set_option maxRecDepth 100000 in
set_option maxHeartbeats 4000000 in
theorem reads_law (s : Sch) (hl0 : s.ps.length ≤ 8796093022208) (hc0 : s.c.length ≤ 140737488355328) (v : Value) (f0 f1 f2 f3 f4 f5 f6 f7 f8 : List UInt8) (w : World) (hP : PartsAt w v s.ps) (hg : Glob4 w) :
    Calls Tryz.prog 11 #[.agg #[.string (bs s.c), v], .agg #[.string (bs f0), .string (bs f1), .string (bs f2), .string (bs f3), .string (bs f4), .string (bs f5), .string (bs f6), .string (bs f7), .string (bs f8)]] w fun e w' => e = .returned (.bool true) ∧ Below w.heap.size w w' := by
  have HP0 := hide hP
  have HG0 := hide hg
  have HGo := hide hg
  obtain ⟨A, c, rfl, hc⟩ := hP.slice
  clear hP hg
  go_enter Tryz.func11, Tryz.ntmps11
  go_wp2_with fail
  obtain ⟨Xs, Xf, B0⟩ := box2 w 24 #[.string (bs s.c), .slice A s.ps.length c] 26 #[.string (bs f0), .string (bs f1), .string (bs f2), .string (bs f3), .string (bs f4), .string (bs f5), .string (bs f6), .string (bs f7), .string (bs f8)]
  have HXs := hide Xs
  have HXf := hide Xf
  have HB := hide B0
  have HP := hide (HP0.out.to B0)
  have HG := hide (HG0.out.to B0)
  clear Xs Xf B0 HP0 HG0
  generalize (w.alloc (.cells #[.string (bs s.c), .slice A s.ps.length c] 24)).alloc (.cells #[.string (bs f0), .string (bs f1), .string (bs f2), .string (bs f3), .string (bs f4), .string (bs f5), .string (bs f6), .string (bs f7), .string (bs f8)] 26) = w1 at *
  refine (head24_any w1 HG.out).mono ?_
  rintro e w2 ⟨rfl, hb⟩
  have zHXs := hide (HXs.out.to hb)
  have zHXf := hide (HXf.out.to hb)
  have zHP := hide (HP.out.to hb)
  have zHG := hide (HG.out.to hb)
  have zHB := hide (below_to HB.out (Nat.le_refl _) hb)
  clear hb HB HXs HXf HP HG
  have HXs := zHXs
  have HXf := zHXf
  have HP := zHP
  have HG := zHG
  have HB := zHB
  clear zHXs zHXf zHP zHG zHB
  obtain ⟨U, hU, g, u0, rfl, hgu, hgi⟩ := cls w2
  have xs_0 := fun u => (((HXs.out.to (hgu u)).cell 0).trans (show _ = some (Value.string (bs s.c)) from rfl))
  have xs_1 := fun u => (((HXs.out.to (hgu u)).cell 1).trans (show _ = some (Value.slice A s.ps.length c) from rfl))
  have xf_0 := fun u => (((HXf.out.to (hgu u)).cell 0).trans (show _ = some (Value.string (bs f0)) from rfl))
  have xf_1 := fun u => (((HXf.out.to (hgu u)).cell 1).trans (show _ = some (Value.string (bs f1)) from rfl))
  have xf_2 := fun u => (((HXf.out.to (hgu u)).cell 2).trans (show _ = some (Value.string (bs f2)) from rfl))
  have xf_3 := fun u => (((HXf.out.to (hgu u)).cell 3).trans (show _ = some (Value.string (bs f3)) from rfl))
  have xf_4 := fun u => (((HXf.out.to (hgu u)).cell 4).trans (show _ = some (Value.string (bs f4)) from rfl))
  have xf_5 := fun u => (((HXf.out.to (hgu u)).cell 5).trans (show _ = some (Value.string (bs f5)) from rfl))
  have xf_6 := fun u => (((HXf.out.to (hgu u)).cell 6).trans (show _ = some (Value.string (bs f6)) from rfl))
  have xf_7 := fun u => (((HXf.out.to (hgu u)).cell 7).trans (show _ = some (Value.string (bs f7)) from rfl))
  have xf_8 := fun u => (((HXf.out.to (hgu u)).cell 8).trans (show _ = some (Value.string (bs f8)) from rfl))
  have CK : ∀ u, Calls Tryz.prog 31 #[.agg #[.string (bs s.c), .slice A s.ps.length c], .agg #[.string (bs f0), .string (bs f1), .string (bs f2), .string (bs f3), .string (bs f4), .string (bs f5), .string (bs f6), .string (bs f7), .string (bs f8)], .string ⟨#[]⟩] (g u) fun e w' => e = .returned (.bool (fewB s && (shortF [f0, f1, f2, f3, f4, f5, f6, f7, f8] && decide (([] : List UInt8).length ≤ 800)))) ∧ ∃ u', w' = g u' := fun u => cls_call hgu hgi (fun W hb => few24_any s hl0 (.slice A s.ps.length c) f0 f1 f2 f3 f4 f5 f6 f7 f8 [] W (HP.out.to hb)) u
  have CW : ∀ u, Calls Tryz.prog 32 #[.agg #[.string (bs s.c), .slice A s.ps.length c], .agg #[.string (bs f0), .string (bs f1), .string (bs f2), .string (bs f3), .string (bs f4), .string (bs f5), .string (bs f6), .string (bs f7), .string (bs f8)]] (g u) fun e w' => e = .returned (.tuple #[.string (bs (fwV s [f0, f1, f2, f3, f4, f5, f6, f7, f8])), .int .i64 (fwE s [f0, f1, f2, f3, f4, f5, f6, f7, f8])]) ∧ ∃ u', w' = g u' := fun u => cls_call hgu hgi (fun W hb => FWrite_any s hl0 hc0 (.slice A s.ps.length c) f0 f1 f2 f3 f4 f5 f6 f7 f8 W (HP.out.to hb) (HG.out.to hb).g) u
  have CA : ∀ u, Calls Tryz.prog 24 #[.agg #[.string (bs s.c), .slice A s.ps.length c], .agg #[.string (bs f0), .string (bs f1), .string (bs f2), .string (bs f3), .string (bs f4), .string (bs f5), .string (bs f6), .string (bs f7), .string (bs f8)]] (g u) fun e w' => e = .returned (.bool (fitsB isNm numB s [f0, f1, f2, f3, f4, f5, f6, f7, f8])) ∧ ∃ u', w' = g u' := fun u => cls_call hgu hgi (fun W hb => Fits_any s hl0 hc0 (.slice A s.ps.length c) f0 f1 f2 f3 f4 f5 f6 f7 f8 W (HP.out.to hb) (HG.out.to hb).g) u
  cases h1 : (fewB s && (shortF [f0, f1, f2, f3, f4, f5, f6, f7, f8] && decide (([] : List UInt8).length ≤ 800))) with
  | false =>
    rw [h1] at CK
    clear h1
    go_wp2_with (first | ((with_reducible refine (CK _).mono ?_); rintro e w' ⟨rfl, u, rfl⟩) | ((with_reducible refine (CW _).mono ?_); rintro e w' ⟨rfl, u, rfl⟩) | ((with_reducible refine (CA _).mono ?_); rintro e w' ⟨rfl, u, rfl⟩))
    all_goals go_ret
    all_goals exact ⟨rfl, below_to HB.out (Nat.le_refl _) (hgu _)⟩
  | true =>
    rw [h1] at CK
    clear h1
    cases h2 : fitsB isNm numB s [f0, f1, f2, f3, f4, f5, f6, f7, f8] with
    | false =>
      rw [(fw_no h2).1, (fw_no h2).2] at CW
      rw [h2] at CA
      clear h2
      have em0 : (bs ([] : List UInt8)).toList.isEmpty = true := by rw [bs_toList]; rfl
      go_wp2_with (first | ((with_reducible refine (CK _).mono ?_); rintro e w' ⟨rfl, u, rfl⟩) | ((with_reducible refine (CW _).mono ?_); rintro e w' ⟨rfl, u, rfl⟩) | ((with_reducible refine (CA _).mono ?_); rintro e w' ⟨rfl, u, rfl⟩))
      all_goals go_ret
      all_goals exact ⟨rfl, below_to HB.out (Nat.le_refl _) (hgu _)⟩
    | true =>
      have hfit := (fitsB_iff isNm numB s [f0, f1, f2, f3, f4, f5, f6, f7, f8] rfl).1 h2
      rw [(fw_yes h2).1, (fw_yes h2).2] at CW
      rw [h2] at CA
      have hvb := (validB_iff isNm s).2 hfit.valid
      have CR : ∀ W, Below (g u0).heap.size (g u0) W → Calls Tryz.prog 34 #[.agg #[.string (bs s.c), .slice A s.ps.length c], .string (bs (writL [f0, f1, f2, f3, f4, f5, f6, f7, f8] s.ps))] W fun e w' => e = .returned (.tuple #[.agg #[.string (bs f0), .string (bs f1), .string (bs f2), .string (bs f3), .string (bs f4), .string (bs f5), .string (bs f6), .string (bs f7), .string (bs f8)], .int .i64 0, .int .i64 0]) ∧ Below W.heap.size W w' := fun W hW => by
        have := FRead_any s hl0 hc0 (.slice A s.ps.length c) (writL [f0, f1, f2, f3, f4, f5, f6, f7, f8] s.ps) (Nat.le_trans (writ_short hfit) (by decide)) W (HP.out.to hW) (HG.out.to hW)
        rw [hvb, readF_writ hfit] at this
        exact this
      have EQ := fun w => (fields_eq f0 f1 f2 f3 f4 f5 f6 f7 f8 f0 f1 f2 f3 f4 f5 f6 f7 f8 w).trans (by rw [decide_eq_true rfl])
      clear h2 hfit hvb
      generalize bs (writL [f0, f1, f2, f3, f4, f5, f6, f7, f8] s.ps) = wr at *
      go_wp2_with (first | ((with_reducible refine (CK _).mono ?_); rintro e w' ⟨rfl, u, rfl⟩) | ((with_reducible refine (CW _).mono ?_); rintro e w' ⟨rfl, u, rfl⟩) | ((with_reducible refine (CA _).mono ?_); rintro e w' ⟨rfl, u, rfl⟩))
      refine (CR _ (hgu _)).mono ?_
      rintro e w5 ⟨rfl, hb⟩
      have hbb : Below (g u).heap.size (g u) (w5.alloc (.cells #[.string (bs f0), .string (bs f1), .string (bs f2), .string (bs f3), .string (bs f4), .string (bs f5), .string (bs f6), .string (bs f7), .string (bs f8)] 26)) := below_alloc hb (Nat.le_refl _) _
      have HX5 := hide (Blk.new w5 26 #[.string (bs f0), .string (bs f1), .string (bs f2), .string (bs f3), .string (bs f4), .string (bs f5), .string (bs f6), .string (bs f7), .string (bs f8)])
      have HF5 := hide ((HXf.out.to (hgu u)).to hbb)
      have HB5 := hide (below_to (below_to HB.out (Nat.le_refl _) (hgu u)) (Nat.le_refl _) hbb)
      clear hb hbb CK CW CA CR HP HG HXs HXf HB xs_0 xs_1 xf_0 xf_1 xf_2 xf_3 xf_4 xf_5 xf_6 xf_7 xf_8
      go_upto_region 8 with fail
      generalize w5.alloc (.cells #[.string (bs f0), .string (bs f1), .string (bs f2), .string (bs f3), .string (bs f4), .string (bs f5), .string (bs f6), .string (bs f7), .string (bs f8)] 26) = w6 at *
      generalize w5.heap.size = bx at *
      have y0 : w6.cell? ⟨bx, 0, none⟩ = some (.string (bs f0)) := HX5.out.cell 0
      have z0 : w6.cell? ⟨w.heap.size + 1, 0, none⟩ = some (.string (bs f0)) := HF5.out.cell 0
      have y1 : w6.cell? ⟨bx, 1, none⟩ = some (.string (bs f1)) := HX5.out.cell 1
      have z1 : w6.cell? ⟨w.heap.size + 1, 1, none⟩ = some (.string (bs f1)) := HF5.out.cell 1
      have y2 : w6.cell? ⟨bx, 2, none⟩ = some (.string (bs f2)) := HX5.out.cell 2
      have z2 : w6.cell? ⟨w.heap.size + 1, 2, none⟩ = some (.string (bs f2)) := HF5.out.cell 2
      have y3 : w6.cell? ⟨bx, 3, none⟩ = some (.string (bs f3)) := HX5.out.cell 3
      have z3 : w6.cell? ⟨w.heap.size + 1, 3, none⟩ = some (.string (bs f3)) := HF5.out.cell 3
      have y4 : w6.cell? ⟨bx, 4, none⟩ = some (.string (bs f4)) := HX5.out.cell 4
      have z4 : w6.cell? ⟨w.heap.size + 1, 4, none⟩ = some (.string (bs f4)) := HF5.out.cell 4
      have y5 : w6.cell? ⟨bx, 5, none⟩ = some (.string (bs f5)) := HX5.out.cell 5
      have z5 : w6.cell? ⟨w.heap.size + 1, 5, none⟩ = some (.string (bs f5)) := HF5.out.cell 5
      have y6 : w6.cell? ⟨bx, 6, none⟩ = some (.string (bs f6)) := HX5.out.cell 6
      have z6 : w6.cell? ⟨w.heap.size + 1, 6, none⟩ = some (.string (bs f6)) := HF5.out.cell 6
      have y7 : w6.cell? ⟨bx, 7, none⟩ = some (.string (bs f7)) := HX5.out.cell 7
      have z7 : w6.cell? ⟨w.heap.size + 1, 7, none⟩ = some (.string (bs f7)) := HF5.out.cell 7
      have y8 : w6.cell? ⟨bx, 8, none⟩ = some (.string (bs f8)) := HX5.out.cell 8
      have z8 : w6.cell? ⟨w.heap.size + 1, 8, none⟩ = some (.string (bs f8)) := HF5.out.cell 8
      go_wp2_with fail
      go_ret
      exact ⟨rfl, HB5.out⟩
end Go.Proofs.YtdcafoekbnacnaaGreatDoor
