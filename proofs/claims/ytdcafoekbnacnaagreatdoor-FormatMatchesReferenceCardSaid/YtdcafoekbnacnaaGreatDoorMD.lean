/- Several texts as one, in build order. -/
import Derived.Test.YtdcafoekbnacnaaGreatDoorMC
import Derived.Test.YtdcafoekbnacnaaGreatDoorMB
import Derived.Lib.ItoaNum
import Derived.BigQuiet
import Derived.Deep.DeepCutAuto
/- Plain laws of formats: where the reference's reading stands. No program in sight. -/
set_option linter.unusedVariables false
set_option linter.unusedSimpArgs false
namespace Go.Proofs.YtdcafoekbnacnaaGreatDoor
open Go.RowKit

def fin24 (s : Sch) (t : List UInt8) : List (List UInt8) × Int × Int := readF (validB isNm s) numB s.ps t
/-- the parts from a on, the text from j on, what was read -/
structure RdJ (s : Sch) (t : List UInt8) (a j : Nat) (out : List (List UInt8)) : Prop where
  eq : fin24 s t = outF t.length (readR (mrk s.ps) numB (s.ps.drop a) (t.drop j) out)
  len : out.length = 9
  al : a ≤ s.ps.length
  jl : j ≤ t.length
theorem RdJ.start {s : Sch} {t : List UInt8} (hv : validB isNm s = true) : RdJ s t 0 0 zeroF := ⟨by unfold fin24; rw [hv]; exact readF_yes _ _, rfl, Nat.zero_le _, Nat.zero_le _⟩
theorem RdJ.miss {s : Sch} {t : List UInt8} {a j k : Nat} {out : List (List UInt8)} (h : RdJ s t a j out) (hk : k ≤ t.length) (hr : readR (mrk s.ps) numB (s.ps.drop a) (t.drop j) out = .miss (t.length - k)) : fin24 s t = (zeroF, missE k t.length, (k : Int)) := by
  rw [h.eq, hr]
  show ((zeroF, if t.length - k = 0 then (6 : Int) else 5, (t.length : Int) - ((t.length - k : Nat) : Int)) : List (List UInt8) × Int × Int) = _
  rw [show (t.length : Int) - ((t.length - k : Nat) : Int) = (k : Int) by omega]
  unfold missE
  by_cases hh : k = t.length
  · rw [if_pos (by omega), if_pos hh]
  · rw [if_neg (by omega), if_neg hh]
theorem RdJ.none {s : Sch} {t : List UInt8} {a j : Nat} {out : List (List UInt8)} (h : RdJ s t a j out) (hv : Valid isNm s) (hc : t.drop j ≠ [] ∨ (s.ps.drop a).any (·.need) = true) (hn : ∀ p ∈ nxtL (s.ps.drop a), ¬ p.b <+: t.drop j) : fin24 s t = (zeroF, missE j t.length, (j : Int)) := by
  refine h.miss h.jl ?_
  rw [read_find _ _ (hv.told a h.al) hc, find_none _ hn]
  dsimp only
  rw [List.length_drop]
theorem RdJ.done {s : Sch} {t : List UInt8} {a : Nat} {out : List (List UInt8)} (h : RdJ s t a t.length out) (hn : (s.ps.drop a).any (·.need) = false) : fin24 s t = (out, 0, 0) := by
  rw [h.eq, List.drop_length, read_done _ hn]; rfl
/-- a part that stands there -/
structure StdP (s : Sch) (t : List UInt8) (a j m : Nat) (p : Prt) : Prop where
  lt : m < (nxtL (s.ps.drop a)).length
  at_ : (nxtL (s.ps.drop a))[m]? = some p
  ps : s.ps[a + m]? = some p
  pre : p.b <+: t.drop j
theorem StdP.mk' {s : Sch} {t : List UInt8} {a j m : Nat} {p : Prt} (hm : m < (nxtL (s.ps.drop a)).length) (hp : s.ps[a + m]? = some p) (hb : p.b <+: t.drop j) : StdP s t a j m p :=
  ⟨hm, by rw [nxt_at _ _ hm, List.getElem?_drop]; exact hp, hp, hb⟩
theorem StdP.len {s : Sch} {t : List UInt8} {a j m : Nat} {p : Prt} (h : StdP s t a j m p) (hj : j ≤ t.length) : j + p.b.length ≤ t.length := by
  have := h.pre.length_le
  rw [List.length_drop] at this
  omega
theorem RdJ.step {s : Sch} {t : List UInt8} {a j m : Nat} {p : Prt} {out : List (List UInt8)} (h : RdJ s t a j out) (hv : Valid isNm s) (hc : t.drop j ≠ [] ∨ (s.ps.drop a).any (·.need) = true) (hs : StdP s t a j m p) :
    readR (mrk s.ps) numB (s.ps.drop a) (t.drop j) out = stepR (mrk s.ps) numB p (s.ps.drop (a + m + 1)) (t.drop j) out := by
  rw [read_find _ _ (hv.told a h.al) hc, (find_only _ _ (hv.told a h.al) m p hs.at_ hs.pre).1]
  dsimp only
  rw [List.drop_drop, Nat.add_assoc]
theorem RdJ.arg {s : Sch} {t : List UInt8} {a j m e : Nat} {p : Prt} {out : List (List UInt8)} (h : RdJ s t a j out) (hv : Valid isNm s) (hc : t.drop j ≠ [] ∨ (s.ps.drop a).any (·.need) = true) (hs : StdP s t a j m p)
    (h1 : ((t.drop (j + p.b.length)).takeWhile fun c => !mrk s.ps c) = (t.drop (j + p.b.length)).take e) (hx : isVal numB p.k ((t.drop (j + p.b.length)).take e) = false) : fin24 s t = (zeroF, 1, ((j + p.b.length : Nat) : Int)) := by
  have hl := hs.len h.jl
  rw [h.eq, h.step hv hc hs]
  unfold stepR
  rw [List.drop_drop, h1, hx]
  show ((zeroF, (1 : Int), (t.length : Int) - ((t.drop (j + p.b.length)).length : Int)) : List (List UInt8) × Int × Int) = _
  rw [List.length_drop, show (t.length : Int) - ((t.length - (j + p.b.length) : Nat) : Int) = ((j + p.b.length : Nat) : Int) by omega]
theorem RdJ.bad {s : Sch} {t : List UInt8} {a j m e : Nat} {p : Prt} {out : List (List UInt8)} (h : RdJ s t a j out) (hv : Valid isNm s) (hc : t.drop j ≠ [] ∨ (s.ps.drop a).any (·.need) = true) (hs : StdP s t a j m p)
    (h1 : ((t.drop (j + p.b.length)).takeWhile fun c => !mrk s.ps c) = (t.drop (j + p.b.length)).take e) (h2 : ((t.drop (j + p.b.length)).dropWhile fun c => !mrk s.ps c) = (t.drop (j + p.b.length)).drop e)
    (hx : isVal numB p.k ((t.drop (j + p.b.length)).take e) = true) (ha : ¬ p.a <+: t.drop (j + p.b.length + e)) (he : j + p.b.length + e ≤ t.length) : fin24 s t = (zeroF, missE (j + p.b.length + e) t.length, ((j + p.b.length + e : Nat) : Int)) := by
  refine h.miss he ?_
  rw [h.step hv hc hs]
  unfold stepR
  rw [List.drop_drop, h1, h2, hx, List.drop_drop, if_pos rfl, if_neg ha, List.length_drop]
theorem RdJ.next {s : Sch} {t : List UInt8} {a j m e : Nat} {p : Prt} {out : List (List UInt8)} (h : RdJ s t a j out) (hv : Valid isNm s) (hc : t.drop j ≠ [] ∨ (s.ps.drop a).any (·.need) = true) (hs : StdP s t a j m p)
    (h1 : ((t.drop (j + p.b.length)).takeWhile fun c => !mrk s.ps c) = (t.drop (j + p.b.length)).take e) (h2 : ((t.drop (j + p.b.length)).dropWhile fun c => !mrk s.ps c) = (t.drop (j + p.b.length)).drop e)
    (hx : isVal numB p.k ((t.drop (j + p.b.length)).take e) = true) (ha : p.a <+: t.drop (j + p.b.length + e)) (he : j + p.b.length + e ≤ t.length) :
    RdJ s t (a + m + 1) (j + p.b.length + e + p.a.length) (out.set p.k.toNat ((t.drop (j + p.b.length)).take e)) := by
  refine ⟨?_, by rw [List.length_set]; exact h.len, ?_, ?_⟩
  · rw [h.eq, h.step hv hc hs]
    unfold stepR
    rw [List.drop_drop, h1, h2, hx, List.drop_drop, if_pos rfl, if_pos ha, List.drop_drop]
  · have := (List.getElem?_eq_some_iff.1 hs.ps).1; omega
  · have := ha.length_le
    rw [List.length_drop] at this
    omega
theorem need_drop {ps : List Prt} {k : Nat} {p : Prt} (hp : ps[k]? = some p) : (ps.drop k).any (·.need) = (p.need || (ps.drop (k + 1)).any (·.need)) := by
  rw [drop_cons hp, List.any_cons]
end Go.Proofs.YtdcafoekbnacnaaGreatDoor

/- The plain side of the reference of layer 22. -/
set_option linter.unusedVariables false
set_option linter.unusedSimpArgs false
namespace Go.Proofs.YtdcafoekbnacnaaGreatDoor
open Go

/-! fractions -/
def comB (a b : Nat) (k : Nat) : Bool := (List.range k).any fun d => decide (2 ≤ d) && (decide (a % d = 0) && decide (b % d = 0))
def commonB (a b : Nat) : Bool := comB a b (a + 1)
theorem comB_succ (a b k : Nat) : comB a b (k + 1) = (comB a b k || (decide (2 ≤ k) && (decide (a % k = 0) && decide (b % k = 0)))) := by
  unfold comB
  rw [List.range_succ, List.any_append]
  simp
theorem comB_two (a b : Nat) : comB a b 2 = false := rfl
theorem comB_mono {a b k m : Nat} (h : comB a b k = true) (hk : k ≤ m) : comB a b m = true := by
  unfold comB at *
  rw [List.any_eq_true] at *
  obtain ⟨d, hd, h⟩ := h
  exact ⟨d, List.mem_range.2 (by have := List.mem_range.1 hd; omega), h⟩
def fracB (a b : Int) : Bool := (decide (a = 0) && decide (b = 0)) || (decide (1 ≤ a) && (decide (a < b) && (decide (b ≤ 9) && !commonB a.toNat b.toNat)))
theorem frac_fin : ∀ a : Nat, a < 10 → ∀ b : Nat, b < 10 → decide (0 ≤ place ((a : Int), (b : Int))) = fracB a b := by decide +kernel
theorem frac_place (a b : Int) : decide (0 ≤ place (a, b)) = fracB a b := by
  by_cases h : 0 ≤ a ∧ a ≤ 9 ∧ 0 ≤ b ∧ b ≤ 9
  · have := frac_fin a.toNat (by omega) b.toNat (by omega)
    rwa [show ((a.toNat : Nat) : Int) = a by omega, show ((b.toNat : Nat) : Int) = b by omega] at this
  · have h1 : decide (0 ≤ place (a, b)) = false := decide_eq_false fun hp => by
      have := place_den hp
      simp only at this
      omega
    have h2 : fracB a b = false := by
      rw [← Bool.not_eq_true]
      intro hf
      unfold fracB at hf
      simp only [Bool.or_eq_true, Bool.and_eq_true, decide_eq_true_eq] at hf
      omega
    rw [h1, h2]
def fracLtB (p q : Int × Int) : Bool := if p.2 = 0 ∨ q.2 = 0 then decide (p.2 = 0) && decide (0 < q.2) else decide (p.1 * q.2 < q.1 * p.2)
/-! the order -/
def lessB (a b : HN) : Bool := if a.n ≠ b.n then decide (a.n < b.n) else if rank a.l ≠ rank b.l then decide (rank a.l < rank b.l) else fracLtB (a.num, a.den) (b.num, b.den)
/-! texts -/
def dgB (c : UInt8) : Bool := decide (48 ≤ c.toNat) && decide (c.toNat ≤ 57)
theorem dgB_iff (c : UInt8) : dgB c = true ↔ isDg c := by unfold dgB isDg; simp
def restR (r : List UInt8) : List UInt8 × List UInt8 := match r with
  | [] => ([], [])
  | c :: r => if c = 32 then ([], c :: r) else ([c], r)
def tailR (r : List UInt8) : Int × Int := match r with
  | [_, x, _, y] => ((x.toNat : Int) - 48, (y.toNat : Int) - 48)
  | _ => (0, 0)
def candR (t : List UInt8) : HN := ⟨val 0 (t.takeWhile dgB), (restR (t.dropWhile dgB)).1, (tailR (restR (t.dropWhile dgB)).2).1, (tailR (restR (t.dropWhile dgB)).2).2⟩
theorem takeW_app : ∀ {l r : List UInt8}, (∀ c ∈ l, dgB c = true) → (∀ c r', r = c :: r' → dgB c = false) → (l ++ r).takeWhile dgB = l ∧ (l ++ r).dropWhile dgB = r
  | [], r, _, h => by
    cases r with
    | nil => exact ⟨rfl, rfl⟩
    | cons c r => simp [h c r rfl]
  | c :: l, r, hl, h => by
    have ih := takeW_app (l := l) (r := r) (fun c hc => hl c (by simp [hc])) h
    simp [hl c (by simp), ih.1, ih.2]
theorem dec_len5 : ∀ (n u : Nat), u < 10 ^ (n + 1) → (Lib.decDigits u).length ≤ n + 1 := by
  intro n
  induction n with
  | zero => intro u hu; rw [Lib.decDigits, dif_pos (show u < 10 by omega)]; simp
  | succ n ih =>
    intro u hu
    rw [Lib.decDigits]
    split
    · simp
    · rw [List.length_append]
      have := ih (u / 10) (by rw [Nat.pow_succ] at hu; omega)
      simp; omega
theorem itoa_one {n : Int} (h : 0 ≤ n) (h' : n ≤ 9) : Lib.itoa n = [UInt8.ofNat (48 + n.toNat)] := by
  rw [itoa_dec h, Lib.decDigits, dif_pos (by omega)]
theorem candR_text {a : HN} (ha : a.valid = true) : candR (textP a) = a := by
  obtain ⟨h1, h2, h3, h4⟩ := (valid_iff a).1 ha
  obtain ⟨d1, d2, d3, d4, d5⟩ := place_den h4
  simp only at d1 d2 d3 d4 d5
  have hn := (itoa_dg (n := a.n) (by omega)).1
  have hv : (val 0 (Lib.itoa a.n) : Int) = a.n := by rw [itoa_dec (by omega), val_dec]; omega
  have hf : fracP a = [] ∧ a.num = 0 ∧ a.den = 0 ∨ fracP a = [32, UInt8.ofNat (48 + a.num.toNat), 47, UInt8.ofNat (48 + a.den.toNat)] := by
    unfold fracP
    by_cases hd : 0 < a.den
    · right
      rw [if_pos hd, itoa_one d4 d5, itoa_one d2 d3]
      rfl
    · left
      rw [if_neg hd]
      have e0 : a.den = 0 := by omega
      have hp := place_inj (p := (a.num, a.den)) (q := (0, 0)) h4 (by rw [p00]; exact d1.1 e0)
      simp only [Prod.mk.injEq] at hp
      exact ⟨rfl, hp.1, hp.2⟩
  have hsp : dgB 32 = false := by decide
  have fin : ∀ r, restR (a.l ++ fracP a) = (a.l, r) → tailR r = (a.num, a.den) → (∀ c r', a.l ++ fracP a = c :: r' → dgB c = false) → candR (textP a) = a := by
    intro r e1 e2 e3
    have hw := takeW_app (l := Lib.itoa a.n) (r := a.l ++ fracP a) (fun c hc => (dgB_iff c).2 (hn c hc)) e3
    unfold candR textP
    rw [List.append_assoc, hw.1, hw.2, hv, e1]
    simp only
    rw [e2]
  have ht : tailR [32, UInt8.ofNat (48 + a.num.toNat), 47, UInt8.ofNat (48 + a.den.toNat)] = (a.num, a.den) := by
    show (((UInt8.ofNat (48 + a.num.toNat)).toNat : Int) - 48, ((UInt8.ofNat (48 + a.den.toNat)).toNat : Int) - 48) = _
    rw [ofNat_dg (by omega), ofNat_dg (by omega), Prod.mk.injEq]
    omega
  rcases (letterB_iff a.l).1 h3 with e | ⟨c, e, c1, c2⟩
  · rcases hf with ⟨f, f1, f2⟩ | f
    · exact fin [] (by rw [e, f]; rfl) (by rw [f1, f2]; rfl) (fun c r' h => by rw [e, f] at h; cases h)
    · refine fin _ (by rw [e, f]; rfl) ht (fun c r' h => ?_)
      rw [e, f] at h
      injection h with h _
      rw [← h]; exact hsp
  · have hc : dgB c = false := by unfold dgB; simp; omega
    have hc32 : ¬ c = 32 := fun h => by rw [h] at c1; simp at c1
    have hr : ∀ r, restR (c :: r) = ([c], r) := fun r => by unfold restR; simp only; rw [if_neg hc32]
    have hx : ∀ c0 r', a.l ++ fracP a = c0 :: r' → dgB c0 = false := fun c0 r' h => by
      rw [e] at h
      injection h with h _
      rw [← h]; exact hc
    rcases hf with ⟨f, f1, f2⟩ | f
    · exact fin [] (by rw [e, f]; exact hr _) (by rw [f1, f2]; rfl) hx
    · exact fin _ (by rw [e, f]; exact hr _) ht hx
theorem text_len5 {a : HN} (ha : a.valid = true) : (textP a).length ≤ 9 := by
  obtain ⟨h1, h2, h3, h4⟩ := (valid_iff a).1 ha
  obtain ⟨d1, d2, d3, d4, d5⟩ := place_den h4
  simp only at d1 d2 d3 d4 d5
  have hn : (Lib.itoa a.n).length ≤ 4 := by rw [itoa_dec (by omega)]; exact dec_len5 3 _ (by omega)
  have hl : a.l.length ≤ 1 := by
    rcases (letterB_iff a.l).1 h3 with e | ⟨c, e, _, _⟩ <;> rw [e] <;> simp
  have hf : (fracP a).length ≤ 4 := by
    unfold fracP
    split
    · rw [itoa_one d4 d5, itoa_one d2 d3]; simp
    · simp
  unfold textP
  simp only [List.length_append]
  omega
theorem parse_long {t : List UInt8} (h : 9 < t.length) : parseP t = none := by
  cases hp : parseP t with
  | none => rfl
  | some a =>
    obtain ⟨h1, h2⟩ := parse_some hp
    have := text_len5 h1
    rw [h2] at this
    omega
theorem parse_R (t : List UInt8) : parseP t = if (candR t).valid && decide (textP (candR t) = t) then some (candR t) else none := by
  by_cases h : (candR t).valid = true ∧ textP (candR t) = t
  · rw [if_pos (by simp [h.1, h.2])]
    have := parse_text h.1
    rwa [h.2] at this
  · rw [if_neg (by simpa using h)]
    cases hp : parseP t with
    | none => rfl
    | some a =>
      obtain ⟨h1, h2⟩ := parse_some hp
      exfalso
      apply h
      rw [← h2, candR_text h1]
      exact ⟨h1, rfl⟩
end Go.Proofs.YtdcafoekbnacnaaGreatDoor

/- Walks of the reference of layer 1: decimal digits. -/
set_option linter.unusedVariables false
set_option linter.unusedSimpArgs false
namespace Go.Proofs.YtdcafoekbnacnaaGreatDoor
open Go.RowKit

def dgc (m : Nat) : UInt8 := UInt8.ofNat (48 + m)
def decS : List UInt8 := [48, 49, 50, 51, 52, 53, 54, 55, 56, 57]
theorem decS_cut : ∀ m, m < 10 → (decS.drop m).take (m + 1 - m) = [dgc m] := by decide
theorem decS_ext (m : Nat) (h : m < 10) : (⟨#[48, 49, 50, 51, 52, 53, 54, 55, 56, 57]⟩ : ByteArray).extract m (m + 1) = bs [dgc m] := by
  have := bs_cut decS m (m + 1)
  rw [decS_cut m h] at this
  exact this
def restD (u : Nat) : List UInt8 := if u = 0 then [] else Lib.decDigits u
theorem restD_step {u : Nat} (h : 0 < u) : restD u = restD (u / 10) ++ [dgc (u % 10)] := by
  unfold restD
  rw [if_neg (by omega), Lib.decDigits]
  split
  · rename_i h10
    rw [if_pos (by omega), show u % 10 = u by omega]; rfl
  · rw [if_neg (by omega)]; rfl
theorem dec_step (u : Nat) : Lib.decDigits u = restD (u / 10) ++ [dgc (u % 10)] := by
  unfold restD
  conv => lhs; rw [Lib.decDigits]
  split
  · rename_i h10
    rw [if_pos (by omega), show u % 10 = u by omega]; rfl
  · rw [if_neg (by omega)]; rfl
theorem dec_lenQ : ∀ (n u : Nat), u < 10 ^ (n + 1) → (Lib.decDigits u).length ≤ n + 1 := by
  intro n
  induction n with
  | zero => intro u hu; rw [Lib.decDigits, dif_pos (show u < 10 by omega)]; simp
  | succ n ih =>
    intro u hu
    rw [Lib.decDigits]
    split
    · simp
    · rw [List.length_append]
      have := ih (u / 10) (by rw [Nat.pow_succ] at hu; omega)
      simp; omega
def DgI (u : Nat) (w wr : World) (a s : Value) : Prop := ∃ (k : Nat) (S : List UInt8), a = .int .u64 (k : Int) ∧ s = .string (bs S) ∧ restD k ++ S = Lib.decDigits u ∧ k ≤ u ∧ wr = w
set_option maxRecDepth 100000 in
set_option maxHeartbeats 2000000 in
theorem rdigits_any (u : Nat) (hu : u < 18446744073709551616) (w : World) : Calls Tryz.prog 170 #[.int .u64 (u : Int)] w fun e w' => e = .returned (.string (bs (Lib.decDigits u))) ∧ w' = w := by
  have hlen := dec_lenQ 19 u (by omega)
  obtain ⟨m, hm, hm10⟩ : ∃ m, u % 10 = m ∧ m < 10 := ⟨_, rfl, by omega⟩
  have h1 : (u : Int).tmod 10 = (m : Int) := by rw [Int.tmod_eq_emod_of_nonneg (by omega), ← hm, Int.natCast_emod]; rfl
  have hx := decS_ext m hm10
  have HS := hide (dec_step u)
  rw [hm] at HS
  have H2 : Hid ((u : Int) / 10 = ((u / 10 : Nat) : Int)) := by show _ = _; rw [Int.natCast_ediv]; rfl
  go_enter Tryz.func170, Tryz.ntmps170
  go_wp2_with fail
  clear hm h1 hx hm10
  go_loopw [0, 3] (fun a s wr => DgI u w wr a s) (fun a _ _ => (intOf a).toNat)
  case atStart => exact ⟨u / 10, [dgc m], by rw [H2.out], rfl, HS.out.symm, by omega, rfl⟩
  case round =>
    obtain ⟨k, S, rfl, rfl, hS, hk, rfl⟩ := hrel
    have HE := hide hS
    clear hS HS H2
    have hSl : S.length ≤ 20 := by have := congrArg List.length HE.out; rw [List.length_append] at this; omega
    have hz : (bs S).size = S.length := bs_size S
    by_cases h0 : 0 < k
    · have e1 : decide ((0 : Int) < (k : Int)) = true := decide_eq_true (by omega)
      obtain ⟨m', hm, hm10⟩ : ∃ m, k % 10 = m ∧ m < 10 := ⟨_, rfl, by omega⟩
      have h1 : (k : Int).tmod 10 = (m' : Int) := by rw [Int.tmod_eq_emod_of_nonneg (by omega), ← hm, Int.natCast_emod]; rfl
      have hx := decS_ext m' hm10
      have hz1 : (bs [dgc m']).size = 1 := rfl
      have H2 : Hid ((k : Int) / 10 = ((k / 10 : Nat) : Int)) := by show _ = _; rw [Int.natCast_ediv]; rfl
      have HN := hide (restD_step h0)
      rw [hm] at HN
      clear hm
      go_wp2_with fail
      refine ⟨⟨k / 10, [dgc m'] ++ S, by rw [H2.out], by rw [← bs_app], by rw [← HE.out, HN.out]; simp, by omega, (by first | rfl | trivial)⟩, ?_⟩
      simp [intOf]; omega
    · obtain rfl : k = 0 := by omega
      have HF : Hid (S = Lib.decDigits u) := by show _ = _; rw [← HE.out]; rfl
      go_wp2_with fail
      go_ret
      exact ⟨ret_str' (by rw [HF.out]), rfl⟩
theorem rDecimal_any (u : Nat) (hu : u ≤ 9223372036854775807) (w : World) : Calls Tryz.prog 157 #[.int .i64 (u : Int)] w fun e w' => e = .returned (.string (bs (Lib.decDigits u))) ∧ w' = w := by
  have CD := fun w => rdigits_any u (by omega) w
  have e1 : decide ((u : Int) < 0) = false := decide_eq_false (by omega)
  have hw : IntKind.u64.wrap (u : Int) = (u : Int) := by
    have hm : (u : Int) % 18446744073709551616 = u := by omega
    simp [IntKind.wrap, IntKind.signed, IntKind.bits, hm]
  go_enter Tryz.func157, Tryz.ntmps157
  go_wp2_with ((with_reducible refine (CD _).mono ?_); rintro e w' ⟨rfl, rfl⟩)
  go_ret
  exact ⟨rfl, rfl⟩
end Go.Proofs.YtdcafoekbnacnaaGreatDoor

/- Walks of the reference of layer 22: common, Valid. -/
set_option linter.unusedVariables false
set_option linter.unusedSimpArgs false
namespace Go.Proofs.YtdcafoekbnacnaaGreatDoor
open Go.RowKit

theorem box_all {w1 : World} {b : Nat} {h : HN} {U : Type} {g : U → World} (hgu : ∀ u, Below w1.heap.size w1 (g u)) (H : HBox w1 b h) :
    (∀ u, (g u).cell? ⟨b, 0, none⟩ = some (.int .i64 h.n)) ∧ (∀ u, (g u).cell? ⟨b, 1, none⟩ = some (.string ⟨h.l.toArray⟩)) ∧ (∀ u, (g u).cell? ⟨b, 2, none⟩ = some (.int .i64 h.num)) ∧ (∀ u, (g u).cell? ⟨b, 3, none⟩ = some (.int .i64 h.den)) :=
  ⟨fun u => (H.below (hgu u) H.blk.lt).facts.1, fun u => (H.below (hgu u) H.blk.lt).facts.2.1, fun u => (H.below (hgu u) H.blk.lt).facts.2.2.1, fun u => (H.below (hgu u) H.blk.lt).facts.2.2.2⟩
theorem HBox.to {w1 w' : World} {b : Nat} {h : HN} (H : HBox w1 b h) (hb : Below w1.heap.size w1 w') : HBox w' b h := H.below hb H.blk.lt
theorem HBox.alloc {w1 : World} {b : Nat} {h : HN} (H : HBox w1 b h) (o : Obj) : HBox (w1.alloc o) b h := ⟨H.blk.alloc o⟩
def CoI (a b : Nat) (w wr : World) (d : Value) : Prop := ∃ k : Nat, d = .int .i64 (k : Int) ∧ 2 ≤ k ∧ k ≤ a + 2 ∧ Hid (comB a b k = false) ∧ w = wr
set_option maxHeartbeats 2000000 in
theorem rcommon_any (a b : Nat) (ha : 1 ≤ a) (h9 : a ≤ 9) (hb : b ≤ 9) (w : World) : Calls Tryz.prog 169 #[.int .i64 (a : Int), .int .i64 (b : Int)] w fun e w' => e = .returned (.bool (commonB a b)) ∧ w = w' := by
  go_enter Tryz.func169, Tryz.ntmps169
  go_wp2_with fail
  go_loopw [5] (fun d wr => CoI a b w wr d) (fun d _ => (a + 2 - intOf d).toNat)
  case atStart => exact ⟨2, rfl, by omega, by omega, comB_two a b, rfl⟩
  case round =>
    obtain ⟨k, rfl, h2, hk, HC, rfl⟩ := hrel
    by_cases h1 : k ≤ a
    · have e1 : decide ((k : Int) ≤ (a : Int)) = true := decide_eq_true (by omega)
      have HS := hide (comB_succ a b k)
      rw [HC.out, decide_eq_true h2, Bool.false_or, Bool.true_and] at HS
      obtain ⟨x, hx, hx'⟩ : ∃ x, a % k = x ∧ x ≤ 9 := ⟨_, rfl, by have := Nat.mod_le a k; omega⟩
      obtain ⟨y, hy, hy'⟩ : ∃ y, b % k = y ∧ y ≤ 9 := ⟨_, rfl, by have := Nat.mod_le b k; omega⟩
      have t1 : (a : Int).tmod (k : Int) = (x : Int) := by rw [Int.tmod_eq_emod_of_nonneg (by omega), ← hx, Int.natCast_emod]
      have t2 : (b : Int).tmod (k : Int) = (y : Int) := by rw [Int.tmod_eq_emod_of_nonneg (by omega), ← hy, Int.natCast_emod]
      have k0 : ((k : Int) == 0) = false := by rw [beq_eq_false_iff_ne]; omega
      rw [hx, hy] at HS
      clear hx hy HC
      by_cases hx0 : x = 0
      · have e2 : ((x : Int) == 0) = true := by rw [beq_iff_eq]; omega
        by_cases hy0 : y = 0
        · have e3 : ((y : Int) == 0) = true := by rw [beq_iff_eq]; omega
          have HV : Hid (commonB a b = true) := comB_mono (HS.out.trans (by rw [decide_eq_true hx0, decide_eq_true hy0]; rfl)) (by omega)
          clear hx0 hy0
          go_wp2_with fail
          go_ret
          exact ⟨ret_bool HV.out.symm, rfl⟩
        · have e3 : ((y : Int) == 0) = false := by rw [beq_eq_false_iff_ne]; omega
          have HV : Hid (comB a b (k + 1) = false) := HS.out.trans (by rw [decide_eq_false hy0, Bool.and_false])
          clear hx0 hy0
          go_wp2_with fail
          refine ⟨⟨k + 1, by go_num, by omega, by omega, HV.out, rfl⟩, ?_⟩
          simp [intOf]; omega
      · have e2 : ((x : Int) == 0) = false := by rw [beq_eq_false_iff_ne]; omega
        have HV : Hid (comB a b (k + 1) = false) := HS.out.trans (by rw [decide_eq_false hx0, Bool.false_and])
        clear hx0
        go_wp2_with fail
        refine ⟨⟨k + 1, by go_num, by omega, by omega, HV.out, rfl⟩, ?_⟩
        simp [intOf]; omega
    · have e1 : decide ((k : Int) ≤ (a : Int)) = false := decide_eq_false (by omega)
      have HV : Hid (commonB a b = false) := by
        show commonB a b = false
        rw [← Bool.not_eq_true]
        intro h
        have := comB_mono (m := k) h (by omega)
        rw [HC.out] at this; cases this
      clear HC
      go_wp2_with fail
      go_ret
      exact ⟨ret_bool HV.out.symm, rfl⟩
theorem less_one (c d : UInt8) : Op.bytesLess [c] [d] = decide (c.toNat < d.toNat) := by
  simp [Op.bytesLess, UInt8.lt_iff_toNat_lt]
  try (intro h h'; omega)
set_option maxHeartbeats 4000000 in
theorem rValid_any (h : HN) (w : World) (hl : h.fit) : Calls Tryz.prog 156 #[hval h] w fun e w' => e = .returned (.bool h.valid) ∧ Below w.heap.size w w' := by
  obtain ⟨n, l, num, den⟩ := h
  have HB0 := hide ((Below.refl w.heap.size w).alloc (Nat.le_refl _) (.cells #[.int .i64 n, .string ⟨l.toArray⟩, .int .i64 num, .int .i64 den] 93))
  have HL : Hid (l.length ≤ maxLen) := by have : (bs l).size ≤ maxLen := hl; show _ ≤ _; rwa [bs_size] at this
  clear hl
  by_cases h1 : n < 1
  · have e1 : decide (n < 1) = true := decide_eq_true h1
    have HV : Hid (HN.valid ⟨n, l, num, den⟩ = false) := valid_f1 (h := ⟨n, l, num, den⟩) (by show ¬ 1 ≤ n; omega)
    clear h1
    go_enter Tryz.func156, Tryz.ntmps156
    unfold hval
    go_wp2_with fail
    go_ret
    exact ⟨ret_bool HV.out.symm, HB0.out⟩
  have e1 : decide (n < 1) = false := decide_eq_false h1
  by_cases h2 : 9999 < n
  · have e2 : decide (9999 < n) = true := decide_eq_true h2
    have HV : Hid (HN.valid ⟨n, l, num, den⟩ = false) := valid_f2 (h := ⟨n, l, num, den⟩) (by show ¬ n ≤ 9999; omega)
    clear h1 h2
    go_enter Tryz.func156, Tryz.ntmps156
    unfold hval
    go_wp2_with fail
    go_ret
    exact ⟨ret_bool HV.out.symm, HB0.out⟩
  have e2 : decide (9999 < n) = false := decide_eq_false h2
  have HF0 : ∀ L, letterB L = true → HN.valid ⟨n, L, num, den⟩ = fracB num den := fun L hL => (valid_t (h := ⟨n, L, num, den⟩) (by show 1 ≤ n; omega) (by show n ≤ 9999; omega) hL).trans (frac_place num den)
  clear h1 h2
  match l with
  | [] =>
    have HF : Hid (HN.valid ⟨n, [], num, den⟩ = fracB num den) := HF0 [] rfl
    clear HF0
    by_cases hn0 : num = 0
    · subst hn0
      by_cases hd0 : den = 0
      · subst hd0
        have HV : Hid (HN.valid ⟨n, [], 0, 0⟩ = true) := HF.out.trans rfl
        clear HF
        go_enter Tryz.func156, Tryz.ntmps156
        unfold hval
        go_wp2_with fail
        go_ret
        exact ⟨ret_bool HV.out.symm, HB0.out⟩
      · have f1 : (den == 0) = false := by rw [beq_eq_false_iff_ne]; exact hd0
        have HV : Hid (HN.valid ⟨n, [], 0, den⟩ = false) := HF.out.trans (by unfold fracB; simp [hd0])
        clear HF hd0
        go_enter Tryz.func156, Tryz.ntmps156
        unfold hval
        go_wp2_with fail
        go_ret
        exact ⟨ret_bool HV.out.symm, HB0.out⟩
    · have f1 : (num == 0) = false := by rw [beq_eq_false_iff_ne]; exact hn0
      by_cases hn1 : 1 ≤ num
      · have f2 : decide (1 ≤ num) = true := decide_eq_true hn1
        by_cases hnd : num < den
        · have f3 : decide (num < den) = true := decide_eq_true hnd
          by_cases hd9 : den ≤ 9
          · have f4 : decide (den ≤ 9) = true := decide_eq_true hd9
            have HV : Hid (HN.valid ⟨n, [], num, den⟩ = !commonB num.toNat den.toNat) := HF.out.trans (by unfold fracB; rw [decide_eq_false hn0, f2, f3, f4]; simp)
            have CC := fun w => rcommon_any num.toNat den.toNat (by omega) (by omega) (by omega) w
            rw [show ((num.toNat : Nat) : Int) = num by omega, show ((den.toNat : Nat) : Int) = den by omega] at CC
            generalize commonB num.toNat den.toNat = cb at *
            clear HF hn0 hn1 hnd hd9
            go_enter Tryz.func156, Tryz.ntmps156
            unfold hval
            go_wp2_with fail
            refine (CC _).mono ?_
            rintro e w1 ⟨rfl, rfl⟩
            go_wp2_with fail
            go_ret
            exact ⟨ret_bool HV.out.symm, HB0.out⟩
          · have f4 : decide (den ≤ 9) = false := decide_eq_false hd9
            have HV : Hid (HN.valid ⟨n, [], num, den⟩ = false) := HF.out.trans (by unfold fracB; rw [decide_eq_false hn0, f4]; simp)
            clear HF hn0 hn1 hnd hd9
            go_enter Tryz.func156, Tryz.ntmps156
            unfold hval
            go_wp2_with fail
            go_ret
            exact ⟨ret_bool HV.out.symm, HB0.out⟩
        · have f3 : decide (num < den) = false := decide_eq_false hnd
          have HV : Hid (HN.valid ⟨n, [], num, den⟩ = false) := HF.out.trans (by unfold fracB; rw [decide_eq_false hn0, f3]; simp)
          clear HF hn0 hn1 hnd
          go_enter Tryz.func156, Tryz.ntmps156
          unfold hval
          go_wp2_with fail
          go_ret
          exact ⟨ret_bool HV.out.symm, HB0.out⟩
      · have f2 : decide (1 ≤ num) = false := decide_eq_false hn1
        have HV : Hid (HN.valid ⟨n, [], num, den⟩ = false) := HF.out.trans (by unfold fracB; rw [decide_eq_false hn0, f2]; simp)
        clear HF hn0 hn1
        go_enter Tryz.func156, Tryz.ntmps156
        unfold hval
        go_wp2_with fail
        go_ret
        exact ⟨ret_bool HV.out.symm, HB0.out⟩
  | [c] =>
    have b1 := less_one c 97
    have b2 := less_one c 122
    rw [show (97 : UInt8).toNat = 97 from rfl] at b1
    rw [show (122 : UInt8).toNat = 122 from rfl] at b2
    by_cases c1 : c.toNat < 97
    · have HV : Hid (HN.valid ⟨n, [c], num, den⟩ = false) := valid_f3 (h := ⟨n, [c], num, den⟩) (by rw [← Bool.not_eq_true]; intro h; rcases (letterB_iff _).1 h with h | ⟨d, h, g1, g2⟩; cases h; injection h with h _; subst h; omega)
      rw [decide_eq_true c1] at b1
      clear c1 HF0 b2
      go_enter Tryz.func156, Tryz.ntmps156
      unfold hval
      go_wp2_with fail
      go_ret
      exact ⟨ret_bool HV.out.symm, HB0.out⟩
    rw [decide_eq_false c1] at b1
    by_cases c2 : 122 < c.toNat
    · have HV : Hid (HN.valid ⟨n, [c], num, den⟩ = false) := valid_f3 (h := ⟨n, [c], num, den⟩) (by rw [← Bool.not_eq_true]; intro h; rcases (letterB_iff _).1 h with h | ⟨d, h, g1, g2⟩; cases h; injection h with h _; subst h; omega)
      rw [decide_eq_false (by omega)] at b2
      have b3 : (c == 122) = false := by rw [beq_eq_false_iff_ne]; intro h; rw [h] at c2; simp at c2
      clear c1 c2 HF0
      go_enter Tryz.func156, Tryz.ntmps156
      unfold hval
      go_wp2_with fail
      go_ret
      exact ⟨ret_bool HV.out.symm, HB0.out⟩
    have HF : Hid (HN.valid ⟨n, [c], num, den⟩ = fracB num den) := HF0 [c] ((letterB_iff _).2 (.inr ⟨c, rfl, by omega, by omega⟩))
    have b4 : (!Op.bytesLess [c] [122] && !c == 122) = false := by
      by_cases hc : c.toNat < 122
      · rw [b2, decide_eq_true hc]; rfl
      · have : c = 122 := UInt8.toNat_inj.1 (by simp; omega)
        rw [this]; rfl
    have b2' := b2
    clear b2 c1 c2 HF0
    by_cases hc : c = 122
    · subst hc
      clear b4 b2' b1
      by_cases hn0 : num = 0
      · subst hn0
        by_cases hd0 : den = 0
        · subst hd0
          have HV : Hid (HN.valid ⟨n, [122], 0, 0⟩ = true) := HF.out.trans rfl
          clear HF
          go_enter Tryz.func156, Tryz.ntmps156
          unfold hval
          go_wp2_with fail
          go_ret
          exact ⟨ret_bool HV.out.symm, HB0.out⟩
        · have f1 : (den == 0) = false := by rw [beq_eq_false_iff_ne]; exact hd0
          have HV : Hid (HN.valid ⟨n, [122], 0, den⟩ = false) := HF.out.trans (by unfold fracB; simp [hd0])
          clear HF hd0
          go_enter Tryz.func156, Tryz.ntmps156
          unfold hval
          go_wp2_with fail
          go_ret
          exact ⟨ret_bool HV.out.symm, HB0.out⟩
      · have f1 : (num == 0) = false := by rw [beq_eq_false_iff_ne]; exact hn0
        by_cases hn1 : 1 ≤ num
        · have f2 : decide (1 ≤ num) = true := decide_eq_true hn1
          by_cases hnd : num < den
          · have f3 : decide (num < den) = true := decide_eq_true hnd
            by_cases hd9 : den ≤ 9
            · have f4 : decide (den ≤ 9) = true := decide_eq_true hd9
              have HV : Hid (HN.valid ⟨n, [122], num, den⟩ = !commonB num.toNat den.toNat) := HF.out.trans (by unfold fracB; rw [decide_eq_false hn0, f2, f3, f4]; simp)
              have CC := fun w => rcommon_any num.toNat den.toNat (by omega) (by omega) (by omega) w
              rw [show ((num.toNat : Nat) : Int) = num by omega, show ((den.toNat : Nat) : Int) = den by omega] at CC
              generalize commonB num.toNat den.toNat = cb at *
              clear HF hn0 hn1 hnd hd9
              go_enter Tryz.func156, Tryz.ntmps156
              unfold hval
              go_wp2_with fail
              refine (CC _).mono ?_
              rintro e w1 ⟨rfl, rfl⟩
              go_wp2_with fail
              go_ret
              exact ⟨ret_bool HV.out.symm, HB0.out⟩
            · have f4 : decide (den ≤ 9) = false := decide_eq_false hd9
              have HV : Hid (HN.valid ⟨n, [122], num, den⟩ = false) := HF.out.trans (by unfold fracB; rw [decide_eq_false hn0, f4]; simp)
              clear HF hn0 hn1 hnd hd9
              go_enter Tryz.func156, Tryz.ntmps156
              unfold hval
              go_wp2_with fail
              go_ret
              exact ⟨ret_bool HV.out.symm, HB0.out⟩
          · have f3 : decide (num < den) = false := decide_eq_false hnd
            have HV : Hid (HN.valid ⟨n, [122], num, den⟩ = false) := HF.out.trans (by unfold fracB; rw [decide_eq_false hn0, f3]; simp)
            clear HF hn0 hn1 hnd
            go_enter Tryz.func156, Tryz.ntmps156
            unfold hval
            go_wp2_with fail
            go_ret
            exact ⟨ret_bool HV.out.symm, HB0.out⟩
        · have f2 : decide (1 ≤ num) = false := decide_eq_false hn1
          have HV : Hid (HN.valid ⟨n, [122], num, den⟩ = false) := HF.out.trans (by unfold fracB; rw [decide_eq_false hn0, f2]; simp)
          clear HF hn0 hn1
          go_enter Tryz.func156, Tryz.ntmps156
          unfold hval
          go_wp2_with fail
          go_ret
          exact ⟨ret_bool HV.out.symm, HB0.out⟩
    · have b2 : Op.bytesLess [c] [122] = true := by
        rw [b2']
        refine decide_eq_true ?_
        have : c.toNat ≠ 122 := fun h => hc (UInt8.toNat_inj.1 h)
        cases hb : decide (c.toNat < 122)
        · exfalso
          rw [b2', hb] at b4
          simp [hc] at b4
        · exact of_decide_eq_true hb
      clear b4 b2' hc
      by_cases hn0 : num = 0
      · subst hn0
        by_cases hd0 : den = 0
        · subst hd0
          have HV : Hid (HN.valid ⟨n, [c], 0, 0⟩ = true) := HF.out.trans rfl
          clear HF
          go_enter Tryz.func156, Tryz.ntmps156
          unfold hval
          go_wp2_with fail
          go_ret
          exact ⟨ret_bool HV.out.symm, HB0.out⟩
        · have f1 : (den == 0) = false := by rw [beq_eq_false_iff_ne]; exact hd0
          have HV : Hid (HN.valid ⟨n, [c], 0, den⟩ = false) := HF.out.trans (by unfold fracB; simp [hd0])
          clear HF hd0
          go_enter Tryz.func156, Tryz.ntmps156
          unfold hval
          go_wp2_with fail
          go_ret
          exact ⟨ret_bool HV.out.symm, HB0.out⟩
      · have f1 : (num == 0) = false := by rw [beq_eq_false_iff_ne]; exact hn0
        by_cases hn1 : 1 ≤ num
        · have f2 : decide (1 ≤ num) = true := decide_eq_true hn1
          by_cases hnd : num < den
          · have f3 : decide (num < den) = true := decide_eq_true hnd
            by_cases hd9 : den ≤ 9
            · have f4 : decide (den ≤ 9) = true := decide_eq_true hd9
              have HV : Hid (HN.valid ⟨n, [c], num, den⟩ = !commonB num.toNat den.toNat) := HF.out.trans (by unfold fracB; rw [decide_eq_false hn0, f2, f3, f4]; simp)
              have CC := fun w => rcommon_any num.toNat den.toNat (by omega) (by omega) (by omega) w
              rw [show ((num.toNat : Nat) : Int) = num by omega, show ((den.toNat : Nat) : Int) = den by omega] at CC
              generalize commonB num.toNat den.toNat = cb at *
              clear HF hn0 hn1 hnd hd9
              go_enter Tryz.func156, Tryz.ntmps156
              unfold hval
              go_wp2_with fail
              refine (CC _).mono ?_
              rintro e w1 ⟨rfl, rfl⟩
              go_wp2_with fail
              go_ret
              exact ⟨ret_bool HV.out.symm, HB0.out⟩
            · have f4 : decide (den ≤ 9) = false := decide_eq_false hd9
              have HV : Hid (HN.valid ⟨n, [c], num, den⟩ = false) := HF.out.trans (by unfold fracB; rw [decide_eq_false hn0, f4]; simp)
              clear HF hn0 hn1 hnd hd9
              go_enter Tryz.func156, Tryz.ntmps156
              unfold hval
              go_wp2_with fail
              go_ret
              exact ⟨ret_bool HV.out.symm, HB0.out⟩
          · have f3 : decide (num < den) = false := decide_eq_false hnd
            have HV : Hid (HN.valid ⟨n, [c], num, den⟩ = false) := HF.out.trans (by unfold fracB; rw [decide_eq_false hn0, f3]; simp)
            clear HF hn0 hn1 hnd
            go_enter Tryz.func156, Tryz.ntmps156
            unfold hval
            go_wp2_with fail
            go_ret
            exact ⟨ret_bool HV.out.symm, HB0.out⟩
        · have f2 : decide (1 ≤ num) = false := decide_eq_false hn1
          have HV : Hid (HN.valid ⟨n, [c], num, den⟩ = false) := HF.out.trans (by unfold fracB; rw [decide_eq_false hn0, f2]; simp)
          clear HF hn0 hn1
          go_enter Tryz.func156, Tryz.ntmps156
          unfold hval
          go_wp2_with fail
          go_ret
          exact ⟨ret_bool HV.out.symm, HB0.out⟩
  | c :: d :: r =>
    have hz : (ByteArray.mk (c :: d :: r).toArray).size = (c :: d :: r).length := bs_size _
    have e3 : decide ((1 : Int) < ((c :: d :: r).length : Int)) = true := decide_eq_true (by simp only [List.length_cons]; omega)
    have HV : Hid (HN.valid ⟨n, c :: d :: r, num, den⟩ = false) := valid_f3 (h := ⟨n, c :: d :: r, num, den⟩) rfl
    clear HF0
    generalize c :: d :: r = l at *
    go_enter Tryz.func156, Tryz.ntmps156
    unfold hval
    go_wp2_with fail
    go_ret
    exact ⟨ret_bool HV.out.symm, HB0.out⟩
end Go.Proofs.YtdcafoekbnacnaaGreatDoor

/- Walks of the reference of layer 22: Text, Parse (printed by genr3.py). -/
set_option linter.unusedVariables false
set_option linter.unusedSimpArgs false
namespace Go.Proofs.YtdcafoekbnacnaaGreatDoor
open Go.RowKit

theorem ret_si {a b : ByteArray} {x y : Int} (h : a = b) (h' : x = y) : Ending.returned (.tuple #[.string a, .int .i64 x]) = .returned (.tuple #[.string b, .int .i64 y]) := by rw [h, h']
theorem rItoa_any (n : Int) (h0 : 0 ≤ n) (h1 : n ≤ 9999) (w : World) : Calls Tryz.prog 157 #[.int .i64 n] w fun e w' => e = .returned (.string (bs (Lib.itoa n))) ∧ Below w.heap.size w w' := by
  have C := rDecimal_any n.toNat (by omega) w
  rw [show ((n.toNat : Nat) : Int) = n by omega] at C
  refine C.mono ?_
  rintro e w' ⟨rfl, rfl⟩
  exact ⟨by rw [itoa_dec h0], Below.refl _ _⟩
set_option maxHeartbeats 4000000 in
theorem rText_any (h : HN) (w : World) (hl : h.fit) : Calls Tryz.prog 135 #[hval h] w fun e w' => e = .returned (.tuple #[.string (if h.valid then bs (textP h) else bs []), .int .i64 (if h.valid then 0 else 1)]) ∧ Below w.heap.size w w' := by
  have HX := hide (HBox.new w h)
  have HB := hide ((Below.refl w.heap.size w).alloc (Nat.le_refl _) (.cells #[.int .i64 h.n, .string ⟨h.l.toArray⟩, .int .i64 h.num, .int .i64 h.den] 93))
  have CV := fun w => rValid_any h w hl
  clear hl
  obtain ⟨S, HS⟩ : ∃ S, Hid ((if h.valid then bs (textP h) else bs []) = S) := ⟨_, rfl⟩
  obtain ⟨E, HE⟩ : ∃ E : Int, Hid ((if h.valid then 0 else 1) = E) := ⟨_, rfl⟩
  rw [HS.out, HE.out]
  go_enter Tryz.func135, Tryz.ntmps135
  unfold hval
  go_wp2_with fail
  generalize w.alloc (.cells #[.int .i64 h.n, .string ⟨h.l.toArray⟩, .int .i64 h.num, .int .i64 h.den] 93) = w1 at *
  obtain ⟨U, hU, g, u0, rfl, hgu, hi⟩ := cls w1
  obtain ⟨x0, x1, x2, x3⟩ := box_all hgu HX.out
  have CA := cls_call hgu hi (fun w _ => CV w)
  unfold hval at CA
  cases h1 : h.valid
  · rw [h1] at CA HS HE
    clear h1
    go_wp2_with (first | ((with_reducible refine (CA _).mono ?_); rintro e w' ⟨rfl, u, rfl⟩))
    go_ret2
    exact ⟨ret_si HS.out HE.out, HB.out.trans ((hgu _).mono HB.out.size)⟩
  · obtain ⟨n1, n2, l1, p1⟩ := (valid_iff h).1 h1
    obtain ⟨d1, d2, d3, d4, d5⟩ := place_den p1
    simp only at d1 d2 d3 d4 d5
    have z1 : ¬ 9223372036854775807 < (bs (Lib.itoa h.n)).size + (ByteArray.mk h.l.toArray).size := by have := bs_fit n1 n2 l1; omega
    have z1' : (bs (Lib.itoa h.n)).size + h.l.length ≤ 10001 := bs_fit' n1 n2 l1
    have z2 := itoa_size d4 (by omega)
    have z3 := itoa_size d2 (by omega)
    have CN := cls_call hgu hi (fun w _ => rItoa_any h.n (by omega) (by omega) w)
    have CM := cls_call hgu hi (fun w _ => rItoa_any h.num (by omega) (by omega) w)
    have CD := cls_call hgu hi (fun w _ => rItoa_any h.den (by omega) (by omega) w)
    have HGU := hide hgu
    have HHI := hide hi
    rw [h1] at CA HS HE
    clear h1 hgu hi d1 l1 p1 CV
    by_cases hd : 0 < h.den
    · have HV : Hid (textP h = Lib.itoa h.n ++ h.l ++ ([32] ++ Lib.itoa h.num ++ [47] ++ Lib.itoa h.den)) := by show _ = _; unfold textP fracP; rw [if_pos hd]
      have e1 : decide (0 < h.den) = true := decide_eq_true hd
      clear hd
      go_wp2_with (first | ((with_reducible refine (CA _).mono ?_); rintro e w' ⟨rfl, u, rfl⟩))
      refine wp_region_class g (by kernel_rfl) (by kernel_rfl) (HHI.out _ (HGU.out _).drew) ?_
      repeat (go_big_quiet_step (first | with_reducible exact CN _))
      refine wpQuiet_nil ?_
      intro w2 hw2
      obtain ⟨u, rfl⟩ := hw2
      go_wp2_with fail
      refine wp_region_class g (by kernel_rfl) (by kernel_rfl) (HHI.out _ (HGU.out _).drew) ?_
      repeat (go_big_quiet_step (first | with_reducible exact CM _ | with_reducible exact CD _))
      refine wpQuiet_nil ?_
      intro w2 hw2
      obtain ⟨u, rfl⟩ := hw2
      go_wp2_with fail
      go_ret2
      refine ⟨ret_si (Eq.trans ?_ HS.out) HE.out, HB.out.trans ((HGU.out _).mono HB.out.size)⟩
      show _ = bs (textP h)
      rw [HV.out]
      simp only [← List.append_assoc, ← bs_app]
      rfl
    · have HV : Hid (textP h = Lib.itoa h.n ++ h.l) := by show _ = _; unfold textP fracP; rw [if_neg hd]; simp
      have e1 : decide (0 < h.den) = false := decide_eq_false hd
      clear hd
      go_wp2_with (first | ((with_reducible refine (CA _).mono ?_); rintro e w' ⟨rfl, u, rfl⟩))
      refine wp_region_class g (by kernel_rfl) (by kernel_rfl) (HHI.out _ (HGU.out _).drew) ?_
      repeat (go_big_quiet_step (first | with_reducible exact CN _))
      refine wpQuiet_nil ?_
      intro w2 hw2
      obtain ⟨u, rfl⟩ := hw2
      go_wp2_with fail
      go_ret2
      refine ⟨ret_si (Eq.trans ?_ HS.out) HE.out, HB.out.trans ((HGU.out _).mono HB.out.size)⟩
      show _ = bs (textP h)
      rw [HV.out]
      simp only [← List.append_assoc, ← bs_app]
      rfl
theorem drop_at5 {α : Type} {l : List α} {k : Nat} {x : α} (h : l[k]? = some x) : l.drop k = x :: l.drop (k + 1) := by
  obtain ⟨hlt, e⟩ := List.getElem?_eq_some_iff.1 h
  rw [List.drop_eq_getElem_cons hlt, e]
theorem candR_at {t : List UInt8} {k : Nat} {L T : List UInt8} (ha : (t.take k).all dgB = true) (hn : ∀ c r, t.drop k = c :: r → dgB c = false) (hr : restR (t.drop k) = (L, T)) :
    candR t = ⟨val 0 (t.take k), L, (tailR T).1, (tailR T).2⟩ := by
  have h := takeW_app (l := t.take k) (r := t.drop k) (fun c hc => List.all_eq_true.1 ha c hc) hn
  rw [List.take_append_drop] at h
  unfold candR
  rw [h.1, h.2, hr]
theorem tail_not {T : List UInt8} (h : T.length ≠ 4) : tailR T = (0, 0) := by
  unfold tailR
  split
  · simp at h
  · rfl
theorem val_pow : ∀ (l : List UInt8), l.all dgB = true → val 0 l < 10 ^ l.length := by
  have h : ∀ (l : List UInt8) (acc : Nat), l.all dgB = true → val acc l < (acc + 1) * 10 ^ l.length := by
    intro l
    induction l with
    | nil => intro acc _; simp [val]
    | cons c l ih =>
      intro acc ha
      rw [List.all_cons, Bool.and_eq_true] at ha
      have h1 := (dgB_iff c).1 ha.1
      unfold isDg at h1
      have h2 := ih (acc * 10 + (c.toNat - 48)) ha.2
      show val (acc * 10 + (c.toNat - 48)) l < _
      refine Nat.lt_of_lt_of_le h2 ?_
      rw [List.length_cons, Nat.pow_succ, Nat.mul_comm (10 ^ l.length) 10, ← Nat.mul_assoc]
      exact Nat.mul_le_mul_right _ (by omega)
  intro l ha
  have := h l 0 ha
  simpa using this
def PaI (t : List UInt8) (w wr : World) (i : Value) : Prop := ∃ (k : Nat) (v : Nat), i = .int .i64 (k : Int) ∧ k ≤ t.length ∧ v < 1000000000 ∧ Hid (val 0 (t.take k) = v) ∧ Hid (HBox wr (w.heap.size + 1) ⟨v, [], 0, 0⟩) ∧ Hid (HBox wr w.heap.size ⟨0, [], 0, 0⟩) ∧ Hid (Below w.heap.size w wr) ∧ Hid ((t.take k).all dgB = true)
theorem parseR_bad {t : List UInt8} {c : HN} (h : candR t = c) (hv : c.valid = false) : outP t = ⟨0, [], 0, 0⟩ ∧ errP t = 5 := by
  unfold outP errP
  rw [parse_R, h, hv]; exact ⟨rfl, rfl⟩
theorem parseR_ne {t : List UInt8} {c : HN} (h : candR t = c) (hv : c.valid = true) (he : ¬ textP c = t) : outP t = ⟨0, [], 0, 0⟩ ∧ errP t = 5 := by
  unfold outP errP
  rw [parse_R, h, hv]; simp [he]
theorem parseR_ok {t : List UInt8} {c : HN} (h : candR t = c) (hv : c.valid = true) (he : textP c = t) : outP t = c ∧ errP t = 0 := by
  unfold outP errP
  rw [parse_R, h, hv]; simp [he]
theorem parseR_long {t : List UInt8} (h : 9 < t.length) : outP t = ⟨0, [], 0, 0⟩ ∧ errP t = 5 := by
  unfold outP errP
  rw [parse_long h]; exact ⟨rfl, rfl⟩
set_option maxRecDepth 100000 in
set_option maxHeartbeats 8000000 in
theorem rParse_any (t : List UInt8) (w : World) (ht : t.length ≤ 100000) : Calls Tryz.prog 105 #[.string (bs t)] w fun e w' => e = .returned (.tuple #[hval (outP t), .int .i64 (errP t)]) ∧ Below w.heap.size w w' := by
  have hsz : (bs t).size = t.length := bs_size t
  by_cases hlong : 9 < t.length
  · have HV := hide (parseR_long hlong)
    have e1 : decide ((9 : Int) < (t.length : Int)) = true := decide_eq_true (by omega)
    have HX := hide (HBox.new w ⟨0, [], 0, 0⟩)
    have HB := hide ((Below.refl w.heap.size w).alloc (Nat.le_refl _) (.cells #[.int .i64 (⟨0, [], 0, 0⟩ : HN).n, .string ⟨(⟨0, [], 0, 0⟩ : HN).l.toArray⟩, .int .i64 (⟨0, [], 0, 0⟩ : HN).num, .int .i64 (⟨0, [], 0, 0⟩ : HN).den] 93))
    clear hlong
    go_enter Tryz.func105, Tryz.ntmps105
    go_wp2_with fail
    exact bodyPost_ret (results_cell_tmp (p := 2) (u := 3) rfl _ _ w.heap.size 93 _ _ rfl HX.out.blk Tryz.underlying93 rfl (by kernel_rfl)) rfl ⟨ret_hn HV.out.1.symm HV.out.2.symm, HB.out⟩
  have e1 : decide ((9 : Int) < (t.length : Int)) = false := decide_eq_false (by omega)
  have HA := hide (hNew2 w ⟨0, [], 0, 0⟩ ⟨0, [], 0, 0⟩).1
  have HB := hide (hNew2 w ⟨0, [], 0, 0⟩ ⟨0, [], 0, 0⟩).2
  have HB0 := hide (((Below.refl w.heap.size w).alloc (Nat.le_refl _) (.cells #[.int .i64 (⟨0, [], 0, 0⟩ : HN).n, .string ⟨(⟨0, [], 0, 0⟩ : HN).l.toArray⟩, .int .i64 (⟨0, [], 0, 0⟩ : HN).num, .int .i64 (⟨0, [], 0, 0⟩ : HN).den] 93)).alloc (by simp) (.cells #[.int .i64 (⟨0, [], 0, 0⟩ : HN).n, .string ⟨(⟨0, [], 0, 0⟩ : HN).l.toArray⟩, .int .i64 (⟨0, [], 0, 0⟩ : HN).num, .int .i64 (⟨0, [], 0, 0⟩ : HN).den] 93))
  go_enter Tryz.func105, Tryz.ntmps105
  go_wp2_with fail
  go_loopw [5] (fun i wr => PaI t w wr i) (fun i _ => t.length - (intOf i).toNat)
  case atStart => exact ⟨0, 0, rfl, by omega, by decide, rfl, HB.out, HA.out, HB0.out, rfl⟩
  case round =>
    obtain ⟨k, v, rfl, hk, hv9, HVv, HNb, HR, HBl, HAl⟩ := hrel
    by_cases hlt : k < t.length
    · have e2 : decide ((k : Int) < (t.length : Int)) = true := decide_eq_true (by omega)
      obtain ⟨c, hc⟩ : ∃ c, t[k]? = some c := ⟨_, List.getElem?_eq_getElem hlt⟩
      have ci := index_bs t k c hc
      have HD := hide (drop_at5 hc)
      cases hdg : dgB c
      · have hnd : ¬ (48 ≤ c.toNat ∧ c.toNat ≤ 57) := fun h => by rw [(dgB_iff c).2 h] at hdg; cases hdg
        have HND : Hid (∀ c' r, t.drop k = c' :: r → dgB c' = false) := fun c' r h => by rw [HD.out] at h; injection h with h _; rw [← h]; exact hdg
        obtain ⟨f0, f1, f2, f3⟩ := HNb.out.facts
        have z1 := HNb.out.blk.frozen 1
        have z2 := HNb.out.blk.frozen 2
        have z3 := HNb.out.blk.frozen 3
        clear HA HB HB0 hdg
        by_cases h32 : c = 32
        · subst h32
          have HRS : Hid (restR (t.drop k) = ([], 32 :: t.drop (k + 1))) := by show _ = _; rw [HD.out]; rfl
          have HC0 : Hid (candR t = ⟨v, [], (tailR (32 :: t.drop (k + 1))).1, (tailR (32 :: t.drop (k + 1))).2⟩) := by show _ = _; rw [candR_at HAl.out HND.out HRS.out, HVv.out]
          clear hnd
          by_cases h4 : t.length = k + 4
          · obtain ⟨x, hx⟩ : ∃ x, t[k + 1]? = some x := ⟨_, List.getElem?_eq_getElem (by omega)⟩
            obtain ⟨y, hy⟩ : ∃ y, t[k + 2]? = some y := ⟨_, List.getElem?_eq_getElem (by omega)⟩
            obtain ⟨z, hz⟩ : ∃ z, t[k + 3]? = some z := ⟨_, List.getElem?_eq_getElem (by omega)⟩
            have HC : Hid (candR t = ⟨v, [], (x.toNat : Int) - 48, (z.toNat : Int) - 48⟩) := by
              show _ = _
              rw [HC0.out, drop_at5 hx, drop_at5 hy, drop_at5 hz, List.drop_of_length_le (by omega)]; rfl
            have ix := index_bs t (k + 1) x hx
            have iz := index_bs t (k + 3) z hz
            rw [show ((k + 1 : Nat) : Int) = (k : Int) + 1 by omega] at ix
            rw [show ((k + 3 : Nat) : Int) = (k : Int) + 3 by omega] at iz
            have e4 : ((t.length : Int) - (k : Int) == 4) = true := by rw [beq_iff_eq]; omega
            have b1 := x.toNat_lt
            have b2 := z.toNat_lt
            clear hx hy hz hc h4 HC0
            generalize x.toNat = xn at *
            generalize z.toNat = zn at *
            have HN5 : Hid (HBox ((wr.setCell ⟨w.heap.size + 1, 2, none⟩ (.int .i64 ((xn : Int) - 48))).setCell ⟨w.heap.size + 1, 3, none⟩ (.int .i64 ((zn : Int) - 48))) (w.heap.size + 1) (⟨(v : Int), [], (xn : Int) - 48, (zn : Int) - 48⟩ : HN)) := ⟨((HNb.out.blk.set_ 2 (.int .i64 ((xn : Int) - 48))).set_ 3 (.int .i64 ((zn : Int) - 48)))⟩
            have HR5 : Hid (HBox ((wr.setCell ⟨w.heap.size + 1, 2, none⟩ (.int .i64 ((xn : Int) - 48))).setCell ⟨w.heap.size + 1, 3, none⟩ (.int .i64 ((zn : Int) - 48))) w.heap.size ⟨0, [], 0, 0⟩) := ⟨((HR.out.blk.far (p := ⟨w.heap.size + 1, 2, none⟩) (Nat.ne_of_lt (Nat.lt_succ_self _)) (.int .i64 ((xn : Int) - 48))).far (p := ⟨w.heap.size + 1, 3, none⟩) (Nat.ne_of_lt (Nat.lt_succ_self _)) (.int .i64 ((zn : Int) - 48)))⟩
            have HB5 : Hid (Below w.heap.size w ((wr.setCell ⟨w.heap.size + 1, 2, none⟩ (.int .i64 ((xn : Int) - 48))).setCell ⟨w.heap.size + 1, 3, none⟩ (.int .i64 ((zn : Int) - 48)))) := ((HBl.out.setCell (p := ⟨w.heap.size + 1, 2, none⟩) (Nat.le_succ _) (.int .i64 ((xn : Int) - 48))).setCell (p := ⟨w.heap.size + 1, 3, none⟩) (Nat.le_succ _) (.int .i64 ((zn : Int) - 48)))
            clear HNb HR HBl
            go_wp2_with fail
            generalize (wr.setCell ⟨w.heap.size + 1, 2, none⟩ (.int .i64 ((xn : Int) - 48))).setCell ⟨w.heap.size + 1, 3, none⟩ (.int .i64 ((zn : Int) - 48)) = w5 at *
            have HFI : Hid (HN.fit (⟨(v : Int), [], (xn : Int) - 48, (zn : Int) - 48⟩ : HN)) := by show (bs _).size ≤ maxLen; rw [bs_size]; unfold maxLen; first | decide | (simp)
            refine (rText_any (⟨(v : Int), [], (xn : Int) - 48, (zn : Int) - 48⟩ : HN) _ HFI.out).mono ?_
            rintro e w6 ⟨rfl, hb⟩
            have HB6 := hide (HB5.out.trans (hb.mono HB5.out.size))
            have HR6 := hide (HR5.out.to hb)
            have HN6 := hide (HN5.out.to hb)
            clear hb HB5 HR5 HN5
            obtain ⟨cc, hc⟩ : ∃ cx, (⟨(v : Int), [], (xn : Int) - 48, (zn : Int) - 48⟩ : HN) = cx := ⟨_, rfl⟩
            rw [hc] at HN6 HC ⊢
            clear hc
            obtain ⟨x0, x1, x2, x3⟩ := HN6.out.facts
            obtain ⟨r0, r1, r2, r3⟩ := HR6.out.facts
            have s0 := HR6.out.blk.frozen 0
            have s1 := HR6.out.blk.frozen 1
            have s2 := HR6.out.blk.frozen 2
            have s3 := HR6.out.blk.frozen 3
            cases hv : cc.valid
            · have HV := hide (parseR_bad HC.out hv)
              clear hv
              go_wp2_with fail
              have hbk : Blk ((((w6.setCell ⟨w.heap.size, 0, none⟩ (.int .i64 (⟨0, [], 0, 0⟩ : HN).n)).setCell ⟨w.heap.size, 1, none⟩ (.string ⟨(⟨0, [], 0, 0⟩ : HN).l.toArray⟩)).setCell ⟨w.heap.size, 2, none⟩ (.int .i64 (⟨0, [], 0, 0⟩ : HN).num)).setCell ⟨w.heap.size, 3, none⟩ (.int .i64 (⟨0, [], 0, 0⟩ : HN).den)) w.heap.size 93 (hCells (⟨0, [], 0, 0⟩ : HN)) := ((((HR6.out.blk.set_ 0 (.int .i64 (⟨0, [], 0, 0⟩ : HN).n)).set_ 1 (.string ⟨(⟨0, [], 0, 0⟩ : HN).l.toArray⟩)).set_ 2 (.int .i64 (⟨0, [], 0, 0⟩ : HN).num)).set_ 3 (.int .i64 (⟨0, [], 0, 0⟩ : HN).den))
              refine bodyPost_ret (results_cell_tmp (p := 2) (u := 3) rfl _ _ w.heap.size 93 _ _ rfl hbk Tryz.underlying93 rfl (by kernel_rfl)) rfl ⟨ret_hn HV.out.1.symm HV.out.2.symm, ?_⟩
              exact ((((HB6.out.setCell (p := ⟨w.heap.size, 0, none⟩) (Nat.le_refl _) _).setCell (p := ⟨w.heap.size, 1, none⟩) (Nat.le_refl _) _).setCell (p := ⟨w.heap.size, 2, none⟩) (Nat.le_refl _) _).setCell (p := ⟨w.heap.size, 3, none⟩) (Nat.le_refl _) _)
            · by_cases he : textP cc = t
              · have HV := hide (parseR_ok HC.out hv he)
                rw [he]
                clear hv he
                go_wp2_with fail
                have hbk : Blk ((((w6.setCell ⟨w.heap.size, 0, none⟩ (.int .i64 cc.n)).setCell ⟨w.heap.size, 1, none⟩ (.string ⟨cc.l.toArray⟩)).setCell ⟨w.heap.size, 2, none⟩ (.int .i64 cc.num)).setCell ⟨w.heap.size, 3, none⟩ (.int .i64 cc.den)) w.heap.size 93 (hCells cc) := ((((HR6.out.blk.set_ 0 (.int .i64 cc.n)).set_ 1 (.string ⟨cc.l.toArray⟩)).set_ 2 (.int .i64 cc.num)).set_ 3 (.int .i64 cc.den))
                refine bodyPost_ret (results_cell_tmp (p := 2) (u := 3) rfl _ _ w.heap.size 93 _ _ rfl hbk Tryz.underlying93 rfl (by kernel_rfl)) rfl ⟨ret_hn HV.out.1.symm HV.out.2.symm, ?_⟩
                exact ((((HB6.out.setCell (p := ⟨w.heap.size, 0, none⟩) (Nat.le_refl _) _).setCell (p := ⟨w.heap.size, 1, none⟩) (Nat.le_refl _) _).setCell (p := ⟨w.heap.size, 2, none⟩) (Nat.le_refl _) _).setCell (p := ⟨w.heap.size, 3, none⟩) (Nat.le_refl _) _)
              · have HV := hide (parseR_ne HC.out hv he)
                have hne : ((bs (textP cc)).toList == (bs t).toList) = false := by rw [bs_toList, bs_toList, beq_eq_false_iff_ne]; exact he
                clear hv he
                generalize bs (textP cc) = S at *
                go_wp2_with fail
                have hbk : Blk ((((w6.setCell ⟨w.heap.size, 0, none⟩ (.int .i64 (⟨0, [], 0, 0⟩ : HN).n)).setCell ⟨w.heap.size, 1, none⟩ (.string ⟨(⟨0, [], 0, 0⟩ : HN).l.toArray⟩)).setCell ⟨w.heap.size, 2, none⟩ (.int .i64 (⟨0, [], 0, 0⟩ : HN).num)).setCell ⟨w.heap.size, 3, none⟩ (.int .i64 (⟨0, [], 0, 0⟩ : HN).den)) w.heap.size 93 (hCells (⟨0, [], 0, 0⟩ : HN)) := ((((HR6.out.blk.set_ 0 (.int .i64 (⟨0, [], 0, 0⟩ : HN).n)).set_ 1 (.string ⟨(⟨0, [], 0, 0⟩ : HN).l.toArray⟩)).set_ 2 (.int .i64 (⟨0, [], 0, 0⟩ : HN).num)).set_ 3 (.int .i64 (⟨0, [], 0, 0⟩ : HN).den))
                refine bodyPost_ret (results_cell_tmp (p := 2) (u := 3) rfl _ _ w.heap.size 93 _ _ rfl hbk Tryz.underlying93 rfl (by kernel_rfl)) rfl ⟨ret_hn HV.out.1.symm HV.out.2.symm, ?_⟩
                exact ((((HB6.out.setCell (p := ⟨w.heap.size, 0, none⟩) (Nat.le_refl _) _).setCell (p := ⟨w.heap.size, 1, none⟩) (Nat.le_refl _) _).setCell (p := ⟨w.heap.size, 2, none⟩) (Nat.le_refl _) _).setCell (p := ⟨w.heap.size, 3, none⟩) (Nat.le_refl _) _)
          · have HC : Hid (candR t = ⟨v, [], 0, 0⟩) := by
              show _ = _
              rw [HC0.out, tail_not (by rw [List.length_cons, List.length_drop]; omega)]
            have e4 : ((t.length : Int) - (k : Int) == 4) = false := by rw [beq_eq_false_iff_ne]; omega
            have HN5 := HNb
            have HR5 := HR
            have HB5 := HBl
            clear HNb HR HBl HC0 hc h4 f0 f1 f2 f3 z1 z2 z3
            have HFI : Hid (HN.fit (⟨(v : Int), [], 0, 0⟩ : HN)) := by show (bs _).size ≤ maxLen; rw [bs_size]; unfold maxLen; first | decide | (simp)
            obtain ⟨x0, x1, x2, x3⟩ := HN5.out.facts
            go_wp2_with fail
            refine (rText_any (⟨(v : Int), [], 0, 0⟩ : HN) _ HFI.out).mono ?_
            rintro e w6 ⟨rfl, hb⟩
            have HB6 := hide (HB5.out.trans (hb.mono HB5.out.size))
            have HR6 := hide (HR5.out.to hb)
            have HN6 := hide (HN5.out.to hb)
            clear hb HB5 HR5 HN5 x0 x1 x2 x3
            obtain ⟨cc, hc⟩ : ∃ cx, (⟨(v : Int), [], 0, 0⟩ : HN) = cx := ⟨_, rfl⟩
            rw [hc] at HN6 HC ⊢
            clear hc
            obtain ⟨x0, x1, x2, x3⟩ := HN6.out.facts
            obtain ⟨r0, r1, r2, r3⟩ := HR6.out.facts
            have s0 := HR6.out.blk.frozen 0
            have s1 := HR6.out.blk.frozen 1
            have s2 := HR6.out.blk.frozen 2
            have s3 := HR6.out.blk.frozen 3
            cases hv : cc.valid
            · have HV := hide (parseR_bad HC.out hv)
              clear hv
              go_wp2_with fail
              have hbk : Blk ((((w6.setCell ⟨w.heap.size, 0, none⟩ (.int .i64 (⟨0, [], 0, 0⟩ : HN).n)).setCell ⟨w.heap.size, 1, none⟩ (.string ⟨(⟨0, [], 0, 0⟩ : HN).l.toArray⟩)).setCell ⟨w.heap.size, 2, none⟩ (.int .i64 (⟨0, [], 0, 0⟩ : HN).num)).setCell ⟨w.heap.size, 3, none⟩ (.int .i64 (⟨0, [], 0, 0⟩ : HN).den)) w.heap.size 93 (hCells (⟨0, [], 0, 0⟩ : HN)) := ((((HR6.out.blk.set_ 0 (.int .i64 (⟨0, [], 0, 0⟩ : HN).n)).set_ 1 (.string ⟨(⟨0, [], 0, 0⟩ : HN).l.toArray⟩)).set_ 2 (.int .i64 (⟨0, [], 0, 0⟩ : HN).num)).set_ 3 (.int .i64 (⟨0, [], 0, 0⟩ : HN).den))
              refine bodyPost_ret (results_cell_tmp (p := 2) (u := 3) rfl _ _ w.heap.size 93 _ _ rfl hbk Tryz.underlying93 rfl (by kernel_rfl)) rfl ⟨ret_hn HV.out.1.symm HV.out.2.symm, ?_⟩
              exact ((((HB6.out.setCell (p := ⟨w.heap.size, 0, none⟩) (Nat.le_refl _) _).setCell (p := ⟨w.heap.size, 1, none⟩) (Nat.le_refl _) _).setCell (p := ⟨w.heap.size, 2, none⟩) (Nat.le_refl _) _).setCell (p := ⟨w.heap.size, 3, none⟩) (Nat.le_refl _) _)
            · by_cases he : textP cc = t
              · have HV := hide (parseR_ok HC.out hv he)
                rw [he]
                clear hv he
                go_wp2_with fail
                have hbk : Blk ((((w6.setCell ⟨w.heap.size, 0, none⟩ (.int .i64 cc.n)).setCell ⟨w.heap.size, 1, none⟩ (.string ⟨cc.l.toArray⟩)).setCell ⟨w.heap.size, 2, none⟩ (.int .i64 cc.num)).setCell ⟨w.heap.size, 3, none⟩ (.int .i64 cc.den)) w.heap.size 93 (hCells cc) := ((((HR6.out.blk.set_ 0 (.int .i64 cc.n)).set_ 1 (.string ⟨cc.l.toArray⟩)).set_ 2 (.int .i64 cc.num)).set_ 3 (.int .i64 cc.den))
                refine bodyPost_ret (results_cell_tmp (p := 2) (u := 3) rfl _ _ w.heap.size 93 _ _ rfl hbk Tryz.underlying93 rfl (by kernel_rfl)) rfl ⟨ret_hn HV.out.1.symm HV.out.2.symm, ?_⟩
                exact ((((HB6.out.setCell (p := ⟨w.heap.size, 0, none⟩) (Nat.le_refl _) _).setCell (p := ⟨w.heap.size, 1, none⟩) (Nat.le_refl _) _).setCell (p := ⟨w.heap.size, 2, none⟩) (Nat.le_refl _) _).setCell (p := ⟨w.heap.size, 3, none⟩) (Nat.le_refl _) _)
              · have HV := hide (parseR_ne HC.out hv he)
                have hne : ((bs (textP cc)).toList == (bs t).toList) = false := by rw [bs_toList, bs_toList, beq_eq_false_iff_ne]; exact he
                clear hv he
                generalize bs (textP cc) = S at *
                go_wp2_with fail
                have hbk : Blk ((((w6.setCell ⟨w.heap.size, 0, none⟩ (.int .i64 (⟨0, [], 0, 0⟩ : HN).n)).setCell ⟨w.heap.size, 1, none⟩ (.string ⟨(⟨0, [], 0, 0⟩ : HN).l.toArray⟩)).setCell ⟨w.heap.size, 2, none⟩ (.int .i64 (⟨0, [], 0, 0⟩ : HN).num)).setCell ⟨w.heap.size, 3, none⟩ (.int .i64 (⟨0, [], 0, 0⟩ : HN).den)) w.heap.size 93 (hCells (⟨0, [], 0, 0⟩ : HN)) := ((((HR6.out.blk.set_ 0 (.int .i64 (⟨0, [], 0, 0⟩ : HN).n)).set_ 1 (.string ⟨(⟨0, [], 0, 0⟩ : HN).l.toArray⟩)).set_ 2 (.int .i64 (⟨0, [], 0, 0⟩ : HN).num)).set_ 3 (.int .i64 (⟨0, [], 0, 0⟩ : HN).den))
                refine bodyPost_ret (results_cell_tmp (p := 2) (u := 3) rfl _ _ w.heap.size 93 _ _ rfl hbk Tryz.underlying93 rfl (by kernel_rfl)) rfl ⟨ret_hn HV.out.1.symm HV.out.2.symm, ?_⟩
                exact ((((HB6.out.setCell (p := ⟨w.heap.size, 0, none⟩) (Nat.le_refl _) _).setCell (p := ⟨w.heap.size, 1, none⟩) (Nat.le_refl _) _).setCell (p := ⟨w.heap.size, 2, none⟩) (Nat.le_refl _) _).setCell (p := ⟨w.heap.size, 3, none⟩) (Nat.le_refl _) _)
        · have hne : ((c.toNat : Int) != 32) = true := by rw [bne_iff_ne]; intro h; exact h32 (UInt8.toNat_inj.1 (by simp; omega))
          have ex : (bs t).extract k (k + 1) = bs [c] := by rw [bs_cut, HD.out, show k + 1 - k = 1 by omega]; rfl
          have HRS : Hid (restR (t.drop k) = ([c], t.drop (k + 1))) := by show _ = _; rw [HD.out]; unfold restR; simp only; rw [if_neg h32]
          have HC0 : Hid (candR t = ⟨v, [c], (tailR (t.drop (k + 1))).1, (tailR (t.drop (k + 1))).2⟩) := by show _ = _; rw [candR_at HAl.out HND.out HRS.out, HVv.out]
          have b0 := c.toNat_lt
          have HTW : (48 ≤ c.toNat → ¬ c.toNat ≤ 57) := fun h h' => hnd ⟨h, h'⟩
          clear hnd h32
          by_cases h4 : t.length = k + 5
          · obtain ⟨x0, hx0⟩ : ∃ x, t[k + 1]? = some x := ⟨_, List.getElem?_eq_getElem (by omega)⟩
            obtain ⟨x, hx⟩ : ∃ x, t[k + 2]? = some x := ⟨_, List.getElem?_eq_getElem (by omega)⟩
            obtain ⟨y, hy⟩ : ∃ y, t[k + 3]? = some y := ⟨_, List.getElem?_eq_getElem (by omega)⟩
            obtain ⟨z, hz⟩ : ∃ z, t[k + 4]? = some z := ⟨_, List.getElem?_eq_getElem (by omega)⟩
            have HC : Hid (candR t = ⟨v, [c], (x.toNat : Int) - 48, (z.toNat : Int) - 48⟩) := by
              show _ = _
              rw [HC0.out, drop_at5 hx0, drop_at5 hx, drop_at5 hy, drop_at5 hz, List.drop_of_length_le (by omega)]; rfl
            have ix := index_bs t (k + 2) x hx
            have iz := index_bs t (k + 4) z hz
            rw [show ((k + 2 : Nat) : Int) = (k : Int) + 1 + 1 by omega] at ix
            rw [show ((k + 4 : Nat) : Int) = (k : Int) + 1 + 3 by omega] at iz
            have e4 : ((t.length : Int) - ((k : Int) + 1) == 4) = true := by rw [beq_iff_eq]; omega
            have b1 := x.toNat_lt
            have b2 := z.toNat_lt
            clear hx0 hx hy hz hc h4 HC0 HRS HD HND
            generalize x.toNat = xn at *
            generalize z.toNat = zn at *
            have HN5 : Hid (HBox (((wr.setCell ⟨w.heap.size + 1, 1, none⟩ (.string (bs [c]))).setCell ⟨w.heap.size + 1, 2, none⟩ (.int .i64 ((xn : Int) - 48))).setCell ⟨w.heap.size + 1, 3, none⟩ (.int .i64 ((zn : Int) - 48))) (w.heap.size + 1) (⟨(v : Int), [c], (xn : Int) - 48, (zn : Int) - 48⟩ : HN)) := ⟨(((HNb.out.blk.set_ 1 (.string (bs [c]))).set_ 2 (.int .i64 ((xn : Int) - 48))).set_ 3 (.int .i64 ((zn : Int) - 48)))⟩
            have HR5 : Hid (HBox (((wr.setCell ⟨w.heap.size + 1, 1, none⟩ (.string (bs [c]))).setCell ⟨w.heap.size + 1, 2, none⟩ (.int .i64 ((xn : Int) - 48))).setCell ⟨w.heap.size + 1, 3, none⟩ (.int .i64 ((zn : Int) - 48))) w.heap.size ⟨0, [], 0, 0⟩) := ⟨(((HR.out.blk.far (p := ⟨w.heap.size + 1, 1, none⟩) (Nat.ne_of_lt (Nat.lt_succ_self _)) (.string (bs [c]))).far (p := ⟨w.heap.size + 1, 2, none⟩) (Nat.ne_of_lt (Nat.lt_succ_self _)) (.int .i64 ((xn : Int) - 48))).far (p := ⟨w.heap.size + 1, 3, none⟩) (Nat.ne_of_lt (Nat.lt_succ_self _)) (.int .i64 ((zn : Int) - 48)))⟩
            have HB5 : Hid (Below w.heap.size w (((wr.setCell ⟨w.heap.size + 1, 1, none⟩ (.string (bs [c]))).setCell ⟨w.heap.size + 1, 2, none⟩ (.int .i64 ((xn : Int) - 48))).setCell ⟨w.heap.size + 1, 3, none⟩ (.int .i64 ((zn : Int) - 48)))) := (((HBl.out.setCell (p := ⟨w.heap.size + 1, 1, none⟩) (Nat.le_succ _) (.string (bs [c]))).setCell (p := ⟨w.heap.size + 1, 2, none⟩) (Nat.le_succ _) (.int .i64 ((xn : Int) - 48))).setCell (p := ⟨w.heap.size + 1, 3, none⟩) (Nat.le_succ _) (.int .i64 ((zn : Int) - 48)))
            clear HNb HR HBl
            by_cases h48 : 48 ≤ c.toNat
            · have g1 : decide (48 ≤ (c.toNat : Int)) = true := decide_eq_true (by omega)
              have g2 : decide ((c.toNat : Int) ≤ 57) = false := decide_eq_false (by have := HTW h48; omega)
              clear h48 HTW
              generalize c.toNat = cn at *
              go_wp2_with fail
              generalize ((wr.setCell ⟨w.heap.size + 1, 1, none⟩ (.string (bs [c]))).setCell ⟨w.heap.size + 1, 2, none⟩ (.int .i64 ((xn : Int) - 48))).setCell ⟨w.heap.size + 1, 3, none⟩ (.int .i64 ((zn : Int) - 48)) = w5 at *
              have HFI : Hid (HN.fit (⟨(v : Int), [c], (xn : Int) - 48, (zn : Int) - 48⟩ : HN)) := by show (bs _).size ≤ maxLen; rw [bs_size]; unfold maxLen; first | decide | (simp)
              refine (rText_any (⟨(v : Int), [c], (xn : Int) - 48, (zn : Int) - 48⟩ : HN) _ HFI.out).mono ?_
              rintro e w6 ⟨rfl, hb⟩
              have HB6 := hide (HB5.out.trans (hb.mono HB5.out.size))
              have HR6 := hide (HR5.out.to hb)
              have HN6 := hide (HN5.out.to hb)
              clear hb HB5 HR5 HN5
              obtain ⟨cc, hc⟩ : ∃ cx, (⟨(v : Int), [c], (xn : Int) - 48, (zn : Int) - 48⟩ : HN) = cx := ⟨_, rfl⟩
              rw [hc] at HN6 HC ⊢
              clear hc
              obtain ⟨x0, x1, x2, x3⟩ := HN6.out.facts
              obtain ⟨r0, r1, r2, r3⟩ := HR6.out.facts
              have s0 := HR6.out.blk.frozen 0
              have s1 := HR6.out.blk.frozen 1
              have s2 := HR6.out.blk.frozen 2
              have s3 := HR6.out.blk.frozen 3
              cases hv : cc.valid
              · have HV := hide (parseR_bad HC.out hv)
                clear hv
                go_wp2_with fail
                have hbk : Blk ((((w6.setCell ⟨w.heap.size, 0, none⟩ (.int .i64 (⟨0, [], 0, 0⟩ : HN).n)).setCell ⟨w.heap.size, 1, none⟩ (.string ⟨(⟨0, [], 0, 0⟩ : HN).l.toArray⟩)).setCell ⟨w.heap.size, 2, none⟩ (.int .i64 (⟨0, [], 0, 0⟩ : HN).num)).setCell ⟨w.heap.size, 3, none⟩ (.int .i64 (⟨0, [], 0, 0⟩ : HN).den)) w.heap.size 93 (hCells (⟨0, [], 0, 0⟩ : HN)) := ((((HR6.out.blk.set_ 0 (.int .i64 (⟨0, [], 0, 0⟩ : HN).n)).set_ 1 (.string ⟨(⟨0, [], 0, 0⟩ : HN).l.toArray⟩)).set_ 2 (.int .i64 (⟨0, [], 0, 0⟩ : HN).num)).set_ 3 (.int .i64 (⟨0, [], 0, 0⟩ : HN).den))
                refine bodyPost_ret (results_cell_tmp (p := 2) (u := 3) rfl _ _ w.heap.size 93 _ _ rfl hbk Tryz.underlying93 rfl (by kernel_rfl)) rfl ⟨ret_hn HV.out.1.symm HV.out.2.symm, ?_⟩
                exact ((((HB6.out.setCell (p := ⟨w.heap.size, 0, none⟩) (Nat.le_refl _) _).setCell (p := ⟨w.heap.size, 1, none⟩) (Nat.le_refl _) _).setCell (p := ⟨w.heap.size, 2, none⟩) (Nat.le_refl _) _).setCell (p := ⟨w.heap.size, 3, none⟩) (Nat.le_refl _) _)
              · by_cases he : textP cc = t
                · have HV := hide (parseR_ok HC.out hv he)
                  rw [he]
                  clear hv he
                  go_wp2_with fail
                  have hbk : Blk ((((w6.setCell ⟨w.heap.size, 0, none⟩ (.int .i64 cc.n)).setCell ⟨w.heap.size, 1, none⟩ (.string ⟨cc.l.toArray⟩)).setCell ⟨w.heap.size, 2, none⟩ (.int .i64 cc.num)).setCell ⟨w.heap.size, 3, none⟩ (.int .i64 cc.den)) w.heap.size 93 (hCells cc) := ((((HR6.out.blk.set_ 0 (.int .i64 cc.n)).set_ 1 (.string ⟨cc.l.toArray⟩)).set_ 2 (.int .i64 cc.num)).set_ 3 (.int .i64 cc.den))
                  refine bodyPost_ret (results_cell_tmp (p := 2) (u := 3) rfl _ _ w.heap.size 93 _ _ rfl hbk Tryz.underlying93 rfl (by kernel_rfl)) rfl ⟨ret_hn HV.out.1.symm HV.out.2.symm, ?_⟩
                  exact ((((HB6.out.setCell (p := ⟨w.heap.size, 0, none⟩) (Nat.le_refl _) _).setCell (p := ⟨w.heap.size, 1, none⟩) (Nat.le_refl _) _).setCell (p := ⟨w.heap.size, 2, none⟩) (Nat.le_refl _) _).setCell (p := ⟨w.heap.size, 3, none⟩) (Nat.le_refl _) _)
                · have HV := hide (parseR_ne HC.out hv he)
                  have hne : ((bs (textP cc)).toList == (bs t).toList) = false := by rw [bs_toList, bs_toList, beq_eq_false_iff_ne]; exact he
                  clear hv he
                  generalize bs (textP cc) = S at *
                  go_wp2_with fail
                  have hbk : Blk ((((w6.setCell ⟨w.heap.size, 0, none⟩ (.int .i64 (⟨0, [], 0, 0⟩ : HN).n)).setCell ⟨w.heap.size, 1, none⟩ (.string ⟨(⟨0, [], 0, 0⟩ : HN).l.toArray⟩)).setCell ⟨w.heap.size, 2, none⟩ (.int .i64 (⟨0, [], 0, 0⟩ : HN).num)).setCell ⟨w.heap.size, 3, none⟩ (.int .i64 (⟨0, [], 0, 0⟩ : HN).den)) w.heap.size 93 (hCells (⟨0, [], 0, 0⟩ : HN)) := ((((HR6.out.blk.set_ 0 (.int .i64 (⟨0, [], 0, 0⟩ : HN).n)).set_ 1 (.string ⟨(⟨0, [], 0, 0⟩ : HN).l.toArray⟩)).set_ 2 (.int .i64 (⟨0, [], 0, 0⟩ : HN).num)).set_ 3 (.int .i64 (⟨0, [], 0, 0⟩ : HN).den))
                  refine bodyPost_ret (results_cell_tmp (p := 2) (u := 3) rfl _ _ w.heap.size 93 _ _ rfl hbk Tryz.underlying93 rfl (by kernel_rfl)) rfl ⟨ret_hn HV.out.1.symm HV.out.2.symm, ?_⟩
                  exact ((((HB6.out.setCell (p := ⟨w.heap.size, 0, none⟩) (Nat.le_refl _) _).setCell (p := ⟨w.heap.size, 1, none⟩) (Nat.le_refl _) _).setCell (p := ⟨w.heap.size, 2, none⟩) (Nat.le_refl _) _).setCell (p := ⟨w.heap.size, 3, none⟩) (Nat.le_refl _) _)
            · have g1 : decide (48 ≤ (c.toNat : Int)) = false := decide_eq_false (by omega)
              clear h48 HTW
              generalize c.toNat = cn at *
              go_wp2_with fail
              generalize ((wr.setCell ⟨w.heap.size + 1, 1, none⟩ (.string (bs [c]))).setCell ⟨w.heap.size + 1, 2, none⟩ (.int .i64 ((xn : Int) - 48))).setCell ⟨w.heap.size + 1, 3, none⟩ (.int .i64 ((zn : Int) - 48)) = w5 at *
              have HFI : Hid (HN.fit (⟨(v : Int), [c], (xn : Int) - 48, (zn : Int) - 48⟩ : HN)) := by show (bs _).size ≤ maxLen; rw [bs_size]; unfold maxLen; first | decide | (simp)
              refine (rText_any (⟨(v : Int), [c], (xn : Int) - 48, (zn : Int) - 48⟩ : HN) _ HFI.out).mono ?_
              rintro e w6 ⟨rfl, hb⟩
              have HB6 := hide (HB5.out.trans (hb.mono HB5.out.size))
              have HR6 := hide (HR5.out.to hb)
              have HN6 := hide (HN5.out.to hb)
              clear hb HB5 HR5 HN5
              obtain ⟨cc, hc⟩ : ∃ cx, (⟨(v : Int), [c], (xn : Int) - 48, (zn : Int) - 48⟩ : HN) = cx := ⟨_, rfl⟩
              rw [hc] at HN6 HC ⊢
              clear hc
              obtain ⟨x0, x1, x2, x3⟩ := HN6.out.facts
              obtain ⟨r0, r1, r2, r3⟩ := HR6.out.facts
              have s0 := HR6.out.blk.frozen 0
              have s1 := HR6.out.blk.frozen 1
              have s2 := HR6.out.blk.frozen 2
              have s3 := HR6.out.blk.frozen 3
              cases hv : cc.valid
              · have HV := hide (parseR_bad HC.out hv)
                clear hv
                go_wp2_with fail
                have hbk : Blk ((((w6.setCell ⟨w.heap.size, 0, none⟩ (.int .i64 (⟨0, [], 0, 0⟩ : HN).n)).setCell ⟨w.heap.size, 1, none⟩ (.string ⟨(⟨0, [], 0, 0⟩ : HN).l.toArray⟩)).setCell ⟨w.heap.size, 2, none⟩ (.int .i64 (⟨0, [], 0, 0⟩ : HN).num)).setCell ⟨w.heap.size, 3, none⟩ (.int .i64 (⟨0, [], 0, 0⟩ : HN).den)) w.heap.size 93 (hCells (⟨0, [], 0, 0⟩ : HN)) := ((((HR6.out.blk.set_ 0 (.int .i64 (⟨0, [], 0, 0⟩ : HN).n)).set_ 1 (.string ⟨(⟨0, [], 0, 0⟩ : HN).l.toArray⟩)).set_ 2 (.int .i64 (⟨0, [], 0, 0⟩ : HN).num)).set_ 3 (.int .i64 (⟨0, [], 0, 0⟩ : HN).den))
                refine bodyPost_ret (results_cell_tmp (p := 2) (u := 3) rfl _ _ w.heap.size 93 _ _ rfl hbk Tryz.underlying93 rfl (by kernel_rfl)) rfl ⟨ret_hn HV.out.1.symm HV.out.2.symm, ?_⟩
                exact ((((HB6.out.setCell (p := ⟨w.heap.size, 0, none⟩) (Nat.le_refl _) _).setCell (p := ⟨w.heap.size, 1, none⟩) (Nat.le_refl _) _).setCell (p := ⟨w.heap.size, 2, none⟩) (Nat.le_refl _) _).setCell (p := ⟨w.heap.size, 3, none⟩) (Nat.le_refl _) _)
              · by_cases he : textP cc = t
                · have HV := hide (parseR_ok HC.out hv he)
                  rw [he]
                  clear hv he
                  go_wp2_with fail
                  have hbk : Blk ((((w6.setCell ⟨w.heap.size, 0, none⟩ (.int .i64 cc.n)).setCell ⟨w.heap.size, 1, none⟩ (.string ⟨cc.l.toArray⟩)).setCell ⟨w.heap.size, 2, none⟩ (.int .i64 cc.num)).setCell ⟨w.heap.size, 3, none⟩ (.int .i64 cc.den)) w.heap.size 93 (hCells cc) := ((((HR6.out.blk.set_ 0 (.int .i64 cc.n)).set_ 1 (.string ⟨cc.l.toArray⟩)).set_ 2 (.int .i64 cc.num)).set_ 3 (.int .i64 cc.den))
                  refine bodyPost_ret (results_cell_tmp (p := 2) (u := 3) rfl _ _ w.heap.size 93 _ _ rfl hbk Tryz.underlying93 rfl (by kernel_rfl)) rfl ⟨ret_hn HV.out.1.symm HV.out.2.symm, ?_⟩
                  exact ((((HB6.out.setCell (p := ⟨w.heap.size, 0, none⟩) (Nat.le_refl _) _).setCell (p := ⟨w.heap.size, 1, none⟩) (Nat.le_refl _) _).setCell (p := ⟨w.heap.size, 2, none⟩) (Nat.le_refl _) _).setCell (p := ⟨w.heap.size, 3, none⟩) (Nat.le_refl _) _)
                · have HV := hide (parseR_ne HC.out hv he)
                  have hne : ((bs (textP cc)).toList == (bs t).toList) = false := by rw [bs_toList, bs_toList, beq_eq_false_iff_ne]; exact he
                  clear hv he
                  generalize bs (textP cc) = S at *
                  go_wp2_with fail
                  have hbk : Blk ((((w6.setCell ⟨w.heap.size, 0, none⟩ (.int .i64 (⟨0, [], 0, 0⟩ : HN).n)).setCell ⟨w.heap.size, 1, none⟩ (.string ⟨(⟨0, [], 0, 0⟩ : HN).l.toArray⟩)).setCell ⟨w.heap.size, 2, none⟩ (.int .i64 (⟨0, [], 0, 0⟩ : HN).num)).setCell ⟨w.heap.size, 3, none⟩ (.int .i64 (⟨0, [], 0, 0⟩ : HN).den)) w.heap.size 93 (hCells (⟨0, [], 0, 0⟩ : HN)) := ((((HR6.out.blk.set_ 0 (.int .i64 (⟨0, [], 0, 0⟩ : HN).n)).set_ 1 (.string ⟨(⟨0, [], 0, 0⟩ : HN).l.toArray⟩)).set_ 2 (.int .i64 (⟨0, [], 0, 0⟩ : HN).num)).set_ 3 (.int .i64 (⟨0, [], 0, 0⟩ : HN).den))
                  refine bodyPost_ret (results_cell_tmp (p := 2) (u := 3) rfl _ _ w.heap.size 93 _ _ rfl hbk Tryz.underlying93 rfl (by kernel_rfl)) rfl ⟨ret_hn HV.out.1.symm HV.out.2.symm, ?_⟩
                  exact ((((HB6.out.setCell (p := ⟨w.heap.size, 0, none⟩) (Nat.le_refl _) _).setCell (p := ⟨w.heap.size, 1, none⟩) (Nat.le_refl _) _).setCell (p := ⟨w.heap.size, 2, none⟩) (Nat.le_refl _) _).setCell (p := ⟨w.heap.size, 3, none⟩) (Nat.le_refl _) _)
          · have HC : Hid (candR t = ⟨v, [c], 0, 0⟩) := by
              show _ = _
              rw [HC0.out, tail_not (by rw [List.length_drop]; omega)]
            have e4 : ((t.length : Int) - ((k : Int) + 1) == 4) = false := by rw [beq_eq_false_iff_ne]; omega
            have HN5 : Hid (HBox (wr.setCell ⟨w.heap.size + 1, 1, none⟩ (.string (bs [c]))) (w.heap.size + 1) (⟨(v : Int), [c], 0, 0⟩ : HN)) := ⟨(HNb.out.blk.set_ 1 (.string (bs [c])))⟩
            have HR5 : Hid (HBox (wr.setCell ⟨w.heap.size + 1, 1, none⟩ (.string (bs [c]))) w.heap.size ⟨0, [], 0, 0⟩) := ⟨(HR.out.blk.far (p := ⟨w.heap.size + 1, 1, none⟩) (Nat.ne_of_lt (Nat.lt_succ_self _)) (.string (bs [c])))⟩
            have HB5 : Hid (Below w.heap.size w (wr.setCell ⟨w.heap.size + 1, 1, none⟩ (.string (bs [c])))) := (HBl.out.setCell (p := ⟨w.heap.size + 1, 1, none⟩) (Nat.le_succ _) (.string (bs [c])))
            clear HNb HR HBl HC0 hc h4 z2 z3 HRS HD HND
            by_cases h48 : 48 ≤ c.toNat
            · have g1 : decide (48 ≤ (c.toNat : Int)) = true := decide_eq_true (by omega)
              have g2 : decide ((c.toNat : Int) ≤ 57) = false := decide_eq_false (by have := HTW h48; omega)
              clear h48 HTW
              generalize c.toNat = cn at *
              go_wp2_with fail
              generalize wr.setCell ⟨w.heap.size + 1, 1, none⟩ (.string (bs [c])) = w5 at *
              have HFI : Hid (HN.fit (⟨(v : Int), [c], 0, 0⟩ : HN)) := by show (bs _).size ≤ maxLen; rw [bs_size]; unfold maxLen; first | decide | (simp)
              refine (rText_any (⟨(v : Int), [c], 0, 0⟩ : HN) _ HFI.out).mono ?_
              rintro e w6 ⟨rfl, hb⟩
              have HB6 := hide (HB5.out.trans (hb.mono HB5.out.size))
              have HR6 := hide (HR5.out.to hb)
              have HN6 := hide (HN5.out.to hb)
              clear hb HB5 HR5 HN5
              obtain ⟨cc, hc⟩ : ∃ cx, (⟨(v : Int), [c], 0, 0⟩ : HN) = cx := ⟨_, rfl⟩
              rw [hc] at HN6 HC ⊢
              clear hc
              obtain ⟨x0, x1, x2, x3⟩ := HN6.out.facts
              obtain ⟨r0, r1, r2, r3⟩ := HR6.out.facts
              have s0 := HR6.out.blk.frozen 0
              have s1 := HR6.out.blk.frozen 1
              have s2 := HR6.out.blk.frozen 2
              have s3 := HR6.out.blk.frozen 3
              cases hv : cc.valid
              · have HV := hide (parseR_bad HC.out hv)
                clear hv
                go_wp2_with fail
                have hbk : Blk ((((w6.setCell ⟨w.heap.size, 0, none⟩ (.int .i64 (⟨0, [], 0, 0⟩ : HN).n)).setCell ⟨w.heap.size, 1, none⟩ (.string ⟨(⟨0, [], 0, 0⟩ : HN).l.toArray⟩)).setCell ⟨w.heap.size, 2, none⟩ (.int .i64 (⟨0, [], 0, 0⟩ : HN).num)).setCell ⟨w.heap.size, 3, none⟩ (.int .i64 (⟨0, [], 0, 0⟩ : HN).den)) w.heap.size 93 (hCells (⟨0, [], 0, 0⟩ : HN)) := ((((HR6.out.blk.set_ 0 (.int .i64 (⟨0, [], 0, 0⟩ : HN).n)).set_ 1 (.string ⟨(⟨0, [], 0, 0⟩ : HN).l.toArray⟩)).set_ 2 (.int .i64 (⟨0, [], 0, 0⟩ : HN).num)).set_ 3 (.int .i64 (⟨0, [], 0, 0⟩ : HN).den))
                refine bodyPost_ret (results_cell_tmp (p := 2) (u := 3) rfl _ _ w.heap.size 93 _ _ rfl hbk Tryz.underlying93 rfl (by kernel_rfl)) rfl ⟨ret_hn HV.out.1.symm HV.out.2.symm, ?_⟩
                exact ((((HB6.out.setCell (p := ⟨w.heap.size, 0, none⟩) (Nat.le_refl _) _).setCell (p := ⟨w.heap.size, 1, none⟩) (Nat.le_refl _) _).setCell (p := ⟨w.heap.size, 2, none⟩) (Nat.le_refl _) _).setCell (p := ⟨w.heap.size, 3, none⟩) (Nat.le_refl _) _)
              · by_cases he : textP cc = t
                · have HV := hide (parseR_ok HC.out hv he)
                  rw [he]
                  clear hv he
                  go_wp2_with fail
                  have hbk : Blk ((((w6.setCell ⟨w.heap.size, 0, none⟩ (.int .i64 cc.n)).setCell ⟨w.heap.size, 1, none⟩ (.string ⟨cc.l.toArray⟩)).setCell ⟨w.heap.size, 2, none⟩ (.int .i64 cc.num)).setCell ⟨w.heap.size, 3, none⟩ (.int .i64 cc.den)) w.heap.size 93 (hCells cc) := ((((HR6.out.blk.set_ 0 (.int .i64 cc.n)).set_ 1 (.string ⟨cc.l.toArray⟩)).set_ 2 (.int .i64 cc.num)).set_ 3 (.int .i64 cc.den))
                  refine bodyPost_ret (results_cell_tmp (p := 2) (u := 3) rfl _ _ w.heap.size 93 _ _ rfl hbk Tryz.underlying93 rfl (by kernel_rfl)) rfl ⟨ret_hn HV.out.1.symm HV.out.2.symm, ?_⟩
                  exact ((((HB6.out.setCell (p := ⟨w.heap.size, 0, none⟩) (Nat.le_refl _) _).setCell (p := ⟨w.heap.size, 1, none⟩) (Nat.le_refl _) _).setCell (p := ⟨w.heap.size, 2, none⟩) (Nat.le_refl _) _).setCell (p := ⟨w.heap.size, 3, none⟩) (Nat.le_refl _) _)
                · have HV := hide (parseR_ne HC.out hv he)
                  have hne : ((bs (textP cc)).toList == (bs t).toList) = false := by rw [bs_toList, bs_toList, beq_eq_false_iff_ne]; exact he
                  clear hv he
                  generalize bs (textP cc) = S at *
                  go_wp2_with fail
                  have hbk : Blk ((((w6.setCell ⟨w.heap.size, 0, none⟩ (.int .i64 (⟨0, [], 0, 0⟩ : HN).n)).setCell ⟨w.heap.size, 1, none⟩ (.string ⟨(⟨0, [], 0, 0⟩ : HN).l.toArray⟩)).setCell ⟨w.heap.size, 2, none⟩ (.int .i64 (⟨0, [], 0, 0⟩ : HN).num)).setCell ⟨w.heap.size, 3, none⟩ (.int .i64 (⟨0, [], 0, 0⟩ : HN).den)) w.heap.size 93 (hCells (⟨0, [], 0, 0⟩ : HN)) := ((((HR6.out.blk.set_ 0 (.int .i64 (⟨0, [], 0, 0⟩ : HN).n)).set_ 1 (.string ⟨(⟨0, [], 0, 0⟩ : HN).l.toArray⟩)).set_ 2 (.int .i64 (⟨0, [], 0, 0⟩ : HN).num)).set_ 3 (.int .i64 (⟨0, [], 0, 0⟩ : HN).den))
                  refine bodyPost_ret (results_cell_tmp (p := 2) (u := 3) rfl _ _ w.heap.size 93 _ _ rfl hbk Tryz.underlying93 rfl (by kernel_rfl)) rfl ⟨ret_hn HV.out.1.symm HV.out.2.symm, ?_⟩
                  exact ((((HB6.out.setCell (p := ⟨w.heap.size, 0, none⟩) (Nat.le_refl _) _).setCell (p := ⟨w.heap.size, 1, none⟩) (Nat.le_refl _) _).setCell (p := ⟨w.heap.size, 2, none⟩) (Nat.le_refl _) _).setCell (p := ⟨w.heap.size, 3, none⟩) (Nat.le_refl _) _)
            · have g1 : decide (48 ≤ (c.toNat : Int)) = false := decide_eq_false (by omega)
              clear h48 HTW
              generalize c.toNat = cn at *
              go_wp2_with fail
              generalize wr.setCell ⟨w.heap.size + 1, 1, none⟩ (.string (bs [c])) = w5 at *
              have HFI : Hid (HN.fit (⟨(v : Int), [c], 0, 0⟩ : HN)) := by show (bs _).size ≤ maxLen; rw [bs_size]; unfold maxLen; first | decide | (simp)
              refine (rText_any (⟨(v : Int), [c], 0, 0⟩ : HN) _ HFI.out).mono ?_
              rintro e w6 ⟨rfl, hb⟩
              have HB6 := hide (HB5.out.trans (hb.mono HB5.out.size))
              have HR6 := hide (HR5.out.to hb)
              have HN6 := hide (HN5.out.to hb)
              clear hb HB5 HR5 HN5
              obtain ⟨cc, hc⟩ : ∃ cx, (⟨(v : Int), [c], 0, 0⟩ : HN) = cx := ⟨_, rfl⟩
              rw [hc] at HN6 HC ⊢
              clear hc
              obtain ⟨x0, x1, x2, x3⟩ := HN6.out.facts
              obtain ⟨r0, r1, r2, r3⟩ := HR6.out.facts
              have s0 := HR6.out.blk.frozen 0
              have s1 := HR6.out.blk.frozen 1
              have s2 := HR6.out.blk.frozen 2
              have s3 := HR6.out.blk.frozen 3
              cases hv : cc.valid
              · have HV := hide (parseR_bad HC.out hv)
                clear hv
                go_wp2_with fail
                have hbk : Blk ((((w6.setCell ⟨w.heap.size, 0, none⟩ (.int .i64 (⟨0, [], 0, 0⟩ : HN).n)).setCell ⟨w.heap.size, 1, none⟩ (.string ⟨(⟨0, [], 0, 0⟩ : HN).l.toArray⟩)).setCell ⟨w.heap.size, 2, none⟩ (.int .i64 (⟨0, [], 0, 0⟩ : HN).num)).setCell ⟨w.heap.size, 3, none⟩ (.int .i64 (⟨0, [], 0, 0⟩ : HN).den)) w.heap.size 93 (hCells (⟨0, [], 0, 0⟩ : HN)) := ((((HR6.out.blk.set_ 0 (.int .i64 (⟨0, [], 0, 0⟩ : HN).n)).set_ 1 (.string ⟨(⟨0, [], 0, 0⟩ : HN).l.toArray⟩)).set_ 2 (.int .i64 (⟨0, [], 0, 0⟩ : HN).num)).set_ 3 (.int .i64 (⟨0, [], 0, 0⟩ : HN).den))
                refine bodyPost_ret (results_cell_tmp (p := 2) (u := 3) rfl _ _ w.heap.size 93 _ _ rfl hbk Tryz.underlying93 rfl (by kernel_rfl)) rfl ⟨ret_hn HV.out.1.symm HV.out.2.symm, ?_⟩
                exact ((((HB6.out.setCell (p := ⟨w.heap.size, 0, none⟩) (Nat.le_refl _) _).setCell (p := ⟨w.heap.size, 1, none⟩) (Nat.le_refl _) _).setCell (p := ⟨w.heap.size, 2, none⟩) (Nat.le_refl _) _).setCell (p := ⟨w.heap.size, 3, none⟩) (Nat.le_refl _) _)
              · by_cases he : textP cc = t
                · have HV := hide (parseR_ok HC.out hv he)
                  rw [he]
                  clear hv he
                  go_wp2_with fail
                  have hbk : Blk ((((w6.setCell ⟨w.heap.size, 0, none⟩ (.int .i64 cc.n)).setCell ⟨w.heap.size, 1, none⟩ (.string ⟨cc.l.toArray⟩)).setCell ⟨w.heap.size, 2, none⟩ (.int .i64 cc.num)).setCell ⟨w.heap.size, 3, none⟩ (.int .i64 cc.den)) w.heap.size 93 (hCells cc) := ((((HR6.out.blk.set_ 0 (.int .i64 cc.n)).set_ 1 (.string ⟨cc.l.toArray⟩)).set_ 2 (.int .i64 cc.num)).set_ 3 (.int .i64 cc.den))
                  refine bodyPost_ret (results_cell_tmp (p := 2) (u := 3) rfl _ _ w.heap.size 93 _ _ rfl hbk Tryz.underlying93 rfl (by kernel_rfl)) rfl ⟨ret_hn HV.out.1.symm HV.out.2.symm, ?_⟩
                  exact ((((HB6.out.setCell (p := ⟨w.heap.size, 0, none⟩) (Nat.le_refl _) _).setCell (p := ⟨w.heap.size, 1, none⟩) (Nat.le_refl _) _).setCell (p := ⟨w.heap.size, 2, none⟩) (Nat.le_refl _) _).setCell (p := ⟨w.heap.size, 3, none⟩) (Nat.le_refl _) _)
                · have HV := hide (parseR_ne HC.out hv he)
                  have hne : ((bs (textP cc)).toList == (bs t).toList) = false := by rw [bs_toList, bs_toList, beq_eq_false_iff_ne]; exact he
                  clear hv he
                  generalize bs (textP cc) = S at *
                  go_wp2_with fail
                  have hbk : Blk ((((w6.setCell ⟨w.heap.size, 0, none⟩ (.int .i64 (⟨0, [], 0, 0⟩ : HN).n)).setCell ⟨w.heap.size, 1, none⟩ (.string ⟨(⟨0, [], 0, 0⟩ : HN).l.toArray⟩)).setCell ⟨w.heap.size, 2, none⟩ (.int .i64 (⟨0, [], 0, 0⟩ : HN).num)).setCell ⟨w.heap.size, 3, none⟩ (.int .i64 (⟨0, [], 0, 0⟩ : HN).den)) w.heap.size 93 (hCells (⟨0, [], 0, 0⟩ : HN)) := ((((HR6.out.blk.set_ 0 (.int .i64 (⟨0, [], 0, 0⟩ : HN).n)).set_ 1 (.string ⟨(⟨0, [], 0, 0⟩ : HN).l.toArray⟩)).set_ 2 (.int .i64 (⟨0, [], 0, 0⟩ : HN).num)).set_ 3 (.int .i64 (⟨0, [], 0, 0⟩ : HN).den))
                  refine bodyPost_ret (results_cell_tmp (p := 2) (u := 3) rfl _ _ w.heap.size 93 _ _ rfl hbk Tryz.underlying93 rfl (by kernel_rfl)) rfl ⟨ret_hn HV.out.1.symm HV.out.2.symm, ?_⟩
                  exact ((((HB6.out.setCell (p := ⟨w.heap.size, 0, none⟩) (Nat.le_refl _) _).setCell (p := ⟨w.heap.size, 1, none⟩) (Nat.le_refl _) _).setCell (p := ⟨w.heap.size, 2, none⟩) (Nat.le_refl _) _).setCell (p := ⟨w.heap.size, 3, none⟩) (Nat.le_refl _) _)
      · obtain ⟨g1, g2⟩ := (dgB_iff c).1 hdg
        have HT : Hid (t.take (k + 1) = t.take k ++ [c]) := by show _ = _; rw [List.take_add_one, hc]; rfl
        have HN1 : Hid (val 0 (t.take (k + 1)) = v * 10 + (c.toNat - 48)) := by show _ = _; rw [HT.out, val_snoc, HVv.out]
        have HA1 : Hid ((t.take (k + 1)).all dgB = true) := by show _ = _; rw [HT.out, List.all_append, HAl.out]; simp [hdg]
        have hv1 : v * 10 + (c.toNat - 48) < 1000000000 := by
          have := val_pow _ HA1.out
          rw [HN1.out] at this
          refine Nat.lt_of_lt_of_le this (Nat.le_trans (Nat.pow_le_pow_right (by decide) (show (t.take (k + 1)).length ≤ 9 by rw [List.length_take]; omega)) (by decide))
        have f1 : decide (48 ≤ (c.toNat : Int)) = true := decide_eq_true (by omega)
        have f2 : decide ((c.toNat : Int) ≤ 57) = true := decide_eq_true (by omega)
        have t1 : IntKind.i64.wrap (10 * (v : Int)) = 10 * (v : Int) := IntWalk.i64_in _ (by omega)
        have t2 : IntKind.u8.wrap ((c.toNat : Int) - 48) = (c.toNat : Int) - 48 := by simp [IntKind.wrap, IntKind.signed, IntKind.bits]; omega
        have t3 : IntKind.i64.wrap ((c.toNat : Int) - 48) = (c.toNat : Int) - 48 := IntWalk.i64_in _ (by omega)
        have t4 : IntKind.i64.wrap (10 * (v : Int) + ((c.toNat : Int) - 48)) = 10 * (v : Int) + ((c.toNat : Int) - 48) := IntWalk.i64_in _ (by omega)
        have HVC : Hid (10 * (v : Int) + ((c.toNat : Int) - 48) = ((v * 10 + (c.toNat - 48) : Nat) : Int)) := by show _ = _; omega
        obtain ⟨U, hU, g, u0, rfl, hgu, hi⟩ := cls wr
        obtain ⟨x0, x1, x2, x3⟩ := box_all hgu HNb.out
        have s0 := fun u => ((HNb.out.to (hgu u)).blk).frozen 0
        have HGU := hide hgu
        have HHI := hide hi
        clear hgu hi hc hdg
        go_wp2_with fail
        refine wp_region_class_tail g 10 (by kernel_rfl) (by kernel_rfl) (HHI.out _ (HGU.out _).drew) ?_
        simp only [List.take_succ_cons, List.take_zero, List.drop_succ_cons, List.drop_zero]
        repeat (go_big_quiet_step (fail))
        refine wpQuiet_nil ?_
        intro w2 hw2
        obtain ⟨u, rfl⟩ := hw2
        go_wp2_with fail
        rw [HVC.out]
        have HN2 : Hid (HBox ((g u).setCell ⟨w.heap.size + 1, 0, none⟩ (.int .i64 ((v * 10 + (c.toNat - 48) : Nat) : Int))) (w.heap.size + 1) ⟨((v * 10 + (c.toNat - 48) : Nat) : Int), [], 0, 0⟩) := ⟨(HNb.out.to (HGU.out u)).blk.set_ 0 _⟩
        have HR2 : Hid (HBox ((g u).setCell ⟨w.heap.size + 1, 0, none⟩ (.int .i64 ((v * 10 + (c.toNat - 48) : Nat) : Int))) w.heap.size ⟨0, [], 0, 0⟩) := ⟨(HR.out.to (HGU.out u)).blk.far (p := ⟨w.heap.size + 1, 0, none⟩) (Nat.ne_of_lt (Nat.lt_succ_self _)) _⟩
        have HB2 : Hid (Below w.heap.size w ((g u).setCell ⟨w.heap.size + 1, 0, none⟩ (.int .i64 ((v * 10 + (c.toNat - 48) : Nat) : Int)))) := (HBl.out.trans ((HGU.out u).mono HBl.out.size)).setCell (p := ⟨w.heap.size + 1, 0, none⟩) (Nat.le_succ _) _
        refine ⟨⟨k + 1, v * 10 + (c.toNat - 48), by go_num, by omega, hv1, HN1.out, HN2.out, HR2.out, HB2.out, HA1.out⟩, ?_⟩
        simp [intOf]; omega
    · obtain rfl : k = t.length := by omega
      have e2 : decide ((t.length : Int) < (t.length : Int)) = false := by simp
      have HC : Hid (candR t = ⟨v, [], 0, 0⟩) := by
        show _ = _
        have h1 : t.drop t.length = [] := List.drop_of_length_le (Nat.le_refl _)
        have := candR_at (L := []) (T := []) HAl.out (fun c r h => by rw [h1] at h; cases h) (by rw [h1]; rfl)
        rw [this, HVv.out]; rfl
      have HN5 := HNb
      have HR5 := HR
      have HB5 := HBl
      clear HNb HR HBl HA HB HB0
      have HFI : Hid (HN.fit (⟨(v : Int), [], 0, 0⟩ : HN)) := by show (bs _).size ≤ maxLen; rw [bs_size]; unfold maxLen; first | decide | (simp)
      obtain ⟨x0, x1, x2, x3⟩ := HN5.out.facts
      go_wp2_with fail
      refine (rText_any (⟨(v : Int), [], 0, 0⟩ : HN) _ HFI.out).mono ?_
      rintro e w6 ⟨rfl, hb⟩
      have HB6 := hide (HB5.out.trans (hb.mono HB5.out.size))
      have HR6 := hide (HR5.out.to hb)
      have HN6 := hide (HN5.out.to hb)
      clear hb HB5 HR5 HN5 x0 x1 x2 x3
      obtain ⟨cc, hc⟩ : ∃ cx, (⟨(v : Int), [], 0, 0⟩ : HN) = cx := ⟨_, rfl⟩
      rw [hc] at HN6 HC ⊢
      clear hc
      obtain ⟨x0, x1, x2, x3⟩ := HN6.out.facts
      obtain ⟨r0, r1, r2, r3⟩ := HR6.out.facts
      have s0 := HR6.out.blk.frozen 0
      have s1 := HR6.out.blk.frozen 1
      have s2 := HR6.out.blk.frozen 2
      have s3 := HR6.out.blk.frozen 3
      cases hv : cc.valid
      · have HV := hide (parseR_bad HC.out hv)
        clear hv
        go_wp2_with fail
        have hbk : Blk ((((w6.setCell ⟨w.heap.size, 0, none⟩ (.int .i64 (⟨0, [], 0, 0⟩ : HN).n)).setCell ⟨w.heap.size, 1, none⟩ (.string ⟨(⟨0, [], 0, 0⟩ : HN).l.toArray⟩)).setCell ⟨w.heap.size, 2, none⟩ (.int .i64 (⟨0, [], 0, 0⟩ : HN).num)).setCell ⟨w.heap.size, 3, none⟩ (.int .i64 (⟨0, [], 0, 0⟩ : HN).den)) w.heap.size 93 (hCells (⟨0, [], 0, 0⟩ : HN)) := ((((HR6.out.blk.set_ 0 (.int .i64 (⟨0, [], 0, 0⟩ : HN).n)).set_ 1 (.string ⟨(⟨0, [], 0, 0⟩ : HN).l.toArray⟩)).set_ 2 (.int .i64 (⟨0, [], 0, 0⟩ : HN).num)).set_ 3 (.int .i64 (⟨0, [], 0, 0⟩ : HN).den))
        refine bodyPost_ret (results_cell_tmp (p := 2) (u := 3) rfl _ _ w.heap.size 93 _ _ rfl hbk Tryz.underlying93 rfl (by kernel_rfl)) rfl ⟨ret_hn HV.out.1.symm HV.out.2.symm, ?_⟩
        exact ((((HB6.out.setCell (p := ⟨w.heap.size, 0, none⟩) (Nat.le_refl _) _).setCell (p := ⟨w.heap.size, 1, none⟩) (Nat.le_refl _) _).setCell (p := ⟨w.heap.size, 2, none⟩) (Nat.le_refl _) _).setCell (p := ⟨w.heap.size, 3, none⟩) (Nat.le_refl _) _)
      · by_cases he : textP cc = t
        · have HV := hide (parseR_ok HC.out hv he)
          rw [he]
          clear hv he
          go_wp2_with fail
          have hbk : Blk ((((w6.setCell ⟨w.heap.size, 0, none⟩ (.int .i64 cc.n)).setCell ⟨w.heap.size, 1, none⟩ (.string ⟨cc.l.toArray⟩)).setCell ⟨w.heap.size, 2, none⟩ (.int .i64 cc.num)).setCell ⟨w.heap.size, 3, none⟩ (.int .i64 cc.den)) w.heap.size 93 (hCells cc) := ((((HR6.out.blk.set_ 0 (.int .i64 cc.n)).set_ 1 (.string ⟨cc.l.toArray⟩)).set_ 2 (.int .i64 cc.num)).set_ 3 (.int .i64 cc.den))
          refine bodyPost_ret (results_cell_tmp (p := 2) (u := 3) rfl _ _ w.heap.size 93 _ _ rfl hbk Tryz.underlying93 rfl (by kernel_rfl)) rfl ⟨ret_hn HV.out.1.symm HV.out.2.symm, ?_⟩
          exact ((((HB6.out.setCell (p := ⟨w.heap.size, 0, none⟩) (Nat.le_refl _) _).setCell (p := ⟨w.heap.size, 1, none⟩) (Nat.le_refl _) _).setCell (p := ⟨w.heap.size, 2, none⟩) (Nat.le_refl _) _).setCell (p := ⟨w.heap.size, 3, none⟩) (Nat.le_refl _) _)
        · have HV := hide (parseR_ne HC.out hv he)
          have hne : ((bs (textP cc)).toList == (bs t).toList) = false := by rw [bs_toList, bs_toList, beq_eq_false_iff_ne]; exact he
          clear hv he
          generalize bs (textP cc) = S at *
          go_wp2_with fail
          have hbk : Blk ((((w6.setCell ⟨w.heap.size, 0, none⟩ (.int .i64 (⟨0, [], 0, 0⟩ : HN).n)).setCell ⟨w.heap.size, 1, none⟩ (.string ⟨(⟨0, [], 0, 0⟩ : HN).l.toArray⟩)).setCell ⟨w.heap.size, 2, none⟩ (.int .i64 (⟨0, [], 0, 0⟩ : HN).num)).setCell ⟨w.heap.size, 3, none⟩ (.int .i64 (⟨0, [], 0, 0⟩ : HN).den)) w.heap.size 93 (hCells (⟨0, [], 0, 0⟩ : HN)) := ((((HR6.out.blk.set_ 0 (.int .i64 (⟨0, [], 0, 0⟩ : HN).n)).set_ 1 (.string ⟨(⟨0, [], 0, 0⟩ : HN).l.toArray⟩)).set_ 2 (.int .i64 (⟨0, [], 0, 0⟩ : HN).num)).set_ 3 (.int .i64 (⟨0, [], 0, 0⟩ : HN).den))
          refine bodyPost_ret (results_cell_tmp (p := 2) (u := 3) rfl _ _ w.heap.size 93 _ _ rfl hbk Tryz.underlying93 rfl (by kernel_rfl)) rfl ⟨ret_hn HV.out.1.symm HV.out.2.symm, ?_⟩
          exact ((((HB6.out.setCell (p := ⟨w.heap.size, 0, none⟩) (Nat.le_refl _) _).setCell (p := ⟨w.heap.size, 1, none⟩) (Nat.le_refl _) _).setCell (p := ⟨w.heap.size, 2, none⟩) (Nat.le_refl _) _).setCell (p := ⟨w.heap.size, 3, none⟩) (Nat.le_refl _) _)
end Go.Proofs.YtdcafoekbnacnaaGreatDoor

/- The reference of layer 23: Valid. -/
set_option linter.unusedVariables false
set_option linter.unusedSimpArgs false
namespace Go.Proofs.YtdcafoekbnacnaaGreatDoor
open Go.RowKit Go.Shelf
attribute [local go_sem] Oper.semAt_some

theorem validB_c {c : List UInt8} {ps : List Prt} (h : isNm c = false) : validB isNm ⟨c, ps⟩ = false := by unfold validB; rw [h]; simp
theorem validB_n {c : List UInt8} {ps : List Prt} (h : ps.length < 1 ∨ 8 < ps.length) : validB isNm ⟨c, ps⟩ = false := by
  unfold validB
  dsimp only
  rcases h with h | h
  · rw [decide_eq_false (by omega : ¬ 1 ≤ ps.length)]; simp
  · rw [decide_eq_false (by omega : ¬ ps.length ≤ 8)]; simp
theorem validB_t {c : List UInt8} {ps : List Prt} {a : Nat} (ha : a ≤ ps.length) (h : toldB (afterAt ps a) (nxtL (ps.drop a)) = false) : validB isNm ⟨c, ps⟩ = false := by
  unfold validB
  dsimp only
  have : ((List.range (ps.length + 1)).all fun i => toldB (afterAt ps i) (nxtL (ps.drop i))) = false := by
    rw [List.all_eq_false]
    exact ⟨a, List.mem_range.2 (by omega), by rw [h]; decide⟩
  rw [this]; simp
theorem validB_yes {c : List UInt8} {ps : List Prt} (h1 : isNm c = true) (h2 : 1 ≤ ps.length) (h3 : ps.length ≤ 8) (h4 : partsB [] ps = true) (h5 : ∀ n, n < ps.length + 1 → toldB (afterAt ps n) (nxtL (ps.drop n)) = true) : validB isNm ⟨c, ps⟩ = true := by
  unfold validB
  dsimp only
  have : ((List.range (ps.length + 1)).all fun i => toldB (afterAt ps i) (nxtL (ps.drop i))) = true := by
    rw [List.all_eq_true]
    intro n hn
    exact h5 n (List.mem_range.1 hn)
  rw [this, h4, h1, decide_eq_true h2, decide_eq_true h3]; rfl
/-- one of the parts that may be next, beside another one -/
def pairB (l : List Prt) (p : Prt) (k j : Nat) : Bool := match l[j]? with
  | none => true
  | some q => decide (j = k) || !p.b.isPrefixOf q.b
def tellB (after : List UInt8) (l : List Prt) (k : Nat) : Bool := match l[k]? with
  | none => true
  | some p => !(after.isEmpty && p.b.isEmpty) && (List.range l.length).all (pairB l p k)
theorem told_all (after : List UInt8) (l : List Prt) : toldB after l = (List.range l.length).all (tellB after l) := rfl
theorem tell_some {after : List UInt8} {l : List Prt} {k : Nat} {p : Prt} (h : l[k]? = some p) : tellB after l k = (!(after.isEmpty && p.b.isEmpty) && (List.range l.length).all (pairB l p k)) := by
  unfold tellB; rw [h]
theorem pair_some {l : List Prt} {p q : Prt} {k j : Nat} (h : l[j]? = some q) : pairB l p k j = (decide (j = k) || !p.b.isPrefixOf q.b) := by
  unfold pairB; rw [h]
theorem told_no {after : List UInt8} {l : List Prt} {k : Nat} (hk : k < l.length) (h : tellB after l k = false) : toldB after l = false := by
  rw [told_all, List.all_eq_false]
  exact ⟨k, List.mem_range.2 hk, by rw [h]; decide⟩
theorem told_yes {after : List UInt8} {l : List Prt} (h : ∀ k, k < l.length → tellB after l k = true) : toldB after l = true := by
  rw [told_all, List.all_eq_true]
  exact fun k hk => h k (List.mem_range.1 hk)
theorem pre_dec (p s : List UInt8) : decide (p <+: s) = p.isPrefixOf s := by
  rw [Bool.eq_iff_iff, decide_eq_true_eq, List.isPrefixOf_iff_prefix]
theorem empT {x : List UInt8} {b : Bool} (h : x.isEmpty = b) : (bs x).toList.isEmpty = b := by rw [bs_toList]; exact h
set_option maxRecDepth 100000 in
set_option maxHeartbeats 8000000 in
theorem rValid23_any (c : List UInt8) (ps : List Prt) (hl0 : ps.length ≤ 1000000) (hc0 : c.length ≤ 140737488355328) (hb0 : ∀ p ∈ ps, p.b.length ≤ 1000000 ∧ p.a.length ≤ 1000000) (v : Value) (w : World) (hP : PartsAt w v ps) :
    Calls Tryz.prog 23 #[.agg #[.string (bs c), v]] w fun e w' => e = .returned (.bool (validB isNm ⟨c, ps⟩)) ∧ Below w.heap.size w w' := by
  obtain ⟨A, cp, rfl, hcp⟩ := hP.slice
  have HB := hide (below_one w (.cells #[.string (bs c), .slice A ps.length cp] 24))
  have HS := hide (Blk.new w 24 #[.string (bs c), .slice A ps.length cp])
  have HP := hide (hP.to HB.out)
  have H0 := hide hb0
  have HL0 := hide hl0
  have CN := fun w => rName_any c hc0 w
  clear hP hb0 hc0
  have q0 : (w.alloc (.cells #[.string (bs c), .slice A ps.length cp] 24)).cell? ⟨w.heap.size, 0, none⟩ = some (.string (bs c)) := HS.out.cell 0
  have q1 : (w.alloc (.cells #[.string (bs c), .slice A ps.length cp] 24)).cell? ⟨w.heap.size, 1, none⟩ = some (.slice A ps.length cp) := HS.out.cell 1
  go_enter Tryz.func23, Tryz.ntmps23
  cases hn : isNm c with
  | false =>
    rw [hn] at CN
    have HF := hide (validB_c (ps := ps) hn)
    clear hn
    go_wp2_with ((with_reducible refine (CN _).mono ?_); rintro e w' ⟨rfl, hw⟩; have hw := hw.symm; subst hw)
    go_ret
    exact ⟨ret_bool (by rw [HF.out]), HB.out⟩
  | true =>
  rw [hn] at CN
  have HN := hide hn
  clear hn
  by_cases h1 : ps.length < 1
  · have HF := hide (validB_n (c := c) (Or.inl h1))
    have e1 : decide ((ps.length : Int) < 1) = true := decide_eq_true (by omega)
    clear h1
    go_wp2_with ((with_reducible refine (CN _).mono ?_); rintro e w' ⟨rfl, hw⟩; have hw := hw.symm; subst hw)
    go_ret
    exact ⟨ret_bool (by rw [HF.out]), HB.out⟩
  have e1 : decide ((ps.length : Int) < 1) = false := decide_eq_false (by omega)
  by_cases h8 : 8 < ps.length
  · have HF := hide (validB_n (c := c) (Or.inr h8))
    have e2 : decide ((8 : Int) < (ps.length : Int)) = true := decide_eq_true (by omega)
    clear h1 h8
    go_wp2_with ((with_reducible refine (CN _).mono ?_); rintro e w' ⟨rfl, hw⟩; have hw := hw.symm; subst hw)
    go_ret
    exact ⟨ret_bool (by rw [HF.out]), HB.out⟩
  have e2 : decide ((8 : Int) < (ps.length : Int)) = false := decide_eq_false (by omega)
  have H1 := hide h1
  have H8 := hide h8
  clear h1 h8
  go_wp2_with ((with_reducible refine (CN _).mono ?_); rintro e w' ⟨rfl, hw⟩; have hw := hw.symm; subst hw)
  clear e1 e2 q0 q1 CN
  generalize w.alloc (.cells #[.string (bs c), .slice A ps.length cp] 24) = w1 at *
  go_loopw [3] (fun i wr => ∃ k : Nat, i = .int .i64 (k : Int) ∧ (k ≤ ps.length ∧ partsB [] ps = partsB (seenK ps k) (ps.drop k)) ∧ Below w1.heap.size w1 wr) (fun i _ => ps.length - (intOf i).toNat)
  case atStart => exact ⟨0, rfl, ⟨by omega, rfl⟩, Below.refl _ _⟩
  case round =>
    obtain ⟨k, rfl, ⟨hk, hpb⟩, hB⟩ := hrel
    have HBw := hide hB
    have HPB := hide hpb
    have s1 : wr.cell? ⟨w.heap.size, 1, none⟩ = some (.slice A ps.length cp) := (HS.out.to hB).cell 1
    clear hB hpb
    by_cases hkt : k < ps.length
    · obtain ⟨p, hp⟩ : ∃ p, ps[k]? = some p := ⟨_, List.getElem?_eq_getElem hkt⟩
      obtain ⟨a, cp', ea, _, hab, c0, c1, c2, c3⟩ := (HP.out.to HBw.out).at_ hp
      injection ea with ea _ ec
      subst ec
      obtain rfl := ea
      have HST : Hid (partsB [] ps = (decide (1 ≤ p.k) && (decide (p.k ≤ 8) && (!(seenK ps k).contains p.k && (smallB p.b && (smallB p.a && partsB (seenK ps (k + 1)) (ps.drop (k + 1)))))))) := by
        show _ = _
        rw [HPB.out, drop_hd hp, seenK_succ hp]; rfl
      have HPP := hide hp
      have CB := fun w => rsmall_any p.b (by have := (H0.out p (List.mem_of_getElem? hp)).1; omega) w
      have CA := fun w => rsmall_any p.a (by have := (H0.out p (List.mem_of_getElem? hp)).2; omega) w
      have HBX := hide (below_alloc HBw.out (Nat.le_refl _) (.cells #[.int .i64 p.k, .string (bs p.b), .string (bs p.a), .bool p.need] 41))
      have HBP := hide (Blk.new wr 41 #[.int .i64 p.k, .string (bs p.b), .string (bs p.a), .bool p.need])
      clear hp
      go_upto_region 7 with fail
      clear c0 c1 c2 c3 s1 hab
      generalize wr.alloc (.cells #[.int .i64 p.k, .string (bs p.b), .string (bs p.a), .bool p.need] 41) = w5 at *
      have p0 : w5.cell? ⟨wr.heap.size, 0, none⟩ = some (.int .i64 p.k) := HBP.out.cell 0
      have p1 : w5.cell? ⟨wr.heap.size, 1, none⟩ = some (.string (bs p.b)) := HBP.out.cell 1
      have p2 : w5.cell? ⟨wr.heap.size, 2, none⟩ = some (.string (bs p.a)) := HBP.out.cell 2
      generalize wr.heap.size = bx at *
      by_cases h1 : p.k < 1
      · have HF : Hid (validB isNm ⟨c, ps⟩ = false) := validB_parts (by rw [HST.out, decide_eq_false (by omega : ¬ 1 ≤ p.k)]; rfl)
        have e1 : decide (p.k < 1) = true := decide_eq_true h1
        clear h1
        go_wp2_with fail
        go_ret
        exact ⟨ret_bool (by rw [HF.out]), HB.out.trans (HBX.out.mono HB.out.size)⟩
      have e1 : decide (p.k < 1) = false := decide_eq_false h1
      by_cases h2 : 8 < p.k
      · have HF : Hid (validB isNm ⟨c, ps⟩ = false) := validB_parts (by rw [HST.out, decide_eq_false (by omega : ¬ p.k ≤ 8)]; simp)
        have e2 : decide (8 < p.k) = true := decide_eq_true h2
        clear h1 h2
        go_wp2_with fail
        go_ret
        exact ⟨ret_bool (by rw [HF.out]), HB.out.trans (HBX.out.mono HB.out.size)⟩
      have e2 : decide (8 < p.k) = false := decide_eq_false h2
      rw [decide_eq_true (by omega : 1 ≤ p.k), decide_eq_true (by omega : p.k ≤ 8), Bool.true_and, Bool.true_and] at HST
      clear h1 h2
      cases hsb : smallB p.b with
      | false =>
        have HF : Hid (validB isNm ⟨c, ps⟩ = false) := validB_parts (by rw [HST.out, hsb]; simp)
        rw [hsb] at CB
        clear hsb
        go_wp2_with ((with_reducible refine (CB _).mono ?_); rintro e w' ⟨rfl, hw⟩; have hw := hw.symm; subst hw)
        go_ret
        exact ⟨ret_bool (by rw [HF.out]), HB.out.trans (HBX.out.mono HB.out.size)⟩
      | true =>
      rw [hsb] at CB HST
      clear hsb
      cases hsb : smallB p.a with
      | false =>
        have HF : Hid (validB isNm ⟨c, ps⟩ = false) := validB_parts (by rw [HST.out, hsb]; simp)
        rw [hsb] at CA
        clear hsb
        go_wp2_with (first | ((with_reducible refine (CB _).mono ?_); rintro e w' ⟨rfl, hw⟩; have hw := hw.symm; subst hw) | ((with_reducible refine (CA _).mono ?_); rintro e w' ⟨rfl, hw⟩; have hw := hw.symm; subst hw))
        go_ret
        exact ⟨ret_bool (by rw [HF.out]), HB.out.trans (HBX.out.mono HB.out.size)⟩
      | true =>
      rw [hsb] at CA HST
      clear hsb
      rw [Bool.true_and, Bool.true_and] at HST
      go_wp2_with (first | ((with_reducible refine (CB _).mono ?_); rintro e w' ⟨rfl, hw⟩; have hw := hw.symm; subst hw) | ((with_reducible refine (CA _).mono ?_); rintro e w' ⟨rfl, hw⟩; have hw := hw.symm; subst hw))
      clear e1 e2 p0 p1 p2 CA CB
      go_loopw [5] (fun i wr => ∃ m : Nat, i = .int .i64 (m : Int) ∧ (m ≤ k ∧ ∀ j q, j < m → ps[j]? = some q → q.k ≠ p.k) ∧ Below w1.heap.size w1 wr ∧ Blk wr bx 41 #[.int .i64 p.k, .string (bs p.b), .string (bs p.a), .bool p.need]) (fun i _ => k - (intOf i).toNat)
      case atStart => exact ⟨0, rfl, ⟨by omega, fun j q h => absurd h (by omega)⟩, HBX.out, HBP.out⟩
      case round =>
        obtain ⟨m, rfl, ⟨hm, hne⟩, hB, hX⟩ := hrel
        have HB2 := hide hB
        have HX2 := hide hX
        have HNE := hide hne
        clear hB hX hne HBX HBP HBw
        by_cases hmk : m < k
        · obtain ⟨q, hq⟩ : ∃ q, ps[m]? = some q := ⟨_, List.getElem?_eq_getElem (by omega)⟩
          obtain ⟨a2, cp2, ea, _, hab, c0, c1, c2, c3⟩ := (HP.out.to HB2.out).at_ hq
          injection ea with ea _ ec
          subst ec
          injection ea with ea
          subst ea
          have s1 : wr.cell? ⟨w.heap.size, 1, none⟩ = some (.slice (some a) ps.length cp) := (HS.out.to HB2.out).cell 1
          have p0 : wr.cell? ⟨bx, 0, none⟩ = some (.int .i64 p.k) := HX2.out.cell 0
          have k0 : (0 : Int) ≤ (m : Int) := by omega
          have k1 : (m : Int) < (ps.length : Int) := by omega
          have k2 : decide ((m : Int) < (k : Int)) = true := decide_eq_true (by omega)
          by_cases hqp : q.k = p.k
          · have HF : Hid (validB isNm ⟨c, ps⟩ = false) := validB_parts (by
              have : (seenK ps k).contains p.k = true := by
                rw [List.contains_iff_mem, ← hqp]
                unfold seenK
                rw [List.mem_reverse, List.mem_map]
                exact ⟨q, List.mem_of_getElem? (i := m) (by rw [List.getElem?_take, if_pos hmk, hq]), rfl⟩
              rw [HST.out, this]; rfl)
            have e3 : (q.k == p.k) = true := by rw [hqp]; simp
            clear hqp hq
            generalize q.k = qk at *
            generalize p.k = pk at *
            go_wp2_with fail
            go_quiet (fail)
            go_wp2_with fail
            go_ret
            exact ⟨ret_bool (by rw [HF.out]), below_drewN (HB.out.trans (HB2.out.mono HB.out.size)) _⟩
          · have e3 : (q.k == p.k) = false := by rw [beq_eq_false_iff_ne]; exact hqp
            have HNE2 : Hid (∀ j x, j < m + 1 → ps[j]? = some x → x.k ≠ p.k) := fun j x hj hx => by
              rcases Nat.lt_or_ge j m with h | h
              · exact HNE.out j x h hx
              · obtain rfl : j = m := by omega
                rw [hq] at hx; cases hx; exact hqp
            clear hqp hq
            generalize hqk : q.k = qk at *
            generalize hpk : p.k = pk at *
            have HQ := hide hqk
            have HK := hide hpk
            clear hqk hpk
            go_wp2_with fail
            go_quiet (fail)
            go_wp2_with fail
            go_roundw
            case rel => exact ⟨m + 1, by go_num, ⟨by omega, HNE2.out⟩, below_drewN HB2.out _, HX2.out.drewN _⟩
            case measure => simp [intOf]; omega
        · obtain rfl : m = k := by omega
          have k2 : decide ((m : Int) < (m : Int)) = false := by simp
          have HRE : Hid (partsB [] ps = partsB (seenK ps (m + 1)) (ps.drop (m + 1))) := by
            have : (seenK ps m).contains p.k = false := by
              rw [← Bool.not_eq_true, List.contains_iff_mem]
              unfold seenK
              rw [List.mem_reverse, List.mem_map]
              rintro ⟨q, hq, e⟩
              obtain ⟨n, hn, rfl⟩ := List.getElem_of_mem hq
              rw [List.length_take] at hn
              refine HNE.out n _ (by omega) (List.getElem?_eq_getElem (by omega)) ?_
              rw [List.getElem_take] at e
              exact e
            show _ = _
            rw [HST.out, this]; rfl
          go_wp2_with fail
          go_roundw
          case rel => exact ⟨m + 1, by go_num, ⟨by omega, HRE.out⟩, HB2.out⟩
          case measure => simp [intOf]; omega
    · obtain rfl : k = ps.length := by omega
      have HPT : Hid (partsB [] ps = true) := by show _ = _; rw [HPB.out, List.drop_length]; rfl
      have e1 : decide ((ps.length : Int) < (ps.length : Int)) = false := by simp
      go_wp2_with fail
      clear s1 e1 HPB hk hkt
      go_loopw [6] (fun i wr => ∃ (a : Nat) (i0 : Int), i = .int .i64 i0 ∧ (i0 + 1 = (a : Int) ∧ a ≤ ps.length + 1 ∧ ∀ n, n < a → toldB (afterAt ps n) (nxtL (ps.drop n)) = true) ∧ Below w1.heap.size w1 wr) (fun i _ => ((ps.length : Int) - intOf i).toNat)
      case atStart => exact ⟨0, -1, rfl, ⟨by omega, by omega, fun n h => absurd h (by omega)⟩, HBw.out⟩
      case round =>
        obtain ⟨a, i, rfl, ⟨hia, ha, htl⟩, hB⟩ := hrel
        have HB2 := hide hB
        have HTL := hide htl
        clear hB htl
        have s0 : wr.cell? ⟨w.heap.size, 0, none⟩ = some (.string (bs c)) := (HS.out.to HB2.out).cell 0
        have s1 : wr.cell? ⟨w.heap.size, 1, none⟩ = some (.slice A ps.length cp) := (HS.out.to HB2.out).cell 1
        by_cases hil : i < (ps.length : Int)
        · have e1 : decide (i < (ps.length : Int)) = true := decide_eq_true hil
          have hal : a ≤ ps.length := by omega
          have HAL := hide hal
          have CX := rNext_any c ps HL0.out _ i a hia hal wr (HP.out.to HB2.out)
          go_wp2_with fail
          refine CX.mono ?_
          rintro e w6 ⟨v6, rfl, hO, hb⟩
          have HB6 := hide (below_to HB2.out (Nat.le_refl _) hb)
          clear hb s0 s1 e1 CX HB2
          have HO := hide hO
          clear hO
          have HLN : Hid ((idxR (ps.drop a) a).length = (nxtL (ps.drop a)).length) := idx_len _ _
          have HIX : Hid (∀ m, m < (idxR (ps.drop a) a).length → (idxR (ps.drop a) a)[m]? = some ((a + m : Nat) : Int) ∧ ∃ q, ps[a + m]? = some q ∧ (nxtL (ps.drop a))[m]? = some q) := fun m hm => by
            have hm2 : m < (nxtL (ps.drop a)).length := by rw [← HLN.out]; exact hm
            have hm3 := Nat.lt_of_lt_of_le hm2 (nxt_len (ps.drop a))
            rw [List.length_drop] at hm3
            refine ⟨idx_at _ _ _ hm2, ps[a + m], List.getElem?_eq_getElem (by omega), ?_⟩
            rw [nxt_at _ _ hm2, List.getElem?_drop, List.getElem?_eq_getElem (by omega)]
          have HLL : Hid ((idxR (ps.drop a) a).length ≤ 1000000) := by
            have h1 := nxt_len (ps.drop a)
            rw [List.length_drop] at h1
            have h2 := HLN.out
            have h3 := HL0.out
            show _ ≤ _
            omega
          generalize idxR (ps.drop a) a = L at *
          obtain ⟨Al, cl, rfl⟩ := HO.out.slice
          have hll := HLL.out
          go_wp2_with fail
          go_loopw [8] (fun t wr => ∃ m : Nat, t = .int .i64 (m : Int) ∧ (m ≤ L.length ∧ ∀ n, n < m → tellB (afterAt ps a) (nxtL (ps.drop a)) n = true) ∧ Below w6.heap.size w6 wr) (fun t _ => L.length - (intOf t).toNat)
          case atStart => exact ⟨0, rfl, ⟨by omega, fun n h => absurd h (by omega)⟩, Below.refl _ _⟩
          case round =>
            obtain ⟨m, rfl, ⟨hm, htm⟩, hB⟩ := hrel
            have HB7 := hide hB
            have HTM := hide htm
            clear hB htm
            by_cases hmL : m < L.length
            · obtain ⟨hLm, q, hq, hnq⟩ := HIX.out m hmL
              obtain ⟨Ag, eA, cL, _, hcl⟩ := (HO.out.to HB7.out).at_ hLm
              subst eA
              obtain ⟨ad, cp2, ea, _, hab, c0, c1, c2, c3⟩ := (HP.out.to (below_to HB6.out (Nat.le_refl _) HB7.out)).at_ hq
              injection ea with ea _ ec
              subst ec
              obtain rfl := ea
              have s1 : wr.cell? ⟨w.heap.size, 1, none⟩ = some (.slice (some ad) ps.length cp) := (HS.out.to (below_to HB6.out (Nat.le_refl _) HB7.out)).cell 1
              have HTS := hide (tell_some (after := afterAt ps a) hnq)
              have HQ := hide hq
              have hzl : a + m < ps.length := (List.getElem?_eq_some_iff.1 hq).1
              clear hq hnq hLm
              generalize hz : a + m = z at *
              have HZ := hide hz
              clear hz
              have k0 : (0 : Int) ≤ (m : Int) := by omega
              have k1 : (m : Int) < (L.length : Int) := by omega
              have k2 : (0 : Int) ≤ (z : Int) := by omega
              have k3 : (z : Int) < (ps.length : Int) := by omega
              have k4 : decide ((m : Int) < (L.length : Int)) = true := decide_eq_true k1
              go_wp2_with fail
              go_quiet (fail)
              have HB8 := hide (below_drewN HB7.out nq)
              clear HB7 c0 c1 c2 c3 s1 cL k0 k1 k2 k3 k4 hab
              generalize wr.drewN nq = w8 at *
              have s1 : w8.cell? ⟨w.heap.size, 1, none⟩ = some (.slice (some ad) ps.length cp) := (HS.out.to (below_to HB6.out (Nat.le_refl _) HB8.out)).cell 1
              rcases Nat.eq_zero_or_pos a with ha0 | ha0
              · obtain rfl : i = -1 := by omega
                have HNE : Hid (tellB (afterAt ps a) (nxtL (ps.drop a)) m = (List.range (nxtL (ps.drop a)).length).all (pairB (nxtL (ps.drop a)) q m)) := by
                  show _ = _
                  rw [HTS.out, show (afterAt ps a).isEmpty = false by rw [ha0]; rfl]; rfl
                have HA0 := hide ha0
                clear ha0
                go_wp2_with fail
                clear s1
                go_loopw [10] (fun t wr => ∃ j : Nat, t = .int .i64 (j : Int) ∧ (j ≤ L.length ∧ ∀ n, n < j → pairB (nxtL (ps.drop a)) q m n = true) ∧ Below w6.heap.size w6 wr) (fun t _ => L.length - (intOf t).toNat)
                case atStart => exact ⟨0, rfl, ⟨by omega, fun n h => absurd h (by omega)⟩, HB8.out⟩
                case round =>
                  obtain ⟨j, rfl, ⟨hj, hpr⟩, hB⟩ := hrel
                  have HB9 := hide hB
                  have HPR := hide hpr
                  clear hB hpr HB8
                  by_cases hjL : j < L.length
                  · obtain ⟨hLm, x, hx, hnx⟩ := HIX.out j hjL
                    have HPS := hide (pair_some (p := q) (k := m) hnx)
                    have k4 : decide ((j : Int) < (L.length : Int)) = true := decide_eq_true (by omega)
                    have HP2 : Hid (pairB (nxtL (ps.drop a)) q m j = true → ∀ n, n < j + 1 → pairB (nxtL (ps.drop a)) q m n = true) := fun h n hn => by
                      rcases Nat.lt_or_ge n j with h1 | h1
                      · exact HPR.out n h1
                      · obtain rfl : n = j := by omega
                        exact h
                    by_cases hjm : j = m
                    · have e5 : ((m : Int) != (j : Int)) = false := by rw [hjm]; simp
                      have HP3 := hide (HP2.out (by rw [HPS.out, decide_eq_true hjm]; rfl))
                      clear hLm hx hnx hjm
                      go_wp2_with fail
                      go_quiet (fail)
                      go_wp2_with fail
                      go_roundw
                      case rel => exact ⟨j + 1, by go_num, ⟨by omega, HP3.out⟩, below_drewN HB9.out _⟩
                      case measure => simp [intOf]; omega
                    · have e5 : ((m : Int) != (j : Int)) = true := by rw [bne_iff_ne]; omega
                      obtain ⟨Ag9, eA, cL, _, hcl⟩ := (HO.out.to HB9.out).at_ hLm
                      injection eA with eA
                      injection eA with eA
                      subst eA
                      obtain ⟨ad9, cp9, ea, _, hab, c0, c1, c2, c3⟩ := (HP.out.to (below_to HB6.out (Nat.le_refl _) HB9.out)).at_ hx
                      injection ea with ea _ ec
                      injection ea with ea
                      subst ea
                      have s1 : wr.cell? ⟨w.heap.size, 1, none⟩ = some (.slice (some ad) ps.length cp) := (HS.out.to (below_to HB6.out (Nat.le_refl _) HB9.out)).cell 1
                      have hzl : a + j < ps.length := (List.getElem?_eq_some_iff.1 hx).1
                      have CG := fun w => rbegins_any x.b q.b w
                      rw [pre_dec] at CG
                      rw [decide_eq_false hjm, Bool.false_or] at HPS
                      clear hx hnx hLm hjm ec
                      generalize hz : a + j = z9 at *
                      have HZ9 := hide hz
                      clear hz
                      have k0 : (0 : Int) ≤ (j : Int) := by omega
                      have k1 : (j : Int) < (L.length : Int) := by omega
                      have k2 : (0 : Int) ≤ (z9 : Int) := by omega
                      have k3 : (z9 : Int) < (ps.length : Int) := by omega
                      cases hpx : q.b.isPrefixOf x.b with
                      | true =>
                        have HF : Hid (validB isNm ⟨c, ps⟩ = false) := validB_t HAL.out (told_no (k := m) (by rw [← HLN.out]; exact hmL) (by
                          rw [HNE.out, List.all_eq_false]
                          exact ⟨j, List.mem_range.2 (by rw [← HLN.out]; exact hjL), by rw [HPS.out, hpx]; decide⟩))
                        rw [hpx] at CG
                        clear hpx
                        go_wp2_with fail
                        go_quiet ((go_at_call 57; exact Calls.quiet_of_same (CG _)))
                        go_wp2_with fail
                        go_ret
                        exact ⟨ret_bool (by rw [HF.out]), below_drewN (HB.out.trans ((below_to HB6.out (Nat.le_refl _) HB9.out).mono HB.out.size)) _⟩
                      | false =>
                        have HP3 := hide (HP2.out (by rw [HPS.out, hpx]; rfl))
                        rw [hpx] at CG
                        clear hpx
                        go_wp2_with fail
                        go_quiet ((go_at_call 57; exact Calls.quiet_of_same (CG _)))
                        go_wp2_with fail
                        go_roundw
                        case rel => exact ⟨j + 1, by go_num, ⟨by omega, HP3.out⟩, below_drewN HB9.out _⟩
                        case measure => simp [intOf]; omega
                  · obtain rfl : j = L.length := by omega
                    have k4 : decide ((L.length : Int) < (L.length : Int)) = false := by simp
                    have HT2 : Hid (∀ n, n < m + 1 → tellB (afterAt ps a) (nxtL (ps.drop a)) n = true) := fun n hn => by
                      rcases Nat.lt_or_ge n m with h1 | h1
                      · exact HTM.out n h1
                      · obtain rfl : n = m := by omega
                        rw [HNE.out, List.all_eq_true]
                        exact fun y hy => HPR.out y (by rw [HLN.out]; exact List.mem_range.1 hy)
                    go_wp2_with fail
                    go_roundw
                    case rel => exact ⟨m + 1, by go_num, ⟨by omega, HT2.out⟩, HB9.out⟩
                    case measure => simp [intOf]; omega
              · obtain ⟨a1, ha1⟩ : ∃ a1 : Nat, a = a1 + 1 := ⟨a - 1, by omega⟩
                obtain rfl : i = (a1 : Int) := by omega
                obtain ⟨r, hr⟩ : ∃ r, ps[a1]? = some r := ⟨_, List.getElem?_eq_getElem (by omega)⟩
                obtain ⟨ad8, cp8, ea, _, hab, c0, c1, c2, c3⟩ := (HP.out.to (below_to HB6.out (Nat.le_refl _) HB8.out)).at_ hr
                injection ea with ea _ ec
                injection ea with ea
                subst ea
                have HAF : Hid (afterAt ps a = r.a) := by
                  show _ = _
                  rw [ha1]
                  show (match ps[a1]? with | some p => p.a | none => []) = _
                  rw [hr]
                have k0 : (0 : Int) ≤ (a1 : Int) := by omega
                have k1 : (a1 : Int) < (ps.length : Int) := by omega
                have k2 : decide ((0 : Int) ≤ (a1 : Int)) = true := decide_eq_true k0
                have HA1 := hide ha1
                clear hr ha0 ha1 ec hab
                cases hra : r.a.isEmpty with
                | false =>
                  have e3 := empT hra
                  have HNE : Hid (tellB (afterAt ps a) (nxtL (ps.drop a)) m = (List.range (nxtL (ps.drop a)).length).all (pairB (nxtL (ps.drop a)) q m)) := by
                    show _ = _
                    rw [HTS.out, HAF.out, hra]; rfl
                  clear hra
                  go_wp2_with fail
                  clear s1
                  go_loopw [10] (fun t wr => ∃ j : Nat, t = .int .i64 (j : Int) ∧ (j ≤ L.length ∧ ∀ n, n < j → pairB (nxtL (ps.drop a)) q m n = true) ∧ Below w6.heap.size w6 wr) (fun t _ => L.length - (intOf t).toNat)
                  case atStart => exact ⟨0, rfl, ⟨by omega, fun n h => absurd h (by omega)⟩, HB8.out⟩
                  case round =>
                    obtain ⟨j, rfl, ⟨hj, hpr⟩, hB⟩ := hrel
                    have HB9 := hide hB
                    have HPR := hide hpr
                    clear hB hpr HB8
                    by_cases hjL : j < L.length
                    · obtain ⟨hLm, x, hx, hnx⟩ := HIX.out j hjL
                      have HPS := hide (pair_some (p := q) (k := m) hnx)
                      have k4 : decide ((j : Int) < (L.length : Int)) = true := decide_eq_true (by omega)
                      have HP2 : Hid (pairB (nxtL (ps.drop a)) q m j = true → ∀ n, n < j + 1 → pairB (nxtL (ps.drop a)) q m n = true) := fun h n hn => by
                        rcases Nat.lt_or_ge n j with h1 | h1
                        · exact HPR.out n h1
                        · obtain rfl : n = j := by omega
                          exact h
                      by_cases hjm : j = m
                      · have e5 : ((m : Int) != (j : Int)) = false := by rw [hjm]; simp
                        have HP3 := hide (HP2.out (by rw [HPS.out, decide_eq_true hjm]; rfl))
                        clear hLm hx hnx hjm
                        go_wp2_with fail
                        go_quiet (fail)
                        go_wp2_with fail
                        go_roundw
                        case rel => exact ⟨j + 1, by go_num, ⟨by omega, HP3.out⟩, below_drewN HB9.out _⟩
                        case measure => simp [intOf]; omega
                      · have e5 : ((m : Int) != (j : Int)) = true := by rw [bne_iff_ne]; omega
                        obtain ⟨Ag9, eA, cL, _, hcl⟩ := (HO.out.to HB9.out).at_ hLm
                        injection eA with eA
                        injection eA with eA
                        subst eA
                        obtain ⟨ad9, cp9, ea, _, hab, c0, c1, c2, c3⟩ := (HP.out.to (below_to HB6.out (Nat.le_refl _) HB9.out)).at_ hx
                        injection ea with ea _ ec
                        injection ea with ea
                        subst ea
                        have s1 : wr.cell? ⟨w.heap.size, 1, none⟩ = some (.slice (some ad) ps.length cp) := (HS.out.to (below_to HB6.out (Nat.le_refl _) HB9.out)).cell 1
                        have hzl : a + j < ps.length := (List.getElem?_eq_some_iff.1 hx).1
                        have CG := fun w => rbegins_any x.b q.b w
                        rw [pre_dec] at CG
                        rw [decide_eq_false hjm, Bool.false_or] at HPS
                        clear hx hnx hLm hjm ec
                        generalize hz : a + j = z9 at *
                        have HZ9 := hide hz
                        clear hz
                        have k0 : (0 : Int) ≤ (j : Int) := by omega
                        have k1 : (j : Int) < (L.length : Int) := by omega
                        have k2 : (0 : Int) ≤ (z9 : Int) := by omega
                        have k3 : (z9 : Int) < (ps.length : Int) := by omega
                        cases hpx : q.b.isPrefixOf x.b with
                        | true =>
                          have HF : Hid (validB isNm ⟨c, ps⟩ = false) := validB_t HAL.out (told_no (k := m) (by rw [← HLN.out]; exact hmL) (by
                            rw [HNE.out, List.all_eq_false]
                            exact ⟨j, List.mem_range.2 (by rw [← HLN.out]; exact hjL), by rw [HPS.out, hpx]; decide⟩))
                          rw [hpx] at CG
                          clear hpx
                          go_wp2_with fail
                          go_quiet ((go_at_call 57; exact Calls.quiet_of_same (CG _)))
                          go_wp2_with fail
                          go_ret
                          exact ⟨ret_bool (by rw [HF.out]), below_drewN (HB.out.trans ((below_to HB6.out (Nat.le_refl _) HB9.out).mono HB.out.size)) _⟩
                        | false =>
                          have HP3 := hide (HP2.out (by rw [HPS.out, hpx]; rfl))
                          rw [hpx] at CG
                          clear hpx
                          go_wp2_with fail
                          go_quiet ((go_at_call 57; exact Calls.quiet_of_same (CG _)))
                          go_wp2_with fail
                          go_roundw
                          case rel => exact ⟨j + 1, by go_num, ⟨by omega, HP3.out⟩, below_drewN HB9.out _⟩
                          case measure => simp [intOf]; omega
                    · obtain rfl : j = L.length := by omega
                      have k4 : decide ((L.length : Int) < (L.length : Int)) = false := by simp
                      have HT2 : Hid (∀ n, n < m + 1 → tellB (afterAt ps a) (nxtL (ps.drop a)) n = true) := fun n hn => by
                        rcases Nat.lt_or_ge n m with h1 | h1
                        · exact HTM.out n h1
                        · obtain rfl : n = m := by omega
                          rw [HNE.out, List.all_eq_true]
                          exact fun y hy => HPR.out y (by rw [HLN.out]; exact List.mem_range.1 hy)
                      go_wp2_with fail
                      go_roundw
                      case rel => exact ⟨m + 1, by go_num, ⟨by omega, HT2.out⟩, HB9.out⟩
                      case measure => simp [intOf]; omega
                | true =>
                  have e3 := empT hra
                  cases hqb : q.b.isEmpty with
                  | false =>
                    have e4 := empT hqb
                    have HNE : Hid (tellB (afterAt ps a) (nxtL (ps.drop a)) m = (List.range (nxtL (ps.drop a)).length).all (pairB (nxtL (ps.drop a)) q m)) := by
                      show _ = _
                      rw [HTS.out, hqb, Bool.and_false]; rfl
                    clear hra hqb
                    go_wp2_with fail
                    clear s1
                    go_loopw [10] (fun t wr => ∃ j : Nat, t = .int .i64 (j : Int) ∧ (j ≤ L.length ∧ ∀ n, n < j → pairB (nxtL (ps.drop a)) q m n = true) ∧ Below w6.heap.size w6 wr) (fun t _ => L.length - (intOf t).toNat)
                    case atStart => exact ⟨0, rfl, ⟨by omega, fun n h => absurd h (by omega)⟩, HB8.out⟩
                    case round =>
                      obtain ⟨j, rfl, ⟨hj, hpr⟩, hB⟩ := hrel
                      have HB9 := hide hB
                      have HPR := hide hpr
                      clear hB hpr HB8
                      by_cases hjL : j < L.length
                      · obtain ⟨hLm, x, hx, hnx⟩ := HIX.out j hjL
                        have HPS := hide (pair_some (p := q) (k := m) hnx)
                        have k4 : decide ((j : Int) < (L.length : Int)) = true := decide_eq_true (by omega)
                        have HP2 : Hid (pairB (nxtL (ps.drop a)) q m j = true → ∀ n, n < j + 1 → pairB (nxtL (ps.drop a)) q m n = true) := fun h n hn => by
                          rcases Nat.lt_or_ge n j with h1 | h1
                          · exact HPR.out n h1
                          · obtain rfl : n = j := by omega
                            exact h
                        by_cases hjm : j = m
                        · have e5 : ((m : Int) != (j : Int)) = false := by rw [hjm]; simp
                          have HP3 := hide (HP2.out (by rw [HPS.out, decide_eq_true hjm]; rfl))
                          clear hLm hx hnx hjm
                          go_wp2_with fail
                          go_quiet (fail)
                          go_wp2_with fail
                          go_roundw
                          case rel => exact ⟨j + 1, by go_num, ⟨by omega, HP3.out⟩, below_drewN HB9.out _⟩
                          case measure => simp [intOf]; omega
                        · have e5 : ((m : Int) != (j : Int)) = true := by rw [bne_iff_ne]; omega
                          obtain ⟨Ag9, eA, cL, _, hcl⟩ := (HO.out.to HB9.out).at_ hLm
                          injection eA with eA
                          injection eA with eA
                          subst eA
                          obtain ⟨ad9, cp9, ea, _, hab, c0, c1, c2, c3⟩ := (HP.out.to (below_to HB6.out (Nat.le_refl _) HB9.out)).at_ hx
                          injection ea with ea _ ec
                          injection ea with ea
                          subst ea
                          have s1 : wr.cell? ⟨w.heap.size, 1, none⟩ = some (.slice (some ad) ps.length cp) := (HS.out.to (below_to HB6.out (Nat.le_refl _) HB9.out)).cell 1
                          have hzl : a + j < ps.length := (List.getElem?_eq_some_iff.1 hx).1
                          have CG := fun w => rbegins_any x.b q.b w
                          rw [pre_dec] at CG
                          rw [decide_eq_false hjm, Bool.false_or] at HPS
                          clear hx hnx hLm hjm ec
                          generalize hz : a + j = z9 at *
                          have HZ9 := hide hz
                          clear hz
                          have k0 : (0 : Int) ≤ (j : Int) := by omega
                          have k1 : (j : Int) < (L.length : Int) := by omega
                          have k2 : (0 : Int) ≤ (z9 : Int) := by omega
                          have k3 : (z9 : Int) < (ps.length : Int) := by omega
                          cases hpx : q.b.isPrefixOf x.b with
                          | true =>
                            have HF : Hid (validB isNm ⟨c, ps⟩ = false) := validB_t HAL.out (told_no (k := m) (by rw [← HLN.out]; exact hmL) (by
                              rw [HNE.out, List.all_eq_false]
                              exact ⟨j, List.mem_range.2 (by rw [← HLN.out]; exact hjL), by rw [HPS.out, hpx]; decide⟩))
                            rw [hpx] at CG
                            clear hpx
                            go_wp2_with fail
                            go_quiet ((go_at_call 57; exact Calls.quiet_of_same (CG _)))
                            go_wp2_with fail
                            go_ret
                            exact ⟨ret_bool (by rw [HF.out]), below_drewN (HB.out.trans ((below_to HB6.out (Nat.le_refl _) HB9.out).mono HB.out.size)) _⟩
                          | false =>
                            have HP3 := hide (HP2.out (by rw [HPS.out, hpx]; rfl))
                            rw [hpx] at CG
                            clear hpx
                            go_wp2_with fail
                            go_quiet ((go_at_call 57; exact Calls.quiet_of_same (CG _)))
                            go_wp2_with fail
                            go_roundw
                            case rel => exact ⟨j + 1, by go_num, ⟨by omega, HP3.out⟩, below_drewN HB9.out _⟩
                            case measure => simp [intOf]; omega
                      · obtain rfl : j = L.length := by omega
                        have k4 : decide ((L.length : Int) < (L.length : Int)) = false := by simp
                        have HT2 : Hid (∀ n, n < m + 1 → tellB (afterAt ps a) (nxtL (ps.drop a)) n = true) := fun n hn => by
                          rcases Nat.lt_or_ge n m with h1 | h1
                          · exact HTM.out n h1
                          · obtain rfl : n = m := by omega
                            rw [HNE.out, List.all_eq_true]
                            exact fun y hy => HPR.out y (by rw [HLN.out]; exact List.mem_range.1 hy)
                        go_wp2_with fail
                        go_roundw
                        case rel => exact ⟨m + 1, by go_num, ⟨by omega, HT2.out⟩, HB9.out⟩
                        case measure => simp [intOf]; omega
                  | true =>
                    have e4 := empT hqb
                    have HF : Hid (validB isNm ⟨c, ps⟩ = false) := validB_t HAL.out (told_no (k := m) (by rw [← HLN.out]; exact hmL) (by rw [HTS.out, HAF.out, hra, hqb]; rfl))
                    clear hra hqb
                    go_wp2_with fail
                    go_ret
                    exact ⟨ret_bool (by rw [HF.out]), HB.out.trans ((below_to HB6.out (Nat.le_refl _) HB8.out).mono HB.out.size)⟩
            · obtain rfl : m = L.length := by omega
              have k4 : decide ((L.length : Int) < (L.length : Int)) = false := by simp
              have HTA : Hid (∀ n, n < a + 1 → toldB (afterAt ps n) (nxtL (ps.drop n)) = true) := fun n hn => by
                rcases Nat.lt_or_ge n a with h | h
                · exact HTL.out n h
                · obtain rfl : n = a := by omega
                  exact told_yes fun j hj => HTM.out j (by rw [HLN.out]; exact hj)
              go_wp2_with fail
              go_roundw
              case rel => exact ⟨a + 1, i + 1, by go_num, ⟨by omega, by omega, HTA.out⟩, below_to HB6.out (Nat.le_refl _) HB7.out⟩
              case measure => simp [intOf]; omega
        · have e1 : decide (i < (ps.length : Int)) = false := decide_eq_false hil
          obtain rfl : a = ps.length + 1 := by omega
          have HF : Hid (validB isNm ⟨c, ps⟩ = true) := validB_yes HN.out (by have := H1.out; omega) (by have := H8.out; omega) HPT.out HTL.out
          go_wp2_with fail
          go_ret
          exact ⟨ret_bool (by rw [HF.out]), HB.out.trans (HB2.out.mono HB.out.size)⟩
end Go.Proofs.YtdcafoekbnacnaaGreatDoor

/- The reference of layer 23: value. -/
set_option linter.unusedVariables false
set_option linter.unusedSimpArgs false
namespace Go.Proofs.YtdcafoekbnacnaaGreatDoor
open Go.RowKit Go.Shelf
attribute [local go_sem] Oper.semAt_some

def okvB (ps : List Prt) (d : UInt8) : Bool := decide (32 ≤ d.toNat) && (decide (d.toNat ≤ 126) && !mrk ps d)
theorem okv_all (ps : List Prt) (x : List UInt8) : (prn x && !(x.any fun d => mrk ps d)) = x.all (okvB ps) := by
  unfold prn
  induction x with
  | nil => rfl
  | cons d r ih =>
    rw [List.all_cons, List.all_cons, List.any_cons, ← ih]
    unfold okvB
    cases decide (32 ≤ d.toNat) <;> cases decide (d.toNat ≤ 126) <;> cases mrk ps d <;> simp
theorem good_all (ps : List Prt) (k : Nat) (x : List UInt8) : goodB numB ps k x = (decide (x.length ≤ 60) && (trimd x && (x.all (okvB ps) && (!decide (k = 3) || numB x)))) := by
  unfold goodB
  rw [← okv_all]
  cases decide (x.length ≤ 60) <;> cases prn x <;> cases (x.any fun d => mrk ps d) <;> cases trimd x <;> simp
set_option maxRecDepth 100000 in
set_option maxHeartbeats 8000000 in
theorem rvalue_any (c : List UInt8) (ps : List Prt) (hl0 : ps.length ≤ 1000000) (v : Value) (k : Nat) (pb pa : List UInt8) (need : Bool) (x : List UInt8) (hx : x ≠ []) (hxl : x.length ≤ 100000) (w : World) (hP : PartsAt w v ps) :
    Calls Tryz.prog 65 #[.agg #[.string (bs c), v], .agg #[.int .i64 (k : Int), .string (bs pb), .string (bs pa), .bool need], .string (bs x)] w fun e w' => e = .returned (.bool (goodB numB ps k x)) ∧ Below w.heap.size w w' := by
  have HP0 := hide hP
  obtain ⟨A, cp, rfl, hcp⟩ := hP.slice
  have HL0 := hide hl0
  have HXL := hide hxl
  have HG := hide (good_all ps k x)
  clear hP
  have hsz := bs_size x
  obtain ⟨n, hn⟩ : ∃ n, x.length = n + 1 := ⟨x.length - 1, by have := List.length_pos_iff.2 hx; omega⟩
  obtain ⟨d0, hd0⟩ : ∃ d, x[0]? = some d := ⟨_, List.getElem?_eq_getElem (by omega)⟩
  obtain ⟨dn, hdn⟩ : ∃ d, x[n]? = some d := ⟨_, List.getElem?_eq_getElem (by omega)⟩
  have i0 : ∀ w, (Instr.index 9 (.string (bs x)) (.int .i64 0)).run Tryz.prog w = .ok (.int .u8 (d0.toNat : Int)) w := index_bs x 0 d0 hd0
  have i1 := index_bs x n dn hdn
  have HT : Hid (trimd x = (!(d0 == 32) && !(dn == 32))) := by
    show _ = _
    unfold trimd
    rw [List.head?_eq_getElem?, List.getLast?_eq_getElem?, hd0, show x.length - 1 = n by omega, hdn]
    rfl
  have en : (n : Int) = (x.length : Int) - 1 := by omega
  rw [en] at i1
  have HN := hide hn
  have b0 : (0 : Int) ≤ (x.length : Int) - 1 := by omega
  have b1 : (x.length : Int) - 1 < (x.length : Int) := by omega
  clear hd0 hdn hx hn hxl hl0 en
  obtain ⟨L, hL⟩ : ∃ L, x.length = L := ⟨_, rfl⟩
  have HLL := hide hL
  rw [hL] at hsz b0 b1 i1 HG HN HXL
  clear hL
  go_enter Tryz.func65, Tryz.ntmps65
  go_upto_region 1 with fail
  obtain ⟨Xs, Xp, B0⟩ := box2 w 24 #[.string (bs c), .slice A ps.length cp] 41 #[.int .i64 (k : Int), .string (bs pb), .string (bs pa), .bool need]
  have HXs := hide Xs
  have HXp := hide Xp
  have HB := hide B0
  have HP := hide (HP0.out.to B0)
  clear Xs Xp B0 HP0
  generalize (w.alloc (.cells #[.string (bs c), .slice A ps.length cp] 24)).alloc (.cells #[.int .i64 (k : Int), .string (bs pb), .string (bs pa), .bool need] 41) = w1 at *
  by_cases h60 : 60 < L
  · have HF : Hid (goodB numB ps k x = false) := by show _ = _; rw [HG.out, decide_eq_false (by omega : ¬ L ≤ 60)]; rfl
    have e1 : decide ((60 : Int) < (L : Int)) = true := decide_eq_true (by omega)
    clear h60
    go_wp2_with fail
    go_ret
    exact ⟨ret_bool (by rw [HF.out]), HB.out⟩
  have e1 : decide ((60 : Int) < (L : Int)) = false := decide_eq_false (by omega)
  by_cases h0 : d0 = 32
  · have HF : Hid (goodB numB ps k x = false) := by show _ = _; rw [HG.out, HT.out, h0]; simp
    have e2 : ((d0.toNat : Int) == 32) = true := by rw [h0]; rfl
    clear h60 h0
    go_wp2_with fail
    go_ret
    exact ⟨ret_bool (by rw [HF.out]), HB.out⟩
  have e2 : ((d0.toNat : Int) == 32) = false := by rw [beq_eq_false_iff_ne]; intro h; exact h0 (UInt8.toNat_inj.1 (by simp; omega))
  by_cases h1 : dn = 32
  · have HF : Hid (goodB numB ps k x = false) := by show _ = _; rw [HG.out, HT.out, h1]; simp
    have e3 : ((dn.toNat : Int) == 32) = true := by rw [h1]; rfl
    clear h0 h1
    go_wp2_with fail
    go_ret
    exact ⟨ret_bool (by rw [HF.out]), HB.out⟩
  have e3 : ((dn.toNat : Int) == 32) = false := by rw [beq_eq_false_iff_ne]; intro h; exact h1 (UInt8.toNat_inj.1 (by simp; omega))
  have HG2 : Hid (goodB numB ps k x = (x.all (okvB ps) && (!decide (k = 3) || numB x))) := by
    show _ = _
    rw [HG.out, HT.out, decide_eq_true (by omega : L ≤ 60)]
    simp [h0, h1]
  clear h0 h1
  go_wp2_with fail
  clear e1 e2 e3 i0 i1
  go_loopw [7] (fun i wr => ∃ m : Nat, i = .int .i64 (m : Int) ∧ (m ≤ L ∧ x.all (okvB ps) = (x.drop m).all (okvB ps)) ∧ Below w1.heap.size w1 wr) (fun i _ => L - (intOf i).toNat)
  case atStart => exact ⟨0, rfl, ⟨by omega, rfl⟩, Below.refl _ _⟩
  case round =>
    obtain ⟨m, rfl, ⟨hm, hall⟩, hB⟩ := hrel
    have HBw := hide hB
    have HA := hide hall
    clear hB hall
    by_cases hlt : m < L
    · have e1 : decide ((m : Int) < (L : Int)) = true := decide_eq_true (by omega)
      obtain ⟨d, hd⟩ : ∃ d, x[m]? = some d := ⟨_, List.getElem?_eq_getElem (by rw [HLL.out]; omega)⟩
      have ci := index_bs x m d hd
      have HD := hide (drop_at hd)
      have k0 : (0 : Int) ≤ (m : Int) := by omega
      have k1 : (m : Int) < (L : Int) := by omega
      clear hd
      have HF : Hid (okvB ps d = false → goodB numB ps k x = false) := fun h => by rw [HG2.out, HA.out, HD.out, List.all_cons, h]; rfl
      have HTT : Hid (okvB ps d = true → x.all (okvB ps) = (x.drop (m + 1)).all (okvB ps)) := fun h => by rw [HA.out, HD.out, List.all_cons, h]; rfl
      by_cases h1 : d.toNat < 32
      · have e2 : decide ((d.toNat : Int) < 32) = true := decide_eq_true (by omega)
        have HR := hide (HF.out (by unfold okvB; rw [decide_eq_false (by omega)]; rfl))
        clear h1
        go_wp2_with fail
        go_quiet (fail)
        go_wp2_with fail
        go_ret
        exact ⟨ret_bool (by rw [HR.out]), below_drewN (HB.out.trans (HBw.out.mono HB.out.size)) _⟩
      have e2 : decide ((d.toNat : Int) < 32) = false := decide_eq_false (by omega)
      by_cases h2 : 126 < d.toNat
      · have e3 : decide ((126 : Int) < (d.toNat : Int)) = true := decide_eq_true (by omega)
        have HR := hide (HF.out (by unfold okvB; rw [decide_eq_false (show ¬ d.toNat ≤ 126 by omega)]; simp))
        clear h1 h2
        go_wp2_with fail
        go_quiet (fail)
        go_wp2_with fail
        go_ret
        exact ⟨ret_bool (by rw [HR.out]), below_drewN (HB.out.trans (HBw.out.mono HB.out.size)) _⟩
      have e3 : decide ((126 : Int) < (d.toNat : Int)) = false := decide_eq_false (by omega)
      have HOK : Hid (okvB ps d = !mrk ps d) := by show _ = _; unfold okvB; rw [decide_eq_true (by omega), decide_eq_true (by omega)]; rfl
      clear h1 h2
      obtain ⟨U, hU, g, u0, rfl, hgu, hgi⟩ := cls wr
      have xs_0 := fun u => (((HXs.out.to (below_to HBw.out (Nat.le_refl _) (hgu u))).cell 0).trans (show _ = some (Value.string (bs c)) from rfl))
      have xs_1 := fun u => (((HXs.out.to (below_to HBw.out (Nat.le_refl _) (hgu u))).cell 1).trans (show _ = some (Value.slice A ps.length cp) from rfl))
      have CM : ∀ u, Calls Tryz.prog 78 #[.agg #[.string (bs c), .slice A ps.length cp], .int .u8 (d.toNat : Int)] (g u) fun e w' => e = .returned (.bool (mrk ps d)) ∧ ∃ u', w' = g u' := fun u => cls_call hgu hgi (fun W hb => rMark_any c ps (by have := HL0.out; omega) (.slice A ps.length cp) d W (HP.out.to (below_to HBw.out (Nat.le_refl _) hb))) u
      cases hmk : mrk ps d with
      | true =>
        have HR := hide (HF.out (by rw [HOK.out, hmk]; rfl))
        rw [hmk] at CM
        clear hmk
        go_wp2_with fail
        refine wp_region_class g (by kernel_rfl) (by kernel_rfl) (hgi _ (hgu _).drew) ?_
        repeat (go_big_quiet_step (with_reducible exact CM _))
        refine wpQuiet_nil ?_
        intro w3 hw3
        obtain ⟨u, rfl⟩ := hw3
        go_wp2_with fail
        go_ret
        exact ⟨ret_bool (by rw [HR.out]), HB.out.trans ((below_to HBw.out (Nat.le_refl _) (hgu _)).mono HB.out.size)⟩
      | false =>
        have HR := hide (HTT.out (by rw [HOK.out, hmk]; rfl))
        rw [hmk] at CM
        clear hmk
        go_wp2_with fail
        refine wp_region_class g (by kernel_rfl) (by kernel_rfl) (hgi _ (hgu _).drew) ?_
        repeat (go_big_quiet_step (with_reducible exact CM _))
        refine wpQuiet_nil ?_
        intro w3 hw3
        obtain ⟨u, rfl⟩ := hw3
        go_wp2_with fail
        go_roundw
        case rel => exact ⟨m + 1, by go_num, ⟨by omega, HR.out⟩, below_to HBw.out (Nat.le_refl _) (hgu _)⟩
        case measure => simp [intOf]; omega
    · obtain rfl : m = L := by omega
      have e1 : decide ((m : Int) < (m : Int)) = false := by simp
      have HR : Hid (goodB numB ps k x = (!decide (k = 3) || numB x)) := by show _ = _; rw [HG2.out, HA.out, ← HLL.out, List.drop_length]; rfl
      go_wp2_with fail
      refine (rParse_any x _ (by rw [HLL.out]; exact HXL.out)).mono ?_
      rintro e w5 ⟨rfl, hb⟩
      have HB5 := hide (below_to HBw.out (Nat.le_refl _) hb)
      have HX5 := hide ((HXp.out.to HB5.out))
      clear hb HBw e1
      have cK : (w5.alloc (.cells #[.int .i64 (outP x).n, .string ⟨(outP x).l.toArray⟩, .int .i64 (outP x).num, .int .i64 (outP x).den] 93)).cell? ⟨w.heap.size + 1, 0, none⟩ = some (.int .i64 (k : Int)) := (HX5.out.alloc _).cell 0
      have HB6 := hide (below_alloc HB5.out (Nat.le_refl _) (.cells #[.int .i64 (outP x).n, .string ⟨(outP x).l.toArray⟩, .int .i64 (outP x).num, .int .i64 (outP x).den] 93))
      unfold hval
      have hnum : numB x = decide (errP x = 0) := rfl
      by_cases hk3 : k = 3
      · have e6 : ((k : Int) != 3) = false := by rw [hk3]; rfl
        have HQ : Hid (goodB numB ps k x = (errP x == 0)) := by
          show _ = _
          rw [HR.out, hnum, decide_eq_true hk3, Bool.eq_iff_iff]; simp
        clear hk3 hnum
        go_wp2_with fail
        go_ret
        exact ⟨ret_bool (by rw [HQ.out]), HB.out.trans (HB6.out.mono HB.out.size)⟩
      · have e6 : ((k : Int) != 3) = true := by rw [bne_iff_ne]; omega
        have HQ : Hid (goodB numB ps k x = true) := by show _ = _; rw [HR.out, decide_eq_false hk3]; rfl
        clear hk3 hnum
        go_wp2_with fail
        go_ret
        exact ⟨ret_bool (by rw [HQ.out]), HB.out.trans (HB6.out.mono HB.out.size)⟩
end Go.Proofs.YtdcafoekbnacnaaGreatDoor

/- The reference of layer 23: Fits. -/
set_option linter.unusedVariables false
set_option linter.unusedSimpArgs false
namespace Go.Proofs.YtdcafoekbnacnaaGreatDoor
open Go.RowKit Go.Shelf
attribute [local go_sem] Oper.semAt_some

/-- the part of a kind that a search from the front ends with -/
def LastK (ps : List Prt) (k m : Nat) (i : Int) : Prop := (∃ j q, i = ((j : Nat) : Int) ∧ j < m ∧ ps[j]? = some q ∧ q.k = (k : Int)) ∨ (i = -1 ∧ ∀ j q, j < m → ps[j]? = some q → q.k ≠ (k : Int))
theorem lastK_yes {ps : List Prt} {k m : Nat} {q : Prt} (hq : ps[m]? = some q) (h : q.k = (k : Int)) : LastK ps k (m + 1) (m : Int) := .inl ⟨m, q, rfl, by omega, hq, h⟩
theorem lastK_no {ps : List Prt} {k m : Nat} {i : Int} {q : Prt} (hl : LastK ps k m i) (hq : ps[m]? = some q) (h : q.k ≠ (k : Int)) : LastK ps k (m + 1) i := by
  rcases hl with ⟨j, x, e, hj, hx, hk⟩ | ⟨e, hn⟩
  · exact .inl ⟨j, x, e, by omega, hx, hk⟩
  · refine .inr ⟨e, fun j x hj hx => ?_⟩
    rcases Nat.lt_or_ge j m with h1 | h1
    · exact hn j x h1 hx
    · obtain rfl : j = m := by omega
      rw [hq] at hx; cases hx; exact h
theorem partAt_some {ps : List Prt} (hd : ps.Pairwise fun x y => x.k ≠ y.k) {k j : Nat} {q : Prt} (hq : ps[j]? = some q) (h : q.k = (k : Int)) : partAt ps k = some q := by
  unfold partAt
  induction ps generalizing j with
  | nil => cases hq
  | cons p r ih =>
    rw [List.pairwise_cons] at hd
    cases j with
    | zero =>
      obtain rfl : p = q := by simpa using hq
      rw [List.find?_cons, show (p.k == (k : Int)) = true by rw [h]; simp]
    | succ j =>
      rw [List.getElem?_cons_succ] at hq
      have := hd.1 q (List.mem_of_getElem? hq)
      rw [List.find?_cons, show (p.k == (k : Int)) = false by rw [beq_eq_false_iff_ne, ← h]; exact this]
      exact ih hd.2 hq
theorem partAt_none {ps : List Prt} {k : Nat} (h : ∀ (j : Nat) (q : Prt), j < ps.length → ps[j]? = some q → q.k ≠ (k : Int)) : partAt ps k = none := by
  unfold partAt
  rw [List.find?_eq_none]
  intro q hq
  obtain ⟨n, hn, rfl⟩ := List.getElem_of_mem hq
  have := h n _ hn (List.getElem?_eq_getElem hn)
  simpa using this
set_option maxRecDepth 100000 in
set_option maxHeartbeats 8000000 in
theorem rFits_any (c : List UInt8) (ps : List Prt) (hl0 : ps.length ≤ 1000000) (hc0 : c.length ≤ 140737488355328) (hb0 : ∀ p ∈ ps, p.b.length ≤ 1000000 ∧ p.a.length ≤ 1000000) (v : Value) (f0 f1 f2 f3 f4 f5 f6 f7 f8 : List UInt8) (hf : ∀ k, ([f0, f1, f2, f3, f4, f5, f6, f7, f8].getD k []).length ≤ 100000) (w : World) (hP : PartsAt w v ps) :
    Calls Tryz.prog 25 #[.agg #[.string (bs c), v], .agg #[.string (bs f0), .string (bs f1), .string (bs f2), .string (bs f3), .string (bs f4), .string (bs f5), .string (bs f6), .string (bs f7), .string (bs f8)]] w fun e w' => e = .returned (.bool (fitsB isNm numB ⟨c, ps⟩ [f0, f1, f2, f3, f4, f5, f6, f7, f8])) ∧ Below w.heap.size w w' := by
  have HP0 := hide hP
  obtain ⟨A, cp, rfl, hcp⟩ := hP.slice
  have HL0 := hide hl0
  have HFF := hide hf
  have HA := hide (fields_at f0 f1 f2 f3 f4 f5 f6 f7 f8)
  clear hP hf
  go_enter Tryz.func25, Tryz.ntmps25
  go_upto_region 1 with fail
  obtain ⟨Xs, Xf, B0⟩ := box2 w 24 #[.string (bs c), .slice A ps.length cp] 26 #[.string (bs f0), .string (bs f1), .string (bs f2), .string (bs f3), .string (bs f4), .string (bs f5), .string (bs f6), .string (bs f7), .string (bs f8)]
  have HXs := hide Xs
  have HXf := hide Xf
  have HB := hide B0
  have HP := hide (HP0.out.to B0)
  clear Xs Xf B0 HP0
  generalize (w.alloc (.cells #[.string (bs c), .slice A ps.length cp] 24)).alloc (.cells #[.string (bs f0), .string (bs f1), .string (bs f2), .string (bs f3), .string (bs f4), .string (bs f5), .string (bs f6), .string (bs f7), .string (bs f8)] 26) = w1 at *
  have CV := rValid23_any c ps hl0 hc0 hb0 (.slice A ps.length cp) w1 HP.out
  have xs_0 : w1.cell? ⟨w.heap.size, 0, none⟩ = some (.string (bs c)) := HXs.out.cell 0
  have xs_1 : w1.cell? ⟨w.heap.size, 1, none⟩ = some (.slice A ps.length cp) := HXs.out.cell 1
  have HFC : Hid (∀ W, Below w1.heap.size w1 W → ∀ k, k < 9 → W.cell? ⟨w.heap.size + 1, k, none⟩ = some (.string (bs ([f0, f1, f2, f3, f4, f5, f6, f7, f8].getD k [])))) := fun W hW k hk => ((HXf.out.to hW).cell k).trans (HA.out k hk)
  obtain ⟨fl, hfl⟩ : ∃ fl, [f0, f1, f2, f3, f4, f5, f6, f7, f8] = fl := ⟨_, rfl⟩
  have HFL : Hid (fitsB isNm numB ⟨c, ps⟩ [f0, f1, f2, f3, f4, f5, f6, f7, f8] = fitsB isNm numB ⟨c, ps⟩ fl) := by show _ = _; rw [hfl]
  rw [hfl] at HFC HFF
  have hg1 : w.heap.size + 1 < w1.heap.size := HXf.out.lt
  clear HA HXf hfl
  cases hv : validB isNm ⟨c, ps⟩ with
  | false =>
    have HF : Hid (fitsB isNm numB ⟨c, ps⟩ fl = false) := by show _ = _; unfold fitsB; rw [hv]; rfl
    rw [hv] at CV
    clear hv
    go_wp2_with fail
    refine CV.mono ?_
    rintro e w2 ⟨rfl, BW⟩
    go_wp2_with fail
    go_ret
    exact ⟨ret_bool (by rw [HFL.out, HF.out]), HB.out.trans (BW.mono HB.out.size)⟩
    
  | true =>
    have HD : Hid (ps.Pairwise fun x y => x.k ≠ y.k) := ((validB_iff _ _).1 hv).nodup
    have HFG : Hid (∀ k, k < 9 → fit1 numB ps k (fl.getD k []) = false → fitsB isNm numB ⟨c, ps⟩ fl = false) := fun k hk h => fitsB_no hk h
    have HTG : Hid ((∀ k, k < 9 → fit1 numB ps k (fl.getD k []) = true) → fitsB isNm numB ⟨c, ps⟩ fl = true) := fun h => by
      unfold fitsB
      rw [hv, Bool.true_and, List.all_eq_true]
      exact fun k hk => h k (List.mem_range.1 hk)
    rw [hv] at CV
    clear hv
    go_wp2_with fail
    refine CV.mono ?_
    rintro e w2 ⟨rfl, hB2⟩
    have HB2 := hide hB2
    clear hB2 CV xs_0 xs_1 hc0 hb0
    go_wp2_with fail
    go_loopw [5] (fun t wr => ∃ k : Nat, t = .int .i64 (k : Int) ∧ (k ≤ 9 ∧ ∀ j, j < k → fit1 numB ps j (fl.getD j []) = true) ∧ Below w1.heap.size w1 wr) (fun t _ => 9 - (intOf t).toNat)
    case atStart => exact ⟨0, rfl, ⟨by omega, fun j h => absurd h (by omega)⟩, HB2.out⟩
    case round =>
      obtain ⟨k, rfl, ⟨hk, hT⟩, hB⟩ := hrel
      have HBk := hide hB
      have HT := hide hT
      clear hT hB HB2
      by_cases hk9 : k < 9
      · have e1 : decide ((k : Int) ≤ 8) = true := decide_eq_true (by omega)
        have HFK : Hid (fit1 numB ps k (fl.getD k []) = false → fitsB isNm numB ⟨c, ps⟩ fl = false) := HFG.out k hk9
        have HTK : Hid (fit1 numB ps k (fl.getD k []) = true → ∀ j, j < k + 1 → fit1 numB ps j (fl.getD j []) = true) := fun h j hj => by
          rcases Nat.lt_or_ge j k with h' | h'
          · exact HT.out j h'
          · obtain rfl : j = k := by omega
            exact h
        obtain ⟨x, hx⟩ : ∃ x, fl.getD k [] = x := ⟨_, rfl⟩
        have HX := hide hx
        have HXL : Hid (x.length ≤ 100000) := by show _ ≤ _; rw [← hx]; exact HFF.out k
        rw [hx] at HFK
        rw [hx] at HTK
        clear hx
        go_wp2_with fail
        clear e1
        go_loopw [6, 7] (fun p t wr => ∃ (m : Nat) (i : Int), p = .int .i64 i ∧ t = .int .i64 (m : Int) ∧ (m ≤ ps.length ∧ LastK ps k m i) ∧ Below w1.heap.size w1 wr) (fun _ t _ => ps.length - (intOf t).toNat)
        case atStart => exact ⟨0, -1, rfl, rfl, ⟨by omega, .inr ⟨rfl, fun j q h => absurd h (by omega)⟩⟩, HBk.out⟩
        case round =>
          obtain ⟨m, i, rfl, rfl, ⟨hm, hlk⟩, hB⟩ := hrel
          have HBw := hide hB
          have HLK := hide hlk
          have xs_1 : wr.cell? ⟨w.heap.size, 1, none⟩ = some (.slice A ps.length cp) := (HXs.out.to hB).cell 1
          clear hB hlk HBk
          by_cases hml : m < ps.length
          · obtain ⟨q, hq⟩ : ∃ q, ps[m]? = some q := ⟨_, List.getElem?_eq_getElem hml⟩
            obtain ⟨a, cp', ea, _, hab, c0, c1, c2, c3⟩ := (HP.out.to HBw.out).at_ hq
            injection ea with ea _ ec
            subst ec
            obtain rfl := ea
            by_cases hqk : q.k = (k : Int)
            · have HLK2 := hide (lastK_yes hq hqk)
              have e2 : (q.k == (k : Int)) = true := by rw [hqk]; simp
              clear hqk hq
              generalize q.k = qk at *
              go_wp2_with fail
              go_roundw
              case rel => exact ⟨m + 1, (m : Int), rfl, by go_num, ⟨by omega, HLK2.out⟩, HBw.out⟩
              case measure => simp [intOf]; omega
            · have HLK2 := hide (lastK_no HLK.out hq hqk)
              have e2 : (q.k == (k : Int)) = false := by rw [beq_eq_false_iff_ne]; exact hqk
              clear hqk hq
              generalize q.k = qk at *
              go_wp2_with fail
              go_roundw
              case rel => exact ⟨m + 1, i, rfl, by go_num, ⟨by omega, HLK2.out⟩, HBw.out⟩
              case measure => simp [intOf]; omega
          · obtain rfl : m = ps.length := by omega
            have e1 : decide ((ps.length : Int) < (ps.length : Int)) = false := by simp
            have k0 : (0 : Int) ≤ (k : Int) := by omega
            have k1 : (k : Int) < 9 := by omega
            go_wp2_with fail
            clear e1
            rcases HLK.out with ⟨j, q, rfl, hj, hq, hqk⟩ | ⟨rfl, hno⟩
            · have HPA := hide (partAt_some HD.out hq hqk)
              have HQ := hide hq
              have HQK := hide hqk
              obtain ⟨ad, cp', ea, _, hab, c0, c1, c2, c3⟩ := (HP.out.to HBw.out).at_ hq
              injection ea with ea _ ec
              subst ec
              obtain rfl := ea
              rw [hqk] at c0
              have k2 : (0 : Int) ≤ (j : Int) := by omega
              have k3 : (j : Int) < (ps.length : Int) := by omega
              have e3 : decide ((j : Int) < 0) = false := decide_eq_false (by omega)
              have e4 : decide ((0 : Int) ≤ (j : Int)) = true := decide_eq_true (by omega)
              clear hq hqk
              by_cases hxe : x = []
              · have ck := HFC.out wr HBw.out k hk9
                rw [HX.out] at ck
                have e5 : (bs x).toList.isEmpty = true := by rw [bs_toList, hxe]; rfl
                have HFI : Hid (fit1 numB ps k x = !q.need) := by show _ = _; unfold fit1; rw [HPA.out, hxe]; rfl
                clear hxe
                cases hnd : q.need with
                | true =>
                  rw [hnd] at c3
                  have HF := hide (HFK.out (by rw [HFI.out, hnd]; rfl))
                  clear hnd
                  go_wp2_with fail
                  go_quiet (fail)
                  go_wp2_with fail
                  have BW := below_drewN HBw.out nq
                  go_ret
                  exact ⟨ret_bool (by rw [HFL.out, HF.out]), HB.out.trans (BW.mono HB.out.size)⟩
                  
                | false =>
                  rw [hnd] at c3
                  have HR := hide (HTK.out (by rw [HFI.out, hnd]; rfl))
                  clear hnd
                  go_wp2_with fail
                  go_quiet (fail)
                  go_wp2_with fail
                  go_roundw
                  case rel => exact ⟨k + 1, by go_num, ⟨by omega, HR.out⟩, below_drewN HBw.out _⟩
                  case measure => simp [intOf]; omega
              · have HXE := hide hxe
                have e5 : (bs x).toList.isEmpty = false := by rw [bs_toList]; cases x with | nil => exact absurd rfl hxe | cons a l => rfl
                have HFI : Hid (fit1 numB ps k x = goodB numB ps k x) := by
                  show _ = _
                  unfold fit1
                  rw [HPA.out]
                  cases x with
                  | nil => exact absurd rfl hxe
                  | cons a l => rfl
                clear hxe c0 c1 c2 c3 xs_1 hab
                obtain ⟨U, hU, g, u0, rfl, hgu, hgi⟩ := cls wr
                have xs_0 := fun u => (((HXs.out.to (below_to HBw.out (Nat.le_refl _) (hgu u))).cell 0).trans (show _ = some (Value.string (bs c)) from rfl))
                have xs_1 := fun u => (((HXs.out.to (below_to HBw.out (Nat.le_refl _) (hgu u))).cell 1).trans (show _ = some (Value.slice (some ad) ps.length cp) from rfl))
                have ck := fun u => HFC.out (g u) (below_to HBw.out (Nat.le_refl _) (hgu u)) k hk9
                rw [HX.out] at ck
                have c0 : ∀ u, (g u).cell? (ad.add (j * 4)) = some (.int .i64 (k : Int)) := fun u => by
                  obtain ⟨ad2, cp2, ea, _, _, d0, _, _, _⟩ := (HP.out.to (below_to HBw.out (Nat.le_refl _) (hgu u))).at_ HQ.out
                  injection ea with ea _ ec
                  injection ea with ea
                  rw [ea, d0, HQK.out]
                have c1 : ∀ u, (g u).cell? ⟨(ad.add (j * 4)).block, (ad.add (j * 4)).off + 1, none⟩ = some (.string (bs q.b)) := fun u => by
                  obtain ⟨ad2, cp2, ea, _, _, d0, d1, d2, d3⟩ := (HP.out.to (below_to HBw.out (Nat.le_refl _) (hgu u))).at_ HQ.out
                  injection ea with ea _ ec
                  injection ea with ea
                  rw [ea, d1]
                have c2 : ∀ u, (g u).cell? ⟨(ad.add (j * 4)).block, (ad.add (j * 4)).off + 2, none⟩ = some (.string (bs q.a)) := fun u => by
                  obtain ⟨ad2, cp2, ea, _, _, d0, d1, d2, d3⟩ := (HP.out.to (below_to HBw.out (Nat.le_refl _) (hgu u))).at_ HQ.out
                  injection ea with ea _ ec
                  injection ea with ea
                  rw [ea, d2]
                have c3 : ∀ u, (g u).cell? ⟨(ad.add (j * 4)).block, (ad.add (j * 4)).off + 3, none⟩ = some (.bool q.need) := fun u => by
                  obtain ⟨ad2, cp2, ea, _, _, d0, d1, d2, d3⟩ := (HP.out.to (below_to HBw.out (Nat.le_refl _) (hgu u))).at_ HQ.out
                  injection ea with ea _ ec
                  injection ea with ea
                  rw [ea, d3]
                have CG : ∀ u, Calls Tryz.prog 65 #[.agg #[.string (bs c), .slice (some ad) ps.length cp], .agg #[.int .i64 (k : Int), .string (bs q.b), .string (bs q.a), .bool q.need], .string (bs x)] (g u) fun e w' => e = .returned (.bool (goodB numB ps k x)) ∧ ∃ u', w' = g u' := fun u => cls_call hgu hgi (fun W hb => rvalue_any c ps HL0.out (.slice (some ad) ps.length cp) k q.b q.a q.need x HXE.out HXL.out W (HP.out.to (below_to HBw.out (Nat.le_refl _) hb))) u
                cases hgd : goodB numB ps k x with
                | true =>
                  rw [hgd] at CG
                  have HR := hide (HTK.out (by rw [HFI.out, hgd]))
                  clear hgd
                  go_wp2_with fail
                  refine wp_region_class g (by kernel_rfl) (by kernel_rfl) (hgi _ (hgu _).drew) ?_
                  repeat (go_big_quiet_step (with_reducible exact CG _))
                  refine wpQuiet_nil ?_
                  intro w3 hw3
                  obtain ⟨u, rfl⟩ := hw3
                  go_wp2_with fail
                  go_roundw
                  case rel => exact ⟨k + 1, by go_num, ⟨by omega, HR.out⟩, below_to HBw.out (Nat.le_refl _) (hgu _)⟩
                  case measure => simp [intOf]; omega
                | false =>
                  rw [hgd] at CG
                  have HF := hide (HFK.out (by rw [HFI.out, hgd]))
                  clear hgd
                  go_wp2_with fail
                  refine wp_region_class g (by kernel_rfl) (by kernel_rfl) (hgi _ (hgu _).drew) ?_
                  repeat (go_big_quiet_step (with_reducible exact CG _))
                  refine wpQuiet_nil ?_
                  intro w3 hw3
                  obtain ⟨u, rfl⟩ := hw3
                  go_wp2_with fail
                  have BW := below_to HBw.out (Nat.le_refl _) (hgu u)
                  go_ret
                  exact ⟨ret_bool (by rw [HFL.out, HF.out]), HB.out.trans (BW.mono HB.out.size)⟩
                  
            · have HPA := hide (partAt_none hno)
              have ck := HFC.out wr HBw.out k hk9
              rw [HX.out] at ck
              clear hno
              have HFI : Hid (fit1 numB ps k x = x.isEmpty) := by show _ = _; unfold fit1; rw [HPA.out]
              cases hxe : x.isEmpty with
              | true =>
                have e5 : (bs x).toList.isEmpty = true := by rw [bs_toList]; exact hxe
                have HR := hide (HTK.out (by rw [HFI.out, hxe]))
                clear hxe
                go_wp2_with fail
                go_quiet (fail)
                go_wp2_with fail
                go_roundw
                case rel => exact ⟨k + 1, by go_num, ⟨by omega, HR.out⟩, below_drewN HBw.out _⟩
                case measure => simp [intOf]; omega
              | false =>
                have e5 : (bs x).toList.isEmpty = false := by rw [bs_toList]; exact hxe
                have HF := hide (HFK.out (by rw [HFI.out, hxe]))
                clear hxe
                go_wp2_with fail
                go_quiet (fail)
                go_wp2_with fail
                have BW := below_drewN HBw.out nq
                go_ret
                exact ⟨ret_bool (by rw [HFL.out, HF.out]), HB.out.trans (BW.mono HB.out.size)⟩
                
      · obtain rfl : k = 9 := by omega
        have HF := hide (HTG.out HT.out)
        have BW := HBk.out
        go_wp2_with fail
        go_ret
        exact ⟨ret_bool (by rw [HFL.out, HF.out]), HB.out.trans (BW.mono HB.out.size)⟩
        
end Go.Proofs.YtdcafoekbnacnaaGreatDoor

/- The reference of layer 24: stands, needed, value, missing. -/
set_option linter.unusedVariables false
set_option linter.unusedSimpArgs false
namespace Go.Proofs.YtdcafoekbnacnaaGreatDoor
open Go.RowKit Go.Shelf
attribute [local go_sem] Oper.semAt_some

theorem pre_take {t s : List UInt8} {a : Nat} : decide (s <+: t.drop a) = ((bs ((t.drop a).take s.length)).toList == (bs s).toList) := by
  rw [bs_toList, bs_toList, Bool.eq_iff_iff, decide_eq_true_eq, beq_iff_eq]
  constructor
  · intro h; exact (List.prefix_iff_eq_take.1 h).symm
  · intro h; rw [← h]; exact List.take_prefix _ _
set_option maxRecDepth 100000 in
set_option maxHeartbeats 4000000 in
theorem rstands_any (t s : List UInt8) (a : Nat) (ha : a ≤ t.length) (ht : t.length ≤ 1000000) (hs : s.length ≤ 1000000) (w : World) :
    Calls Tryz.prog 76 #[.string (bs t), .int .i64 (a : Int), .string (bs s)] w fun e w' => e = .returned (.bool (decide (s <+: t.drop a))) ∧ w' = w := by
  have hsz := bs_size t
  have hss := bs_size s
  obtain ⟨z, hz⟩ : ∃ z, a + s.length = z := ⟨_, rfl⟩
  have ez : (a : Int) + (s.length : Int) = (z : Int) := by omega
  have HZ := hide hz
  obtain ⟨Q, hQ⟩ : ∃ Q, decide (s <+: t.drop a) = Q := ⟨_, rfl⟩
  rw [hQ]
  by_cases h : z ≤ t.length
  · have e1 : decide ((z : Int) ≤ (t.length : Int)) = true := decide_eq_true (by omega)
    have e1' : decide (z ≤ t.length) = true := decide_eq_true h
    have e2 : decide ((a : Int) ≤ (z : Int)) = true := decide_eq_true (by omega)
    have e2' : decide (a ≤ z) = true := decide_eq_true (by omega)
    have hx : (bs t).extract a z = bs ((t.drop a).take s.length) := by rw [bs_cut, show z - a = s.length by omega]
    have HE := hide (pre_take.symm.trans hQ)
    have he := HE.out
    have k0 : (0 : Int) ≤ (a : Int) := by omega
    have k1 : (a : Int) ≤ (z : Int) := by omega
    have k2 : (z : Int) ≤ (t.length : Int) := by omega
    clear hQ hz
    generalize bs ((t.drop a).take s.length) = sp at *
    go_enter Tryz.func76, Tryz.ntmps76
    go_wp2_with fail
    go_ret
    exact ⟨rfl, rfl⟩
  · have e1 : decide ((z : Int) ≤ (t.length : Int)) = false := decide_eq_false (by omega)
    have e1' : decide (z ≤ t.length) = false := decide_eq_false h
    have HR : Hid (Q = false) := by show _ = _; rw [← hQ]; exact decide_eq_false (fun h' => by have := h'.length_le; rw [List.length_drop] at this; omega)
    clear hQ h hz
    go_enter Tryz.func76, Tryz.ntmps76
    go_wp2_with fail
    go_ret
    exact ⟨ret_bool HR.out.symm, rfl⟩
set_option maxRecDepth 100000 in
set_option maxHeartbeats 4000000 in
theorem rneeded_any (c : List UInt8) (ps : List Prt) (hl0 : ps.length ≤ 1000000) (v : Value) (i : Int) (a : Nat) (hi : i + 1 = (a : Int)) (ha : a ≤ ps.length) (w : World) (hP : PartsAt w v ps) :
    Calls Tryz.prog 75 #[.agg #[.string (bs c), v], .int .i64 i] w fun e w' => e = .returned (.bool ((ps.drop a).any (·.need))) ∧ Below w.heap.size w w' := by
  obtain ⟨A, cp, rfl, hcp⟩ := hP.slice
  have HB := hide (below_one w (.cells #[.string (bs c), .slice A ps.length cp] 24))
  have HS := hide (Blk.new w 24 #[.string (bs c), .slice A ps.length cp])
  have HP := hide (hP.to HB.out)
  clear hP
  have hi9 : -9223372036854775808 ≤ i := by omega
  go_enter Tryz.func75, Tryz.ntmps75
  go_wp2_with fail
  generalize w.alloc (.cells #[.string (bs c), .slice A ps.length cp] 24) = w1 at *
  go_loopw [5] (fun t wr => ∃ k : Nat, t = .int .i64 (k : Int) ∧ (a ≤ k ∧ k ≤ ps.length ∧ (ps.drop k).any (·.need) = (ps.drop a).any (·.need)) ∧ Below w1.heap.size w1 wr) (fun t _ => ps.length - (intOf t).toNat)
  case atStart => exact ⟨a, by go_num, ⟨Nat.le_refl _, ha, rfl⟩, Below.refl _ _⟩
  case round =>
    obtain ⟨k, rfl, ⟨hak, hk, hA⟩, hB⟩ := hrel
    have HBw := hide hB
    have HA := hide hA
    have s1 : wr.cell? ⟨w.heap.size, 1, none⟩ = some (.slice A ps.length cp) := (HS.out.to hB).cell 1
    clear hB hA
    by_cases hlt : k < ps.length
    · obtain ⟨p, hp⟩ : ∃ p, ps[k]? = some p := ⟨_, List.getElem?_eq_getElem hlt⟩
      obtain ⟨ad, cp', ea, _, hab, c0, c1, c2, c3⟩ := (HP.out.to HBw.out).at_ hp
      injection ea with ea _ ec
      subst ec
      obtain rfl := ea
      have HN := hide ((need_drop hp).symm.trans HA.out)
      clear hp
      cases hn : p.need with
      | true =>
        rw [hn] at c3 HN
        clear hn
        go_wp2_with fail
        go_ret
        exact ⟨ret_bool (by rw [← HN.out]; rfl), HB.out.trans (HBw.out.mono HB.out.size)⟩
      | false =>
        rw [hn] at c3 HN
        clear hn
        go_wp2_with fail
        go_roundw
        case rel => exact ⟨k + 1, by go_num, ⟨by omega, by omega, by rw [← HN.out]; rfl⟩, HBw.out⟩
        case measure => simp [intOf]; omega
    · obtain rfl : k = ps.length := by omega
      have e1 : decide ((ps.length : Int) < (ps.length : Int)) = false := by simp
      rw [List.drop_length] at HA
      go_wp2_with fail
      go_ret
      exact ⟨ret_bool (by rw [← HA.out]; rfl), HB.out.trans (HBw.out.mono HB.out.size)⟩
def okB (d : UInt8) : Bool := decide (32 ≤ d.toNat) && decide (d.toNat ≤ 126)
set_option maxRecDepth 100000 in
set_option maxHeartbeats 8000000 in
theorem rvalue24_any (k : Int) (pb pa : List UInt8) (need : Bool) (x : List UInt8) (hxl : x.length ≤ 100000) (w : World) :
    Calls Tryz.prog 79 #[.agg #[.int .i64 k, .string (bs pb), .string (bs pa), .bool need], .string (bs x)] w fun e w' => e = .returned (.bool (isVal numB k x)) ∧ Below w.heap.size w w' := by
  have hsz := bs_size x
  have HB := hide (below_one w (.cells #[.int .i64 k, .string (bs pb), .string (bs pa), .bool need] 41))
  have HXp := hide (Blk.new w 41 #[.int .i64 k, .string (bs pb), .string (bs pa), .bool need])
  by_cases hx : x = []
  · have e0 : (bs x).toList.isEmpty = true := by rw [bs_toList, hx]; rfl
    have HF : Hid (isVal numB k x = false) := by show _ = _; rw [hx]; rfl
    clear hx
    go_enter Tryz.func79, Tryz.ntmps79
    go_wp2_with fail
    go_ret
    exact ⟨ret_bool (by rw [HF.out]), HB.out⟩
  have e0 : (bs x).toList.isEmpty = false := by rw [bs_toList]; cases x with | nil => exact absurd rfl hx | cons a l => rfl
  have hxe : x.isEmpty = false := by cases x with | nil => exact absurd rfl hx | cons a l => rfl
  have HXL := hide hxl
  obtain ⟨n, hn⟩ : ∃ n, x.length = n + 1 := ⟨x.length - 1, by have := List.length_pos_iff.2 hx; omega⟩
  obtain ⟨d0, hd0⟩ : ∃ d, x[0]? = some d := ⟨_, List.getElem?_eq_getElem (by omega)⟩
  obtain ⟨dn, hdn⟩ : ∃ d, x[n]? = some d := ⟨_, List.getElem?_eq_getElem (by omega)⟩
  have i0 : ∀ w, (Instr.index 9 (.string (bs x)) (.int .i64 0)).run Tryz.prog w = .ok (.int .u8 (d0.toNat : Int)) w := index_bs x 0 d0 hd0
  have i1 := index_bs x n dn hdn
  have HG : Hid (isVal numB k x = (decide (x.length ≤ 60) && (!(d0 == 32) && (!(dn == 32) && (x.all okB && (!decide (k = 3) || numB x)))))) := by
    show _ = _
    unfold isVal
    rw [hxe, List.head?_eq_getElem?, List.getLast?_eq_getElem?, hd0, show x.length - 1 = n by omega, hdn]
    show (!false && (prn x && (decide (x.length ≤ 60) && (!(d0 == 32) && (!(dn == 32) && _))))) = _
    rw [show x.all okB = prn x from rfl]
    cases prn x <;> cases decide (x.length ≤ 60) <;> cases (d0 == 32) <;> cases (dn == 32) <;> simp
  have en : (n : Int) = (x.length : Int) - 1 := by omega
  rw [en] at i1
  have HN := hide hn
  have b0 : (0 : Int) ≤ (x.length : Int) - 1 := by omega
  have b1 : (x.length : Int) - 1 < (x.length : Int) := by omega
  clear hd0 hdn hx hn hxl hxe en
  obtain ⟨L, hL⟩ : ∃ L, x.length = L := ⟨_, rfl⟩
  have HLL := hide hL
  rw [hL] at hsz b0 b1 i1 HG HN HXL
  clear hL
  go_enter Tryz.func79, Tryz.ntmps79
  go_upto_region 1 with fail
  generalize w.alloc (.cells #[.int .i64 k, .string (bs pb), .string (bs pa), .bool need] 41) = w1 at *
  by_cases h60 : 60 < L
  · have HF : Hid (isVal numB k x = false) := by show _ = _; rw [HG.out, decide_eq_false (by omega : ¬ L ≤ 60)]; rfl
    have e1 : decide ((60 : Int) < (L : Int)) = true := decide_eq_true (by omega)
    clear h60
    go_wp2_with fail
    go_ret
    exact ⟨ret_bool (by rw [HF.out]), HB.out⟩
  have e1 : decide ((60 : Int) < (L : Int)) = false := decide_eq_false (by omega)
  by_cases h0 : d0 = 32
  · have HF : Hid (isVal numB k x = false) := by show _ = _; rw [HG.out, h0]; simp
    have e2 : ((d0.toNat : Int) == 32) = true := by rw [h0]; rfl
    clear h60 h0
    go_wp2_with fail
    go_ret
    exact ⟨ret_bool (by rw [HF.out]), HB.out⟩
  have e2 : ((d0.toNat : Int) == 32) = false := by rw [beq_eq_false_iff_ne]; intro h; exact h0 (UInt8.toNat_inj.1 (by simp; omega))
  by_cases h1 : dn = 32
  · have HF : Hid (isVal numB k x = false) := by show _ = _; rw [HG.out, h1]; simp
    have e3 : ((dn.toNat : Int) == 32) = true := by rw [h1]; rfl
    clear h0 h1
    go_wp2_with fail
    go_ret
    exact ⟨ret_bool (by rw [HF.out]), HB.out⟩
  have e3 : ((dn.toNat : Int) == 32) = false := by rw [beq_eq_false_iff_ne]; intro h; exact h1 (UInt8.toNat_inj.1 (by simp; omega))
  have HG2 : Hid (isVal numB k x = (x.all okB && (!decide (k = 3) || numB x))) := by
    show _ = _
    rw [HG.out, decide_eq_true (by omega : L ≤ 60), (beq_eq_false_iff_ne.2 h0 : (d0 == 32) = false), (beq_eq_false_iff_ne.2 h1 : (dn == 32) = false)]; rfl
  clear h0 h1
  go_wp2_with fail
  clear e0 e1 e2 e3 i0 i1
  go_loopw [5] (fun i wr => ∃ m : Nat, i = .int .i64 (m : Int) ∧ (m ≤ L ∧ x.all okB = (x.drop m).all okB) ∧ Below w1.heap.size w1 wr) (fun i _ => L - (intOf i).toNat)
  case atStart => exact ⟨0, rfl, ⟨by omega, rfl⟩, Below.refl _ _⟩
  case round =>
    obtain ⟨m, rfl, ⟨hm, hall⟩, hB⟩ := hrel
    have HBw := hide hB
    have HA := hide hall
    clear hB hall
    by_cases hlt : m < L
    · have e1 : decide ((m : Int) < (L : Int)) = true := decide_eq_true (by omega)
      obtain ⟨d, hd⟩ : ∃ d, x[m]? = some d := ⟨_, List.getElem?_eq_getElem (by rw [HLL.out]; omega)⟩
      have ci := index_bs x m d hd
      have HD := hide (drop_at hd)
      have k0 : (0 : Int) ≤ (m : Int) := by omega
      have k1 : (m : Int) < (L : Int) := by omega
      clear hd
      have HF : Hid (okB d = false → isVal numB k x = false) := fun h => by rw [HG2.out, HA.out, HD.out, List.all_cons, h]; rfl
      have HTT : Hid (okB d = true → x.all okB = (x.drop (m + 1)).all okB) := fun h => by rw [HA.out, HD.out, List.all_cons, h]; rfl
      by_cases h1 : d.toNat < 32
      · have e2 : decide ((d.toNat : Int) < 32) = true := decide_eq_true (by omega)
        have HR := hide (HF.out (by unfold okB; rw [decide_eq_false (by omega)]; rfl))
        clear h1
        go_wp2_with fail
        go_ret
        exact ⟨ret_bool (by rw [HR.out]), HB.out.trans (HBw.out.mono HB.out.size)⟩
      have e2 : decide ((d.toNat : Int) < 32) = false := decide_eq_false (by omega)
      by_cases h2 : 126 < d.toNat
      · have e3 : decide ((126 : Int) < (d.toNat : Int)) = true := decide_eq_true (by omega)
        have HR := hide (HF.out (by unfold okB; rw [decide_eq_false (show ¬ d.toNat ≤ 126 by omega)]; simp))
        clear h1 h2
        go_wp2_with fail
        go_ret
        exact ⟨ret_bool (by rw [HR.out]), HB.out.trans (HBw.out.mono HB.out.size)⟩
      have e3 : decide ((126 : Int) < (d.toNat : Int)) = false := decide_eq_false (by omega)
      have HR := hide (HTT.out (by unfold okB; rw [decide_eq_true (by omega), decide_eq_true (by omega)]; rfl))
      clear h1 h2
      go_wp2_with fail
      go_roundw
      case rel => exact ⟨m + 1, by go_num, ⟨by omega, HR.out⟩, HBw.out⟩
      case measure => simp [intOf]; omega
    · obtain rfl : m = L := by omega
      have e1 : decide ((m : Int) < (m : Int)) = false := by simp
      have HR : Hid (isVal numB k x = (!decide (k = 3) || numB x)) := by show _ = _; rw [HG2.out, HA.out, ← HLL.out, List.drop_length]; rfl
      go_wp2_with fail
      refine (rParse_any x _ (by rw [HLL.out]; exact HXL.out)).mono ?_
      rintro e w5 ⟨rfl, hb⟩
      have HB5 := hide (below_to HBw.out (Nat.le_refl _) hb)
      have HX5 := hide ((HXp.out.to HB5.out))
      clear hb HBw e1
      have cK : (w5.alloc (.cells #[.int .i64 (outP x).n, .string ⟨(outP x).l.toArray⟩, .int .i64 (outP x).num, .int .i64 (outP x).den] 93)).cell? ⟨w.heap.size, 0, none⟩ = some (.int .i64 k) := (HX5.out.alloc _).cell 0
      have HB6 := hide (below_alloc HB5.out (Nat.le_refl _) (.cells #[.int .i64 (outP x).n, .string ⟨(outP x).l.toArray⟩, .int .i64 (outP x).num, .int .i64 (outP x).den] 93))
      unfold hval
      have hnum : numB x = decide (errP x = 0) := rfl
      by_cases hk3 : k = 3
      · have e6 : (k != 3) = false := by rw [hk3]; rfl
        have HQ : Hid (isVal numB k x = (errP x == 0)) := by
          show _ = _
          rw [HR.out, hnum, decide_eq_true hk3, Bool.eq_iff_iff]; simp
        clear hk3 hnum
        go_wp2_with fail
        go_ret
        exact ⟨ret_bool (by rw [HQ.out]), HB.out.trans (HB6.out.mono HB.out.size)⟩
      · have e6 : (k != 3) = true := by rw [bne_iff_ne]; exact hk3
        have HQ : Hid (isVal numB k x = true) := by show _ = _; rw [HR.out, decide_eq_false hk3]; rfl
        clear hk3 hnum
        go_wp2_with fail
        go_ret
        exact ⟨ret_bool (by rw [HQ.out]), HB.out.trans (HB6.out.mono HB.out.size)⟩
set_option maxRecDepth 100000 in
set_option maxHeartbeats 4000000 in
theorem rmissing_any (t : List UInt8) (a : Nat) (ha : a ≤ t.length) (ht : t.length ≤ 1000000) (w : World) :
    Calls Tryz.prog 77 #[.string (bs t), .int .i64 (a : Int)] w fun e w' => e = .returned (.tuple #[.agg Z9, .int .i64 (missE a t.length), .int .i64 (a : Int)]) ∧ Below w.heap.size w w' := by
  have hsz := bs_size t
  have HZ := hide (Blk.new w 26 #[.string ⟨#[]⟩, .string ⟨#[]⟩, .string ⟨#[]⟩, .string ⟨#[]⟩, .string ⟨#[]⟩, .string ⟨#[]⟩, .string ⟨#[]⟩, .string ⟨#[]⟩, .string ⟨#[]⟩])
  have HBZ := hide (below_one w (.cells #[.string ⟨#[]⟩, .string ⟨#[]⟩, .string ⟨#[]⟩, .string ⟨#[]⟩, .string ⟨#[]⟩, .string ⟨#[]⟩, .string ⟨#[]⟩, .string ⟨#[]⟩, .string ⟨#[]⟩] 26))
  go_enter Tryz.func77, Tryz.ntmps77
  go_upto_region 1 with fail
  generalize hw1 : w.alloc (.cells #[.string ⟨#[]⟩, .string ⟨#[]⟩, .string ⟨#[]⟩, .string ⟨#[]⟩, .string ⟨#[]⟩, .string ⟨#[]⟩, .string ⟨#[]⟩, .string ⟨#[]⟩, .string ⟨#[]⟩] 26) = w1 at *
  clear hw1
  generalize hbz : w.heap.size = bz at *
  have z0 : w1.cell? ⟨bz, 0, none⟩ = some (.string ⟨#[]⟩) := HZ.out.cell 0
  have y0 := HZ.out.frozen 0
  have z1 : w1.cell? ⟨bz, 1, none⟩ = some (.string ⟨#[]⟩) := HZ.out.cell 1
  have y1 := HZ.out.frozen 1
  have z2 : w1.cell? ⟨bz, 2, none⟩ = some (.string ⟨#[]⟩) := HZ.out.cell 2
  have y2 := HZ.out.frozen 2
  have z3 : w1.cell? ⟨bz, 3, none⟩ = some (.string ⟨#[]⟩) := HZ.out.cell 3
  have y3 := HZ.out.frozen 3
  have z4 : w1.cell? ⟨bz, 4, none⟩ = some (.string ⟨#[]⟩) := HZ.out.cell 4
  have y4 := HZ.out.frozen 4
  have z5 : w1.cell? ⟨bz, 5, none⟩ = some (.string ⟨#[]⟩) := HZ.out.cell 5
  have y5 := HZ.out.frozen 5
  have z6 : w1.cell? ⟨bz, 6, none⟩ = some (.string ⟨#[]⟩) := HZ.out.cell 6
  have y6 := HZ.out.frozen 6
  have z7 : w1.cell? ⟨bz, 7, none⟩ = some (.string ⟨#[]⟩) := HZ.out.cell 7
  have y7 := HZ.out.frozen 7
  have z8 : w1.cell? ⟨bz, 8, none⟩ = some (.string ⟨#[]⟩) := HZ.out.cell 8
  have y8 := HZ.out.frozen 8
  have HBN := hide hbz
  clear hbz
  by_cases h : a = t.length
  · have e1 : ((a : Int) == (t.length : Int)) = true := by rw [h]; simp
    have HE : Hid (missE a t.length = 6) := if_pos h
    clear h
    go_wp2_with fail
    have hbk : Blk (((((((((w1.setCell ⟨bz, 0, none⟩ (.string ⟨#[]⟩)).setCell ⟨bz, 1, none⟩ (.string ⟨#[]⟩)).setCell ⟨bz, 2, none⟩ (.string ⟨#[]⟩)).setCell ⟨bz, 3, none⟩ (.string ⟨#[]⟩)).setCell ⟨bz, 4, none⟩ (.string ⟨#[]⟩)).setCell ⟨bz, 5, none⟩ (.string ⟨#[]⟩)).setCell ⟨bz, 6, none⟩ (.string ⟨#[]⟩)).setCell ⟨bz, 7, none⟩ (.string ⟨#[]⟩)).setCell ⟨bz, 8, none⟩ (.string ⟨#[]⟩)) bz 26 #[.string ⟨#[]⟩, .string ⟨#[]⟩, .string ⟨#[]⟩, .string ⟨#[]⟩, .string ⟨#[]⟩, .string ⟨#[]⟩, .string ⟨#[]⟩, .string ⟨#[]⟩, .string ⟨#[]⟩] := (((((((((HZ.out.set_ 0 (.string ⟨#[]⟩)).set_ 1 (.string ⟨#[]⟩)).set_ 2 (.string ⟨#[]⟩)).set_ 3 (.string ⟨#[]⟩)).set_ 4 (.string ⟨#[]⟩)).set_ 5 (.string ⟨#[]⟩)).set_ 6 (.string ⟨#[]⟩)).set_ 7 (.string ⟨#[]⟩)).set_ 8 (.string ⟨#[]⟩))
    refine bodyPost_ret (results_ctt (p := 4) (u := 5) (x := 6) rfl _ _ bz 26 _ _ rfl hbk Tryz.underlying26 rfl (by kernel_rfl)) rfl ⟨?_, ?_⟩
    · rw [HE.out]; rfl
    · rw [HBN.out]; exact (((((((((HBZ.out.setCell (p := ⟨bz, 0, none⟩) (Nat.le_refl _) (.string ⟨#[]⟩)).setCell (p := ⟨bz, 1, none⟩) (Nat.le_refl _) (.string ⟨#[]⟩)).setCell (p := ⟨bz, 2, none⟩) (Nat.le_refl _) (.string ⟨#[]⟩)).setCell (p := ⟨bz, 3, none⟩) (Nat.le_refl _) (.string ⟨#[]⟩)).setCell (p := ⟨bz, 4, none⟩) (Nat.le_refl _) (.string ⟨#[]⟩)).setCell (p := ⟨bz, 5, none⟩) (Nat.le_refl _) (.string ⟨#[]⟩)).setCell (p := ⟨bz, 6, none⟩) (Nat.le_refl _) (.string ⟨#[]⟩)).setCell (p := ⟨bz, 7, none⟩) (Nat.le_refl _) (.string ⟨#[]⟩)).setCell (p := ⟨bz, 8, none⟩) (Nat.le_refl _) (.string ⟨#[]⟩))
  · have e1 : ((a : Int) == (t.length : Int)) = false := by rw [beq_eq_false_iff_ne]; omega
    have HE : Hid (missE a t.length = 5) := if_neg h
    clear h
    go_wp2_with fail
    have hbk : Blk (((((((((w1.setCell ⟨bz, 0, none⟩ (.string ⟨#[]⟩)).setCell ⟨bz, 1, none⟩ (.string ⟨#[]⟩)).setCell ⟨bz, 2, none⟩ (.string ⟨#[]⟩)).setCell ⟨bz, 3, none⟩ (.string ⟨#[]⟩)).setCell ⟨bz, 4, none⟩ (.string ⟨#[]⟩)).setCell ⟨bz, 5, none⟩ (.string ⟨#[]⟩)).setCell ⟨bz, 6, none⟩ (.string ⟨#[]⟩)).setCell ⟨bz, 7, none⟩ (.string ⟨#[]⟩)).setCell ⟨bz, 8, none⟩ (.string ⟨#[]⟩)) bz 26 #[.string ⟨#[]⟩, .string ⟨#[]⟩, .string ⟨#[]⟩, .string ⟨#[]⟩, .string ⟨#[]⟩, .string ⟨#[]⟩, .string ⟨#[]⟩, .string ⟨#[]⟩, .string ⟨#[]⟩] := (((((((((HZ.out.set_ 0 (.string ⟨#[]⟩)).set_ 1 (.string ⟨#[]⟩)).set_ 2 (.string ⟨#[]⟩)).set_ 3 (.string ⟨#[]⟩)).set_ 4 (.string ⟨#[]⟩)).set_ 5 (.string ⟨#[]⟩)).set_ 6 (.string ⟨#[]⟩)).set_ 7 (.string ⟨#[]⟩)).set_ 8 (.string ⟨#[]⟩))
    refine bodyPost_ret (results_ctt (p := 4) (u := 5) (x := 6) rfl _ _ bz 26 _ _ rfl hbk Tryz.underlying26 rfl (by kernel_rfl)) rfl ⟨?_, ?_⟩
    · rw [HE.out]; rfl
    · rw [HBN.out]; exact (((((((((HBZ.out.setCell (p := ⟨bz, 0, none⟩) (Nat.le_refl _) (.string ⟨#[]⟩)).setCell (p := ⟨bz, 1, none⟩) (Nat.le_refl _) (.string ⟨#[]⟩)).setCell (p := ⟨bz, 2, none⟩) (Nat.le_refl _) (.string ⟨#[]⟩)).setCell (p := ⟨bz, 3, none⟩) (Nat.le_refl _) (.string ⟨#[]⟩)).setCell (p := ⟨bz, 4, none⟩) (Nat.le_refl _) (.string ⟨#[]⟩)).setCell (p := ⟨bz, 5, none⟩) (Nat.le_refl _) (.string ⟨#[]⟩)).setCell (p := ⟨bz, 6, none⟩) (Nat.le_refl _) (.string ⟨#[]⟩)).setCell (p := ⟨bz, 7, none⟩) (Nat.le_refl _) (.string ⟨#[]⟩)).setCell (p := ⟨bz, 8, none⟩) (Nat.le_refl _) (.string ⟨#[]⟩))
set_option maxRecDepth 100000 in
set_option maxHeartbeats 4000000 in
theorem rWrite24_any (s : Sch) (hl0 : s.ps.length ≤ 10) (hc0 : s.c.length ≤ 140737488355328) (hs0 : ∀ p ∈ s.ps, p.b.length ≤ 60 ∧ p.a.length ≤ 60) (v : Value) (f0 f1 f2 f3 f4 f5 f6 f7 f8 : List UInt8) (hf0 : ∀ k, ([f0, f1, f2, f3, f4, f5, f6, f7, f8].getD k []).length ≤ 100) (w : World) (hP : PartsAt w v s.ps) :
    Calls Tryz.prog 33 #[.agg #[.string (bs s.c), v], .agg #[.string (bs f0), .string (bs f1), .string (bs f2), .string (bs f3), .string (bs f4), .string (bs f5), .string (bs f6), .string (bs f7), .string (bs f8)]] w fun e w' => e = .returned (.tuple #[.string (bs (fwV s [f0, f1, f2, f3, f4, f5, f6, f7, f8])), .int .i64 (fwE s [f0, f1, f2, f3, f4, f5, f6, f7, f8])]) ∧ Below w.heap.size w w' := by
  have HS2 := hide hs0
  have HH2 := hide hf0
  have HB2 : Hid (∀ p ∈ s.ps, p.b.length ≤ 1000000 ∧ p.a.length ≤ 1000000) := fun p hp => ⟨Nat.le_trans (hs0 p hp).1 (by decide), Nat.le_trans (hs0 p hp).2 (by decide)⟩
  have HF2 : Hid (∀ k, ([f0, f1, f2, f3, f4, f5, f6, f7, f8].getD k []).length ≤ 100000) := fun k => Nat.le_trans (hf0 k) (by decide)
  clear hs0 hf0
  have HP0 := hide hP
  obtain ⟨A, cp, rfl, hc⟩ := hP.slice
  clear hP
  go_enter Tryz.func33, Tryz.ntmps33
  go_wp2_with fail
  obtain ⟨Xs, Xf, B0⟩ := box2 w 24 #[.string (bs s.c), .slice A s.ps.length cp] 26 #[.string (bs f0), .string (bs f1), .string (bs f2), .string (bs f3), .string (bs f4), .string (bs f5), .string (bs f6), .string (bs f7), .string (bs f8)]
  have HXs := hide Xs
  have HXf := hide Xf
  have HB := hide B0
  have HP := hide (HP0.out.to B0)
  clear Xs Xf B0 HP0
  generalize (w.alloc (.cells #[.string (bs s.c), .slice A s.ps.length cp] 24)).alloc (.cells #[.string (bs f0), .string (bs f1), .string (bs f2), .string (bs f3), .string (bs f4), .string (bs f5), .string (bs f6), .string (bs f7), .string (bs f8)] 26) = w1 at *
  obtain ⟨U, hU, g, u0, rfl, hgu, hgi⟩ := cls w1
  have xs_0 := fun u => (((HXs.out.to (hgu u)).cell 0).trans (show _ = some (Value.string (bs s.c)) from rfl))
  have xs_1 := fun u => (((HXs.out.to (hgu u)).cell 1).trans (show _ = some (Value.slice A s.ps.length cp) from rfl))
  have xf_0 := fun u => (((HXf.out.to (hgu u)).cell 0).trans (show _ = some (Value.string (bs f0)) from rfl))
  have xf_1 := fun u => (((HXf.out.to (hgu u)).cell 1).trans (show _ = some (Value.string (bs f1)) from rfl))
  have xf_2 := fun u => (((HXf.out.to (hgu u)).cell 2).trans (show _ = some (Value.string (bs f2)) from rfl))
  have xf_3 := fun u => (((HXf.out.to (hgu u)).cell 3).trans (show _ = some (Value.string (bs f3)) from rfl))
  have xf_4 := fun u => (((HXf.out.to (hgu u)).cell 4).trans (show _ = some (Value.string (bs f4)) from rfl))
  have xf_5 := fun u => (((HXf.out.to (hgu u)).cell 5).trans (show _ = some (Value.string (bs f5)) from rfl))
  have xf_6 := fun u => (((HXf.out.to (hgu u)).cell 6).trans (show _ = some (Value.string (bs f6)) from rfl))
  have xf_7 := fun u => (((HXf.out.to (hgu u)).cell 7).trans (show _ = some (Value.string (bs f7)) from rfl))
  have xf_8 := fun u => (((HXf.out.to (hgu u)).cell 8).trans (show _ = some (Value.string (bs f8)) from rfl))
  have CF : ∀ u, Calls Tryz.prog 25 #[.agg #[.string (bs s.c), .slice A s.ps.length cp], .agg #[.string (bs f0), .string (bs f1), .string (bs f2), .string (bs f3), .string (bs f4), .string (bs f5), .string (bs f6), .string (bs f7), .string (bs f8)]] (g u) fun e w' => e = .returned (.bool (fitsB isNm numB s [f0, f1, f2, f3, f4, f5, f6, f7, f8])) ∧ ∃ u', w' = g u' := fun u => cls_call hgu hgi (fun W hb => rFits_any s.c s.ps (by omega) hc0 HB2.out (.slice A s.ps.length cp) f0 f1 f2 f3 f4 f5 f6 f7 f8 HF2.out W (HP.out.to hb)) u
  cases hv : fitsB isNm numB s [f0, f1, f2, f3, f4, f5, f6, f7, f8] with
  | false =>
    have HF : Hid (fwV s [f0, f1, f2, f3, f4, f5, f6, f7, f8] = [] ∧ fwE s [f0, f1, f2, f3, f4, f5, f6, f7, f8] = 1) := by show _ ∧ _; unfold fwV fwE; rw [hv]; exact ⟨rfl, rfl⟩
    rw [hv] at CF
    clear hv
    go_wp2_with (first | ((with_reducible refine (CF _).mono ?_); rintro e w' ⟨rfl, u, rfl⟩))
    all_goals go_ret2
    all_goals exact ⟨by rw [HF.out.1, HF.out.2]; rfl, below_to HB.out (Nat.le_refl _) (hgu _)⟩
  | true =>
    have HF : Hid (fwV s [f0, f1, f2, f3, f4, f5, f6, f7, f8] = writL [f0, f1, f2, f3, f4, f5, f6, f7, f8] s.ps ∧ fwE s [f0, f1, f2, f3, f4, f5, f6, f7, f8] = 0) := by show _ ∧ _; unfold fwV fwE; rw [hv]; exact ⟨rfl, rfl⟩
    have hfit := (fitsB_iff isNm numB s [f0, f1, f2, f3, f4, f5, f6, f7, f8] rfl).1 hv
    have HKK := hide (fits_kinds (f := [f0, f1, f2, f3, f4, f5, f6, f7, f8]) rfl hv)
    rw [hv] at CF
    clear hv hfit
    have CW : ∀ u, Calls Tryz.prog 38 #[.agg #[.string (bs s.c), .slice A s.ps.length cp], .agg #[.string (bs f0), .string (bs f1), .string (bs f2), .string (bs f3), .string (bs f4), .string (bs f5), .string (bs f6), .string (bs f7), .string (bs f8)]] (g u) fun e w' => e = .returned (.string (bs (writL [f0, f1, f2, f3, f4, f5, f6, f7, f8] s.ps))) ∧ ∃ u', w' = g u' := fun u => cls_call hgu hgi (fun W hb => rWritten_any s.c s.ps hl0 (.slice A s.ps.length cp) f0 f1 f2 f3 f4 f5 f6 f7 f8 HKK.out HS2.out HH2.out W (HP.out.to hb)) u
    go_wp2_with (first | ((with_reducible refine (CF _).mono ?_); rintro e w' ⟨rfl, u, rfl⟩) | ((with_reducible refine (CW _).mono ?_); rintro e w' ⟨rfl, u, rfl⟩))
    all_goals go_ret2
    all_goals exact ⟨by rw [HF.out.1, HF.out.2]; rfl, below_to HB.out (Nat.le_refl _) (hgu _)⟩
end Go.Proofs.YtdcafoekbnacnaaGreatDoor
