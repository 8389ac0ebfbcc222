/- The plain side of layer 49: veils. No program in sight. -/
import Derived.Test.YtdgbnplieaaokaaGreatDoorDig1
import Derived.Test.YtdgbnplieaaokaaGreatDoorPi
import Derived.Lib.AtoiAll
import Derived.Lib.ItoaNum
set_option linter.unusedVariables false
set_option linter.unusedSimpArgs false
namespace Go.Proofs.YtdgbnplieaaokaaGreatDoor
open Go

def onP (x y : Int) : Bool := decide (0 ≤ x) && decide (x ≤ 32767) && decide (0 ≤ y) && decide (y ≤ 32767)
theorem onP_iff (x y : Int) : onP x y = true ↔ 0 ≤ x ∧ x ≤ 32767 ∧ 0 ≤ y ∧ y ≤ 32767 := by simp [onP, and_assoc]
def isDg (c : UInt8) : Bool := decide (48 ≤ c.toNat) && decide (c.toNat ≤ 57)
theorem isDg_iff (c : UInt8) : isDg c = true ↔ 48 ≤ c.toNat ∧ c.toNat ≤ 57 := by simp [isDg]
def dgs (l : List UInt8) : Prop := ∀ c ∈ l, isDg c = true
theorem isDg_hex {c : UInt8} (h : isDg c = true) : isHex c = true := by
  rw [isDg_iff] at h
  simp [isHex, h]
def fwdD (d m : Nat) : Nat := (d + m) % 10
def bwdD (d m : Nat) : Nat := (d + 20 - m) % 10
def dgC (n : Nat) : UInt8 := UInt8.ofNat (48 + n)
theorem dgC_nat {n : Nat} (h : n < 10) : (dgC n).toNat = 48 + n := by unfold dgC; simp; omega
theorem dgC_dg {n : Nat} (h : n < 10) : isDg (dgC n) = true := by rw [isDg_iff, dgC_nat h]; omega
theorem dgC_of {c : UInt8} (h : isDg c = true) : dgC (c.toNat - 48) = c := by
  rw [isDg_iff] at h
  apply UInt8.toNat_inj.1
  rw [dgC_nat (by omega)]; omega
/-- digits changed by a mask -/
def applyP (f : Nat → Nat → Nat) : List UInt8 → List UInt8 → List UInt8
  | m :: ms, c :: cs => dgC (f (c.toNat - 48) (hexV m)) :: applyP f ms cs
  | _, _ => []
theorem applyP_len (f : Nat → Nat → Nat) : ∀ (ms cs : List UInt8), cs.length ≤ ms.length → (applyP f ms cs).length = cs.length
  | m :: ms, c :: cs, h => by simp only [applyP, List.length_cons] at *; rw [applyP_len f ms cs (by omega)]
  | [], [], _ => rfl
  | m :: ms, [], _ => rfl
  | [], c :: cs, h => by simp at h
theorem applyP_dg {f : Nat → Nat → Nat} (hf : ∀ a b, f a b < 10) : ∀ (ms cs : List UInt8), dgs (applyP f ms cs)
  | m :: ms, c :: cs => by
    intro d hd
    simp only [applyP, List.mem_cons] at hd
    rcases hd with rfl | hd
    · exact dgC_dg (hf _ _)
    · exact applyP_dg hf ms cs d hd
  | [], [] => by simp [applyP, dgs]
  | m :: ms, [] => by simp [applyP, dgs]
  | [], c :: cs => by simp [applyP, dgs]
theorem applyP_inv {f g : Nat → Nat → Nat} (hf : ∀ a b, f a b < 10) (hi : ∀ d m, d < 10 → m < 16 → g (f d m) m = d) : ∀ (ms cs : List UInt8), cs.length ≤ ms.length → (∀ m ∈ ms, isHex m = true) → dgs cs → applyP g ms (applyP f ms cs) = cs
  | m :: ms, c :: cs, h, hm, hc => by
    simp only [applyP]
    have hc0 := hc c (by simp)
    have h1 := (isDg_iff c).1 hc0
    rw [dgC_nat (hf _ _), Nat.add_sub_cancel_left, hi _ _ (by omega) (hexV_lt16 (hm m (by simp))), dgC_of hc0,
      applyP_inv hf hi ms cs (by simp only [List.length_cons] at h; omega) (fun x hx => hm x (by simp [hx])) (fun x hx => hc x (by simp [hx]))]
  | [], [], _, _, _ => rfl
  | m :: ms, [], _, _, _ => rfl
  | [], c :: cs, h, _, _ => by simp at h
theorem fwd_lt (a b : Nat) : fwdD a b < 10 := Nat.mod_lt _ (by decide)
theorem bwd_lt (a b : Nat) : bwdD a b < 10 := Nat.mod_lt _ (by decide)
theorem bwd_fwd (d m : Nat) (hd : d < 10) (hm : m < 16) : bwdD (fwdD d m) m = d := by unfold bwdD fwdD; omega
theorem fwd_bwd (d m : Nat) (hd : d < 10) (hm : m < 16) : fwdD (bwdD d m) m = d := by unfold bwdD fwdD; omega
/-- five digits -/
def dec5 (n : Nat) : List UInt8 := [dgC (n / 10000 % 10), dgC (n / 1000 % 10), dgC (n / 100 % 10), dgC (n / 10 % 10), dgC (n % 10)]
def fiveP (n : Int) : List UInt8 := List.replicate (5 - (Lib.itoa n).length) 48 ++ Lib.itoa n
theorem dgC_zero : dgC 0 = 48 := by decide
theorem dec_lt {n : Nat} (h : n < 10) : Lib.decDigits n = [dgC n] := by rw [Lib.decDigits, dif_pos h]; rfl
theorem dec_ge {n : Nat} (h : ¬ n < 10) : Lib.decDigits n = Lib.decDigits (n / 10) ++ [dgC (n % 10)] := by rw [Lib.decDigits, dif_neg h]; rfl
theorem fiveP_dec {n : Int} (h0 : 0 ≤ n) (h1 : n < 100000) : fiveP n = dec5 n.toNat ∧ (Lib.itoa n).length ≤ 5 := by
  have e : Lib.itoa n = Lib.decDigits n.toNat := by unfold Lib.itoa; rw [if_neg (by omega)]
  unfold fiveP dec5
  rw [e]
  have hn : n.toNat < 100000 := by omega
  generalize n.toNat = k at *
  by_cases a1 : k < 10
  · rw [dec_lt a1]
    refine ⟨?_, by simp⟩
    rw [show k / 10000 % 10 = 0 by omega, show k / 1000 % 10 = 0 by omega, show k / 100 % 10 = 0 by omega, show k / 10 % 10 = 0 by omega, show k % 10 = k by omega, dgC_zero]
    rfl
  · rw [dec_ge a1]
    by_cases a2 : k / 10 < 10
    · rw [dec_lt a2]
      refine ⟨?_, by simp⟩
      rw [show k / 10000 % 10 = 0 by omega, show k / 1000 % 10 = 0 by omega, show k / 100 % 10 = 0 by omega, show k / 10 % 10 = k / 10 by omega, dgC_zero]
      rfl
    · rw [dec_ge a2]
      by_cases a3 : k / 10 / 10 < 10
      · rw [dec_lt a3]
        refine ⟨?_, by simp⟩
        rw [show k / 10000 % 10 = 0 by omega, show k / 1000 % 10 = 0 by omega, show k / 100 % 10 = k / 10 / 10 by omega, dgC_zero]
        rfl
      · rw [dec_ge a3]
        by_cases a4 : k / 10 / 10 / 10 < 10
        · rw [dec_lt a4]
          refine ⟨?_, by simp⟩
          rw [show k / 10000 % 10 = 0 by omega, show k / 1000 % 10 = k / 10 / 10 / 10 by omega, show k / 100 % 10 = k / 10 / 10 % 10 by omega, dgC_zero]
          rfl
        · rw [dec_ge a4, dec_lt (by omega)]
          refine ⟨?_, by simp⟩
          rw [show k / 10000 % 10 = k / 10 / 10 / 10 / 10 by omega, show k / 1000 % 10 = k / 10 / 10 / 10 % 10 by omega, show k / 100 % 10 = k / 10 / 10 % 10 by omega]
          rfl
theorem dec5_dg (n : Nat) : dgs (dec5 n) := by
  intro c hc
  simp only [dec5, List.mem_cons, List.not_mem_nil, or_false] at hc
  rcases hc with rfl | rfl | rfl | rfl | rfl <;> exact dgC_dg (Nat.mod_lt _ (by decide))
/-- the number of decimal digits -/
def numP (l : List UInt8) : Nat := l.foldl (fun a c => a * 10 + (c.toNat - 48)) 0
theorem num_dec5 {n : Nat} (h : n < 100000) : numP (dec5 n) = n := by
  simp only [numP, dec5, List.foldl_cons, List.foldl_nil]
  rw [dgC_nat (Nat.mod_lt _ (by decide)), dgC_nat (Nat.mod_lt _ (by decide)), dgC_nat (Nat.mod_lt _ (by decide)), dgC_nat (Nat.mod_lt _ (by decide)), dgC_nat (Nat.mod_lt _ (by decide))]
  omega
theorem dec5_num {l : List UInt8} (hl : l.length = 5) (hd : dgs l) : dec5 (numP l) = l ∧ numP l < 100000 := by
  match l, hl with
  | [a, b, c, d, e], _ =>
    have ha := hd a (by simp)
    have hb := hd b (by simp)
    have hc := hd c (by simp)
    have hd' := hd d (by simp)
    have he := hd e (by simp)
    have a1 := (isDg_iff a).1 ha
    have b1 := (isDg_iff b).1 hb
    have c1 := (isDg_iff c).1 hc
    have d1 := (isDg_iff d).1 hd'
    have e1 := (isDg_iff e).1 he
    simp only [numP, dec5, List.foldl_cons, List.foldl_nil]
    refine ⟨?_, by omega⟩
    rw [← dgC_of ha, ← dgC_of hb, ← dgC_of hc, ← dgC_of hd', ← dgC_of he]
    have t : ∀ {c : UInt8}, isDg c = true → (dgC (c.toNat - 48)).toNat - 48 = c.toNat - 48 := fun h => by rw [dgC_of h]
    rw [t ha, t hb, t hc, t hd', t he]
    congr 1
    · congr 1; omega
    · congr 1
      · congr 1; omega
      · congr 1
        · congr 1; omega
        · congr 1
          · congr 1; omega
          · congr 1
            congr 1; omega
/-! Atoi at digits -/
theorem atoi_go : ∀ (l : List UInt8) (acc : Nat), dgs l → (acc + 1) * 10 ^ l.length ≤ 10 ^ 18 → Lib.parseUint10 acc l = .ok (l.foldl (fun a c => a * 10 + (c.toNat - 48)) acc)
  | [], acc, _, _ => rfl
  | c :: r, acc, hd, hv => by
    have hc := (isDg_iff c).1 (hd c (by simp))
    have h1 : 1 ≤ 10 ^ r.length := Nat.pow_pos (by decide)
    rw [List.length_cons, Nat.pow_succ] at hv
    have h2 : (acc * 10 + (c.toNat - 48) + 1) * 10 ^ r.length ≤ 10 ^ 18 := by
      refine Nat.le_trans (Nat.mul_le_mul_right _ (show acc * 10 + (c.toNat - 48) + 1 ≤ (acc + 1) * 10 by omega)) ?_
      rw [Nat.mul_assoc, Nat.mul_comm 10]
      exact hv
    have h3 : acc * 10 + (c.toNat - 48) + 1 ≤ 10 ^ 18 := Nat.le_trans (Nat.le_mul_of_pos_right _ h1) h2
    rw [Lib.parseUint10, if_pos hc, if_neg (by omega), if_neg (by omega), atoi_go r _ (fun d h => hd d (by simp [h])) h2]
    rfl
theorem atoi_num {l : List UInt8} (hd : dgs l) (hn : l ≠ []) (hl : l.length ≤ 17) : Lib.atoiAll l = .ok (numP l : Int) := by
  have hg := atoi_go l 0 hd (by
    have : 10 ^ l.length ≤ 10 ^ 17 := Nat.pow_le_pow_right (by decide) hl
    omega)
  have hb : numP l < 10 ^ 18 := by
    have : ∀ (l : List UInt8) (acc : Nat), dgs l → l.foldl (fun a c => a * 10 + (c.toNat - 48)) acc < (acc + 1) * 10 ^ l.length := by
      intro l
      induction l with
      | nil => intro acc _; simp
      | cons c r ih =>
        intro acc h
        have hc := (isDg_iff c).1 (h c (by simp))
        have h1 := ih (acc * 10 + (c.toNat - 48)) (fun d hd => h d (by simp [hd]))
        rw [List.foldl_cons, List.length_cons, Nat.pow_succ, Nat.mul_comm (10 ^ r.length), ← Nat.mul_assoc]
        exact Nat.lt_of_lt_of_le h1 (Nat.mul_le_mul_right _ (by omega))
    have h1 := this l 0 hd
    have h2 : 10 ^ l.length ≤ 10 ^ 17 := Nat.pow_le_pow_right (by decide) hl
    unfold numP
    omega
  cases l with
  | nil => exact absurd rfl hn
  | cons c r =>
    have hc := (isDg_iff c).1 (hd c (by simp))
    unfold Lib.atoiAll Lib.parseMag
    simp only
    rw [if_neg (show ¬ (c.toNat = 43 ∨ c.toNat = 45) by omega), if_neg (by simp), hg]
    simp only
    show (if _ then _ else _) = _
    have e : List.foldl (fun a c => a * 10 + (c.toNat - 48)) 0 (c :: r) = numP (c :: r) := rfl
    rw [e]
    rw [if_neg (by omega), if_neg (by omega), if_neg (by omega)]

/-! veils -/
def maskT : List UInt8 := [109, 97, 115, 107]
def markT : List UInt8 := [109, 97, 114, 107]
def maskP (key salt : List UInt8) : List UInt8 := listD [maskT, key, salt]
def markP (key salt hid : List UInt8) : List UInt8 := listD [markT, key, salt, hid]
def hidP (key salt : List UInt8) (x y : Int) : List UInt8 := applyP fwdD (maskP key salt) (fiveP x ++ fiveP y)
def canL (salt : List UInt8) (x y : Int) : Bool := isD salt && onP x y
def lockP (key salt : List UInt8) (x y : Int) : List UInt8 := if canL salt x y then salt ++ hidP key salt x y ++ markP key salt (hidP key salt x y) else []
def lockE (salt : List UInt8) (x y : Int) : Int := if canL salt x y then 0 else 1
def isV (t : List UInt8) : Bool := decide (t.length = 42) && (isD (t.take 16) && (isD (t.drop 26) && ((t.drop 16).take 10).all isDg))
theorem isV_iff (t : List UInt8) : isV t = true ↔ t.length = 42 ∧ isD (t.take 16) = true ∧ isD (t.drop 26) = true ∧ dgs ((t.drop 16).take 10) := by simp [isV, dgs]
def saltV (t : List UInt8) := t.take 16
def hidV (t : List UInt8) := (t.drop 16).take 10
def markV (t : List UInt8) := t.drop 26
def shownV (key t : List UInt8) : List UInt8 := applyP bwdD (maskP key (saltV t)) (hidV t)
def xV (key t : List UInt8) : Nat := numP ((shownV key t).take 5)
def yV (key t : List UInt8) : Nat := numP ((shownV key t).drop 5)
def goodV (key t : List UInt8) : Bool := isV t && (decide (markV t = markP key (saltV t) (hidV t)) && onP (xV key t) (yV key t))
def openX (key t : List UInt8) : Int := if goodV key t then xV key t else 0
def openY (key t : List UInt8) : Int := if goodV key t then yV key t else 0
def openE (key t : List UInt8) : Int := if goodV key t then 0 else if isV t then 15 else 1
theorem maskP_hex (key salt : List UInt8) : ∀ m ∈ maskP key salt, isHex m = true := hexN_hex _ _
theorem maskP_len (key salt : List UInt8) : (maskP key salt).length = 16 := listD_len _
theorem dec5_len (n : Nat) : (dec5 n).length = 5 := rfl
theorem ten {x y : Int} (h : onP x y = true) : fiveP x = dec5 x.toNat ∧ fiveP y = dec5 y.toNat ∧ x.toNat < 100000 ∧ y.toNat < 100000 := by
  obtain ⟨a, b, c, d⟩ := (onP_iff x y).1 h
  exact ⟨(fiveP_dec a (by omega)).1, (fiveP_dec c (by omega)).1, by omega, by omega⟩
theorem ten_dg {x y : Int} (h : onP x y = true) : dgs (fiveP x ++ fiveP y) ∧ (fiveP x ++ fiveP y).length = 10 := by
  obtain ⟨a, b, _, _⟩ := ten h
  rw [a, b]
  refine ⟨fun c hc => ?_, rfl⟩
  rcases List.mem_append.1 hc with hc | hc
  · exact dec5_dg _ c hc
  · exact dec5_dg _ c hc
theorem hidP_spec (key salt : List UInt8) {x y : Int} (h : onP x y = true) : (hidP key salt x y).length = 10 ∧ dgs (hidP key salt x y) := by
  have := ten_dg h
  refine ⟨?_, applyP_dg fwd_lt _ _⟩
  unfold hidP
  rw [applyP_len _ _ _ (by rw [this.2, maskP_len]; decide), this.2]
theorem cut3 {a b c : List UInt8} (ha : a.length = 16) (hb : b.length = 10) : (a ++ b ++ c).take 16 = a ∧ ((a ++ b ++ c).drop 16).take 10 = b ∧ (a ++ b ++ c).drop 26 = c := by
  rw [List.append_assoc]
  refine ⟨?_, ?_, ?_⟩
  · rw [List.take_append_of_le_length (by omega), List.take_of_length_le (by omega)]
  · rw [List.drop_append_of_le_length (by omega), List.drop_of_length_le (by omega), List.nil_append, List.take_append_of_le_length (by omega), List.take_of_length_le (by omega)]
  · rw [← List.append_assoc, List.drop_append_of_le_length (by simp; omega), List.drop_of_length_le (by simp; omega), List.nil_append]
/-- a veil that was locked: its parts -/
theorem lock_parts {key salt : List UInt8} {x y : Int} (h : canL salt x y = true) :
    saltV (lockP key salt x y) = salt ∧ hidV (lockP key salt x y) = hidP key salt x y ∧ markV (lockP key salt x y) = markP key salt (hidP key salt x y) ∧ (lockP key salt x y).length = 42 := by
  have hc := h
  unfold canL at hc
  simp only [Bool.and_eq_true] at hc
  have h16 := ((isD_iff _).1 hc.1).1
  have h10 := (hidP_spec key salt hc.2).1
  unfold lockP
  rw [if_pos h]
  obtain ⟨a, b, c⟩ := cut3 (c := markP key salt (hidP key salt x y)) h16 h10
  refine ⟨a, b, c, ?_⟩
  rw [List.length_append, List.length_append, h16, h10]
  unfold markP; rw [listD_len]
theorem lock_isV {key salt : List UInt8} {x y : Int} (h : canL salt x y = true) : isV (lockP key salt x y) = true := by
  obtain ⟨a, b, c, d⟩ := lock_parts (key := key) h
  have hc := h
  unfold canL at hc
  simp only [Bool.and_eq_true] at hc
  refine (isV_iff _).2 ⟨d, ?_, ?_, ?_⟩
  · show isD (saltV _) = true; rw [a]; exact hc.1
  · show isD (markV _) = true; rw [c]; exact listD_isD _
  · show dgs (hidV _); rw [b]; exact (hidP_spec key salt hc.2).2
/-- what a key shows of its own veil -/
theorem lock_open {key salt : List UInt8} {x y : Int} (h : canL salt x y = true) : goodV key (lockP key salt x y) = true ∧ (xV key (lockP key salt x y) : Int) = x ∧ (yV key (lockP key salt x y) : Int) = y := by
  obtain ⟨a, b, c, d⟩ := lock_parts (key := key) h
  have hv := lock_isV (key := key) h
  have hc := h
  unfold canL at hc
  simp only [Bool.and_eq_true] at hc
  obtain ⟨t1, t2⟩ := ten_dg hc.2
  obtain ⟨f1, f2, f3, f4⟩ := ten hc.2
  obtain ⟨o1, o2, o3, o4⟩ := (onP_iff x y).1 hc.2
  have hs : shownV key (lockP key salt x y) = fiveP x ++ fiveP y := by
    unfold shownV
    rw [a, b]
    unfold hidP
    exact applyP_inv fwd_lt bwd_fwd _ _ (by rw [t2, maskP_len]; decide) (maskP_hex _ _) t1
  have hx : xV key (lockP key salt x y) = x.toNat := by
    unfold xV
    rw [hs, f1, f2, List.take_append_of_le_length (Nat.le_of_eq (dec5_len x.toNat).symm), List.take_of_length_le (Nat.le_of_eq (dec5_len x.toNat)), num_dec5 f3]
  have hy : yV key (lockP key salt x y) = y.toNat := by
    unfold yV
    rw [hs, f1, f2, List.drop_append_of_le_length (Nat.le_of_eq (dec5_len x.toNat).symm), List.drop_of_length_le (Nat.le_of_eq (dec5_len x.toNat)), List.nil_append, num_dec5 f4]
  have e1 : ((xV key (lockP key salt x y) : Nat) : Int) = x := by rw [hx]; omega
  have e2 : ((yV key (lockP key salt x y) : Nat) : Int) = y := by rw [hy]; omega
  refine ⟨?_, e1, e2⟩
  unfold goodV
  rw [hv, e1, e2, hc.2, a, b, c]
  simp
/-- what is opened is locked so -/
theorem open_lock {key t : List UInt8} (h : goodV key t = true) : canL (saltV t) (xV key t) (yV key t) = true ∧ lockP key (saltV t) (xV key t) (yV key t) = t := by
  unfold goodV at h
  simp only [Bool.and_eq_true, decide_eq_true_eq] at h
  obtain ⟨hv, hm, ho⟩ := h
  obtain ⟨v1, v2, v3, v4⟩ := (isV_iff t).1 hv
  have hcan : canL (saltV t) (xV key t) (yV key t) = true := by unfold canL; rw [ho]; show isD (t.take 16) && true = true; rw [v2]; rfl
  refine ⟨hcan, ?_⟩
  have hh : (hidV t).length = 10 := by unfold hidV; simp; omega
  have hsl : (shownV key t).length = 10 := by unfold shownV; rw [applyP_len _ _ _ (by rw [hh, maskP_len]; decide), hh]
  have hsd : dgs (shownV key t) := applyP_dg bwd_lt _ _
  obtain ⟨f1, f2, _, _⟩ := ten ho
  have g1 := dec5_num (l := (shownV key t).take 5) (by simp; omega) (fun c hc => hsd c (List.mem_of_mem_take hc))
  have g2 := dec5_num (l := (shownV key t).drop 5) (by simp; omega) (fun c hc => hsd c (List.mem_of_mem_drop hc))
  have hhid : hidP key (saltV t) (xV key t) (yV key t) = hidV t := by
    unfold hidP
    rw [f1, f2]
    simp only [Int.toNat_natCast]
    unfold xV yV
    rw [g1.1, g2.1, List.take_append_drop]
    exact applyP_inv bwd_lt fwd_bwd _ _ (by rw [hh, maskP_len]; decide) (maskP_hex _ _) v4
  unfold lockP
  rw [if_pos hcan, hhid, ← hm]
  unfold saltV hidV markV
  rw [List.append_assoc]
  have e : (t.drop 16).take 10 ++ t.drop 26 = t.drop 16 := by
    rw [show t.drop 26 = (t.drop 16).drop 10 by rw [List.drop_drop], List.take_append_drop]
  rw [e, List.take_append_drop]
end Go.Proofs.YtdgbnplieaaokaaGreatDoor
