/- Several texts as one, in build order. -/
import Derived.Test.YtdcafoekbnacnaaGreatDoorMB
import Derived.Test.YtdcafoekbnacnaaGreatDoorMA
import Derived.Test.YtdcafoekbnacnaaGreatDoorShelf
import Derived.Lib.ItoaNum
import Derived.Lib.IndexMore
import Derived.Lib.AtoiAll
import Derived.Lib.SlTrimSet
import Derived.Lib.AtoiErrMem
import Derived.Shelf.Strings.SlTrimAscii
import Derived.Shelf.Strings.BuilderK
import Derived.Defers
/- Values that fit, as a test. -/
set_option linter.unusedVariables false
set_option linter.unusedSimpArgs false
namespace Go.Proofs.YtdcafoekbnacnaaGreatDoor
open Go.RowKit Go.Shelf

def trimd (v : List UInt8) : Bool := !(v.head? == some 32) && !(v.getLast? == some 32)
def goodB (num : List UInt8 → Bool) (ps : List Prt) (k : Nat) (v : List UInt8) : Bool := decide (v.length ≤ 60) && (prn v && (!(v.any fun c => mrk ps c) && (trimd v && (!decide (k = 3) || num v))))
def partAt (ps : List Prt) (k : Nat) : Option Prt := ps.find? fun p => p.k == (k : Int)
def fit1 (num : List UInt8 → Bool) (ps : List Prt) (k : Nat) (v : List UInt8) : Bool := match partAt ps k with
  | none => v.isEmpty
  | some p => if v.isEmpty then !p.need else goodB num ps k v
def fitsB (nm num : List UInt8 → Bool) (s : Sch) (f : List (List UInt8)) : Bool := validB nm s && (List.range 9).all fun k => fit1 num s.ps k (f.getD k [])
theorem trimd_iff (v : List UInt8) : trimd v = true ↔ v.head? ≠ some 32 ∧ v.getLast? ≠ some 32 := by unfold trimd; simp
theorem goodB_iff (num : List UInt8 → Bool) (ps : List Prt) (k : Nat) (v : List UInt8) : goodB num ps k v = true ↔ GoodV num ps (k : Int) v := by
  unfold goodB
  simp only [Bool.and_eq_true, decide_eq_true_eq, trimd_iff, Bool.not_eq_true', Bool.or_eq_true, decide_eq_false_iff_not, List.any_eq_false]
  constructor
  · rintro ⟨h1, h2, h3, h4, h5⟩
    exact ⟨h1, h2, fun c hc => by simpa using h3 c hc, h4, fun e => h5.elim (fun h => absurd (by omega) h) id⟩
  · rintro ⟨h1, h2, h3, h4, h5⟩
    refine ⟨h1, h2, fun c hc => by simpa using h3 c hc, h4, ?_⟩
    by_cases e : k = 3
    · exact .inr (h5 (by omega))
    · exact .inl e
theorem partOf_some {ps : List Prt} (h : ps.Pairwise fun x y => x.k ≠ y.k) {p : Prt} (hp : p ∈ ps) {k : Nat} (hk : p.k = (k : Int)) : partAt ps k = some p := by
  unfold partAt
  cases hf : ps.find? (fun p => p.k == (k : Int)) with
  | none =>
    have := List.find?_eq_none.1 hf p hp
    simp [hk] at this
  | some q =>
    have h1 := List.find?_some hf
    have h2 := List.mem_of_find?_eq_some hf
    rw [kinds_eq h h2 hp (by rw [hk]; exact eq_of_beq h1)]
theorem partOf_none {ps : List Prt} {k : Nat} (h : ∀ p ∈ ps, p.k ≠ (k : Int)) : partAt ps k = none := by
  unfold partAt
  rw [List.find?_eq_none]
  intro p hp
  simpa using h p hp
theorem partOf_mem {ps : List Prt} {k : Nat} {p : Prt} (h : partAt ps k = some p) : p ∈ ps ∧ p.k = (k : Int) := ⟨List.mem_of_find?_eq_some h, by have := List.find?_some h; exact eq_of_beq this⟩
theorem partOf_no {ps : List Prt} {k : Nat} (h : partAt ps k = none) : ∀ p ∈ ps, p.k ≠ (k : Int) := fun p hp => by
  have := List.find?_eq_none.1 h p hp
  simpa using this
theorem fitsB_iff (nm num : List UInt8 → Bool) (s : Sch) (f : List (List UInt8)) (hl : f.length = 9) : fitsB nm num s f = true ↔ Fits nm num s f := by
  unfold fitsB
  rw [Bool.and_eq_true, validB_iff, List.all_eq_true]
  constructor
  · rintro ⟨hv, ha⟩
    have hk : ∀ p ∈ s.ps, fit1 num s.ps p.k.toNat (valF f p.k) = true ∧ partAt s.ps p.k.toNat = some p := fun p hp => by
      have hr := (hv.part p hp).1
      exact ⟨ha p.k.toNat (List.mem_range.2 (by omega)), partOf_some hv.nodup hp (by omega)⟩
    refine ⟨hv, hl, fun k h9 hn => ?_, fun p hp hnd => ?_, fun p hp hne => ?_⟩
    · have := ha k (List.mem_range.2 h9)
      unfold fit1 at this
      rw [partOf_none hn] at this
      rw [val_nat]
      exact List.isEmpty_iff.1 this
    · obtain ⟨h1, h2⟩ := hk p hp
      unfold fit1 at h1
      rw [h2] at h1
      intro e
      rw [e] at h1
      simp [hnd] at h1
    · obtain ⟨h1, h2⟩ := hk p hp
      unfold fit1 at h1
      rw [h2] at h1
      dsimp only at h1
      rw [if_neg (by rw [List.isEmpty_iff]; exact hne)] at h1
      have := (goodB_iff _ _ _ _).1 h1
      rwa [show ((p.k.toNat : Nat) : Int) = p.k by have := (hv.part p hp).1; omega] at this
  · intro h
    refine ⟨h.valid, fun k hk => ?_⟩
    have hk9 := List.mem_range.1 hk
    unfold fit1
    cases hp : partAt s.ps k with
    | none =>
      have := h.non k hk9 (partOf_no hp)
      rw [val_nat] at this
      rw [this]; rfl
    | some p =>
      obtain ⟨h1, h2⟩ := partOf_mem hp
      have hv : valF f p.k = f.getD k [] := by rw [h2, val_nat]
      dsimp only
      by_cases he : f.getD k [] = []
      · rw [if_pos (by rw [he]; rfl)]
        cases hn : p.need with
        | false => rfl
        | true => exact absurd (hv.trans he) (h.need p h1 hn)
      · rw [if_neg (by rw [List.isEmpty_iff]; exact he), goodB_iff, ← h2, ← hv]
        exact h.good p h1 (by rw [hv]; exact he)
theorem containsAny_marks (v : List UInt8) (ps : List Prt) : Lib.containsAny v (marksL ps) = v.any fun c => mrk ps c := by
  have hm : ∀ c, (marksL ps).contains c = mrk ps c := fun c => by
    rw [Bool.eq_iff_iff, List.contains_iff_mem]; exact mem_marks ps c
  unfold Lib.containsAny
  have hge := Lib.indexAny_ge (marksL ps) v
  by_cases h : Lib.indexAny v (marksL ps) = -1
  · rw [h, decide_eq_false (by omega)]
    symm
    rw [List.any_eq_false]
    intro c hc hmc
    obtain ⟨i, hi, rfl⟩ := List.getElem_of_mem hc
    -- the first place with a mark
    have : ∀ (l : List UInt8), (∃ c ∈ l, (marksL ps).contains c = true) → Lib.indexAny l (marksL ps) ≠ -1 := by
      intro l
      induction l with
      | nil => rintro ⟨c, hc, _⟩; cases hc
      | cons a l ih =>
        rintro ⟨c, hc, h2⟩
        unfold Lib.indexAny
        split
        · omega
        · rename_i hn
          have h3 : ∃ c ∈ l, (marksL ps).contains c = true := by
            rcases List.mem_cons.1 hc with rfl | hc
            · exact absurd h2 hn
            · exact ⟨c, hc, h2⟩
          have := ih h3
          have hg := Lib.indexAny_ge (marksL ps) l
          rw [if_neg (by rw [beq_iff_eq]; exact this)]
          omega
    exact this v ⟨_, List.getElem_mem hi, by rw [hm]; exact hmc⟩ h
  · obtain ⟨n, hn⟩ : ∃ n : Nat, Lib.indexAny v (marksL ps) = n := ⟨(Lib.indexAny v (marksL ps)).toNat, by omega⟩
    rw [hn, decide_eq_true (by omega)]
    symm
    rw [List.any_eq_true]
    obtain ⟨c, h1, h2, _⟩ := indexAny_some hn
    exact ⟨c, List.mem_of_getElem? h1, by rw [← hm]; exact h2⟩
theorem dw_same {p : UInt8 → Bool} : ∀ {l : List UInt8}, l.dropWhile p = l ↔ ∀ c, l.head? = some c → p c = false
  | [] => by simp
  | c :: l => by
    rw [List.dropWhile_cons]
    by_cases h : p c = true
    · rw [if_pos h]
      constructor
      · intro e
        have := congrArg List.length e
        have h2 := (List.dropWhile_sublist p (l := l)).length_le
        simp at this; omega
      · intro hh; rw [hh c rfl] at h; cases h
    · rw [if_neg h]; simp at h ⊢; exact h
theorem trimB_same (v : List UInt8) : Lib.trimB v 32 = v ↔ trimd v = true := by
  rw [trimd_iff]
  have e : Lib.trimB v 32 = ((v.reverse.dropWhile (· == 32)).reverse).dropWhile (· == 32) := rfl
  have hlen : ∀ l : List UInt8, (l.dropWhile (· == (32 : UInt8))).length ≤ l.length := fun l => (List.dropWhile_sublist _).length_le
  rw [e]
  constructor
  · intro h
    have h1 := congrArg List.length h
    have h2 := hlen ((v.reverse.dropWhile (· == 32)).reverse)
    have h3 := hlen v.reverse
    rw [List.length_reverse] at h2 h3
    have h4 : v.reverse.dropWhile (· == 32) = v.reverse := (List.dropWhile_sublist _).eq_of_length (by rw [List.length_reverse]; omega)
    rw [h4, List.reverse_reverse] at h
    have h5 := dw_same.1 h
    have h6 := dw_same.1 h4
    refine ⟨fun e => by have := h5 32 e; simp at this, fun e => ?_⟩
    rw [← List.head?_reverse] at e
    have := h6 32 e; simp at this
  · rintro ⟨h1, h2⟩
    have h4 : v.reverse.dropWhile (· == 32) = v.reverse := dw_same.2 fun c hc => by
      rw [List.head?_reverse] at hc
      rw [beq_eq_false_iff_ne]; rintro rfl; exact h2 hc
    rw [h4, List.reverse_reverse]
    exact dw_same.2 fun c hc => by rw [beq_eq_false_iff_ne]; rintro rfl; exact h1 hc
end Go.Proofs.YtdcafoekbnacnaaGreatDoor

/- Package scheme: Fits: the part of a kind. -/
set_option linter.unusedVariables false
set_option linter.unusedSimpArgs false
namespace Go.Proofs.YtdcafoekbnacnaaGreatDoor
open Go.RowKit Go.Shelf

instance : Inhabited Prt := ⟨⟨0, [], [], false⟩⟩
theorem PartsAt.lit {w : World} {v : Value} {ps : List Prt} (h : PartsAt w v ps) (hne : ps ≠ []) : ∃ b off c, v = .slice (some ⟨b, off, none⟩) ps.length c ∧ ps.length ≤ c ∧ b < w.heap.size ∧
    ∀ j, j < ps.length → ∀ i u, (ptV ps[j]!)[i]? = some u → w.cell? ⟨b, off + j * 4 + i, none⟩ = some u := by
  have h0 : ps[0]? = some ps[0]! := by
    cases ps with
    | nil => exact absurd rfl hne
    | cons p r => rfl
  obtain ⟨a, c, e, hc, hb, c0, _⟩ := h.at_ h0
  rw [Nat.zero_mul] at c0
  obtain ⟨b, off, sp⟩ := a
  have hsp : sp = none := by
    unfold Addr.add World.cell? at c0
    rw [if_pos rfl] at c0
    dsimp only at c0
    cases sp with
    | none => rfl
    | some x =>
      exfalso
      cases hh : w.heap[b]? with
      | none => rw [hh] at c0; cases c0
      | some o => rw [hh] at c0; cases o <;> simp at c0
  subst hsp
  refine ⟨b, off, c, e, hc, hb, fun j hj i u hu => ?_⟩
  have hj' : ps[j]? = some ps[j]! := by rw [List.getElem!_eq_getElem?_getD, List.getElem?_eq_getElem hj]; rfl
  obtain ⟨A, c', e', _, _, h4⟩ := h
  rw [e] at e'
  injection e' with e1 _ _
  obtain ⟨a', e2, _, hat⟩ := h4 j (ptV ps[j]!) (by rw [List.getElem?_map, hj']; rfl)
  rw [← e1] at e2
  obtain rfl := Option.some.inj e2
  have := hat i u hu
  rw [add_of_add] at this
  unfold Addr.add at this
  split at this
  · rename_i h0
    rw [show off + j * 4 + i = off by omega]
    exact this
  · rw [show off + j * 4 + i = off + (j * 4 + i) by omega]
    exact this
def idxP (ps : List Prt) (k : Nat) : Int := Lib.idxBy (fun _ y => y.k == (k : Int)) (ps.take ps.length) default
theorem idxP_none {ps : List Prt} {k : Nat} (h : partAt ps k = none) : idxP ps k = -1 := by
  have := Lib.idxBy_miss (fun (_ y : Prt) => y.k == (k : Int)) ps ps.length default (fun j hj => by
    have hm : ps[j]! ∈ ps := by rw [List.getElem!_eq_getElem?_getD, List.getElem?_eq_getElem hj]; exact List.getElem_mem hj
    simpa using partOf_no h _ hm)
  exact this
theorem idxP_some {ps : List Prt} {k : Nat} {p : Prt} (h : partAt ps k = some p) : ∃ i : Nat, idxP ps k = (i : Int) ∧ ps[i]? = some p := by
  unfold partAt at h
  obtain ⟨h1, pl, pr, e, h2⟩ := List.find?_eq_some_iff_append.1 h
  have hi : ps[pl.length]? = some p := by rw [e]; simp
  have hl : pl.length < ps.length := by rw [e]; simp
  refine ⟨pl.length, ?_, hi⟩
  refine Lib.idxBy_hit (fun (_ y : Prt) => y.k == (k : Int)) ps ps.length pl.length default hl (Nat.le_refl _) ?_ (fun j hj => ?_)
  · show (ps[pl.length]!.k == (k : Int)) = true
    rw [List.getElem!_eq_getElem?_getD, hi]; exact h1
  · have hj' : ps[j]? = some pl[j] := by rw [e, List.getElem?_append_left hj, List.getElem?_eq_getElem hj]
    show (ps[j]!.k == (k : Int)) = false
    rw [List.getElem!_eq_getElem?_getD, hj']
    have := h2 pl[j] (List.getElem_mem hj)
    simpa using this
theorem fits1_any (p : Prt) (k : Int) (bK : Nat) (w : World) (hK : Blk w bK 3 #[.int .i64 k]) : Calls Tryz.prog 60 #[.agg #[.int .i64 p.k, .string (bs p.b), .string (bs p.a), .bool p.need], .pointer (some ⟨bK, 0, none⟩)] w fun e w' => e = .returned (.bool (p.k == k)) ∧ Below w.heap.size w w' := by
  have HB := hide (below_one w (.cells #[.int .i64 p.k, .string (bs p.b), .string (bs p.a), .bool p.need] 41))
  have cK := (hK.alloc (.cells #[.int .i64 p.k, .string (bs p.b), .string (bs p.a), .bool p.need] 41)).cell 0
  clear hK
  go_enter Tryz.func60, Tryz.ntmps60
  go_wp2_with fail
  go_ret
  exact ⟨rfl, HB.out⟩
theorem index_part (ps : List Prt) (hne : ps ≠ []) (hl0 : ps.length ≤ 8796093022208) (v : Value) (k bK : Nat) (w : World) (hP : PartsAt w v ps) (hK : Blk w bK 3 #[.int .i64 (k : Int)]) :
    Calls Tryz.prog 59 #[v, .func (.func 60) #[] #[.pointer (some ⟨bK, 0, none⟩)]] w fun e w' => e = .returned (.int .i64 (idxP ps k)) ∧ Below w.heap.size w w' := by
  obtain ⟨b, off, c, rfl, _, hb, hat⟩ := hP.lit hne
  exact AnyQ.slices_IndexFunc Tryz.laysH6 4 (fun _ => by kernel_rfl) (fun _ => by kernel_rfl) ptV (fun _ => rfl) (fun p => p.k == (k : Int)) 60 #[.pointer (some ⟨bK, 0, none⟩)] (enters_of Tryz.func60 (by kernel_rfl) rfl) b off ps.length c ps w
    (fun W x hW => (fits1_any x k bK W (hK.to hW)).mono fun e w' ⟨h1, h2⟩ => ⟨h1, below_to hW (Nat.le_refl _) h2⟩) (Nat.le_refl _) (by omega) hb hat
end Go.Proofs.YtdcafoekbnacnaaGreatDoor

/- The plain side of layer 22: house numbers, their order by one key. No program in sight. -/
set_option linter.unusedVariables false
set_option linter.unusedSimpArgs false
namespace Go.Proofs.YtdcafoekbnacnaaGreatDoor

/-- a house number -/
structure HN where
  n : Int
  l : List UInt8
  num : Int
  den : Int
deriving DecidableEq

def partL : List (Int × Int) := [(0, 0), (1, 9), (1, 8), (1, 7), (1, 6), (1, 5), (2, 9), (1, 4), (2, 7), (1, 3), (3, 8), (2, 5), (3, 7), (4, 9), (1, 2), (5, 9), (4, 7), (3, 5), (5, 8), (2, 3), (5, 7), (3, 4), (7, 9), (4, 5), (5, 6), (6, 7), (7, 8), (8, 9)]
/-- the place of a fraction -/
def place (p : Int × Int) : Int := match partL.findIdx? (· == p) with | some i => i | none => -1
theorem place_lt (p : Int × Int) : -1 ≤ place p ∧ place p < 28 := by
  unfold place
  cases h : partL.findIdx? (· == p) with
  | none => simp
  | some i =>
    have := (List.findIdx?_eq_some_iff_getElem.1 h).1
    have e : partL.length = 28 := rfl
    simp; omega
theorem place_some {p : Int × Int} (h : 0 ≤ place p) : partL[(place p).toNat]? = some p := by
  unfold place at h ⊢
  cases hf : partL.findIdx? (· == p) with
  | none => rw [hf] at h; simp at h
  | some i =>
    obtain ⟨h1, h2, _⟩ := List.findIdx?_eq_some_iff_getElem.1 hf
    simp only [Int.toNat_natCast]
    rw [List.getElem?_eq_getElem h1]
    simpa using h2
theorem place_inj {p q : Int × Int} (h : 0 ≤ place p) (e : place p = place q) : p = q := by
  have h1 := place_some h
  have h2 := place_some (p := q) (by omega)
  rw [e] at h1
  rw [h1] at h2
  exact Option.some.inj h2
theorem place_nth : ∀ i : Nat, i < 28 → place (partL.getD i (0, 0)) = i := by decide +kernel

def letterB (l : List UInt8) : Bool := l.isEmpty || (decide (l.length = 1) && (decide (97 ≤ (l.headD 0).toNat) && decide ((l.headD 0).toNat ≤ 122)))
def HN.valid (h : HN) : Bool := decide (1 ≤ h.n) && decide (h.n ≤ 9999) && letterB h.l && decide (0 ≤ place (h.num, h.den))
/-- the letter's rank -/
def rank (l : List UInt8) : Int := match l with | [] => 0 | c :: _ => (c.toNat : Int) - 96
theorem letterB_iff (l : List UInt8) : letterB l = true ↔ l = [] ∨ ∃ c : UInt8, l = [c] ∧ 97 ≤ c.toNat ∧ c.toNat ≤ 122 := by
  unfold letterB
  match l with
  | [] => simp
  | [c] => simp
  | a :: b :: r => simp
theorem rank_rng {l : List UInt8} (h : letterB l = true) : 0 ≤ rank l ∧ rank l ≤ 26 := by
  rcases (letterB_iff l).1 h with rfl | ⟨c, rfl, h1, h2⟩
  · simp [rank]
  · simp [rank]; omega
theorem rank_inj {l m : List UInt8} (h : letterB l = true) (h' : letterB m = true) (e : rank l = rank m) : l = m := by
  rcases (letterB_iff l).1 h with rfl | ⟨c, rfl, h1, h2⟩ <;> rcases (letterB_iff m).1 h' with rfl | ⟨d, rfl, h3, h4⟩
  · rfl
  · simp [rank] at e; omega
  · simp [rank] at e; omega
  · simp [rank] at e
    have : c = d := UInt8.toNat_inj.1 (by omega)
    rw [this]
/-- the key: numbers are ordered by it -/
def HN.key (h : HN) : Int := (h.n * 27 + rank h.l) * 28 + place (h.num, h.den)
theorem valid_iff (h : HN) : h.valid = true ↔ 1 ≤ h.n ∧ h.n ≤ 9999 ∧ letterB h.l = true ∧ 0 ≤ place (h.num, h.den) := by
  unfold HN.valid
  simp only [Bool.and_eq_true, decide_eq_true_eq, and_assoc]
theorem key_inj {a b : HN} (ha : a.valid = true) (hb : b.valid = true) (e : a.key = b.key) : a = b := by
  obtain ⟨a1, a2, a3, a4⟩ := (valid_iff a).1 ha
  obtain ⟨b1, b2, b3, b4⟩ := (valid_iff b).1 hb
  have ra := rank_rng a3
  have rb := rank_rng b3
  have pa := place_lt (a.num, a.den)
  have pb := place_lt (b.num, b.den)
  unfold HN.key at e
  have e1 : a.n = b.n := by omega
  have e2 : rank a.l = rank b.l := by omega
  have e3 : place (a.num, a.den) = place (b.num, b.den) := by omega
  have e4 := place_inj a4 e3
  have e5 := rank_inj a3 b3 e2
  simp only [Prod.mk.injEq] at e4
  cases a; cases b
  simp_all
def sgn (x y : Int) : Int := if x < y then -1 else if y < x then 1 else 0
/-- the first that is not 0 -/
def fst3 (x y z : Int) : Int := if x ≠ 0 then x else if y ≠ 0 then y else if z ≠ 0 then z else 0
/-- what Compare computes of valid numbers -/
def HN.cmp (a b : HN) : Int := fst3 (sgn a.n b.n) (sgn (rank a.l) (rank b.l)) (sgn (place (a.num, a.den)) (place (b.num, b.den)))
theorem cmp_key {a b : HN} (ha : a.valid = true) (hb : b.valid = true) : a.cmp b = sgn a.key b.key := by
  obtain ⟨a1, a2, a3, a4⟩ := (valid_iff a).1 ha
  obtain ⟨b1, b2, b3, b4⟩ := (valid_iff b).1 hb
  have ra := rank_rng a3
  have rb := rank_rng b3
  have pa := place_lt (a.num, a.den)
  have pb := place_lt (b.num, b.den)
  unfold HN.cmp fst3 sgn HN.key
  generalize place (a.num, a.den) = x at *
  generalize place (b.num, b.den) = y at *
  generalize rank a.l = u at *
  generalize rank b.l = v at *
  (repeat' split) <;> omega
def HN.lt (a b : HN) : Bool := a.valid && b.valid && decide (a.key < b.key)
end Go.Proofs.YtdcafoekbnacnaaGreatDoor

/- The plain side of layer 22: the least greater numbers of the four groups; what is between. -/
set_option linter.unusedVariables false
set_option linter.unusedSimpArgs false
namespace Go.Proofs.YtdcafoekbnacnaaGreatDoor

theorem nth_den : ∀ k : Nat, k < 28 → (((partL.getD k (0, 0)).2 = 0 ↔ k = 0) ∧ 0 ≤ (partL.getD k (0, 0)).2 ∧ (partL.getD k (0, 0)).2 ≤ 9 ∧ 0 ≤ (partL.getD k (0, 0)).1 ∧ (partL.getD k (0, 0)).1 ≤ 9) := by decide +kernel
theorem place_den {p : Int × Int} (h : 0 ≤ place p) : (p.2 = 0 ↔ place p = 0) ∧ 0 ≤ p.2 ∧ p.2 ≤ 9 ∧ 0 ≤ p.1 ∧ p.1 ≤ 9 := by
  have h1 := place_some h
  have h2 := place_lt p
  have h3 := nth_den (place p).toNat (by omega)
  rw [List.getD_eq_getElem?_getD, h1] at h3
  simp only [Option.getD_some] at h3
  refine ⟨h3.1.trans ?_, h3.2⟩
  omega

def nextL (l : List UInt8) : Option (List UInt8) := match l with
  | [] => some [97]
  | c :: _ => if c = 122 then none else some [c + 1]
theorem nextL_rank {l : List UInt8} (h : letterB l = true) : (nextL l = none ∧ rank l = 26) ∨ ∃ m, nextL l = some m ∧ letterB m = true ∧ rank m = rank l + 1 ∧ m ≠ [] := by
  rcases (letterB_iff l).1 h with rfl | ⟨c, rfl, h1, h2⟩
  · exact .inr ⟨[97], rfl, rfl, rfl, by simp⟩
  · unfold nextL
    by_cases hc : c = 122
    · subst hc; exact .inl ⟨rfl, rfl⟩
    · have h3 : c.toNat ≠ 122 := fun e => hc (UInt8.toNat_inj.1 e)
      have h4 : (c + 1).toNat = c.toNat + 1 := by rw [UInt8.toNat_add]; simp; omega
      refine .inr ⟨[c + 1], by simp [hc], (letterB_iff _).2 (.inr ⟨_, rfl, by omega, by omega⟩), ?_, by simp⟩
      simp only [rank, h4]; omega
def moreP (a : HN) : Option HN := if place (a.num, a.den) + 1 < 28 then some { a with num := (partL.getD (place (a.num, a.den) + 1).toNat (0, 0)).1, den := (partL.getD (place (a.num, a.den) + 1).toNat (0, 0)).2 } else none
theorem moreP_some {a : HN} (h : 0 ≤ place (a.num, a.den)) : (moreP a = none ∧ place (a.num, a.den) = 27) ∨ ∃ x, moreP a = some x ∧ x.n = a.n ∧ x.l = a.l ∧ place (x.num, x.den) = place (a.num, a.den) + 1 := by
  have hl := place_lt (a.num, a.den)
  unfold moreP
  by_cases hk : place (a.num, a.den) + 1 < 28
  · rw [if_pos hk]
    refine .inr ⟨_, rfl, rfl, rfl, ?_⟩
    have := place_nth (place (a.num, a.den) + 1).toNat (by omega)
    show place (partL.getD (place (a.num, a.den) + 1).toNat (0, 0)) = _
    rw [this]; omega
  · rw [if_neg hk]; exact .inl ⟨rfl, by omega⟩

def g0 (a : HN) : HN := ⟨a.n + 1, [], 0, 0⟩
def g1 (a : HN) : HN := match nextL a.l with | some m => ⟨a.n, m, 0, 0⟩ | none => ⟨a.n + 1, [97], 0, 0⟩
def g2 (a : HN) : HN := match moreP a with
  | some x => if a.l = [] then x else ⟨a.n + 1, [], 1, 9⟩
  | none => ⟨a.n + 1, [], 1, 9⟩
def g3 (a : HN) : HN := match (if a.l = [] then none else moreP a) with
  | some x => x
  | none => match nextL a.l with | some m => ⟨a.n, m, 1, 9⟩ | none => ⟨a.n + 1, [97], 1, 9⟩
def group (h : HN) : Int := if h.l = [] then (if h.den = 0 then 0 else 2) else (if h.den = 0 then 1 else 3)
def gs (a : HN) (i : Nat) : HN := if i = 0 then g0 a else if i = 1 then g1 a else if i = 2 then g2 a else g3 a

theorem rank0 : rank [] = 0 := rfl
theorem rank97 : rank [97] = 1 := rfl
theorem p00 : place (0, 0) = 0 := by decide +kernel
theorem p19 : place (1, 9) = 1 := by decide +kernel
theorem rank_nil {l : List UInt8} (h : letterB l = true) : rank l = 0 ↔ l = [] := by
  rcases (letterB_iff l).1 h with rfl | ⟨c, rfl, h1, h2⟩
  · simp [rank]
  · simp [rank]; omega
/-- what a candidate is: its form, that it is greater, and least in its group -/
structure Cand (a x : HN) (i : Int) : Prop where
  letter : letterB x.l = true
  frac : 0 ≤ place (x.num, x.den)
  lo : a.n ≤ x.n
  hi : x.n ≤ a.n + 1
  more : a.key < x.key
  grp : group x = i
  least : ∀ y : HN, y.valid = true → a.key < y.key → group y = i → x.key ≤ y.key
theorem grp_rank {y : HN} (hy : y.valid = true) : (group y = 0 ↔ rank y.l = 0 ∧ place (y.num, y.den) = 0) ∧ (group y = 1 ↔ rank y.l ≠ 0 ∧ place (y.num, y.den) = 0) ∧ (group y = 2 ↔ rank y.l = 0 ∧ place (y.num, y.den) ≠ 0) ∧ (group y = 3 ↔ rank y.l ≠ 0 ∧ place (y.num, y.den) ≠ 0) := by
  obtain ⟨_, _, h3, h4⟩ := (valid_iff y).1 hy
  have e1 := rank_nil h3
  have e2 := (place_den h4).1
  simp only at e2
  unfold group
  by_cases h1 : y.l = [] <;> by_cases h2 : y.den = 0 <;> simp only [h1, h2, if_true, if_false] <;> simp only [h1, h2, iff_true, iff_false, true_iff, false_iff] at e1 e2 <;> simp_all
theorem cand0 {a : HN} (ha : a.valid = true) : Cand a (g0 a) 0 := by
  obtain ⟨a1, a2, a3, a4⟩ := (valid_iff a).1 ha
  have ra := rank_rng a3
  have pa := place_lt (a.num, a.den)
  refine ⟨rfl, by show 0 ≤ place (0, 0); rw [p00]; omega, by simp [g0]; omega, by simp [g0], ?_, rfl, fun y hy hk hg => ?_⟩
  · unfold HN.key; simp only [g0, rank0, p00]; omega
  · have h := (grp_rank hy).1.1 hg
    obtain ⟨y1, y2, y3, y4⟩ := (valid_iff y).1 hy
    unfold HN.key at *; simp only [g0, rank0, p00]; omega
theorem cand1 {a : HN} (ha : a.valid = true) : Cand a (g1 a) 1 := by
  obtain ⟨a1, a2, a3, a4⟩ := (valid_iff a).1 ha
  have ra := rank_rng a3
  have pa := place_lt (a.num, a.den)
  unfold g1
  rcases nextL_rank a3 with ⟨e, hr⟩ | ⟨m, e, hm, hr, hne⟩ <;> rw [e] <;> simp only
  · refine ⟨rfl, by show 0 ≤ place (0, 0); rw [p00]; omega, by simp only; omega, by simp only; omega, ?_, rfl, fun y hy hk hg => ?_⟩
    · unfold HN.key; simp only [rank97, p00]; omega
    · have h := (grp_rank hy).2.1.1 hg
      obtain ⟨y1, y2, y3, y4⟩ := (valid_iff y).1 hy
      have ry := rank_rng y3
      unfold HN.key at *; simp only [rank97, p00]; omega
  · refine ⟨hm, by show 0 ≤ place (0, 0); rw [p00]; omega, by simp only; omega, by simp only; omega, ?_, by simp [group, hne], fun y hy hk hg => ?_⟩
    · unfold HN.key; simp only [hr, p00]; omega
    · have h := (grp_rank hy).2.1.1 hg
      obtain ⟨y1, y2, y3, y4⟩ := (valid_iff y).1 hy
      have ry := rank_rng y3
      unfold HN.key at *; simp only [hr, p00]; omega
theorem den_ne {x : HN} (h : 0 < place (x.num, x.den)) : x.den ≠ 0 := fun e => by
  have := (place_den (p := (x.num, x.den)) (by omega)).1.1 e
  omega
theorem cand2 {a : HN} (ha : a.valid = true) : Cand a (g2 a) 2 := by
  obtain ⟨a1, a2, a3, a4⟩ := (valid_iff a).1 ha
  have ra := rank_rng a3
  have pa := place_lt (a.num, a.den)
  have rn := rank_nil a3
  have far : (rank a.l ≠ 0 ∨ place (a.num, a.den) = 27) → Cand a ⟨a.n + 1, [], 1, 9⟩ 2 := fun hc => by
    refine ⟨rfl, by show 0 ≤ place (1, 9); rw [p19]; omega, by simp only; omega, by simp only; omega, ?_, rfl, fun y hy hk hg => ?_⟩
    · unfold HN.key; simp only [rank0, p19]; omega
    · have h := (grp_rank hy).2.2.1.1 hg
      obtain ⟨y1, y2, y3, y4⟩ := (valid_iff y).1 hy
      have py := place_lt (y.num, y.den)
      unfold HN.key at *; simp only [rank0, p19]; omega
  unfold g2
  rcases moreP_some a4 with ⟨e, hp⟩ | ⟨x, e, h1, h2, h3⟩ <;> rw [e] <;> simp only
  · exact far (.inr hp)
  · by_cases hl : a.l = []
    · rw [if_pos hl]
      have hr := rn.2 hl
      refine ⟨by rw [h2]; exact a3, by omega, by omega, by omega, ?_, ?_, fun y hy hk hg => ?_⟩
      · unfold HN.key; rw [h1, h2, h3]; omega
      · unfold group; rw [h2, if_pos hl, if_neg (den_ne (by omega))]
      · have h := (grp_rank hy).2.2.1.1 hg
        unfold HN.key at *; rw [h1, h2, h3]; omega
    · rw [if_neg hl]
      exact far (.inl (fun h => hl (rn.1 h)))
theorem cand3 {a : HN} (ha : a.valid = true) : Cand a (g3 a) 3 := by
  obtain ⟨a1, a2, a3, a4⟩ := (valid_iff a).1 ha
  have ra := rank_rng a3
  have pa := place_lt (a.num, a.den)
  have rn := rank_nil a3
  have far : (rank a.l = 0 ∨ place (a.num, a.den) = 27) → Cand a (match nextL a.l with | some m => ⟨a.n, m, 1, 9⟩ | none => ⟨a.n + 1, [97], 1, 9⟩) 3 := fun hc => by
    rcases nextL_rank a3 with ⟨e, hr⟩ | ⟨m, e, hm, hr, hne⟩ <;> rw [e] <;> simp only
    · refine ⟨rfl, by show 0 ≤ place (1, 9); rw [p19]; omega, by simp only; omega, by simp only; omega, ?_, rfl, fun y hy hk hg => ?_⟩
      · unfold HN.key; simp only [rank97, p19]; omega
      · have h := (grp_rank hy).2.2.2.1 hg
        obtain ⟨y1, y2, y3, y4⟩ := (valid_iff y).1 hy
        have ry := rank_rng y3
        have py := place_lt (y.num, y.den)
        unfold HN.key at *; simp only [rank97, p19]; omega
    · refine ⟨hm, by show 0 ≤ place (1, 9); rw [p19]; omega, by simp only; omega, by simp only; omega, ?_, by simp [group, hne], fun y hy hk hg => ?_⟩
      · unfold HN.key; simp only [hr, p19]; omega
      · have h := (grp_rank hy).2.2.2.1 hg
        obtain ⟨y1, y2, y3, y4⟩ := (valid_iff y).1 hy
        have ry := rank_rng y3
        have py := place_lt (y.num, y.den)
        unfold HN.key at *; simp only [hr, p19]; omega
  unfold g3
  by_cases hl : a.l = []
  · rw [if_pos hl]
    exact far (.inl (rn.2 hl))
  · rw [if_neg hl]
    rcases moreP_some a4 with ⟨e, hp⟩ | ⟨x, e, h1, h2, h3⟩ <;> rw [e] <;> simp only
    · exact far (.inr hp)
    · have hr : rank a.l ≠ 0 := fun h => hl (rn.1 h)
      refine ⟨by rw [h2]; exact a3, by omega, by omega, by omega, ?_, ?_, fun y hy hk hg => ?_⟩
      · unfold HN.key; rw [h1, h2, h3]; omega
      · unfold group; rw [h2, if_neg hl, if_neg (den_ne (by omega))]
      · have h := (grp_rank hy).2.2.2.1 hg
        unfold HN.key at *; rw [h1, h2, h3]; omega
/-- a candidate that is not greater than a valid number is valid -/
theorem Cand.valid {a x y : HN} {i : Int} (h : Cand a x i) (ha : a.valid = true) (hy : y.valid = true) (hk : x.key ≤ y.key) : x.valid = true := by
  obtain ⟨a1, a2, a3, a4⟩ := (valid_iff a).1 ha
  obtain ⟨y1, y2, y3, y4⟩ := (valid_iff y).1 hy
  have hl := h.letter
  have hf := h.frac
  have lo := h.lo
  have rx := rank_rng hl
  have ry := rank_rng y3
  have py := place_lt (y.num, y.den)
  refine (valid_iff x).2 ⟨by omega, ?_, hl, hf⟩
  unfold HN.key at hk
  omega
def between (a b : HN) : Option HN := if (g0 a).lt b then some (g0 a) else if (g1 a).lt b then some (g1 a) else if (g2 a).lt b then some (g2 a) else if (g3 a).lt b then some (g3 a) else none
theorem lt_iff (a b : HN) : a.lt b = true ↔ a.valid = true ∧ b.valid = true ∧ a.key < b.key := by
  unfold HN.lt
  simp only [Bool.and_eq_true, decide_eq_true_eq, and_assoc]
theorem grp_cases (x : HN) : group x = 0 ∨ group x = 1 ∨ group x = 2 ∨ group x = 3 := by
  unfold group; split <;> split <;> simp
/-- the law on Between -/
theorem between_some {a b n : HN} (ha : a.valid = true) (hb : b.valid = true) (h : between a b = some n) :
    n.valid = true ∧ a.lt n = true ∧ n.lt b = true ∧ ∀ x : HN, a.lt x = true → x.lt b = true → group n < group x ∨ (group n = group x ∧ x.lt n = false) := by
  have c0 := cand0 ha
  have c1 := cand1 ha
  have c2 := cand2 ha
  have c3 := cand3 ha
  have no : ∀ {x y : HN} {i : Int}, Cand a x i → x.lt b = false → a.lt y = true → y.lt b = true → group y = i → False := by
    intro x y i c hx h1 h2 hg
    rw [lt_iff] at h1 h2
    have hk := c.least y h1.2.1 h1.2.2 hg
    have hv := c.valid ha h1.2.1 hk
    have : x.lt b = true := (lt_iff _ _).2 ⟨hv, hb, by omega⟩
    rw [hx] at this; cases this
  have fin : ∀ {x : HN} {i : Int}, Cand a x i → x.lt b = true → x.valid = true ∧ a.lt x = true ∧ x.lt b = true ∧ ∀ y : HN, a.lt y = true → y.lt b = true → group y = i → y.lt x = false := by
    intro x i c hx
    have hx' := (lt_iff _ _).1 hx
    refine ⟨hx'.1, (lt_iff _ _).2 ⟨ha, hx'.1, c.more⟩, hx, fun y h1 h2 hg => ?_⟩
    rw [lt_iff] at h1
    have hk := c.least y h1.2.1 h1.2.2 hg
    rw [← Bool.not_eq_true, lt_iff]
    omega
  unfold between at h
  by_cases h0 : (g0 a).lt b = true
  · rw [if_pos h0] at h
    injection h with h; subst h
    obtain ⟨f1, f2, f3, f4⟩ := fin c0 h0
    refine ⟨f1, f2, f3, fun y y1 y2 => ?_⟩
    rw [c0.grp]
    rcases grp_cases y with g | g | g | g
    · exact .inr ⟨g.symm, f4 y y1 y2 g⟩
    all_goals exact .inl (by omega)
  · rw [if_neg h0] at h
    have n0 := fun {y : HN} => no (y := y) c0 (by simpa using h0)
    by_cases h1 : (g1 a).lt b = true
    · rw [if_pos h1] at h
      injection h with h; subst h
      obtain ⟨f1, f2, f3, f4⟩ := fin c1 h1
      refine ⟨f1, f2, f3, fun y y1 y2 => ?_⟩
      rw [c1.grp]
      rcases grp_cases y with g | g | g | g
      · exact (n0 y1 y2 g).elim
      · exact .inr ⟨g.symm, f4 y y1 y2 g⟩
      all_goals exact .inl (by omega)
    · rw [if_neg h1] at h
      have n1 := fun {y : HN} => no (y := y) c1 (by simpa using h1)
      by_cases h2 : (g2 a).lt b = true
      · rw [if_pos h2] at h
        injection h with h; subst h
        obtain ⟨f1, f2, f3, f4⟩ := fin c2 h2
        refine ⟨f1, f2, f3, fun y y1 y2 => ?_⟩
        rw [c2.grp]
        rcases grp_cases y with g | g | g | g
        · exact (n0 y1 y2 g).elim
        · exact (n1 y1 y2 g).elim
        · exact .inr ⟨g.symm, f4 y y1 y2 g⟩
        · exact .inl (by omega)
      · rw [if_neg h2] at h
        have n2 := fun {y : HN} => no (y := y) c2 (by simpa using h2)
        by_cases h3 : (g3 a).lt b = true
        · rw [if_pos h3] at h
          injection h with h; subst h
          obtain ⟨f1, f2, f3, f4⟩ := fin c3 h3
          refine ⟨f1, f2, f3, fun y y1 y2 => ?_⟩
          rw [c3.grp]
          rcases grp_cases y with g | g | g | g
          · exact (n0 y1 y2 g).elim
          · exact (n1 y1 y2 g).elim
          · exact (n2 y1 y2 g).elim
          · exact .inr ⟨g.symm, f4 y y1 y2 g⟩
        · rw [if_neg h3] at h; cases h
theorem between_none {a b : HN} (ha : a.valid = true) (hb : b.valid = true) (h : between a b = none) (x : HN) (h1 : a.lt x = true) (h2 : x.lt b = true) : False := by
  have no : ∀ {x y : HN} {i : Int}, Cand a x i → ¬ x.lt b = true → a.lt y = true → y.lt b = true → group y = i → False := by
    intro x y i c hx h1 h2 hg
    rw [lt_iff] at h1 h2
    have hk := c.least y h1.2.1 h1.2.2 hg
    have hv := c.valid ha h1.2.1 hk
    exact hx ((lt_iff _ _).2 ⟨hv, hb, by omega⟩)
  unfold between at h
  by_cases k0 : (g0 a).lt b = true
  · rw [if_pos k0] at h; cases h
  · rw [if_neg k0] at h
    by_cases k1 : (g1 a).lt b = true
    · rw [if_pos k1] at h; cases h
    · rw [if_neg k1] at h
      by_cases k2 : (g2 a).lt b = true
      · rw [if_pos k2] at h; cases h
      · rw [if_neg k2] at h
        by_cases k3 : (g3 a).lt b = true
        · rw [if_pos k3] at h; cases h
        · rcases grp_cases x with g | g | g | g
          · exact no (cand0 ha) k0 h1 h2 g
          · exact no (cand1 ha) k1 h1 h2 g
          · exact no (cand2 ha) k2 h1 h2 g
          · exact no (cand3 ha) k3 h1 h2 g
end Go.Proofs.YtdcafoekbnacnaaGreatDoor

/- The plain side of layer 22: parts, room, sides. -/
set_option linter.unusedVariables false
set_option linter.unusedSimpArgs false
namespace Go.Proofs.YtdcafoekbnacnaaGreatDoor

def whole (n : Int) : HN := ⟨n, [], 0, 0⟩
theorem whole_key (n : Int) : (whole n).key = n * 756 := by unfold HN.key whole; simp only [rank0, p00]; omega
theorem whole_valid {n : Int} (h1 : 1 ≤ n) (h2 : n ≤ 9999) : (whole n).valid = true := (valid_iff _).2 ⟨h1, h2, rfl, by show 0 ≤ place (0, 0); rw [p00]; omega⟩
theorem whole_bad {n : Int} (h : 9999 < n) : (whole n).valid = false := by
  rw [← Bool.not_eq_true, valid_iff]
  rintro ⟨_, h2, _⟩
  have : n ≤ 9999 := h2
  omega
def HN.rest (h : HN) : HN := { h with num := 0, den := 0 }
theorem rest_valid {h : HN} (hv : h.valid = true) : h.rest.valid = true := by
  obtain ⟨h1, h2, h3, h4⟩ := (valid_iff h).1 hv
  exact (valid_iff _).2 ⟨h1, h2, h3, by show 0 ≤ place (0, 0); rw [p00]; omega⟩
theorem rest_lt {h : HN} (hv : h.valid = true) (hd : 0 < h.den) : h.rest.lt h = true := by
  obtain ⟨h1, h2, h3, h4⟩ := (valid_iff h).1 hv
  refine (lt_iff _ _).2 ⟨rest_valid hv, hv, ?_⟩
  have e := (place_den h4).1
  simp only at e
  have : (h.rest).key = (h.n * 27 + rank h.l) * 28 + 0 := by unfold HN.key HN.rest; simp only [p00]
  rw [this]
  unfold HN.key
  omega
theorem lt_whole (h : HN) : h.lt (whole h.n) = false := by
  rw [← Bool.not_eq_true, lt_iff]
  rintro ⟨hv, _, hk⟩
  obtain ⟨h1, h2, h3, h4⟩ := (valid_iff h).1 hv
  have := rank_rng h3
  rw [whole_key] at hk
  unfold HN.key at hk
  omega
theorem lt_next {h : HN} (hv : h.valid = true) (hn : h.n < 9999) : h.lt (whole (h.n + 1)) = true := by
  obtain ⟨h1, h2, h3, h4⟩ := (valid_iff h).1 hv
  have := rank_rng h3
  have := place_lt (h.num, h.den)
  refine (lt_iff _ _).2 ⟨hv, whole_valid (by omega) (by omega), ?_⟩
  rw [whole_key]
  unfold HN.key
  omega
theorem place_one : ∀ r : Nat, r < 8 → 0 ≤ place (1, 2 + (r : Int)) := by decide +kernel
def partOf (n : Int) (r : Nat) : HN := ⟨n, [], 1, 2 + ((r % 8 : Nat) : Int)⟩
theorem part_valid {h : HN} (hv : h.valid = true) (r : Nat) : (partOf h.n r).valid = true := by
  obtain ⟨h1, h2, h3, h4⟩ := (valid_iff h).1 hv
  exact (valid_iff _).2 ⟨h1, h2, rfl, place_one (r % 8) (by omega)⟩
theorem part_lt {h : HN} (hv : h.valid = true) (hl : h.l ≠ []) (r : Nat) : (partOf h.n r).lt h = true := by
  obtain ⟨h1, h2, h3, h4⟩ := (valid_iff h).1 hv
  refine (lt_iff _ _).2 ⟨part_valid hv r, hv, ?_⟩
  have e := rank_nil h3
  have := rank_rng h3
  have := place_lt (1, 2 + ((r % 8 : Nat) : Int))
  have hne : rank h.l ≠ 0 := fun h => hl (e.1 h)
  unfold HN.key partOf
  simp only [rank0]
  omega
/-! room -/
theorem room1 {a : HN} (ha : a.valid = true) (hp : place (a.num, a.den) = 0) (hn : a.n < 9999) : ∃ x, between a (whole (a.n + 1)) = some x ∧ x.n = a.n ∧ x.valid = true ∧ a.lt x = true := by
  obtain ⟨h1, h2, h3, h4⟩ := (valid_iff a).1 ha
  have hb := whole_valid (n := a.n + 1) (by omega) (by omega)
  have ra := rank_rng h3
  cases h : between a (whole (a.n + 1)) with
  | none =>
    exfalso
    have hx : HN.valid ⟨a.n, a.l, 1, 9⟩ = true := (valid_iff _).2 ⟨h1, h2, h3, by show 0 ≤ place (1, 9); rw [p19]; omega⟩
    have hk : HN.key ⟨a.n, a.l, 1, 9⟩ = (a.n * 27 + rank a.l) * 28 + 1 := by unfold HN.key; simp only [p19]
    refine between_none ha hb h ⟨a.n, a.l, 1, 9⟩ ((lt_iff _ _).2 ⟨ha, hx, ?_⟩) ((lt_iff _ _).2 ⟨hx, hb, ?_⟩)
    · rw [hk]; unfold HN.key; omega
    · rw [hk, whole_key]; omega
  | some x =>
    obtain ⟨f1, f2, f3, _⟩ := between_some ha hb h
    refine ⟨x, rfl, ?_, f1, f2⟩
    obtain ⟨_, _, k1⟩ := (lt_iff _ _).1 f2
    obtain ⟨_, _, k2⟩ := (lt_iff _ _).1 f3
    obtain ⟨x1, x2, x3, x4⟩ := (valid_iff x).1 f1
    have rx := rank_rng x3
    have px := place_lt (x.num, x.den)
    rw [whole_key] at k2
    unfold HN.key at k1 k2
    omega
theorem room2 {a : HN} (ha : a.valid = true) {far : Int} (h1 : a.n + 2 ≤ far) (h2 : far ≤ 9999) : between a (whole far) = some (whole (a.n + 1)) := by
  obtain ⟨a1, a2, a3, a4⟩ := (valid_iff a).1 ha
  have : (g0 a).lt (whole far) = true := by
    refine (lt_iff _ _).2 ⟨whole_valid (by omega) (by omega), whole_valid (by omega) h2, ?_⟩
    show (whole (a.n + 1)).key < _
    rw [whole_key, whole_key]
    omega
  unfold between
  rw [if_pos this]; rfl
def HN.odd (h : HN) : Bool := h.valid && decide (h.n % 2 = 1)
/-! order -/
theorem sgn_swap (x y : Int) : sgn x y = -(sgn y x) := by unfold sgn; (repeat' split) <;> omega
theorem sgn_rng (x y : Int) : -1 ≤ sgn x y ∧ sgn x y ≤ 1 ∧ (sgn x y = 0 ↔ x = y) ∧ (sgn x y < 0 ↔ x < y) := by unfold sgn; (repeat' split) <;> omega
/-- what Compare returns -/
def cmpV (a b : HN) : Int := if a.valid && b.valid then a.cmp b else 0
def cmpE (a b : HN) : Int := if a.valid && b.valid then 0 else 1
theorem cmpV_key {a b : HN} (ha : a.valid = true) (hb : b.valid = true) : cmpV a b = sgn a.key b.key ∧ cmpE a b = 0 := by
  unfold cmpV cmpE
  rw [ha, hb]
  exact ⟨cmp_key ha hb, rfl⟩
theorem cmp_lt (a b : HN) : (decide (cmpE a b = 0) && decide (cmpV a b < 0)) = a.lt b := by
  unfold cmpE cmpV HN.lt
  cases ha : a.valid <;> cases hb : b.valid <;> simp
  rw [cmp_key ha hb]
  exact (sgn_rng _ _).2.2.2
theorem lt_trans' {a b c : HN} (h1 : a.lt b = true) (h2 : b.lt c = true) : a.lt c = true := by
  rw [lt_iff] at *
  exact ⟨h1.1, h2.2.1, by omega⟩
end Go.Proofs.YtdcafoekbnacnaaGreatDoor

/- Walks of package number: parts, place, letter, Valid, Odd. -/
set_option linter.unusedVariables false
set_option linter.unusedSimpArgs false
namespace Go.Proofs.YtdcafoekbnacnaaGreatDoor
open Go.RowKit

def pairCells (l : List (Int × Int)) : List Value := l.flatMap fun p => [.int .i64 p.1, .int .i64 p.2]
def partsA : Array Value := (pairCells partL).toArray
def zero56 : Array Value := (List.replicate 56 (Value.int .i64 0)).toArray
theorem partsA_one : ∀ v ∈ partsA.toList, v.oneCell' = true := by decide +kernel
theorem splice_all {old cs : Array Value} (h : old.size = cs.size) : splice old 0 cs = cs := by
  unfold splice
  have e : old.toList.drop (0 + cs.size) = [] := List.drop_eq_nil_of_le (by simp [h])
  rw [e]; simp

set_option maxHeartbeats 2000000 in
set_option maxRecDepth 100000 in
theorem parts_any (w : World) : Calls Tryz.prog 167 #[] w fun e w' => e = .returned (.agg partsA) ∧ Below w.heap.size w w' := by
  go_enter Tryz.func167, Tryz.ntmps167
  go_wp2_with ((with_reducible show wpList _ _ _ (Oper.mk _ (Op.store 182 (.tmp 0) (.tmp 29)) _ _ _ _ :: _) _ _); refine wpList_store_part rfl 182 (.tmp 0) (.tmp 29) rfl w.heap.size 0 partsA rfl rfl 182 _ (Blk.new _ _ _) (by kernel_rfl) (Nat.le_of_eq (by kernel_rfl)) partsA_one ?_; intro w1 ho hb; rw [splice_all (by kernel_rfl)] at hb; have HB := hide hb; have HO := hide (Only.below (B := w.heap.size) ((Below.refl _ w).alloc (Nat.le_refl _) _) ho (by simp) (Nat.le_refl _)); clear ho hb)
  exact bodyPost_ret (results_cell_blk rfl _ _ w.heap.size 182 _ _ rfl HB.out Tryz.underlying182 rfl (by kernel_rfl)) rfl ⟨rfl, HO.out⟩
end Go.Proofs.YtdcafoekbnacnaaGreatDoor

/- Walks of package number: place, letter, Valid, Odd. -/
set_option linter.unusedVariables false
set_option linter.unusedSimpArgs false
namespace Go.Proofs.YtdcafoekbnacnaaGreatDoor
open Go.RowKit

def nth (k : Nat) : Int × Int := partL.getD k (0, 0)
theorem run_parts : ∀ (k : Nat), k < 28 → ∀ w : World, (Instr.index 182 (.agg partsA) (.int .i64 (k : Int))).run Tryz.prog w = .ok (.agg #[.int .i64 (nth k).1, .int .i64 (nth k).2]) w
  | 0, _, _ => by kernel_rfl
  | 1, _, _ => by kernel_rfl
  | 2, _, _ => by kernel_rfl
  | 3, _, _ => by kernel_rfl
  | 4, _, _ => by kernel_rfl
  | 5, _, _ => by kernel_rfl
  | 6, _, _ => by kernel_rfl
  | 7, _, _ => by kernel_rfl
  | 8, _, _ => by kernel_rfl
  | 9, _, _ => by kernel_rfl
  | 10, _, _ => by kernel_rfl
  | 11, _, _ => by kernel_rfl
  | 12, _, _ => by kernel_rfl
  | 13, _, _ => by kernel_rfl
  | 14, _, _ => by kernel_rfl
  | 15, _, _ => by kernel_rfl
  | 16, _, _ => by kernel_rfl
  | 17, _, _ => by kernel_rfl
  | 18, _, _ => by kernel_rfl
  | 19, _, _ => by kernel_rfl
  | 20, _, _ => by kernel_rfl
  | 21, _, _ => by kernel_rfl
  | 22, _, _ => by kernel_rfl
  | 23, _, _ => by kernel_rfl
  | 24, _, _ => by kernel_rfl
  | 25, _, _ => by kernel_rfl
  | 26, _, _ => by kernel_rfl
  | 27, _, _ => by kernel_rfl
  | n + 28, h, _ => by omega
def noneTo (p : Int × Int) (k : Nat) : Prop := ∀ j, j < k → nth j ≠ p
theorem noneTo_succ {p : Int × Int} {k : Nat} (h : noneTo p k) (hk : nth k ≠ p) : noneTo p (k + 1) := fun j hj => by
  rcases Nat.lt_or_ge j k with h1 | h1
  · exact h j h1
  · obtain rfl : j = k := by omega
    exact hk
theorem place_at {p : Int × Int} {k : Nat} (h : noneTo p k) (hk : k < 28) (e : nth k = p) : place p = k := by
  have hl : partL.length = 28 := rfl
  unfold place
  have : partL.findIdx? (· == p) = some k := by
    rw [List.findIdx?_eq_some_iff_getElem]
    refine ⟨by omega, ?_, fun j hj => ?_⟩
    · have : nth k = partL[k]'(by omega) := by unfold nth; rw [List.getD_eq_getElem?_getD, List.getElem?_eq_getElem]; rfl
      rw [← this, e]; simp
    · have h1 := h j hj
      have : nth j = partL[j]'(by omega) := by unfold nth; rw [List.getD_eq_getElem?_getD, List.getElem?_eq_getElem]; rfl
      rw [this] at h1
      simpa using h1
  rw [this]
theorem place_no {p : Int × Int} (h : noneTo p 28) : place p = -1 := by
  unfold place
  have : partL.findIdx? (· == p) = none := by
    rw [List.findIdx?_eq_none_iff]
    intro x hx
    obtain ⟨j, hj, rfl⟩ := List.getElem_of_mem hx
    have h1 := h j hj
    have : nth j = partL[j] := by unfold nth; rw [List.getD_eq_getElem?_getD, List.getElem?_eq_getElem hj]; rfl
    rw [this] at h1
    simpa using h1
  rw [this]
def PlI (w wr : World) (p : Int × Int) (t : Value) : Prop := ∃ k : Nat, k ≤ 28 ∧ t = .int .i64 k ∧ noneTo p k ∧ Below w.heap.size w wr

set_option maxHeartbeats 2000000 in
set_option maxRecDepth 100000 in
theorem place_any (a b : Int) (w : World) : Calls Tryz.prog 154 #[.int .i64 a, .int .i64 b] w fun e w' => e = .returned (.int .i64 (place (a, b))) ∧ Below w.heap.size w w' := by
  go_enter Tryz.func154, Tryz.ntmps154
  go_wp2_with (go_at_call 167; refine (parts_any _).mono ?_; rintro e w1 ⟨rfl, hb⟩; have HB := hide hb; clear hb)
  go_loopw [8] (fun t wr => PlI w wr (a, b) t) (fun t _ => 28 - (intOf t).toNat)
  case atStart => exact ⟨0, by omega, rfl, fun j hj => by omega, HB.out⟩
  case round =>
    clear HB
    obtain ⟨k, hk, rfl, hno, hb⟩ := hrel
    have HN := hide hno
    have HB := hide hb
    clear hno hb
    by_cases hlt : k < 28
    · have hix := run_parts k hlt
      have hki : (k : Int) < 28 := by omega
      obtain ⟨p1, p2, hp⟩ : ∃ p1 p2, nth k = (p1, p2) := ⟨_, _, rfl⟩
      rw [hp] at hix
      have HP := hide hp
      clear hp
      by_cases h1 : p1 = a ∧ p2 = b
      · obtain ⟨e1, e2⟩ := h1
        have HF : Hid (place (a, b) = k) := place_at HN.out hlt (by rw [HP.out, e1, e2])
        subst e1 e2
        go_wp2
        go_ret
        exact ⟨ret_int HF.out.symm, HB.out.alloc HB.out.size _⟩
      · have HF : Hid (noneTo (a, b) (k + 1)) := noneTo_succ HN.out (by rw [HP.out]; intro e; simp only [Prod.mk.injEq] at e; exact h1 e)
        have hb : ((p1 == a) && (p2 == b)) = false := by
          rw [Bool.and_eq_false_iff]
          rcases Classical.em (p1 = a) with e | e
          · right; simp; intro e2; exact h1 ⟨e, e2⟩
          · left; simpa using e
        go_wp2
        all_goals
          go_roundw
          case rel => first | exact ⟨k + 1, by omega, by go_num, HF.out, HB.out.alloc HB.out.size _⟩ | ((repeat apply Exists.intro); exact ⟨⟨k + 1, by omega, by go_num, HF.out, HB.out.alloc HB.out.size _⟩, rfl⟩)
          case measure => simp [intOf]; try omega
    · have HF : Hid (place (a, b) = -1) := by
        obtain rfl : k = 28 := by omega
        exact place_no HN.out
      have hge : ¬ (k : Int) < 28 := by omega
      go_wp2
      go_ret
      exact ⟨ret_int HF.out.symm, HB.out⟩

/-- a house number as a value -/
def letS (l : List UInt8) : ByteArray := ⟨l.toArray⟩
def hval (h : HN) : Value := .agg #[.int .i64 h.n, .string ⟨h.l.toArray⟩, .int .i64 h.num, .int .i64 h.den]

theorem isEmpty_size (s : ByteArray) : s.toList.isEmpty = decide (s.size = 0) := by
  rw [← decide_eq_emptyBytes]
  congr 1
  apply propext
  constructor
  · rintro rfl; rfl
  · intro h
    apply ByteArray.ext
    apply Array.ext'
    have : s.data.toList.length = 0 := by simpa using h
    rw [List.length_eq_zero_iff] at this
    rw [this]; rfl
theorem list_one (s : ByteArray) (h : s.size = 1) : s.data.toList = [s[0]] := by
  have hl : s.data.toList.length = 1 := by simpa using h
  obtain ⟨c, hc⟩ := List.length_eq_one_iff.1 hl
  have : s[0] = s.data.toList[0]'(by omega) := rfl
  rw [this]
  simp [hc]
set_option maxHeartbeats 2000000 in
theorem letter_any (s : ByteArray) (w : World) (hs : s.size ≤ maxLen) : Calls Tryz.prog 153 #[.string s] w fun e w' => e = .returned (.bool (letterB s.data.toList)) ∧ w = w' := by
  unfold maxLen at hs
  have hl : s.data.toList.length = s.size := by simp
  have he := isEmpty_size s
  rcases Nat.lt_or_ge 0 s.size with h0 | h0
  · rw [decide_eq_false (by omega)] at he
    rcases Nat.lt_or_ge 1 s.size with h1 | h1
    · have HF : Hid (letterB s.data.toList = false) := by
        show _ = _
        rw [← Bool.not_eq_true, letterB_iff]
        rintro (e | ⟨c, e, _⟩)
        · rw [e] at hl; simp at hl; omega
        · rw [e] at hl; simp at hl; omega
      have hs1 : ((s.size : Int) == 1) = false := by simp; omega
      clear hl
      go_enter Tryz.func153, Tryz.ntmps153
      go_wp2
      go_ret
      exact ⟨ret_bool HF.out.symm, rfl⟩
    · have h2 : s.size = 1 := by omega
      have hd := list_one s h2
      have HF : Hid (letterB s.data.toList = (decide ((97 : Int) ≤ (s[0].toNat : Int)) && decide ((s[0].toNat : Int) ≤ (122 : Int)))) := by
        show _ = _
        rw [hd, Bool.eq_iff_iff, letterB_iff]
        simp only [Bool.and_eq_true, decide_eq_true_eq]
        constructor
        · rintro (e | ⟨c, e, c1, c2⟩)
          · cases e
          · injection e with e; subst e; exact ⟨by omega, by omega⟩
        · rintro ⟨c1, c2⟩
          exact .inr ⟨_, rfl, by omega, by omega⟩
      have hs1 : ((s.size : Int) == 1) = true := by simp; omega
      clear hl hd h2
      by_cases c1 : (97 : Int) ≤ (s[0].toNat : Int) <;> by_cases c2 : (s[0].toNat : Int) ≤ (122 : Int)
      all_goals
        first
        | (exfalso; omega)
        | (go_enter Tryz.func153, Tryz.ntmps153
           go_wp2
           go_ret
           exact ⟨ret_bool (by rw [HF.out]; simp [c1, c2]), rfl⟩)
  · rw [decide_eq_true (by omega)] at he
    have HF : Hid (letterB s.data.toList = true) := by
      have : s.data.toList = [] := List.length_eq_zero_iff.1 (by omega)
      show _ = _
      rw [this]; rfl
    clear hl
    go_enter Tryz.func153, Tryz.ntmps153
    go_wp2
    go_ret
    exact ⟨ret_bool HF.out.symm, rfl⟩
end Go.Proofs.YtdcafoekbnacnaaGreatDoor

/- Walks of package number: Valid. -/
set_option linter.unusedVariables false
set_option linter.unusedSimpArgs false
namespace Go.Proofs.YtdcafoekbnacnaaGreatDoor
open Go.RowKit

def hCells (h : HN) : Array Value := #[.int .i64 h.n, .string ⟨h.l.toArray⟩, .int .i64 h.num, .int .i64 h.den]
structure HBox (wc : World) (b : Nat) (h : HN) : Prop where
  blk : Blk wc b 93 (hCells h)
theorem HBox.facts {wc : World} {b : Nat} {h : HN} (H : HBox wc b h) : wc.cell? ⟨b, 0, none⟩ = some (.int .i64 h.n) ∧ wc.cell? ⟨b, 1, none⟩ = some (.string ⟨h.l.toArray⟩) ∧ wc.cell? ⟨b, 2, none⟩ = some (.int .i64 h.num) ∧ wc.cell? ⟨b, 3, none⟩ = some (.int .i64 h.den) :=
  ⟨H.blk.cell 0, H.blk.cell 1, H.blk.cell 2, H.blk.cell 3⟩
theorem HBox.below {w w' : World} {b B : Nat} {h : HN} (H : HBox w b h) (hb : Below B w w') (hB : b < B) : HBox w' b h := ⟨H.blk.below hb hB⟩
theorem HBox.new (w : World) (h : HN) : HBox (w.alloc (.cells #[.int .i64 h.n, .string ⟨h.l.toArray⟩, .int .i64 h.num, .int .i64 h.den] 93)) w.heap.size h := ⟨Blk.new w _ _⟩

def HN.fit (h : HN) : Prop := (ByteArray.mk h.l.toArray).size ≤ maxLen
theorem valid_f1 {h : HN} (h1 : ¬ 1 ≤ h.n) : h.valid = false := by unfold HN.valid; simp [h1]
theorem valid_f2 {h : HN} (h1 : ¬ h.n ≤ 9999) : h.valid = false := by unfold HN.valid; simp [h1]
theorem valid_f3 {h : HN} (h1 : letterB h.l = false) : h.valid = false := by unfold HN.valid; simp [h1]
theorem valid_t {h : HN} (h1 : 1 ≤ h.n) (h2 : h.n ≤ 9999) (h3 : letterB h.l = true) : h.valid = decide (0 ≤ place (h.num, h.den)) := by unfold HN.valid; simp [h1, h2, h3]

set_option maxHeartbeats 2000000 in
theorem Valid_any (h : HN) (w : World) (hl : h.fit) : Calls Tryz.prog 133 #[hval h] w fun e w' => e = .returned (.bool h.valid) ∧ Below w.heap.size w w' := by
  have HB := hide (HBox.new w h)
  have HB0 := hide ((Below.refl w.heap.size w).alloc (Nat.le_refl _) (.cells #[.int .i64 h.n, .string ⟨h.l.toArray⟩, .int .i64 h.num, .int .i64 h.den] 93))
  have HL := hide hl
  clear hl
  by_cases h1 : 1 ≤ h.n
  · by_cases h2 : h.n ≤ 9999
    · cases h3 : letterB h.l
      · have HV := hide (valid_f3 h3)
        go_enter Tryz.func133, Tryz.ntmps133
        unfold hval
        go_wp2_with fail
        refine (letter_any ⟨h.l.toArray⟩ _ HL.out).mono ?_
        rintro e w1 ⟨rfl, rfl⟩
        rw [show letterB (ByteArray.mk h.l.toArray).data.toList = false from h3]
        go_wp2_with fail
        go_ret
        exact ⟨ret_bool HV.out.symm, HB0.out⟩
      · have HV := hide (valid_t h1 h2 h3)
        go_enter Tryz.func133, Tryz.ntmps133
        unfold hval
        go_wp2_with fail
        refine (letter_any ⟨h.l.toArray⟩ _ HL.out).mono ?_
        rintro e w1 ⟨rfl, rfl⟩
        rw [show letterB (ByteArray.mk h.l.toArray).data.toList = true from h3]
        go_wp2_with fail
        refine (place_any h.num h.den _).mono ?_
        rintro e w2 ⟨rfl, hb⟩
        have HB2 := hide (HB0.out.trans (hb.mono HB0.out.size))
        clear hb
        generalize place (h.num, h.den) = p at HV ⊢
        by_cases hp : 0 ≤ p
        all_goals
          go_wp2_with fail
          go_ret
          exact ⟨ret_bool (by rw [HV.out]; try simp [hp]), HB2.out⟩
    · have HV := hide (valid_f2 h2)
      go_enter Tryz.func133, Tryz.ntmps133
      unfold hval
      go_wp2_with fail
      go_ret
      exact ⟨ret_bool HV.out.symm, HB0.out⟩
  · have HV := hide (valid_f1 h1)
    go_enter Tryz.func133, Tryz.ntmps133
    unfold hval
    go_wp2_with fail
    go_ret
    exact ⟨ret_bool HV.out.symm, HB0.out⟩

end Go.Proofs.YtdcafoekbnacnaaGreatDoor

/- The plain side of layer 22: texts of house numbers, and what Parse reads in them. -/
set_option linter.unusedVariables false
set_option linter.unusedSimpArgs false
namespace Go.Proofs.YtdcafoekbnacnaaGreatDoor
open Go

def lowers : List UInt8 := [97, 98, 99, 100, 101, 102, 103, 104, 105, 106, 107, 108, 109, 110, 111, 112, 113, 114, 115, 116, 117, 118, 119, 120, 121, 122]
def atoiV (l : List UInt8) : Int := match Lib.atoiAll l with | .ok v => v | .range => Lib.atoiSat l | _ => 0
def fracP (h : HN) : List UInt8 := if 0 < h.den then [32] ++ Lib.itoa h.num ++ [47] ++ Lib.itoa h.den else []
def textP (h : HN) : List UInt8 := Lib.itoa h.n ++ h.l ++ fracP h
def candP (t : List UInt8) : HN :=
  { n := atoiV (Lib.trimRightS (Lib.cut t [32]).1 lowers), l := (Lib.cut t [32]).1.drop (Lib.trimRightS (Lib.cut t [32]).1 lowers).length,
    num := if (Lib.cut (Lib.cut t [32]).2.1 [47]).2.2 then atoiV (Lib.cut (Lib.cut t [32]).2.1 [47]).1 else 0,
    den := if (Lib.cut (Lib.cut t [32]).2.1 [47]).2.2 then atoiV (Lib.cut (Lib.cut t [32]).2.1 [47]).2.1 else 0 }
def parseP (t : List UInt8) : Option HN := if (candP t).valid && decide (textP (candP t) = t) then some (candP t) else none

/-! digits -/
def isDg (c : UInt8) : Prop := 48 ≤ c.toNat ∧ c.toNat ≤ 57
theorem ofNat_dg {d : Nat} (h : d < 10) : (UInt8.ofNat (48 + d)).toNat = 48 + d := by simp; omega
theorem dec_dg : ∀ (u : Nat), ∀ c ∈ Lib.decDigits u, isDg c := by
  intro u
  induction u using Nat.strongRecOn with
  | ind u ih =>
    intro c hc
    rw [Lib.decDigits] at hc
    split at hc
    · rename_i h
      simp only [List.mem_cons, List.not_mem_nil, or_false] at hc
      subst hc
      unfold isDg
      rw [ofNat_dg h]; omega
    · rename_i h
      rcases List.mem_append.1 hc with hc | hc
      · exact ih (u / 10) (by omega) c hc
      · simp only [List.mem_cons, List.not_mem_nil, or_false] at hc
        subst hc
        unfold isDg
        rw [ofNat_dg (by omega)]; omega
theorem dec_ne (u : Nat) : Lib.decDigits u ≠ [] := by
  rw [Lib.decDigits]
  split <;> simp
def val (acc : Nat) (l : List UInt8) : Nat := l.foldl (fun a c => a * 10 + (c.toNat - 48)) acc
theorem val_snoc (acc : Nat) (l : List UInt8) (c : UInt8) : val acc (l ++ [c]) = val acc l * 10 + (c.toNat - 48) := by simp [val]
theorem val_le : ∀ (l : List UInt8) (acc : Nat), acc ≤ val acc l
  | [], acc => Nat.le_refl _
  | c :: r, acc => by
    have := val_le r (acc * 10 + (c.toNat - 48))
    show acc ≤ val (acc * 10 + (c.toNat - 48)) r
    omega
theorem val_dec : ∀ u : Nat, val 0 (Lib.decDigits u) = u := by
  intro u
  induction u using Nat.strongRecOn with
  | ind u ih =>
    rw [Lib.decDigits]
    split
    · rename_i h
      simp only [val, List.foldl_cons, List.foldl_nil]
      rw [ofNat_dg h]; omega
    · rename_i h
      rw [val_snoc, ih (u / 10) (by omega), ofNat_dg (by omega)]; omega
theorem parse_dg : ∀ (l : List UInt8) (acc : Nat), (∀ c ∈ l, isDg c) → val acc l < 1000000000000000000 → Lib.parseUint10 acc l = .ok (val acc l)
  | [], acc, _, _ => rfl
  | c :: r, acc, hd, hv => by
    obtain ⟨h1, h2⟩ := hd c (by simp)
    have hv' : val (acc * 10 + (c.toNat - 48)) r < 1000000000000000000 := hv
    have := val_le r (acc * 10 + (c.toNat - 48))
    rw [Lib.parseUint10, if_pos ⟨h1, h2⟩, if_neg (by omega), if_neg (by omega), parse_dg r _ (fun c' hc' => hd c' (by simp [hc'])) hv']
    rfl
theorem atoi_dec {u : Nat} (h : u < 1000000000000000000) : Lib.atoiAll (Lib.decDigits u) = .ok (u : Int) := by
  have hd := dec_dg u
  have hne := dec_ne u
  have hv := val_dec u
  have hp := parse_dg (Lib.decDigits u) 0 hd (by omega)
  rw [hv] at hp
  cases hl : Lib.decDigits u with
  | nil => exact absurd hl hne
  | cons c r =>
    rw [hl] at hd hp
    obtain ⟨h1, h2⟩ := hd c (by simp)
    unfold Lib.atoiAll Lib.parseMag
    simp only
    rw [if_neg (show ¬ (c.toNat = 43 ∨ c.toNat = 45) by omega), if_neg (by simp), hp]
    simp only
    rw [if_neg (by omega), if_neg (by omega), if_neg (by omega)]
theorem itoa_dec {n : Int} (h : 0 ≤ n) : Lib.itoa n = Lib.decDigits n.toNat := by unfold Lib.itoa; rw [if_neg (by omega)]
theorem atoiV_itoa {n : Int} (h : 0 ≤ n) (h' : n ≤ 9999) : atoiV (Lib.itoa n) = n := by
  unfold atoiV
  rw [itoa_dec h, atoi_dec (by omega)]
  simp only; omega

/-! cuts -/
theorem index_no {b : UInt8} : ∀ {l : List UInt8}, b ∉ l → Lib.index l [b] = -1
  | [], _ => rfl
  | c :: r, h => by
    simp only [List.mem_cons, not_or] at h
    rw [Lib.index, if_neg (by simp [List.isPrefixOf, h.1]), index_no h.2]
    rfl
theorem index_at {b : UInt8} : ∀ {l : List UInt8} (r : List UInt8), b ∉ l → Lib.index (l ++ b :: r) [b] = l.length
  | [], r, _ => by rw [List.nil_append, Lib.index, if_pos (by simp [List.isPrefixOf])]; rfl
  | c :: l, r, h => by
    simp only [List.mem_cons, not_or] at h
    have ih := index_at r h.2
    rw [List.cons_append, Lib.index, if_neg (by simp [List.isPrefixOf, h.1]), ih, if_neg (by simp)]
    simp
theorem cut_no {b : UInt8} {l : List UInt8} (h : b ∉ l) : Lib.cut l [b] = (l, [], false) := by
  unfold Lib.cut
  rw [index_no h, if_neg (by omega)]
theorem cut_at {b : UInt8} {l : List UInt8} (r : List UInt8) (h : b ∉ l) : Lib.cut (l ++ b :: r) [b] = (l, r, true) := by
  unfold Lib.cut
  rw [index_at r h, if_pos (by omega)]
  have e : (l.length : Int).toNat = l.length := by simp
  rw [e]
  simp
theorem trim_at {l m cs : List UInt8} (hl : l ≠ []) (h1 : ∀ c ∈ l, cs.contains c = false) (h2 : ∀ c ∈ m, cs.contains c = true) : Lib.trimRightS (l ++ m) cs = l := by
  unfold Lib.trimRightS
  rw [List.reverse_append]
  have h3 : ∀ (p q : List UInt8), (∀ c ∈ p, cs.contains c = true) → (p ++ q).dropWhile (cs.contains ·) = q.dropWhile (cs.contains ·) := by
    intro p
    induction p with
    | nil => intro q _; rfl
    | cons c p ih =>
      intro q hp
      rw [List.cons_append, List.dropWhile_cons_of_pos (hp c (by simp))]
      exact ih q fun c' hc' => hp c' (by simp [hc'])
  rw [h3 _ _ (fun c hc => h2 c (by simpa using hc))]
  cases hr : l.reverse with
  | nil => simp at hr; exact absurd hr hl
  | cons c p =>
    have hc : c ∈ l := by
      have : c ∈ l.reverse := by rw [hr]; simp
      simpa using this
    rw [List.dropWhile_cons_of_neg (by rw [h1 c hc]; simp)]
    rw [← hr, List.reverse_reverse]

theorem dg_not {l : List UInt8} (h : ∀ c ∈ l, isDg c) {b : UInt8} (hb : b.toNat < 48 ∨ 57 < b.toNat) : b ∉ l := fun hm => by
  obtain ⟨h1, h2⟩ := h b hm
  omega
theorem lowers_nat : ∀ k : Nat, k < 256 → lowers.contains (UInt8.ofNat k) = (decide (97 ≤ k) && decide (k ≤ 122)) := by decide +kernel
theorem lowers_iff (c : UInt8) : lowers.contains c = (decide (97 ≤ c.toNat) && decide (c.toNat ≤ 122)) := by
  have := lowers_nat c.toNat c.toNat_lt
  rwa [UInt8.ofNat_toNat] at this
theorem itoa_dg {n : Int} (h : 0 ≤ n) : (∀ c ∈ Lib.itoa n, isDg c) ∧ Lib.itoa n ≠ [] := by rw [itoa_dec h]; exact ⟨dec_dg _, dec_ne _⟩

/-- Parse reads a valid number's text as it was written -/
theorem cand_text {a : HN} (ha : a.valid = true) : candP (textP a) = a := by
  obtain ⟨h1, h2, h3, h4⟩ := (valid_iff a).1 ha
  obtain ⟨d1, d2, d3, d4, d5⟩ := place_den h4
  simp only at d1 d2 d3 d4 d5
  obtain ⟨nd, nn⟩ := itoa_dg (n := a.n) (by omega)
  have hl : (∀ c ∈ a.l, lowers.contains c = true) ∧ (32 : UInt8) ∉ a.l := by
    rcases (letterB_iff a.l).1 h3 with e | ⟨c, e, c1, c2⟩
    · rw [e]; simp
    · rw [e]
      refine ⟨fun c' hc' => ?_, fun hm => ?_⟩
      · simp only [List.mem_cons, List.not_mem_nil, or_false] at hc'
        subst hc'
        rw [lowers_iff]; simp [c1, c2]
      · simp only [List.mem_cons, List.not_mem_nil, or_false] at hm
        subst hm
        simp at c1
  have hfr : (32 : UInt8) ∉ Lib.itoa a.n ++ a.l := by
    simp only [List.mem_append, not_or]
    exact ⟨dg_not nd (.inl (by decide)), hl.2⟩
  have htr : Lib.trimRightS (Lib.itoa a.n ++ a.l) lowers = Lib.itoa a.n := trim_at nn (fun c hc => by
    obtain ⟨c1, c2⟩ := nd c hc
    rw [lowers_iff]
    simp; omega) hl.1
  have hcut : Lib.cut (textP a) [32] = (Lib.itoa a.n ++ a.l, (if 0 < a.den then Lib.itoa a.num ++ 47 :: Lib.itoa a.den else []), decide (0 < a.den)) := by
    unfold textP fracP
    by_cases hd : 0 < a.den
    · simp only [if_pos hd]
      have e : Lib.itoa a.n ++ a.l ++ ([32] ++ Lib.itoa a.num ++ [47] ++ Lib.itoa a.den) = (Lib.itoa a.n ++ a.l) ++ 32 :: (Lib.itoa a.num ++ 47 :: Lib.itoa a.den) := by simp
      rw [e, cut_at _ hfr]
      simp [hd]
    · simp only [if_neg hd, List.append_nil]
      rw [cut_no hfr]
      simp [hd]
  unfold candP
  rw [hcut]
  simp only [htr]
  have e1 := atoiV_itoa (n := a.n) (by omega) h2
  have e2 : (Lib.itoa a.n ++ a.l).drop (Lib.itoa a.n).length = a.l := by simp
  rw [e1, e2]
  by_cases hd : 0 < a.den
  · simp only [if_pos hd]
    rw [cut_at _ (dg_not (itoa_dg d4).1 (.inl (by decide)))]
    simp only [if_true]
    rw [atoiV_itoa d4 (by omega), atoiV_itoa d2 (by omega)]
  · simp only [if_neg hd]
    have e0 : a.den = 0 := by omega
    have e3 : Lib.cut [] [47] = ([], [], false) := cut_no (by simp)
    rw [e3]
    simp only [Bool.false_eq_true, if_false]
    have hp := place_inj (p := (a.num, a.den)) (q := (0, 0)) h4 (by rw [p00]; exact d1.1 e0)
    simp only [Prod.mk.injEq] at hp
    cases a
    simp only [HN.mk.injEq, true_and]
    exact ⟨hp.1.symm, hp.2.symm⟩
theorem parse_text {a : HN} (ha : a.valid = true) : parseP (textP a) = some a := by
  unfold parseP
  rw [cand_text ha, ha]
  simp
theorem text_inj {a b : HN} (ha : a.valid = true) (hb : b.valid = true) (e : textP a = textP b) : a = b := by
  have h1 := parse_text ha
  rw [e, parse_text hb] at h1
  exact (Option.some.inj h1).symm
theorem parse_some {t : List UInt8} {a : HN} (h : parseP t = some a) : a.valid = true ∧ textP a = t := by
  unfold parseP at h
  split at h
  · rename_i hc
    injection h with h
    subst h
    simpa using hc
  · cases h
end Go.Proofs.YtdcafoekbnacnaaGreatDoor

/- Walks of package number: Text. -/
set_option linter.unusedVariables false
set_option linter.unusedSimpArgs false
namespace Go.Proofs.YtdcafoekbnacnaaGreatDoor
open Go.RowKit

theorem Glob.below {w w' : World} {B : Nat} (h : Glob w) (hb : Below B w w') (hB : w.heap.size ≤ B) : Glob w' := h.belowB hb (Nat.le_trans h.top hB)
theorem dec_len (u : Nat) : (Lib.decDigits u).length ≤ u + 1 := by
  induction u using Nat.strongRecOn with
  | ind u ih =>
    rw [Lib.decDigits]
    split
    · simp
    · have := ih (u / 10) (by omega)
      simp; omega
theorem itoa_len {n : Int} (h : 0 ≤ n) (h' : n ≤ 9999) : (Lib.itoa n).length ≤ 10000 := by
  rw [itoa_dec h]
  have := dec_len n.toNat
  omega
def HN.short (h : HN) : Prop := (bs h.l).size ≤ maxLen
theorem letter_size {l : List UInt8} (h : letterB l = true) : (ByteArray.mk l.toArray).size ≤ 1 := by
  show l.toArray.size ≤ 1
  rcases (letterB_iff l).1 h with rfl | ⟨c, rfl, _⟩ <;> simp
theorem bs_fit {h : HN} (h1 : 1 ≤ h.n) (h2 : h.n ≤ 9999) (hl : letterB h.l = true) : (bs (Lib.itoa h.n)).size + (ByteArray.mk h.l.toArray).size ≤ 10001 := by
  have := itoa_len (n := h.n) (by omega) h2
  have := letter_size hl
  rw [bs_size]
  omega
theorem bs_fit' {h : HN} (h1 : 1 ≤ h.n) (h2 : h.n ≤ 9999) (hl : letterB h.l = true) : (bs (Lib.itoa h.n)).size + h.l.length ≤ 10001 := by
  have := bs_fit h1 h2 hl
  have e : (ByteArray.mk h.l.toArray).size = h.l.length := bs_size h.l
  omega
theorem itoa_size {n : Int} (h : 0 ≤ n) (h' : n ≤ 9999) : (bs (Lib.itoa n)).size ≤ 10000 := by rw [bs_size]; exact itoa_len h h'
theorem ret_str {a b : ByteArray} {c : Value} (h : a = b) : Ending.returned (.tuple #[.string a, c]) = .returned (.tuple #[.string b, c]) := by rw [h]
set_option maxHeartbeats 4000000 in
theorem Text_any (h : HN) (w : World) (hl : h.fit) (hg : Glob w) : Calls Tryz.prog 104 #[hval h] w fun e w' => e = .returned (.tuple #[.string (if h.valid then bs (textP h) else bs []), .int .i64 (if h.valid then 0 else 1)]) ∧ Below w.heap.size w w' := by
  have HB := hide (HBox.new w h)
  have HB0 := hide ((Below.refl w.heap.size w).alloc (Nat.le_refl _) (.cells #[.int .i64 h.n, .string ⟨h.l.toArray⟩, .int .i64 h.num, .int .i64 h.den] 93))
  have HL := hide hl
  clear hl
  cases h1 : h.valid
  · have H1 := hide h1
    clear h1
    simp only [Bool.false_eq_true, if_false]
    go_enter Tryz.func104, Tryz.ntmps104
    unfold hval
    go_wp2_with fail
    refine (Valid_any h _ HL.out).mono ?_
    rintro e w1 ⟨rfl, hb⟩
    have HB1 := hide (HB0.out.trans (hb.mono HB0.out.size))
    clear hb
    rw [H1.out]
    go_wp2_with fail
    go_ret2
    exact ⟨rfl, HB1.out⟩
  · obtain ⟨n1, n2, l1, p1⟩ := (valid_iff h).1 h1
    obtain ⟨d1, d2, d3, d4, d5⟩ := place_den p1
    have H1 := hide h1
    have HP := hide (And.intro l1 d1)
    clear h1 l1 d1 p1
    simp only [if_true]
    go_enter Tryz.func104, Tryz.ntmps104
    unfold hval
    go_wp2_with fail
    refine (Valid_any h _ HL.out).mono ?_
    rintro e w1 ⟨rfl, hb⟩
    have HB1 := hide (HB0.out.trans (hb.mono HB0.out.size))
    have HX1 := hide (HB.out.below hb (by simp))
    have HG1 := hide (hg.below HB1.out (Nat.le_refl _))
    have HS1 : Hid (w.heap.size < w1.heap.size) := by have := hb.size; simp at this; exact this
    clear hb
    rw [H1.out]
    go_wp2_with fail
    obtain ⟨U, hU, g, hgu, hi⟩ := the_class (fun w' => Below w1.heap.size w1 w') (Below.refl w1.heap.size w1)
    have q0 := fun u => (HX1.out.below (hgu u) HS1.out).facts.1
    have q1 := fun u => (HX1.out.below (hgu u) HS1.out).facts.2.1
    have z1 : ¬ 9223372036854775807 < (bs (Lib.itoa h.n)).size + (ByteArray.mk h.l.toArray).size := by have := bs_fit n1 n2 HP.out.1; omega
    refine wp_region_class g (by kernel_rfl) (by kernel_rfl) (hi _ (Below.refl w1.heap.size w1).drew) ?_
    repeat (go_big_quiet_step (first
      | exact class_call hi ((Itoa_any _ (by omega) (by omega) _ (HG1.out.below (hgu _) (Nat.le_refl _))).mono (fun _ _ h => ⟨h.1, (hgu _).trans (h.2.mono (hgu _).size)⟩))))
    refine wpQuiet_nil ?_
    intro w2 hw2
    obtain ⟨u, rfl⟩ := hw2
    have HB2 := hide (HB1.out.trans ((hgu u).mono HB1.out.size))
    have HX2 := hide (HX1.out.below (hgu u) HS1.out)
    have HG2 := hide (HG1.out.below (hgu u) (Nat.le_refl _))
    have HS2 : Hid (w.heap.size < (g u).heap.size) := by have := (hgu u).size; have := HS1.out; simp only [Hid]; omega
    clear q0 q1 hi HB1 HX1 HG1 HS1 hgu z1
    obtain ⟨_, _, c2, c3⟩ := HX2.out.facts
    generalize g u = w2 at *
    clear g
    by_cases hd : 0 < h.den
    · have HV : Hid (textP h = Lib.itoa h.n ++ h.l ++ ([32] ++ Lib.itoa h.num ++ [47] ++ Lib.itoa h.den)) := by show _ = _; unfold textP fracP; rw [if_pos hd]
      go_wp2_with fail
      obtain ⟨U, hU, g, hgu, hi⟩ := the_class (fun w' => Below w2.heap.size w2 w') (Below.refl w2.heap.size w2)
      have q0 := fun u => (HX2.out.below (hgu u) HS2.out).facts.2.2.1
      have q1 := fun u => (HX2.out.below (hgu u) HS2.out).facts.2.2.2
      have z1 : (bs (Lib.itoa h.n)).size + h.l.length ≤ 10001 := bs_fit' n1 n2 HP.out.1
      have z2 := itoa_size d4 (by omega)
      have z3 := itoa_size d2 (by omega)
      refine wp_region_class g (by kernel_rfl) (by kernel_rfl) (hi _ (Below.refl w2.heap.size w2).drew) ?_
      repeat (go_big_quiet_step (first
        | exact class_call hi ((Itoa_any _ (by omega) (by omega) _ (HG2.out.below (hgu _) (Nat.le_refl _))).mono (fun _ _ h => ⟨h.1, (hgu _).trans (h.2.mono (hgu _).size)⟩))))
      refine wpQuiet_nil ?_
      intro w3 hw3
      obtain ⟨u, rfl⟩ := hw3
      have HB3 := hide (HB2.out.trans ((hgu u).mono HB2.out.size))
      clear q0 q1 hi HB2 HX2 HG2 HS2 hgu z1 z2 z3
      generalize g u = w3 at *
      clear g
      go_wp2_with fail
      go_ret2
      refine ⟨?_, HB3.out⟩
      refine ret_str ?_
      rw [HV.out]
      simp only [← bs_app]
      rfl
    · have HV : Hid (textP h = Lib.itoa h.n ++ h.l) := by show _ = _; unfold textP fracP; rw [if_neg hd]; simp
      go_wp2_with fail
      go_ret2
      refine ⟨?_, HB2.out⟩
      refine ret_str ?_
      rw [HV.out]
      simp only [← bs_app]
      rfl
end Go.Proofs.YtdcafoekbnacnaaGreatDoor

/- Walks of package number: Parse. -/
set_option linter.unusedVariables false
set_option linter.unusedSimpArgs false
namespace Go.Proofs.YtdcafoekbnacnaaGreatDoor
open Go.RowKit Go.Shelf

theorem hNew2 (w : World) (a b : HN) : HBox ((w.alloc (.cells #[.int .i64 a.n, .string ⟨a.l.toArray⟩, .int .i64 a.num, .int .i64 a.den] 93)).alloc (.cells #[.int .i64 b.n, .string ⟨b.l.toArray⟩, .int .i64 b.num, .int .i64 b.den] 93)) w.heap.size a ∧
    HBox ((w.alloc (.cells #[.int .i64 a.n, .string ⟨a.l.toArray⟩, .int .i64 a.num, .int .i64 a.den] 93)).alloc (.cells #[.int .i64 b.n, .string ⟨b.l.toArray⟩, .int .i64 b.num, .int .i64 b.den] 93)) (w.heap.size + 1) b := by
  refine ⟨(HBox.new w a).below (Below.alloc (Below.refl _ _) (Nat.le_refl _) _) (by simp), ?_⟩
  have := HBox.new (w.alloc (.cells #[.int .i64 a.n, .string ⟨a.l.toArray⟩, .int .i64 a.num, .int .i64 a.den] 93)) b
  simpa using this
theorem Atoi_any (l : List UInt8) (hl : l.length ≤ 100000) (w : World) (hg : Glob w) : Calls Tryz.prog 103 #[.string (bs l)] w fun e w' => ∃ err, e = .returned (.tuple #[.int .i64 (atoiV l), err]) ∧ Below w.heap.size w w' := by
  have hs := bs_size l
  cases h : Lib.atoiAll l with
  | ok v =>
    refine (Tryz.strconv_Atoi_ok (bs l) (by omega) v (by rw [bs_list]; exact h) w).mono ?_
    rintro e w' ⟨rfl, hw⟩
    refine ⟨.nilIface, by unfold atoiV; rw [h], ?_⟩
    rcases hw with rfl | ⟨t, rfl⟩
    · exact Below.refl _ _
    · exact Lib.bytesWorld_below _ _ _
  | range =>
    obtain ⟨ev, h1, h2⟩ := hg.rng
    refine (Tryz.strconv_Atoi_range (bs l) (by omega) (by rw [bs_list]; exact h) ev w h1 h2).mono ?_
    rintro e w' ⟨N, rfl, _, _, hb⟩
    exact ⟨_, by unfold atoiV; rw [h, bs_list], hb⟩
  | _ =>
    obtain ⟨ev, h1, h2⟩ := hg.syn
    refine (Tryz.strconv_Atoi_bad (bs l) (by omega) (by rw [bs_list, h]; simp) (by rw [bs_list, h]; simp) ev w h1 h2).mono ?_
    rintro e w' ⟨N, rfl, _, _, hb⟩
    exact ⟨_, by unfold atoiV; rw [h], hb⟩
theorem Cut_any (l s : List UInt8) (hl : l.length ≤ 100000) (w : World) (hg : Glob w) : Calls Tryz.prog 101 #[.string (bs l), .string (bs s)] w fun e w' => e = .returned (.tuple #[.string (bs (Lib.cut l s).1), .string (bs (Lib.cut l s).2.1), .bool (Lib.cut l s).2.2]) ∧ Below w.heap.size w w' := by
  have hs := bs_size l
  obtain ⟨m, hm⟩ := hg.len
  refine (Tryz.strings_Cut (bs l) (bs s) m w (by omega) hm).mono ?_
  rintro e w' ⟨rfl, n, rfl⟩
  refine ⟨?_, below_drewN (Below.refl _ _) n⟩
  rw [bs_list, bs_list]; rfl
theorem Trim_any (l : List UInt8) (hl : l.length ≤ 100000) (w : World) : Calls Tryz.prog 102 #[.string (bs l), .string (bs lowers)] w fun e w' => e = .returned (.string (bs (Lib.trimRightS l lowers))) ∧ Below w.heap.size w w' := by
  have hs := bs_size l
  refine (Any.strings_TrimRight_laid Tryz.lays162 (by kernel_rfl) (bs l) (bs lowers) w (by omega) (by rw [bs_size]; decide) (fun j b h => ?_)).mono ?_
  · rw [bs_list] at h
    have : b ∈ lowers := List.mem_of_getElem? h
    have h2 := lowers_iff b
    rw [List.contains_iff_mem.2 this] at h2
    have h3 := h2.symm
    simp only [Bool.and_eq_true, decide_eq_true_eq] at h3
    omega
  · rintro e w' ⟨rfl, hb⟩
    rw [bs_list, bs_list]
    exact ⟨rfl, hb⟩
theorem cut_len (l s : List UInt8) : (Lib.cut l s).1.length ≤ l.length ∧ (Lib.cut l s).2.1.length ≤ l.length := by
  unfold Lib.cut
  split <;> simp
  omega
theorem trim_pre (l cs : List UInt8) : Lib.trimRightS l cs <+: l := by
  unfold Lib.trimRightS
  have h := List.dropWhile_suffix (fun c => cs.contains c) (l := l.reverse)
  have := List.reverse_prefix.2 h
  simpa using this
theorem Glob.below8 {w w' : World} {B : Nat} (h : Glob w) (hb : Below B w w') (hB : Tryz.prog.globals.size ≤ B) : Glob w' := h.belowB hb hB
def outP (t : List UInt8) : HN := (parseP t).getD ⟨0, [], 0, 0⟩
def errP (t : List UInt8) : Int := if (parseP t).isSome then 0 else 5
theorem results_cell_tmp {P : Program} {fn : Func} {p u : Tmp} {ty : TypeId} (h : fn.results = #[.cell p ty, .tmp u]) (tmps : Array Value) (w : World) (g : Nat) (t : TypeId) (cs : Array Value) (d : TypeDesc)
    (hp : tmps.getD p undef = .pointer (some ⟨g, 0, none⟩)) (hg : Blk w g t cs)
    (hu : P.underlying ty = some d) (hd : (match d with | .struct _ | .array _ _ => true | _ => false) = true) (hi : (P.info? ty).map (·.size) = some cs.size) :
    (results fn tmps).run P w = .ok (.tuple #[.agg cs, tmps.getD u undef]) w := by
  have hp' : tmps[p]?.getD undef = .pointer (some ⟨g, 0, none⟩) := by simpa using hp
  simp [results, h, hp', asAddr, run_loadVar_row w g t ty cs (0, 0) d hg hu hd hi]
theorem ret_hn {a b : HN} {x y : Int} (h : a = b) (h' : x = y) : Ending.returned (.tuple #[.agg (hCells a), .int .i64 x]) = .returned (.tuple #[hval b, .int .i64 y]) := by rw [h, h']; rfl
theorem parse_bad {t : List UInt8} {c : HN} (h : candP t = c) (hv : c.valid = false) : outP t = ⟨0, [], 0, 0⟩ ∧ errP t = 5 := by
  unfold outP errP parseP
  rw [h, hv]; exact ⟨rfl, rfl⟩
theorem parse_ne {t : List UInt8} {c : HN} (h : candP t = c) (hv : c.valid = true) (he : ¬ textP c = t) : outP t = ⟨0, [], 0, 0⟩ ∧ errP t = 5 := by
  unfold outP errP parseP
  rw [h, hv]; simp [he]
theorem parse_ok {t : List UInt8} {c : HN} (h : candP t = c) (hv : c.valid = true) (he : textP c = t) : outP t = c ∧ errP t = 0 := by
  unfold outP errP parseP
  rw [h, hv]; simp [he]
set_option maxHeartbeats 1500000 in
theorem Parse_any (t : List UInt8) (w : World) (ht : t.length ≤ 100000) (hg : Glob w) : Calls Tryz.prog 64 #[.string (bs t)] w fun e w' => e = .returned (.tuple #[hval (outP t), .int .i64 (errP t)]) ∧ Below w.heap.size w w' := by
  have hg8 := hg.top
  have HA := hide (hNew2 w ⟨0, [], 0, 0⟩ ⟨0, [], 0, 0⟩).1
  have HB := hide (hNew2 w ⟨0, [], 0, 0⟩ ⟨0, [], 0, 0⟩).2
  have HB0 := hide (((Below.refl w.heap.size w).alloc (Nat.le_refl _) (.cells #[.int .i64 0, .string (bs []), .int .i64 0, .int .i64 0] 93)).alloc (by simp) (.cells #[.int .i64 0, .string (bs []), .int .i64 0, .int .i64 0] 93))
  go_enter Tryz.func64, Tryz.ntmps64
  obtain ⟨F, R, isR, HC⟩ : ∃ F R isR, Hid (Lib.cut t [32] = (F, R, isR)) := ⟨_, _, _, rfl⟩
  obtain ⟨N, M, isM, HD⟩ : ∃ N M isM, Hid (Lib.cut R [47] = (N, M, isM)) := ⟨_, _, _, rfl⟩
  obtain ⟨D, HT⟩ : ∃ D, Hid (Lib.trimRightS F lowers = D) := ⟨_, rfl⟩
  go_wp2_with fail
  refine (Cut_any t [32] ht _ ((hg.alloc _).alloc _)).mono ?_
  simp only [HC.out]
  rintro e w1 ⟨rfl, hb⟩
  have HB1 := hide (HB0.out.trans (hb.mono HB0.out.size))
  have HX1 := hide (HB.out.below hb (by simp))
  have HY1 := hide (HA.out.below hb (by simp; omega))
  have HG1 := hide (hg.below HB1.out (Nat.le_refl _))
  have HS1 : Hid (w.heap.size + 1 < w1.heap.size) := by have := hb.size; simp at this; exact this
  have lF : F.length ≤ 100000 := by have := (cut_len t [32]).1; rw [HC.out] at this; simp only at this; omega
  have lR : R.length ≤ 100000 := by have := (cut_len t [32]).2; rw [HC.out] at this; simp only at this; omega
  clear hb hg HA HB HB0
  go_wp2_with fail
  refine (Trim_any F lF _).mono ?_
  simp only [HT.out]
  rintro e w2 ⟨rfl, hb⟩
  have HB2 := hide (HB1.out.trans (hb.mono HB1.out.size))
  have HX2 := hide (HX1.out.below hb HS1.out)
  have HG2 := hide (HG1.out.below hb (Nat.le_refl _))
  have HY2 := hide (HY1.out.below hb (by have := HS1.out; omega))
  have HS2 : Hid (w.heap.size + 1 < w2.heap.size) := by have := hb.size; have := HS1.out; simp only [Hid]; omega
  have lD : D.length ≤ F.length := by have := (trim_pre F lowers).length_le; rw [HT.out] at this; exact this
  clear hb HG1 HX1 HY1 HB1 HS1
  go_wp2_with fail
  refine (Atoi_any D (by omega) _ HG2.out).mono ?_
  rintro e w3 ⟨er, rfl, hb⟩
  have HB3 := hide (HB2.out.trans (hb.mono HB2.out.size))
  have HX3 := hide (HX2.out.below hb HS2.out)
  have HG3 := hide (HG2.out.below hb (Nat.le_refl _))
  have HY3 := hide (HY2.out.below hb (by have := HS2.out; omega))
  have HS3 : Hid (w.heap.size + 1 < w3.heap.size) := by have := hb.size; have := HS2.out; simp only [Hid]; omega
  clear hb HG2 HX2 HB2 HS2 HY2
  have lFs := bs_size F
  have lDs := bs_size D
  obtain ⟨c0, c1, _, _⟩ := HX3.out.facts
  have f0 := HX3.out.blk.frozen 0
  have f1 := HX3.out.blk.frozen 1
  have HT0 : Hid (Tryz.prog.globals.size ≤ w.heap.size) := hg8
  go_wp2_with fail
  rw [bs_drop]
  obtain ⟨L, HLL⟩ : ∃ L, Hid (F.drop D.length = L) := ⟨_, rfl⟩
  rw [HLL.out]
  have HX4 := hide (HBox.mk ((HX3.out.blk.set_ 0 (.int .i64 (atoiV D))).set_ 1 (.string (bs L))) : HBox _ _ ⟨atoiV D, L, 0, 0⟩)
  have HY4 := hide (HBox.mk ((HY3.out.blk.far (p := ⟨w.heap.size + 1, 0, none⟩) (by simp) (.int .i64 (atoiV D))).far (p := ⟨w.heap.size + 1, 1, none⟩) (by simp) (.string (bs L))) : HBox _ _ ⟨0, [], 0, 0⟩)
  have HB4 := hide ((HB3.out.setCell (p := ⟨w.heap.size + 1, 0, none⟩) (by simp) (.int .i64 (atoiV D))).setCell (p := ⟨w.heap.size + 1, 1, none⟩) (by simp) (.string (bs L)))
  have HG4 := hide (HG3.out.below8 (((Below.refl w.heap.size w3).setCell (p := ⟨w.heap.size + 1, 0, none⟩) (by simp) (.int .i64 (atoiV D))).setCell (p := ⟨w.heap.size + 1, 1, none⟩) (by simp) (.string (bs L))) HT0.out)
  have HS4 : Hid (w.heap.size + 1 < ((w3.setCell ⟨w.heap.size + 1, 0, none⟩ (.int .i64 (atoiV D))).setCell ⟨w.heap.size + 1, 1, none⟩ (.string (bs L))).heap.size) := by
    have := HX4.out.blk.lt; exact this
  generalize (w3.setCell ⟨w.heap.size + 1, 0, none⟩ (.int .i64 (atoiV D))).setCell ⟨w.heap.size + 1, 1, none⟩ (.string (bs L)) = w4 at *
  clear HX3 HY3 HB3 HG3 HS3 c0 c1 f0 f1
  refine (Cut_any R [47] lR _ HG4.out).mono ?_
  simp only [HD.out]
  rintro e w5 ⟨rfl, hb⟩
  have HB5 := hide (HB4.out.trans (hb.mono HB4.out.size))
  have HX5 := hide (HX4.out.below hb HS4.out)
  have HY5 := hide (HY4.out.below hb (by have := HS4.out; omega))
  have HG5 := hide (HG4.out.below hb (Nat.le_refl _))
  have HS5 : Hid (w.heap.size + 1 < w5.heap.size) := by have := hb.size; have := HS4.out; simp only [Hid]; omega
  have lN : N.length ≤ 100000 := by have := (cut_len R [47]).1; rw [HD.out] at this; simp only at this; omega
  have lM : M.length ≤ 100000 := by have := (cut_len R [47]).2; rw [HD.out] at this; simp only at this; omega
  clear hb HB4 HX4 HY4 HG4 HS4
  have HFT : Hid (∀ a b c, HN.fit ⟨a, L, b, c⟩) := fun a b c => by
    have : (bs L).size = L.length := bs_size L
    have h2 : L.length ≤ F.length := by rw [← HLL.out]; simp
    show (bs L).size ≤ maxLen
    unfold maxLen; omega
  cases isM
  · have HCC : Hid (candP t = ⟨atoiV D, L, 0, 0⟩) := by
      show _ = _
      unfold candP; simp only [HC.out, HD.out, HT.out, HLL.out]; rfl
    have HP0 := hide (parse_bad (t := t) (c := ⟨atoiV D, L, 0, 0⟩))
    have HP1 := hide (parse_ne (t := t) (c := ⟨atoiV D, L, 0, 0⟩))
    have HP2 := hide (parse_ok (t := t) (c := ⟨atoiV D, L, 0, 0⟩))
    obtain ⟨c0, c1, c2, c3⟩ := HX5.out.facts
    go_wp2_with fail
    refine (Text_any ⟨atoiV D, L, 0, 0⟩ _ (HFT.out _ _ _) HG5.out).mono ?_
    rintro e w7 ⟨rfl, hb⟩
    have HB7 := hide (HB5.out.trans (hb.mono HB5.out.size))
    have HX7 := hide (HX5.out.below hb HS5.out)
    have HY7 := hide (HY5.out.below hb (by have := HS5.out; omega))
    have HS7 : Hid (w.heap.size + 1 < w7.heap.size) := by have := hb.size; have := HS5.out; simp only [Hid]; omega
    clear hb HB5 HX5 HY5 HG5 HS5 c0 c1 c2 c3
    obtain ⟨y0, y1, y2, y3⟩ := HY7.out.facts
    have f0 := HY7.out.blk.frozen 0
    have f1 := HY7.out.blk.frozen 1
    have f2 := HY7.out.blk.frozen 2
    have f3 := HY7.out.blk.frozen 3
    cases hv : HN.valid ⟨atoiV D, L, 0, 0⟩
    · have HQ := hide (HP0.out HCC.out hv)
      clear HP0 HP1 HP2 hv
      simp only [Bool.false_eq_true, if_false]
      go_wp2_with fail
      have HZ := hide (HBox.mk ((((HY7.out.blk.set_ 0 (.int .i64 0)).set_ 1 (.string ⟨#[]⟩)).set_ 2 (.int .i64 0)).set_ 3 (.int .i64 0)) : HBox _ _ ⟨0, [], 0, 0⟩)
      have HW := hide ((((HB7.out.setCell (p := ⟨w.heap.size, 0, none⟩) (Nat.le_refl _) (.int .i64 0)).setCell (p := ⟨w.heap.size, 1, none⟩) (Nat.le_refl _) (.string ⟨#[]⟩)).setCell (p := ⟨w.heap.size, 2, none⟩) (Nat.le_refl _) (.int .i64 0)).setCell (p := ⟨w.heap.size, 3, none⟩) (Nat.le_refl _) (.int .i64 0))
      generalize (((w7.setCell ⟨w.heap.size, 0, none⟩ (.int .i64 0)).setCell ⟨w.heap.size, 1, none⟩ (.string ⟨#[]⟩)).setCell ⟨w.heap.size, 2, none⟩ (.int .i64 0)).setCell ⟨w.heap.size, 3, none⟩ (.int .i64 0) = w8 at *
      refine bodyPost_ret (results_cell_tmp rfl _ _ w.heap.size 93 _ _ rfl HZ.out.blk Tryz.underlying93 rfl (by kernel_rfl)) rfl ?_
      exact ⟨ret_hn HQ.out.1.symm HQ.out.2.symm, HW.out⟩
    · simp only [if_true]
      by_cases he : textP ⟨atoiV D, L, 0, 0⟩ = t
      · have HQ := hide (HP2.out HCC.out hv he)
        clear HP0 HP1 HP2 hv
        rw [he]
        obtain ⟨c0, c1, c2, c3⟩ := HX7.out.facts
        go_wp2_with fail
        have HZ := hide (HBox.mk ((((HY7.out.blk.set_ 0 (.int .i64 (atoiV D))).set_ 1 (.string ⟨L.toArray⟩)).set_ 2 (.int .i64 0)).set_ 3 (.int .i64 0)) : HBox _ _ ⟨atoiV D, L, 0, 0⟩)
        have HW := hide ((((HB7.out.setCell (p := ⟨w.heap.size, 0, none⟩) (Nat.le_refl _) (.int .i64 (atoiV D))).setCell (p := ⟨w.heap.size, 1, none⟩) (Nat.le_refl _) (.string ⟨L.toArray⟩)).setCell (p := ⟨w.heap.size, 2, none⟩) (Nat.le_refl _) (.int .i64 0)).setCell (p := ⟨w.heap.size, 3, none⟩) (Nat.le_refl _) (.int .i64 0))
        generalize (((w7.setCell ⟨w.heap.size, 0, none⟩ (.int .i64 (atoiV D))).setCell ⟨w.heap.size, 1, none⟩ (.string ⟨L.toArray⟩)).setCell ⟨w.heap.size, 2, none⟩ (.int .i64 0)).setCell ⟨w.heap.size, 3, none⟩ (.int .i64 0) = w8 at *
        refine bodyPost_ret (results_cell_tmp rfl _ _ w.heap.size 93 _ _ rfl HZ.out.blk Tryz.underlying93 rfl (by kernel_rfl)) rfl ?_
        exact ⟨ret_hn HQ.out.1.symm HQ.out.2.symm, HW.out⟩
      · have HQ := hide (HP1.out HCC.out hv he)
        have hne : bs (textP ⟨atoiV D, L, 0, 0⟩) ≠ bs t := fun h => he (bs_inj h)
        have hnb : ((bs (textP ⟨atoiV D, L, 0, 0⟩)).toList == (bs t).toList) = false := by rw [ByteArray.toList_eq, ByteArray.toList_eq, bs_list, bs_list]; simpa using he
        clear he
        clear HP0 HP1 HP2 hv
        go_wp2_with fail
        have HZ := hide (HBox.mk ((((HY7.out.blk.set_ 0 (.int .i64 0)).set_ 1 (.string ⟨#[]⟩)).set_ 2 (.int .i64 0)).set_ 3 (.int .i64 0)) : HBox _ _ ⟨0, [], 0, 0⟩)
        have HW := hide ((((HB7.out.setCell (p := ⟨w.heap.size, 0, none⟩) (Nat.le_refl _) (.int .i64 0)).setCell (p := ⟨w.heap.size, 1, none⟩) (Nat.le_refl _) (.string ⟨#[]⟩)).setCell (p := ⟨w.heap.size, 2, none⟩) (Nat.le_refl _) (.int .i64 0)).setCell (p := ⟨w.heap.size, 3, none⟩) (Nat.le_refl _) (.int .i64 0))
        generalize (((w7.setCell ⟨w.heap.size, 0, none⟩ (.int .i64 0)).setCell ⟨w.heap.size, 1, none⟩ (.string ⟨#[]⟩)).setCell ⟨w.heap.size, 2, none⟩ (.int .i64 0)).setCell ⟨w.heap.size, 3, none⟩ (.int .i64 0) = w8 at *
        refine bodyPost_ret (results_cell_tmp rfl _ _ w.heap.size 93 _ _ rfl HZ.out.blk Tryz.underlying93 rfl (by kernel_rfl)) rfl ?_
        exact ⟨ret_hn HQ.out.1.symm HQ.out.2.symm, HW.out⟩
  · have HCC : Hid (candP t = ⟨atoiV D, L, atoiV N, atoiV M⟩) := by
      show _ = _
      unfold candP; simp only [HC.out, HD.out, HT.out, HLL.out]; rfl
    go_wp2_with fail
    refine (Atoi_any N lN _ HG5.out).mono ?_
    rintro e w6 ⟨er2, rfl, hb⟩
    have HB6 := hide (HB5.out.trans (hb.mono HB5.out.size))
    have HX6 := hide (HX5.out.below hb HS5.out)
    have HY6 := hide (HY5.out.below hb (by have := HS5.out; omega))
    have HG6 := hide (HG5.out.below hb (Nat.le_refl _))
    have HS6 : Hid (w.heap.size + 1 < w6.heap.size) := by have := hb.size; have := HS5.out; simp only [Hid]; omega
    clear hb HB5 HX5 HY5 HG5 HS5
    obtain ⟨_, _, c2, _⟩ := HX6.out.facts
    have f2 := HX6.out.blk.frozen 2
    go_wp2_with fail
    have HX8 := hide (HBox.mk (HX6.out.blk.set_ 2 (.int .i64 (atoiV N))) : HBox _ _ ⟨atoiV D, L, atoiV N, 0⟩)
    have HY8 := hide (HBox.mk (HY6.out.blk.far (p := ⟨w.heap.size + 1, 2, none⟩) (by simp) (.int .i64 (atoiV N))) : HBox _ _ ⟨0, [], 0, 0⟩)
    have HB8 := hide (HB6.out.setCell (p := ⟨w.heap.size + 1, 2, none⟩) (by simp) (.int .i64 (atoiV N)))
    have HG8 := hide (HG6.out.below8 ((Below.refl w.heap.size w6).setCell (p := ⟨w.heap.size + 1, 2, none⟩) (by simp) (.int .i64 (atoiV N))) HT0.out)
    have HS8 : Hid (w.heap.size + 1 < (w6.setCell ⟨w.heap.size + 1, 2, none⟩ (.int .i64 (atoiV N))).heap.size) := by have := HX8.out.blk.lt; exact this
    generalize w6.setCell ⟨w.heap.size + 1, 2, none⟩ (.int .i64 (atoiV N)) = w8 at *
    clear HX6 HY6 HB6 HG6 HS6 c2 f2
    refine (Atoi_any M lM _ HG8.out).mono ?_
    rintro e w9 ⟨er3, rfl, hb⟩
    have HB9 := hide (HB8.out.trans (hb.mono HB8.out.size))
    have HX9 := hide (HX8.out.below hb HS8.out)
    have HY9 := hide (HY8.out.below hb (by have := HS8.out; omega))
    have HG9 := hide (HG8.out.below hb (Nat.le_refl _))
    have HS9 : Hid (w.heap.size + 1 < w9.heap.size) := by have := hb.size; have := HS8.out; simp only [Hid]; omega
    clear hb HB8 HX8 HY8 HG8 HS8
    obtain ⟨a0, a1, a2, a3⟩ := HX9.out.facts
    have f3 := HX9.out.blk.frozen 3
    have HXb := hide (HBox.mk (HX9.out.blk.set_ 3 (.int .i64 (atoiV M))) : HBox _ _ ⟨atoiV D, L, atoiV N, atoiV M⟩)
    have HYb := hide (HBox.mk (HY9.out.blk.far (p := ⟨w.heap.size + 1, 3, none⟩) (by simp) (.int .i64 (atoiV M))) : HBox _ _ ⟨0, [], 0, 0⟩)
    have HBb := hide (HB9.out.setCell (p := ⟨w.heap.size + 1, 3, none⟩) (by simp) (.int .i64 (atoiV M)))
    have HGb := hide (HG9.out.below8 ((Below.refl w.heap.size w9).setCell (p := ⟨w.heap.size + 1, 3, none⟩) (by simp) (.int .i64 (atoiV M))) HT0.out)
    have HSb : Hid (w.heap.size + 1 < (w9.setCell ⟨w.heap.size + 1, 3, none⟩ (.int .i64 (atoiV M))).heap.size) := by have := HXb.out.blk.lt; exact this
    clear HX9 HY9 HB9 HG9 HS9
    have HP0 := hide (parse_bad (t := t) (c := ⟨atoiV D, L, atoiV N, atoiV M⟩))
    have HP1 := hide (parse_ne (t := t) (c := ⟨atoiV D, L, atoiV N, atoiV M⟩))
    have HP2 := hide (parse_ok (t := t) (c := ⟨atoiV D, L, atoiV N, atoiV M⟩))
    obtain ⟨c0, c1, c2, c3⟩ := HXb.out.facts
    go_wp2_with fail
    refine (Text_any ⟨atoiV D, L, atoiV N, atoiV M⟩ _ (HFT.out _ _ _) HGb.out).mono ?_
    rintro e w7 ⟨rfl, hb⟩
    have HB7 := hide (HBb.out.trans (hb.mono HBb.out.size))
    have HX7 := hide (HXb.out.below hb HSb.out)
    have HY7 := hide (HYb.out.below hb (by have := HSb.out; omega))
    have HS7 : Hid (w.heap.size + 1 < w7.heap.size) := by have := hb.size; have := HSb.out; simp only [Hid]; omega
    clear hb HBb HXb HYb HGb HSb c0 c1 c2 c3
    obtain ⟨y0, y1, y2, y3⟩ := HY7.out.facts
    have f0 := HY7.out.blk.frozen 0
    have f1 := HY7.out.blk.frozen 1
    have f2 := HY7.out.blk.frozen 2
    have f3 := HY7.out.blk.frozen 3
    cases hv : HN.valid ⟨atoiV D, L, atoiV N, atoiV M⟩
    · have HQ := hide (HP0.out HCC.out hv)
      clear HP0 HP1 HP2 hv
      simp only [Bool.false_eq_true, if_false]
      go_wp2_with fail
      have HZ := hide (HBox.mk ((((HY7.out.blk.set_ 0 (.int .i64 0)).set_ 1 (.string ⟨#[]⟩)).set_ 2 (.int .i64 0)).set_ 3 (.int .i64 0)) : HBox _ _ ⟨0, [], 0, 0⟩)
      have HW := hide ((((HB7.out.setCell (p := ⟨w.heap.size, 0, none⟩) (Nat.le_refl _) (.int .i64 0)).setCell (p := ⟨w.heap.size, 1, none⟩) (Nat.le_refl _) (.string ⟨#[]⟩)).setCell (p := ⟨w.heap.size, 2, none⟩) (Nat.le_refl _) (.int .i64 0)).setCell (p := ⟨w.heap.size, 3, none⟩) (Nat.le_refl _) (.int .i64 0))
      generalize (((w7.setCell ⟨w.heap.size, 0, none⟩ (.int .i64 0)).setCell ⟨w.heap.size, 1, none⟩ (.string ⟨#[]⟩)).setCell ⟨w.heap.size, 2, none⟩ (.int .i64 0)).setCell ⟨w.heap.size, 3, none⟩ (.int .i64 0) = w8 at *
      refine bodyPost_ret (results_cell_tmp rfl _ _ w.heap.size 93 _ _ rfl HZ.out.blk Tryz.underlying93 rfl (by kernel_rfl)) rfl ?_
      exact ⟨ret_hn HQ.out.1.symm HQ.out.2.symm, HW.out⟩
    · simp only [if_true]
      by_cases he : textP ⟨atoiV D, L, atoiV N, atoiV M⟩ = t
      · have HQ := hide (HP2.out HCC.out hv he)
        clear HP0 HP1 HP2 hv
        rw [he]
        obtain ⟨c0, c1, c2, c3⟩ := HX7.out.facts
        go_wp2_with fail
        have HZ := hide (HBox.mk ((((HY7.out.blk.set_ 0 (.int .i64 (atoiV D))).set_ 1 (.string ⟨L.toArray⟩)).set_ 2 (.int .i64 (atoiV N))).set_ 3 (.int .i64 (atoiV M))) : HBox _ _ ⟨atoiV D, L, atoiV N, atoiV M⟩)
        have HW := hide ((((HB7.out.setCell (p := ⟨w.heap.size, 0, none⟩) (Nat.le_refl _) (.int .i64 (atoiV D))).setCell (p := ⟨w.heap.size, 1, none⟩) (Nat.le_refl _) (.string ⟨L.toArray⟩)).setCell (p := ⟨w.heap.size, 2, none⟩) (Nat.le_refl _) (.int .i64 (atoiV N))).setCell (p := ⟨w.heap.size, 3, none⟩) (Nat.le_refl _) (.int .i64 (atoiV M)))
        generalize (((w7.setCell ⟨w.heap.size, 0, none⟩ (.int .i64 (atoiV D))).setCell ⟨w.heap.size, 1, none⟩ (.string ⟨L.toArray⟩)).setCell ⟨w.heap.size, 2, none⟩ (.int .i64 (atoiV N))).setCell ⟨w.heap.size, 3, none⟩ (.int .i64 (atoiV M)) = w8 at *
        refine bodyPost_ret (results_cell_tmp rfl _ _ w.heap.size 93 _ _ rfl HZ.out.blk Tryz.underlying93 rfl (by kernel_rfl)) rfl ?_
        exact ⟨ret_hn HQ.out.1.symm HQ.out.2.symm, HW.out⟩
      · have HQ := hide (HP1.out HCC.out hv he)
        have hne : bs (textP ⟨atoiV D, L, atoiV N, atoiV M⟩) ≠ bs t := fun h => he (bs_inj h)
        have hnb : ((bs (textP ⟨atoiV D, L, atoiV N, atoiV M⟩)).toList == (bs t).toList) = false := by rw [ByteArray.toList_eq, ByteArray.toList_eq, bs_list, bs_list]; simpa using he
        clear he
        clear HP0 HP1 HP2 hv
        go_wp2_with fail
        have HZ := hide (HBox.mk ((((HY7.out.blk.set_ 0 (.int .i64 0)).set_ 1 (.string ⟨#[]⟩)).set_ 2 (.int .i64 0)).set_ 3 (.int .i64 0)) : HBox _ _ ⟨0, [], 0, 0⟩)
        have HW := hide ((((HB7.out.setCell (p := ⟨w.heap.size, 0, none⟩) (Nat.le_refl _) (.int .i64 0)).setCell (p := ⟨w.heap.size, 1, none⟩) (Nat.le_refl _) (.string ⟨#[]⟩)).setCell (p := ⟨w.heap.size, 2, none⟩) (Nat.le_refl _) (.int .i64 0)).setCell (p := ⟨w.heap.size, 3, none⟩) (Nat.le_refl _) (.int .i64 0))
        generalize (((w7.setCell ⟨w.heap.size, 0, none⟩ (.int .i64 0)).setCell ⟨w.heap.size, 1, none⟩ (.string ⟨#[]⟩)).setCell ⟨w.heap.size, 2, none⟩ (.int .i64 0)).setCell ⟨w.heap.size, 3, none⟩ (.int .i64 0) = w8 at *
        refine bodyPost_ret (results_cell_tmp rfl _ _ w.heap.size 93 _ _ rfl HZ.out.blk Tryz.underlying93 rfl (by kernel_rfl)) rfl ?_
        exact ⟨ret_hn HQ.out.1.symm HQ.out.2.symm, HW.out⟩
end Go.Proofs.YtdcafoekbnacnaaGreatDoor

/- Package scheme: Fits. -/
set_option linter.unusedVariables false
set_option linter.unusedSimpArgs false
namespace Go.Proofs.YtdcafoekbnacnaaGreatDoor
open Go.RowKit Go.Shelf

def numB (t : List UInt8) : Bool := decide (errP t = 0)
/-- the loop of Fits -/
structure FLp (w : World) (sv : Array Value) (wr : World) : Prop where
  s : Blk wr w.heap.size 24 sv
  bel : Below w.heap.size w wr
theorem FLp.to {w : World} {sv : Array Value} {wr w' : World} (h : FLp w sv wr) (hb : Below wr.heap.size wr w') : FLp w sv w' := ⟨h.s.to hb, below_to h.bel (Nat.le_refl _) hb⟩
theorem fitsB_no {nm num : List UInt8 → Bool} {s : Sch} {f : List (List UInt8)} {k : Nat} (hk : k < 9) (h : fit1 num s.ps k (f.getD k []) = false) : fitsB nm num s f = false := by
  unfold fitsB
  rw [Bool.and_eq_false_iff]
  right
  rw [List.all_eq_false]
  exact ⟨k, List.mem_range.2 hk, by rw [h]; simp⟩
theorem fit1_none {num : List UInt8 → Bool} {ps : List Prt} {k : Nat} {v : List UInt8} (h : partAt ps k = none) : fit1 num ps k v = v.isEmpty := by unfold fit1; rw [h]
theorem fit1_some {num : List UInt8 → Bool} {ps : List Prt} {k : Nat} {v : List UInt8} {p : Prt} (h : partAt ps k = some p) : fit1 num ps k v = if v.isEmpty then !p.need else goodB num ps k v := by unfold fit1; rw [h]
theorem marks_ascii {nm : List UInt8 → Bool} {s : Sch} (h : validB nm s = true) : ∀ (j : Nat) (b : UInt8), (marksL s.ps)[j]? = some b → b.toNat < 128 := fun j b hb => by
  have hm := (mem_marks _ _).1 (List.mem_of_getElem? hb)
  unfold mrk at hm
  obtain ⟨p, hp, h1⟩ := List.any_eq_true.1 hm
  obtain ⟨_, h2, h3⟩ := ((validB_iff nm s).1 h).part p hp
  have hs : ∀ (l : List UInt8), smallB l = true → l.head? = some b → b.toNat < 128 := fun l hl hh => by
    unfold smallB prn at hl
    simp only [Bool.and_eq_true, List.all_eq_true, decide_eq_true_eq] at hl
    have := hl.2.1 b (List.mem_of_mem_head? hh)
    omega
  rw [Bool.or_eq_true] at h1
  rcases h1 with h1 | h1
  · exact hs _ h2 (eq_of_beq h1)
  · exact hs _ h3 (eq_of_beq h1)
theorem prn_ascii {v : List UInt8} (h : prn v = true) : ∀ (j : Nat) (b : UInt8), v[j]? = some b → b.toNat < 128 := fun j b hb => by
  unfold prn at h
  simp only [List.all_eq_true, Bool.and_eq_true, decide_eq_true_eq] at h
  have := h b (List.mem_of_getElem? hb)
  omega
theorem index_fields (f0 f1 f2 f3 f4 f5 f6 f7 f8 : List UInt8) : ∀ (k : Nat), k < 9 → ∀ w, (Instr.index 26 (.agg #[.string (bs f0), .string (bs f1), .string (bs f2), .string (bs f3), .string (bs f4), .string (bs f5), .string (bs f6), .string (bs f7), .string (bs f8)]) (.int .i64 (k : Int))).run Tryz.prog w = .ok (.string (bs ([f0, f1, f2, f3, f4, f5, f6, f7, f8].getD k []))) w
  | 0, _, w => by kernel_rfl
  | 1, _, w => by kernel_rfl
  | 2, _, w => by kernel_rfl
  | 3, _, w => by kernel_rfl
  | 4, _, w => by kernel_rfl
  | 5, _, w => by kernel_rfl
  | 6, _, w => by kernel_rfl
  | 7, _, w => by kernel_rfl
  | 8, _, w => by kernel_rfl
  | k + 9, h, _ => absurd h (by omega)
set_option maxRecDepth 100000 in
set_option maxHeartbeats 8000000 in
theorem Fits_any (s : Sch) (hl0 : s.ps.length ≤ 8796093022208) (hc0 : s.c.length ≤ 140737488355328) (v : Value) (f0 f1 f2 f3 f4 f5 f6 f7 f8 : List UInt8) (w : World) (hP : PartsAt w v s.ps) (hg : Glob w) :
    Calls Tryz.prog 24 #[.agg #[.string (bs s.c), v], .agg #[.string (bs f0), .string (bs f1), .string (bs f2), .string (bs f3), .string (bs f4), .string (bs f5), .string (bs f6), .string (bs f7), .string (bs f8)]] w fun e w' => e = .returned (.bool (fitsB isNm numB s [f0, f1, f2, f3, f4, f5, f6, f7, f8])) ∧ Below w.heap.size w w' := by
  obtain ⟨c, ps⟩ := s
  dsimp only at hl0 hc0 hP
  obtain ⟨A, cp, rfl, hcp⟩ := hP.slice
  have HP := hide hP
  have HG := hide hg
  have H0 : Hid (FLp w #[.string (bs c), .slice A ps.length cp] ((w.alloc (.cells #[.string (bs c), .slice A ps.length cp] 24)).alloc (.cells #[.string (bs f0), .string (bs f1), .string (bs f2), .string (bs f3), .string (bs f4), .string (bs f5), .string (bs f6), .string (bs f7), .string (bs f8)] 26))) := ⟨(Blk.new w _ _).alloc _, below_two w _ _⟩
  have CV := fun w (h : PartsAt w (.slice A ps.length cp) ps) => SValid_any ⟨c, ps⟩ hl0 hc0 (.slice A ps.length cp) w h
  have CM := fun w (h : PartsAt w (.slice A ps.length cp) ps) => marks_any c ps hl0 (.slice A ps.length cp) w h
  clear hP hg
  go_enter Tryz.func24, Tryz.ntmps24
  go_wp2_with fail
  refine (CV _ (HP.out.to H0.out.bel)).mono ?_
  rintro e w2 ⟨rfl, hb⟩
  have hB := Blk.new (w.alloc (.cells #[.string (bs c), .slice A ps.length cp] 24)) 26 #[.string (bs f0), .string (bs f1), .string (bs f2), .string (bs f3), .string (bs f4), .string (bs f5), .string (bs f6), .string (bs f7), .string (bs f8)]
  rw [World.size_alloc] at hB
  have HBF := hide (hB.to hb)
  have HV2 := hide (H0.out.to hb)
  clear hb H0 CV hB
  cases hv : validB isNm ⟨c, ps⟩ with
  | false =>
    have HF : Hid (fitsB isNm numB ⟨c, ps⟩ [f0, f1, f2, f3, f4, f5, f6, f7, f8] = false) := by show _ = _; unfold fitsB; rw [hv]; rfl
    clear hv
    go_wp2_with fail
    go_ret
    exact ⟨ret_bool (by rw [HF.out]), HV2.out.bel⟩
  | true =>
    have HMA : Hid (∀ (j : Nat) (b : UInt8), (marksL ps)[j]? = some b → b.toNat < 128) := marks_ascii hv
    have hval := (validB_iff _ _).1 hv
    have hne : ps ≠ [] := by have := hval.n1; dsimp only at this; intro e; rw [e] at this; simp at this
    have hl8 : ps.length ≤ 8 := hval.n8
    have HNE := hide hne
    have HVB := hide hv
    clear hv hval hne
    have cS0 := HV2.out.s.cell 0
    have cS1 := HV2.out.s.cell 1
    go_wp2_with fail
    refine (CM _ (HP.out.to HV2.out.bel)).mono ?_
    rintro e w3 ⟨rfl, hb⟩
    have HV3 := hide (HV2.out.to hb)
    have hlt1 := (Array.getElem?_eq_some_iff.1 HBF.out).1
    have k0 := (hb.cell (p := ⟨w.heap.size + 1, 0, none⟩) hlt1).trans (HBF.out.cell 0)
    have k1 := (hb.cell (p := ⟨w.heap.size + 1, 1, none⟩) hlt1).trans (HBF.out.cell 1)
    have k2 := (hb.cell (p := ⟨w.heap.size + 1, 2, none⟩) hlt1).trans (HBF.out.cell 2)
    have k3 := (hb.cell (p := ⟨w.heap.size + 1, 3, none⟩) hlt1).trans (HBF.out.cell 3)
    have k4 := (hb.cell (p := ⟨w.heap.size + 1, 4, none⟩) hlt1).trans (HBF.out.cell 4)
    have k5 := (hb.cell (p := ⟨w.heap.size + 1, 5, none⟩) hlt1).trans (HBF.out.cell 5)
    have k6 := (hb.cell (p := ⟨w.heap.size + 1, 6, none⟩) hlt1).trans (HBF.out.cell 6)
    have k7 := (hb.cell (p := ⟨w.heap.size + 1, 7, none⟩) hlt1).trans (HBF.out.cell 7)
    have k8 := (hb.cell (p := ⟨w.heap.size + 1, 8, none⟩) hlt1).trans (HBF.out.cell 8)
    clear hb HV2 CM cS0 cS1 HBF hlt1
    go_wp2_with fail
    clear k0 k1 k2 k3 k4 k5 k6 k7 k8
    have ix := index_fields f0 f1 f2 f3 f4 f5 f6 f7 f8
    have HIX := hide ix
    have HFG : Hid (∀ k, k < 9 → fit1 numB ps k ([f0, f1, f2, f3, f4, f5, f6, f7, f8].getD k []) = false → fitsB isNm numB ⟨c, ps⟩ [f0, f1, f2, f3, f4, f5, f6, f7, f8] = false) := fun k hk h => fitsB_no hk h
    have HTG : Hid ((∀ k, k < 9 → fit1 numB ps k ([f0, f1, f2, f3, f4, f5, f6, f7, f8].getD k []) = true) → fitsB isNm numB ⟨c, ps⟩ [f0, f1, f2, f3, f4, f5, f6, f7, f8] = true) := fun h => by
      unfold fitsB
      rw [HVB.out, Bool.true_and, List.all_eq_true]
      exact fun k hk => h k (List.mem_range.1 hk)
    obtain ⟨fl, hfl⟩ : ∃ fl, [f0, f1, f2, f3, f4, f5, f6, f7, f8] = fl := ⟨_, rfl⟩
    rw [hfl] at HIX HFG HTG
    have HFL := hide hfl
    clear hfl ix
    go_loopw [17] (fun i wr => ∃ k : Nat, k ≤ 9 ∧ i = .int .i64 (k : Int) ∧ FLp w #[.string (bs c), .slice A ps.length cp] wr ∧ ∀ j, j < k → fit1 numB ps j (fl.getD j []) = true) (fun i _ => 9 - (intOf i).toNat)
    case atStart => exact ⟨0, by omega, rfl, HV3.out, fun j h => absurd h (by omega)⟩
    case round =>
      obtain ⟨k, hk, rfl, hV, hT⟩ := hrel
      have HV := hide hV
      have HT := hide hT
      clear hV hT HV3
      by_cases hlt : k < 9
      · have ix := HIX.out k hlt
        have HFK : Hid (fit1 numB ps k (fl.getD k []) = false → fitsB isNm numB ⟨c, ps⟩ fl = false) := HFG.out k hlt
        have HTK : Hid (fit1 numB ps k (fl.getD k []) = true → ∀ j, j < k + 1 → fit1 numB ps j (fl.getD j []) = true) := fun h j hj => by
          rcases Nat.lt_or_ge j k with h' | h'
          · exact HT.out j h'
          · obtain rfl : j = k := by omega
            exact h
        obtain ⟨x, hx⟩ : ∃ x, fl.getD k [] = x := ⟨_, rfl⟩
        rw [hx] at ix HFK
        rw [hx] at HTK
        clear hx HIX
        have cS1 : (wr.alloc (.cells #[.int .i64 (k : Int)] 3)).cell? ⟨w.heap.size, 1, none⟩ = some (.slice A ps.length cp) := (HV.out.s.alloc _).cell 1
        have CI := fun h => index_part ps HNE.out hl0 (.slice A ps.length cp) k wr.heap.size (wr.alloc (.cells #[.int .i64 (k : Int)] 3)) h (Blk.new wr _ _)
        go_wp2_with fail
        refine (CI (HP.out.to (below_alloc HV.out.bel (Nat.le_refl _) _))).mono ?_
        rintro e w4 ⟨rfl, hb⟩
        have HV4 : Hid (FLp w #[.string (bs c), .slice A ps.length cp] w4) := (HV.out.to (below_one _ _)).to hb
        have HK4 := hide ((Blk.new wr 3 #[.int .i64 (k : Int)]).to hb)
        clear hb HV cS1 CI ix
        cases hpo : partAt ps k with
        | none =>
          have HID := hide (idxP_none hpo)
          have HF1 := hide (fit1_none (num := numB) (v := x) hpo)
          rw [HID.out]
          rw [HF1.out] at HFK HTK
          clear hpo
          cases hxe : x.isEmpty with
          | true =>
            have e1 : (bs x).toList.isEmpty = true := by rw [bs_toList]; exact hxe
            have HT2 := hide (HTK.out hxe)
            clear hxe
            go_wp2_with fail
            go_roundw
            case rel => exact ⟨k + 1, by omega, by go_num, HV4.out, HT2.out⟩
            case measure => simp [intOf]; omega
          | false =>
            have e1 : (bs x).toList.isEmpty = false := by rw [bs_toList]; exact hxe
            have HF := hide (HFK.out hxe)
            clear hxe
            go_wp2_with fail
            go_ret
            exact ⟨ret_bool (by rw [HFL.out, HF.out]), HV4.out.bel⟩
        | some p =>
          obtain ⟨i, hi, hip⟩ := idxP_some hpo
          have HF1 := hide (fit1_some (num := numB) (v := x) hpo)
          rw [hi]
          rw [HF1.out] at HFK HTK
          have hilt : i < ps.length := (List.getElem?_eq_some_iff.1 hip).1
          clear hpo hi
          cases hxe : x.isEmpty with
          | true =>
            have e1 : (bs x).toList.isEmpty = true := by rw [bs_toList]; exact hxe
            rw [hxe, if_pos rfl] at HFK HTK
            obtain ⟨a, cp', ea, _, hab, c0, c1, c2, c3⟩ := (HP.out.to HV4.out.bel).at_ hip
            injection ea with ea _ ec
            subst ec
            obtain rfl := ea
            have cS1 := HV4.out.s.cell 1
            clear hxe hip
            cases hn : p.need with
            | true =>
              rw [hn] at c3 HFK
              have HF := hide (HFK.out rfl)
              clear hn
              go_wp2_with fail
              go_ret
              exact ⟨ret_bool (by rw [HFL.out, HF.out]), HV4.out.bel⟩
            | false =>
              rw [hn] at c3 HTK
              have HT2 := hide (HTK.out rfl)
              clear hn
              go_wp2_with fail
              go_roundw
              case rel => exact ⟨k + 1, by omega, by go_num, HV4.out, HT2.out⟩
              case measure => simp [intOf]; omega
          | false =>
            have e1 : (bs x).toList.isEmpty = false := by rw [bs_toList]; exact hxe
            rw [hxe, if_neg (by decide)] at HFK HTK
            clear hxe hip
            have HGB : Hid (goodB numB ps k x = (decide (x.length ≤ 60) && (prn x && (!(x.any fun c => mrk ps c) && (trimd x && (!decide (k = 3) || numB x)))))) := rfl
            have hsz := bs_size x
            by_cases h60 : 60 < x.length
            · have HF := hide (HFK.out (by rw [HGB.out, decide_eq_false (by omega)]; rfl))
              have e2 : (60 : Int) < ((bs x).size : Int) := by rw [hsz]; omega
              clear hsz
              go_wp2_with fail
              go_ret
              exact ⟨ret_bool (by rw [HFL.out, HF.out]), HV4.out.bel⟩
            rw [decide_eq_true (by omega : x.length ≤ 60), Bool.true_and] at HGB
            have e2 : decide ((60 : Int) < ((bs x).size : Int)) = false := by rw [hsz]; simp; omega
            have e0 : decide ((i : Int) < 0) = false := by simp
            have HSZ := hide hsz
            clear hsz
            go_wp2_with fail
            refine (printable_any x _).mono ?_
            rintro e w5 ⟨rfl, hb⟩
            have HV5 := hide (HV4.out.to hb)
            have HK5 := hide (HK4.out.to hb)
            clear hb HV4 HK4 e1
            cases hpr : prn x with
            | false =>
              rw [hpr] at HGB
              have HF := hide (HFK.out (by rw [HGB.out]; rfl))
              clear hpr
              go_wp2_with fail
              go_ret
              exact ⟨ret_bool (by rw [HFL.out, HF.out]), HV5.out.bel⟩
            | true =>
              rw [hpr, Bool.true_and] at HGB
              have HXA := hide (prn_ascii hpr)
              clear hpr
              have CA := fun w => Tryz.strings_ContainsAny_laid (bs x) (bs (marksL ps)) w (by rw [bs_size]; omega) (by rw [bs_size]; have := marks_len ps; omega) (by rw [bs_list]; exact HXA.out) (by rw [bs_list]; exact HMA.out)
              rw [bs_list, bs_list, containsAny_marks] at CA
              go_wp2_with fail
              refine (CA _).mono ?_
              rintro e w6 ⟨rfl, hb⟩
              have HV6 := hide (HV5.out.to hb)
              have HK6 := hide (HK5.out.to hb)
              clear hb HV5 HK5 CA
              cases hma : (x.any fun c => mrk ps c) with
              | true =>
                rw [hma] at HGB
                have HF := hide (HFK.out (by rw [HGB.out]; rfl))
                clear hma
                go_wp2_with fail
                go_ret
                exact ⟨ret_bool (by rw [HFL.out, HF.out]), HV6.out.bel⟩
              | false =>
                rw [hma, Bool.not_false, Bool.true_and] at HGB
                clear hma
                have CT := fun w => Tryz.strings_Trim_one (bs x) 32 (by decide) w (by rw [bs_size]; omega)
                rw [bs_list] at CT
                go_wp2_with fail
                refine (CT _).mono ?_
                rintro e w7 ⟨rfl, hb⟩
                have hb' : Below w6.heap.size w6 w7 := by rcases hb with rfl | rfl; exact Below.refl _ _; exact (Below.refl _ _).drew
                have HV7 := hide (HV6.out.to hb')
                have HK7 := hide (HK6.out.to hb')
                clear hb hb' HV6 HK6 CT
                cases htr : trimd x with
                | false =>
                  rw [htr] at HGB
                  have e4 : (Lib.trimB x 32 == (bs x).toList) = false := by
                    rw [bs_toList, beq_eq_false_iff_ne]; intro e; rw [trimB_same x] at e; rw [htr] at e; cases e
                  have HF := hide (HFK.out (by rw [HGB.out]; rfl))
                  clear htr
                  go_wp2_with fail
                  go_ret
                  exact ⟨ret_bool (by rw [HFL.out, HF.out]), HV7.out.bel⟩
                | true =>
                  rw [htr, Bool.true_and] at HGB
                  have e4 : (⟨(Lib.trimB x 32).toArray⟩ : ByteArray) = bs x := by rw [(trimB_same x).2 htr]; rfl
                  have e5 : ((bs x).toList == (bs x).toList) = true := by simp
                  rw [e4]
                  clear htr e4
                  have CP := fun w h => Parse_any x w (by omega) h
                  go_wp2_with fail
                  refine (CP _ (HG.out.to HV7.out.bel)).mono ?_
                  rintro e w8 ⟨rfl, hb⟩
                  have HV8 := hide (HV7.out.to hb)
                  have HK8 := hide (HK7.out.to hb)
                  clear hb HV7 HK7 CP
                  have cK : (w8.alloc (.cells #[.int .i64 (outP x).n, .string ⟨(outP x).l.toArray⟩, .int .i64 (outP x).num, .int .i64 (outP x).den] 93)).cell? ⟨wr.heap.size, 0, none⟩ = some (.int .i64 (k : Int)) := (HK8.out.alloc _).cell 0
                  have HV9 := hide (HV8.out.to (below_one w8 (.cells #[.int .i64 (outP x).n, .string ⟨(outP x).l.toArray⟩, .int .i64 (outP x).num, .int .i64 (outP x).den] 93)))
                  unfold hval
                  have hnum : numB x = decide (errP x = 0) := rfl
                  by_cases hk3 : k = 3
                  · have e6 : ((k : Int) == 3) = true := by rw [hk3]; rfl
                    by_cases he : errP x = 0
                    · have e7 : (errP x != 0) = false := by rw [he]; rfl
                      have HT2 := hide (HTK.out (by rw [HGB.out, hnum, decide_eq_true he]; simp))
                      clear he hk3 hnum
                      go_wp2_with fail
                      go_roundw
                      case rel => exact ⟨k + 1, by omega, by go_num, HV9.out, HT2.out⟩
                      case measure => simp [intOf]; omega
                    · have e7 : (errP x != 0) = true := by rw [bne_iff_ne]; exact he
                      have HF := hide (HFK.out (by rw [HGB.out, hnum, decide_eq_false he, decide_eq_true hk3]; rfl))
                      clear he hk3 hnum
                      go_wp2_with fail
                      go_ret
                      exact ⟨ret_bool (by rw [HFL.out, HF.out]), HV9.out.bel⟩
                  · have e6 : ((k : Int) == 3) = false := by rw [beq_eq_false_iff_ne]; omega
                    have HT2 := hide (HTK.out (by rw [HGB.out, decide_eq_false hk3]; rfl))
                    clear hk3 hnum
                    go_wp2_with fail
                    go_roundw
                    case rel => exact ⟨k + 1, by omega, by go_num, HV9.out, HT2.out⟩
                    case measure => simp [intOf]; omega
      · obtain rfl : k = 9 := by omega
        have HF := hide (HTG.out HT.out)
        go_wp2_with fail
        go_ret
        exact ⟨ret_bool (by rw [HFL.out, HF.out]), HV.out.bel⟩
end Go.Proofs.YtdcafoekbnacnaaGreatDoor

/- Builders whose frame reaches above them. -/
set_option linter.unusedVariables false
set_option linter.unusedSimpArgs false
namespace Go.Proofs.YtdcafoekbnacnaaGreatDoor
open Go.RowKit Go.Shelf

theorem WriteString_k (B b : Nat) (vs : List Value) (s : ByteArray) (w : World) (h : Lib.IsBuilderF 61 5 B b vs w) (hlen : vs.length + s.size ≤ 140737488355328) (hBw : B ≤ w.heap.size) :
    Calls Tryz.prog 39 #[.pointer (some ⟨b, 0, none⟩), .string s] w fun e w' => e = .returned (.tuple #[.int .i64 s.size, .nilIface]) ∧ (Lib.BuilderAtF 61 5 B b (.pointer (some ⟨b, 0, none⟩)) (vs ++ Lib.strCells s) w' ∧ Below B w w' ∧ Lib.OthersKept 5 (some b) w w') :=
  Any.Builder_WriteString_k Tryz.lays166 Tryz.Builder_Extra_166 B b vs s w h hlen hBw
theorem BString_k (B b : Nat) (l : List UInt8) (w : World) (h : Lib.IsBuilderF 61 5 B b (Lib.byteCells l) w) (hBw : B ≤ w.heap.size) :
    Calls Tryz.prog 41 #[.pointer (some ⟨b, 0, none⟩)] w fun e w' => e = .returned (.string ⟨l.toArray⟩) ∧ Below B w w' ∧ Lib.OthersKept 5 (some b) w w' :=
  (Any.Builder_String_any_k Tryz.lays169 Tryz.Builder_Extra_169 B b l w h hBw).mono fun e w' h => ⟨h.1, h.2.2⟩
theorem BuilderAtF.keep {T e : TypeId} {B b : Nat} {p : Value} {vs : List Value} {w w' : World} (h : Lib.BuilderAtF T e B b p vs w) (hk : ∀ (k : Nat) (c : Array Value) (t : TypeId) (fz : Nat × Nat), w.heap[k]? = some (Obj.cells c t fz) → w'.heap[k]? = some (Obj.cells c t fz)) : Lib.BuilderAtF T e B b p vs w' := by
  obtain ⟨h1, v, h2, h3, h4⟩ := h
  refine ⟨h1, v, hk _ _ _ _ h2, ⟨h3.1, ?_⟩, h4⟩
  rcases h3.2 with h5 | ⟨g, cap, cur, fz, h5, h6, h7, h8⟩
  · exact .inl h5
  · exact .inr ⟨g, cap, cur, fz, h5, h6, hk _ _ _ _ h7, h8⟩
theorem IsBuilderF.keep {T e : TypeId} {B b : Nat} {vs : List Value} {w w' : World} (h : Lib.IsBuilderF T e B b vs w) (hk : ∀ (k : Nat) (c : Array Value) (t : TypeId) (fz : Nat × Nat), w.heap[k]? = some (Obj.cells c t fz) → w'.heap[k]? = some (Obj.cells c t fz)) : Lib.IsBuilderF T e B b vs w' :=
  h.elim (fun x => .inl (BuilderAtF.keep x hk)) (fun x => .inr (BuilderAtF.keep x hk))
theorem IsBuilderF.to {T e : TypeId} {B b : Nat} {vs : List Value} {w w' : World} (h : Lib.IsBuilderF T e B b vs w) (hb : Below w.heap.size w w') : Lib.IsBuilderF T e B b vs w' :=
  IsBuilderF.keep h fun k c t fz hk => (hb.block k (Array.getElem?_eq_some_iff.1 hk).1).trans hk
theorem IsBuilderF.own {T e : TypeId} {B b : Nat} {vs : List Value} {w w' : World} {row : Option Nat} (h : Lib.IsBuilderF T e B b vs w) (hg : w.grownBy w' row) (hr : ∀ r, row = some r → ∃ o : Obj, w.heap[r]? = some o ∧ o.isCells = false) : Lib.IsBuilderF T e B b vs w' :=
  IsBuilderF.keep h fun k c t fz hk => (hg.block k (Array.getElem?_eq_some_iff.1 hk).1 (fun e => by obtain ⟨o, ho, hc⟩ := hr k e.symm; rw [hk] at ho; cases ho; cases hc)).trans hk
theorem IsBuilderF.blk {T e : TypeId} {B b : Nat} {vs : List Value} {w : World} (h : Lib.IsBuilderF T e B b vs w) : ∃ cs, Blk w b T cs := by
  rcases h with ⟨_, v, h, _⟩ | ⟨_, v, h, _⟩
  · exact ⟨_, h⟩
  · exact ⟨_, h⟩
theorem keepsFrom_kept {T : TypeId} {D B b : Nat} {vs : List Value} {w w' : World} (hI : Lib.IsBuilderF T 5 B b vs w) (hb : Below B w w') (hk : Lib.OthersKept 5 (some b) w w') : KeepsFrom D w w' :=
  ⟨hb.size, fun k o _ h0 ho => hk k o h0 (fun e => by obtain ⟨cs, hc⟩ := IsBuilderF.blk hI; cases e; rw [show w.heap[b]? = _ from hc] at h0; cases h0; cases ho) (fun c fz e => by subst e; cases ho)⟩
theorem blk_kept {b g : Nat} {t : TypeId} {cs : Array Value} {w w' : World} (h : Blk w g t cs) (hk : Lib.OthersKept 5 (some b) w w') (hg : g ≠ b) (ht : t ≠ 5) : Blk w' g t cs :=
  hk g _ h (fun e => hg (Option.some.inj e)) (fun c fz e => by cases e; exact ht rfl)
end Go.Proofs.YtdcafoekbnacnaaGreatDoor

/- Package scheme: Text. -/
set_option linter.unusedVariables false
set_option linter.unusedSimpArgs false
namespace Go.Proofs.YtdcafoekbnacnaaGreatDoor
open Go.RowKit Go.Shelf

/-- the builder of Text, with what lies beside it -/
structure TS0 (w : World) (b0 : Nat) (sv : Array Value) (L : List UInt8) (W : World) : Prop where
  bld : Lib.IsBuilderF 61 5 b0 b0 (Lib.byteCells L) W
  s : Blk W w.heap.size 24 sv
  bel : Below w.heap.size w W
  lt : b0 < W.heap.size
  ne : w.heap.size < b0
theorem TS0.to {w : World} {b0 : Nat} {sv : Array Value} {L : List UInt8} {W W' : World} (h : TS0 w b0 sv L W) (hb : Below W.heap.size W W') : TS0 w b0 sv L W' :=
  ⟨IsBuilderF.to h.bld hb, h.s.to hb, below_to h.bel (Nat.le_refl _) hb, Nat.lt_of_lt_of_le h.lt hb.size, h.ne⟩
theorem twrite (w : World) (b0 : Nat) (sv : Array Value) (L l : List UInt8) (s : ByteArray) (hs : s = bs l) (W : World) (h : TS0 w b0 sv L W) (hlen : L.length + l.length ≤ 140737488355328) :
    Calls Tryz.prog 39 #[.pointer (some ⟨b0, 0, none⟩), .string s] W fun e w' => e = .returned (.tuple #[.int .i64 s.size, .nilIface]) ∧ TS0 w b0 sv (L ++ l) w' ∧ ∀ g t cs, Blk W g t cs → g ≠ b0 → t ≠ 5 → Blk w' g t cs := by
  subst hs
  refine (WriteString_k b0 b0 _ (bs l) W h.bld (by rw [bs_size]; simpa [Lib.byteCells] using hlen) (Nat.le_of_lt h.lt)).mono ?_
  rintro e w' ⟨rfl, hI, hb, hk⟩
  refine ⟨rfl, ⟨?_, blk_kept h.s hk (by have := h.ne; omega) (by decide), h.bel.trans (hb.mono (Nat.le_of_lt h.ne)), Nat.lt_of_lt_of_le h.lt hb.size, h.ne⟩, fun g t cs hB hg ht => blk_kept hB hk hg ht⟩
  rw [byteCells_app, ← strCells_bs l]
  exact .inr hI
def needT (p : Prt) : List UInt8 := if p.need then wNeed ++ [32] else []
theorem partT_eq (p : Prt) : partT p = needT p ++ wordK p.k ++ betwT wBefore p.b ++ betwT wAfter p.a ++ [59, 10] := rfl
theorem index_wordsN : ∀ k : Nat, 1 ≤ k → k ≤ 8 → ∀ w, (Instr.index 25 wordsV (.int .i64 (k : Int))).run Tryz.prog w = .ok (.string (bs (wordK (k : Int)))) w
  | 0, h, _, _ => absurd h (by omega)
  | 1, _, _, w => by kernel_rfl
  | 2, _, _, w => by kernel_rfl
  | 3, _, _, w => by kernel_rfl
  | 4, _, _, w => by kernel_rfl
  | 5, _, _, w => by kernel_rfl
  | 6, _, _, w => by kernel_rfl
  | 7, _, _, w => by kernel_rfl
  | 8, _, _, w => by kernel_rfl
  | k + 9, _, h, _ => absurd h (by omega)
theorem index_words (k : Int) (h : 1 ≤ k ∧ k ≤ 8) (w : World) : (Instr.index 25 wordsV (.int .i64 k)).run Tryz.prog w = .ok (.string (bs (wordK k))) w := by
  obtain ⟨j, rfl⟩ : ∃ j : Nat, k = (j : Int) := ⟨k.toNat, by omega⟩
  exact index_wordsN j (by omega) (by omega) w
theorem betw_bs (w s : List UInt8) (h : s ≠ []) : (bs (32 :: (w ++ [32, 34])) ++ bs s) ++ bs [34] = bs (betwT w s) := by
  unfold betwT
  rw [if_neg h, bs_app, bs_app]
  congr 1
  simp
theorem betw_len (w s : List UInt8) (hw : w.length ≤ 6) (hs : s.length ≤ 4) : (betwT w s).length ≤ 14 := by
  unfold betwT
  split
  · simp
  · simp only [List.length_cons, List.length_append, List.length_nil]; omega
def schT (c : List UInt8) (ps : List Prt) : List UInt8 := wScheme ++ [32] ++ c ++ [32, 123, 10] ++ ps.flatMap partT
theorem textS_eq (c : List UInt8) (ps : List Prt) : textS ⟨c, ps⟩ = schT c ps ++ [125, 10] := rfl
theorem schT_succ {c : List UInt8} {ps : List Prt} {k : Nat} {p : Prt} (h : ps[k]? = some p) : schT c (ps.take (k + 1)) = schT c (ps.take k) ++ partT p := by
  unfold schT
  rw [List.take_add_one, h, List.flatMap_append]; simp
theorem schT_len (c : List UInt8) (ps : List Prt) (k : Nat) : (schT c (ps.take k)).length ≤ (textS ⟨c, ps⟩).length := by
  have e : ps.flatMap partT = (ps.take k).flatMap partT ++ (ps.drop k).flatMap partT := by rw [← List.flatMap_append, List.take_append_drop]
  rw [textS_eq]
  unfold schT
  rw [e]
  simp only [List.length_append]
  omega
def textV (s : Sch) : List UInt8 := if validB isNm s then textS s else []
def textE (s : Sch) : Int := if validB isNm s then 0 else 1
set_option maxRecDepth 100000 in
set_option maxHeartbeats 8000000 in
theorem SText_any (s : Sch) (hl0 : s.ps.length ≤ 8796093022208) (hc0 : s.c.length ≤ 140737488355328) (v : Value) (w : World) (hP : PartsAt w v s.ps) :
    Calls Tryz.prog 18 #[.agg #[.string (bs s.c), v]] w fun e w' => e = .returned (.tuple #[.string (bs (textV s)), .int .i64 (textE s)]) ∧ Below w.heap.size w w' := by
  obtain ⟨c, ps⟩ := s
  dsimp only at hl0 hc0 hP
  obtain ⟨A, cp, rfl, hcp⟩ := hP.slice
  have HP := hide hP
  have HS0 := hide (Blk.new w 24 #[.string (bs c), .slice A ps.length cp])
  have HB0 := hide (below_one w (.cells #[.string (bs c), .slice A ps.length cp] 24))
  have CV := fun w (h : PartsAt w (.slice A ps.length cp) ps) => SValid_any ⟨c, ps⟩ hl0 hc0 (.slice A ps.length cp) w h
  clear hP
  go_enter Tryz.func18, Tryz.ntmps18
  go_wp2_with fail
  refine (CV _ (HP.out.to HB0.out)).mono ?_
  rintro e w2 ⟨rfl, hb⟩
  have HS2 := hide (HS0.out.to hb)
  have HB2 := hide (below_to HB0.out (Nat.le_refl _) hb)
  have hsz : w.heap.size < w2.heap.size := HS2.out.lt
  clear hb HS0 HB0 CV
  cases hv : validB isNm ⟨c, ps⟩ with
  | false =>
    have HF : Hid (textV ⟨c, ps⟩ = [] ∧ textE ⟨c, ps⟩ = 1) := by show _ ∧ _; unfold textV textE; rw [hv]; exact ⟨rfl, rfl⟩
    clear hv
    go_wp2_with fail
    go_ret2
    exact ⟨by rw [HF.out.1, HF.out.2]; rfl, HB2.out⟩
  | true =>
    have HF : Hid (textV ⟨c, ps⟩ = textS ⟨c, ps⟩ ∧ textE ⟨c, ps⟩ = 0) := by show _ ∧ _; unfold textV textE; rw [hv]; exact ⟨rfl, rfl⟩
    have hval := (validB_iff _ _).1 hv
    have HTL : Hid ((textS ⟨c, ps⟩).length ≤ 600) := text_len hval
    have HPT : Hid (∀ p ∈ ps, (1 ≤ p.k ∧ p.k ≤ 8) ∧ smallB p.b = true ∧ smallB p.a = true) := hval.part
    have hcl : c.length ≤ 600 := by have := HTL.out; rw [textS_eq] at this; unfold schT at this; simp only [List.length_append] at this; omega
    clear hv hval
    have cS0 := (HS2.out.alloc (.cells #[.pointer none, .slice none 0 0] 61)).cell 0
    have HTa : Hid (TS0 w w2.heap.size #[.string (bs c), .slice A ps.length cp] [] (w2.alloc (.cells #[.pointer none, .slice none 0 0] 61))) :=
      ⟨.inl ⟨Nat.le_refl _, _, Blk.new _ _ _, World.ownsRowF_nil _ _ _ _, by simp [Value.ownBlock]⟩, HS2.out.alloc _, HB2.out.alloc (Nat.le_of_lt hsz) _, by simp, hsz⟩
    have hsc : (bs c).size ≤ 600 := by rw [bs_size]; exact hcl
    go_wp2_with fail
    generalize hb0 : w2.heap.size = b0 at *
    generalize w2.alloc (.cells #[.pointer none, .slice none 0 0] 61) = w3 at *
    have HNE0 := hide hsz
    clear HS2 HB2 cS0 hb0 hsz
    refine (twrite w b0 _ _ (schT c (ps.take 0)) _ (by unfold schT; rw [List.take_zero, List.flatMap_nil, List.append_nil, ← bs_app, ← bs_app]; rfl) w3 HTa.out (by have := schT_len c ps 0; have := HTL.out; simp only [List.length_nil]; omega)).mono ?_
    rintro e w4 ⟨rfl, ht, hx⟩
    have HT0 := hide ht
    rw [List.nil_append] at HT0
    clear ht hx HTa hsc hcl
    have cS1 := HT0.out.s.cell 1
    go_wp2_with fail
    clear cS1
    go_loopw [18] (fun i wr => ∃ k : Nat, k ≤ ps.length ∧ i = .int .i64 (k : Int) ∧ TS0 w b0 #[.string (bs c), .slice A ps.length cp] (schT c (ps.take k)) wr) (fun i _ => ps.length - (intOf i).toNat)
    case atStart => exact ⟨0, by omega, rfl, HT0.out⟩
    case round =>
      obtain ⟨k, hk, rfl, hT⟩ := hrel
      clear HT0
      have HTk := hide hT
      clear hT
      by_cases hlt : k < ps.length
      · obtain ⟨p, hp⟩ : ∃ p, ps[k]? = some p := ⟨_, List.getElem?_eq_getElem hlt⟩
        obtain ⟨a, cp', ea, _, hab, c0, c1, c2, c3⟩ := (HP.out.to HTk.out.bel).at_ hp
        injection ea with ea _ ec
        subst ec
        obtain rfl := ea
        obtain ⟨hpk, hpb, hpa⟩ := HPT.out p (List.mem_of_getElem? hp)
        have HPK := hide hpk
        have HSB := hide (small_facts hpb).1
        have HSA := hide (small_facts hpa).1
        have HLk : Hid ((schT c (ps.take k)).length ≤ 600) := by have := schT_len c ps k; have := HTL.out; show _ ≤ _; omega
        have HSUC : Hid (schT c (ps.take (k + 1)) = schT c (ps.take k) ++ partT p) := schT_succ hp
        obtain ⟨L0, hL0⟩ : ∃ L, schT c (ps.take k) = L := ⟨_, rfl⟩
        rw [hL0] at HTk HLk HSUC
        clear hL0 hp hpk hpb hpa
        have HT0 : Hid (TS0 w b0 #[.string (bs c), .slice (some a) ps.length cp] L0 (wr.alloc (.cells #[.int .i64 p.k, .string (bs p.b), .string (bs p.a), .bool p.need] 41))) := HTk.out.to (below_one _ _)
        have HX0 := hide (Blk.new wr 41 #[.int .i64 p.k, .string (bs p.b), .string (bs p.a), .bool p.need])
        have HNE : Hid (wr.heap.size ≠ b0) := by have := HTk.out.lt; show _ ≠ _; omega
        have HL0 := hide HLk.out
        have HLn : Hid ((needT p).length ≤ 5) := by show _ ≤ _; unfold needT; split <;> simp [wNeed]
        have hnd0 := HX0.out.cell 3
        cases hn : p.need
        · have HNT : Hid (needT p = []) := by show _ = _; unfold needT; rw [hn]; rfl
          rw [hn] at hnd0 c3 HX0 HT0
          clear hn
          go_wp2_with fail
          have HT1 : Hid (TS0 w b0 #[.string (bs c), .slice (some a) ps.length cp] (L0 ++ needT p) (wr.alloc (.cells #[.int .i64 p.k, .string (bs p.b), .string (bs p.a), .bool false] 41))) := by show TS0 _ _ _ _ _; rw [HNT.out, List.append_nil]; exact HT0.out
          have HXe : Hid (∃ nd, Blk (wr.alloc (.cells #[.int .i64 p.k, .string (bs p.b), .string (bs p.a), .bool false] 41)) wr.heap.size 41 #[.int .i64 p.k, .string (bs p.b), .string (bs p.a), nd]) := ⟨_, HX0.out⟩
          clear HT0 HX0 HNT hnd0 c0 c1 c2 c3
          generalize wr.alloc (.cells #[.int .i64 p.k, .string (bs p.b), .string (bs p.a), .bool false] 41) = w5 at *
          obtain ⟨nd, hX1⟩ := HXe.out
          have HX1 := hide hX1
          clear hX1 HXe
          obtain ⟨U, hU, g, u0, rfl, hgu, hi⟩ := cls w5
          have x0 := fun u => ((HX1.out.to (hgu u)).cell 0).trans (show _ = some (Value.int .i64 p.k) from rfl)
          have CW := fun u => cls_call hgu hi (fun w' hb => words_any w') u
          have ix := index_words p.k HPK.out
          generalize hWV : wordsV = WV at *
          clear hWV
          refine wp_region_class_tail g 4 (by kernel_rfl) (by kernel_rfl) (hi _ (hgu _).drew) ?_
          simp only [List.take_succ_cons, List.take_zero, List.drop_succ_cons, List.drop_zero]
          repeat (go_big_quiet_step (with_reducible exact CW _))
          refine wpQuiet_nil ?_
          intro w6 hw6
          obtain ⟨u, rfl⟩ := hw6
          have HT2 := hide (HT1.out.to (hgu u))
          have HX2 := hide (HX1.out.to (hgu u))
          clear x0 CW ix HT1 HX1
          revert HX2 HT2
          generalize g u = W6
          intro HT2 HX2
          clear hgu hi g u u0
          go_wp2_with fail
          have HLw : Hid ((wordK p.k).length ≤ 8) := word_len HPK.out
          have HLb1 : Hid ((betwT wBefore p.b).length ≤ 14) := betw_len wBefore p.b (by decide) HSB.out
          have HLb2 : Hid ((betwT wAfter p.a).length ≤ 14) := betw_len wAfter p.a (by decide) HSA.out
          refine (twrite w b0 _ _ (wordK p.k) _ rfl W6 HT2.out (by have := HL0.out; have := HLn.out; have := HLw.out; simp only [List.length_append]; omega)).mono ?_
          rintro e w7 ⟨rfl, ht, hx⟩
          have HT3 := hide ht
          have HX3 := hide (hx _ _ _ HX2.out HNE.out (by decide))
          clear ht hx HT2 HX2
          have hsb : (bs p.b).size ≤ 4 := by rw [bs_size]; exact HSB.out
          have hsa : (bs p.a).size ≤ 4 := by rw [bs_size]; exact HSA.out
          have q1 := HX3.out.cell 1
          cases he1 : p.b.isEmpty
          · have h0 : p.b ≠ [] := fun e => by rw [e] at he1; cases he1
            have HB1 := hide (betw_bs wBefore p.b h0)
            have e1 : (bs p.b).toList.isEmpty = false := by rw [bs_toList]; exact he1
            clear he1 h0
            go_wp2_with fail
            refine (twrite w b0 _ _ (betwT wBefore p.b) _ (by rw [← HB1.out]; rfl) _ HT3.out (by have := HL0.out; have := HLn.out; have := HLw.out; have := HLb1.out; simp only [List.length_append]; omega)).mono ?_
            rintro e w8 ⟨rfl, ht, hx⟩
            have HT4 := hide ht
            have HX4 := hide (hx _ _ _ HX3.out HNE.out (by decide))
            clear ht hx HT3 HX3 HB1 e1 q1
            have q2 := HX4.out.cell 2
            cases he2 : p.a.isEmpty
            · have h0 : p.a ≠ [] := fun e => by rw [e] at he2; cases he2
              have HB2 := hide (betw_bs wAfter p.a h0)
              have e2 : (bs p.a).toList.isEmpty = false := by rw [bs_toList]; exact he2
              clear he2 h0
              go_wp2_with fail
              refine (twrite w b0 _ _ (betwT wAfter p.a) _ (by rw [← HB2.out]; rfl) _ HT4.out (by have := HL0.out; have := HLn.out; have := HLw.out; have := HLb1.out; have := HLb2.out; simp only [List.length_append]; omega)).mono ?_
              rintro e w9 ⟨rfl, ht, hx⟩
              have HT5 := hide ht
              clear ht hx HT4 HX4 HB2 e2 q2
              go_wp2_with fail
              refine (twrite w b0 _ _ [59, 10] _ rfl _ HT5.out (by have := HL0.out; have := HLn.out; have := HLw.out; have := HLb1.out; have := HLb2.out; simp only [List.length_append, List.length_cons, List.length_nil]; omega)).mono ?_
              rintro e w10 ⟨rfl, ht, hx⟩
              have HT6 := hide ht
              clear ht hx HT5
              go_wp2_with fail
              go_roundw
              case rel => exact ⟨k + 1, by omega, by go_num, by rw [HSUC.out, partT_eq]; simpa only [List.append_assoc] using HT6.out⟩
              case measure => simp [intOf]; omega
            · have HB2 : Hid (betwT wAfter p.a = []) := by show _ = _; unfold betwT; rw [if_pos (List.isEmpty_iff.1 he2)]
              have e2 : (bs p.a).toList.isEmpty = true := by rw [bs_toList]; exact he2
              clear he2
              go_wp2_with fail
              refine (twrite w b0 _ _ [59, 10] _ rfl _ HT4.out (by have := HL0.out; have := HLn.out; have := HLw.out; have := HLb1.out; simp only [List.length_append, List.length_cons, List.length_nil]; omega)).mono ?_
              rintro e w10 ⟨rfl, ht, hx⟩
              have HT6 := hide ht
              clear ht hx HT4 HX4
              go_wp2_with fail
              go_roundw
              case rel => exact ⟨k + 1, by omega, by go_num, by rw [HSUC.out, partT_eq, HB2.out]; simpa only [List.append_assoc, List.append_nil] using HT6.out⟩
              case measure => simp [intOf]; omega
          · have HB1 : Hid (betwT wBefore p.b = []) := by show _ = _; unfold betwT; rw [if_pos (List.isEmpty_iff.1 he1)]
            have e1 : (bs p.b).toList.isEmpty = true := by rw [bs_toList]; exact he1
            clear he1
            have HT4 : Hid (TS0 w b0 #[.string (bs c), .slice (some a) ps.length cp] (L0 ++ needT p ++ wordK p.k ++ betwT wBefore p.b) w7) := by show TS0 _ _ _ _ _; rw [HB1.out, List.append_nil]; exact HT3.out
            have HX4 := hide HX3.out
            clear HT3 HX3 HB1
            have q2 := HX4.out.cell 2
            cases he2 : p.a.isEmpty
            · have h0 : p.a ≠ [] := fun e => by rw [e] at he2; cases he2
              have HB2 := hide (betw_bs wAfter p.a h0)
              have e2 : (bs p.a).toList.isEmpty = false := by rw [bs_toList]; exact he2
              clear he2 h0
              go_wp2_with fail
              refine (twrite w b0 _ _ (betwT wAfter p.a) _ (by rw [← HB2.out]; rfl) _ HT4.out (by have := HL0.out; have := HLn.out; have := HLw.out; have := HLb1.out; have := HLb2.out; simp only [List.length_append]; omega)).mono ?_
              rintro e w9 ⟨rfl, ht, hx⟩
              have HT5 := hide ht
              clear ht hx HT4 HX4 HB2 e2 q2
              go_wp2_with fail
              refine (twrite w b0 _ _ [59, 10] _ rfl _ HT5.out (by have := HL0.out; have := HLn.out; have := HLw.out; have := HLb1.out; have := HLb2.out; simp only [List.length_append, List.length_cons, List.length_nil]; omega)).mono ?_
              rintro e w10 ⟨rfl, ht, hx⟩
              have HT6 := hide ht
              clear ht hx HT5
              go_wp2_with fail
              go_roundw
              case rel => exact ⟨k + 1, by omega, by go_num, by rw [HSUC.out, partT_eq]; simpa only [List.append_assoc] using HT6.out⟩
              case measure => simp [intOf]; omega
            · have HB2 : Hid (betwT wAfter p.a = []) := by show _ = _; unfold betwT; rw [if_pos (List.isEmpty_iff.1 he2)]
              have e2 : (bs p.a).toList.isEmpty = true := by rw [bs_toList]; exact he2
              clear he2
              go_wp2_with fail
              refine (twrite w b0 _ _ [59, 10] _ rfl _ HT4.out (by have := HL0.out; have := HLn.out; have := HLw.out; have := HLb1.out; simp only [List.length_append, List.length_cons, List.length_nil]; omega)).mono ?_
              rintro e w10 ⟨rfl, ht, hx⟩
              have HT6 := hide ht
              clear ht hx HT4 HX4
              go_wp2_with fail
              go_roundw
              case rel => exact ⟨k + 1, by omega, by go_num, by rw [HSUC.out, partT_eq, HB2.out]; simpa only [List.append_assoc, List.append_nil] using HT6.out⟩
              case measure => simp [intOf]; omega
        · have HNT : Hid (needT p = wNeed ++ [32]) := by show _ = _; unfold needT; rw [hn]; rfl
          rw [hn] at hnd0 c3 HX0 HT0
          clear hn
          go_wp2_with fail
          refine (twrite w b0 _ _ (needT p) _ (by rw [HNT.out]; rfl) _ HT0.out (by have := HL0.out; have := HLn.out; omega)).mono ?_
          rintro e w5 ⟨rfl, ht, hx⟩
          have HT1 := hide ht
          have HXe : Hid (∃ nd, Blk w5 wr.heap.size 41 #[.int .i64 p.k, .string (bs p.b), .string (bs p.a), nd]) := ⟨_, hx _ _ _ HX0.out HNE.out (by decide)⟩
          clear ht hx HT0 HX0 HNT hnd0 c0 c1 c2 c3
          go_wp2_with fail
          obtain ⟨nd, hX1⟩ := HXe.out
          have HX1 := hide hX1
          clear hX1 HXe
          obtain ⟨U, hU, g, u0, rfl, hgu, hi⟩ := cls w5
          have x0 := fun u => ((HX1.out.to (hgu u)).cell 0).trans (show _ = some (Value.int .i64 p.k) from rfl)
          have CW := fun u => cls_call hgu hi (fun w' hb => words_any w') u
          have ix := index_words p.k HPK.out
          generalize hWV : wordsV = WV at *
          clear hWV
          refine wp_region_class_tail g 4 (by kernel_rfl) (by kernel_rfl) (hi _ (hgu _).drew) ?_
          simp only [List.take_succ_cons, List.take_zero, List.drop_succ_cons, List.drop_zero]
          repeat (go_big_quiet_step (with_reducible exact CW _))
          refine wpQuiet_nil ?_
          intro w6 hw6
          obtain ⟨u, rfl⟩ := hw6
          have HT2 := hide (HT1.out.to (hgu u))
          have HX2 := hide (HX1.out.to (hgu u))
          clear x0 CW ix HT1 HX1
          revert HX2 HT2
          generalize g u = W6
          intro HT2 HX2
          clear hgu hi g u u0
          go_wp2_with fail
          have HLw : Hid ((wordK p.k).length ≤ 8) := word_len HPK.out
          have HLb1 : Hid ((betwT wBefore p.b).length ≤ 14) := betw_len wBefore p.b (by decide) HSB.out
          have HLb2 : Hid ((betwT wAfter p.a).length ≤ 14) := betw_len wAfter p.a (by decide) HSA.out
          refine (twrite w b0 _ _ (wordK p.k) _ rfl W6 HT2.out (by have := HL0.out; have := HLn.out; have := HLw.out; simp only [List.length_append]; omega)).mono ?_
          rintro e w7 ⟨rfl, ht, hx⟩
          have HT3 := hide ht
          have HX3 := hide (hx _ _ _ HX2.out HNE.out (by decide))
          clear ht hx HT2 HX2
          have hsb : (bs p.b).size ≤ 4 := by rw [bs_size]; exact HSB.out
          have hsa : (bs p.a).size ≤ 4 := by rw [bs_size]; exact HSA.out
          have q1 := HX3.out.cell 1
          cases he1 : p.b.isEmpty
          · have h0 : p.b ≠ [] := fun e => by rw [e] at he1; cases he1
            have HB1 := hide (betw_bs wBefore p.b h0)
            have e1 : (bs p.b).toList.isEmpty = false := by rw [bs_toList]; exact he1
            clear he1 h0
            go_wp2_with fail
            refine (twrite w b0 _ _ (betwT wBefore p.b) _ (by rw [← HB1.out]; rfl) _ HT3.out (by have := HL0.out; have := HLn.out; have := HLw.out; have := HLb1.out; simp only [List.length_append]; omega)).mono ?_
            rintro e w8 ⟨rfl, ht, hx⟩
            have HT4 := hide ht
            have HX4 := hide (hx _ _ _ HX3.out HNE.out (by decide))
            clear ht hx HT3 HX3 HB1 e1 q1
            have q2 := HX4.out.cell 2
            cases he2 : p.a.isEmpty
            · have h0 : p.a ≠ [] := fun e => by rw [e] at he2; cases he2
              have HB2 := hide (betw_bs wAfter p.a h0)
              have e2 : (bs p.a).toList.isEmpty = false := by rw [bs_toList]; exact he2
              clear he2 h0
              go_wp2_with fail
              refine (twrite w b0 _ _ (betwT wAfter p.a) _ (by rw [← HB2.out]; rfl) _ HT4.out (by have := HL0.out; have := HLn.out; have := HLw.out; have := HLb1.out; have := HLb2.out; simp only [List.length_append]; omega)).mono ?_
              rintro e w9 ⟨rfl, ht, hx⟩
              have HT5 := hide ht
              clear ht hx HT4 HX4 HB2 e2 q2
              go_wp2_with fail
              refine (twrite w b0 _ _ [59, 10] _ rfl _ HT5.out (by have := HL0.out; have := HLn.out; have := HLw.out; have := HLb1.out; have := HLb2.out; simp only [List.length_append, List.length_cons, List.length_nil]; omega)).mono ?_
              rintro e w10 ⟨rfl, ht, hx⟩
              have HT6 := hide ht
              clear ht hx HT5
              go_wp2_with fail
              go_roundw
              case rel => exact ⟨k + 1, by omega, by go_num, by rw [HSUC.out, partT_eq]; simpa only [List.append_assoc] using HT6.out⟩
              case measure => simp [intOf]; omega
            · have HB2 : Hid (betwT wAfter p.a = []) := by show _ = _; unfold betwT; rw [if_pos (List.isEmpty_iff.1 he2)]
              have e2 : (bs p.a).toList.isEmpty = true := by rw [bs_toList]; exact he2
              clear he2
              go_wp2_with fail
              refine (twrite w b0 _ _ [59, 10] _ rfl _ HT4.out (by have := HL0.out; have := HLn.out; have := HLw.out; have := HLb1.out; simp only [List.length_append, List.length_cons, List.length_nil]; omega)).mono ?_
              rintro e w10 ⟨rfl, ht, hx⟩
              have HT6 := hide ht
              clear ht hx HT4 HX4
              go_wp2_with fail
              go_roundw
              case rel => exact ⟨k + 1, by omega, by go_num, by rw [HSUC.out, partT_eq, HB2.out]; simpa only [List.append_assoc, List.append_nil] using HT6.out⟩
              case measure => simp [intOf]; omega
          · have HB1 : Hid (betwT wBefore p.b = []) := by show _ = _; unfold betwT; rw [if_pos (List.isEmpty_iff.1 he1)]
            have e1 : (bs p.b).toList.isEmpty = true := by rw [bs_toList]; exact he1
            clear he1
            have HT4 : Hid (TS0 w b0 #[.string (bs c), .slice (some a) ps.length cp] (L0 ++ needT p ++ wordK p.k ++ betwT wBefore p.b) w7) := by show TS0 _ _ _ _ _; rw [HB1.out, List.append_nil]; exact HT3.out
            have HX4 := hide HX3.out
            clear HT3 HX3 HB1
            have q2 := HX4.out.cell 2
            cases he2 : p.a.isEmpty
            · have h0 : p.a ≠ [] := fun e => by rw [e] at he2; cases he2
              have HB2 := hide (betw_bs wAfter p.a h0)
              have e2 : (bs p.a).toList.isEmpty = false := by rw [bs_toList]; exact he2
              clear he2 h0
              go_wp2_with fail
              refine (twrite w b0 _ _ (betwT wAfter p.a) _ (by rw [← HB2.out]; rfl) _ HT4.out (by have := HL0.out; have := HLn.out; have := HLw.out; have := HLb1.out; have := HLb2.out; simp only [List.length_append]; omega)).mono ?_
              rintro e w9 ⟨rfl, ht, hx⟩
              have HT5 := hide ht
              clear ht hx HT4 HX4 HB2 e2 q2
              go_wp2_with fail
              refine (twrite w b0 _ _ [59, 10] _ rfl _ HT5.out (by have := HL0.out; have := HLn.out; have := HLw.out; have := HLb1.out; have := HLb2.out; simp only [List.length_append, List.length_cons, List.length_nil]; omega)).mono ?_
              rintro e w10 ⟨rfl, ht, hx⟩
              have HT6 := hide ht
              clear ht hx HT5
              go_wp2_with fail
              go_roundw
              case rel => exact ⟨k + 1, by omega, by go_num, by rw [HSUC.out, partT_eq]; simpa only [List.append_assoc] using HT6.out⟩
              case measure => simp [intOf]; omega
            · have HB2 : Hid (betwT wAfter p.a = []) := by show _ = _; unfold betwT; rw [if_pos (List.isEmpty_iff.1 he2)]
              have e2 : (bs p.a).toList.isEmpty = true := by rw [bs_toList]; exact he2
              clear he2
              go_wp2_with fail
              refine (twrite w b0 _ _ [59, 10] _ rfl _ HT4.out (by have := HL0.out; have := HLn.out; have := HLw.out; have := HLb1.out; simp only [List.length_append, List.length_cons, List.length_nil]; omega)).mono ?_
              rintro e w10 ⟨rfl, ht, hx⟩
              have HT6 := hide ht
              clear ht hx HT4 HX4
              go_wp2_with fail
              go_roundw
              case rel => exact ⟨k + 1, by omega, by go_num, by rw [HSUC.out, partT_eq, HB2.out]; simpa only [List.append_assoc, List.append_nil] using HT6.out⟩
              case measure => simp [intOf]; omega
      · obtain rfl : k = ps.length := by omega
        rw [List.take_length] at HTk
        have CB := BString_k b0 b0 (schT c ps) wr HTk.out.bld (Nat.le_of_lt HTk.out.lt)
        have hzz : (bs (schT c ps)).size ≤ 600 := by
          rw [bs_size]
          have := HTL.out
          rw [textS_eq, List.length_append] at this; omega
        rw [show (⟨(schT c ps).toArray⟩ : ByteArray) = bs (schT c ps) from rfl] at CB
        go_wp2_with fail
        refine CB.mono ?_
        rintro e w11 ⟨rfl, hb, hx⟩
        have HBe := hide (HTk.out.bel.trans (hb.mono (Nat.le_of_lt HTk.out.ne)))
        clear hb hx CB
        go_wp2_with fail
        go_ret2
        exact ⟨by rw [HF.out.1, HF.out.2, textS_eq, ← bs_app]; rfl, HBe.out⟩
end Go.Proofs.YtdcafoekbnacnaaGreatDoor

/- Package scheme: the parser: its memory; sees. -/
set_option linter.unusedVariables false
set_option linter.unusedSimpArgs false
namespace Go.Proofs.YtdcafoekbnacnaaGreatDoor
open Go.RowKit Go.Shelf

def tkV (x : Tk) : List Value := [.int .i64 x.k, .int .i64 x.a, .int .i64 x.n, .string (bs x.s)]
def TksAt (w : World) (v : Value) (l : List Tk) : Prop := RowsAt w 4 v (l.map tkV)
theorem TksAt.of_row {w : World} {v : Value} {l : List Tk} (h : TokRow w v l) : TksAt w v l := by
  rcases h with ⟨rfl, A, c, rfl⟩ | ⟨b, c, rfl, hc, hb, hat⟩
  · exact ⟨A, c, rfl, Nat.zero_le _, by simp, fun k x h => by simp at h⟩
  · refine ⟨some ⟨b, 0, none⟩, c, by rw [List.length_map], by rw [List.length_map]; exact hc, fun x hx => ?_, fun k x hx => ⟨_, rfl, hb, fun j u hu => ?_⟩⟩
    · obtain ⟨t, _, rfl⟩ := List.mem_map.1 hx; rfl
    · rw [List.getElem?_map] at hx
      obtain ⟨t, ht, rfl⟩ := Option.map_eq_some_iff.1 hx
      have := hat k t ht j u (by unfold tkV at hu; unfold tcells; simpa using hu)
      rw [add_of_add, show k * 4 + j = 4 * k + j by omega]
      unfold Addr.add
      split
      · rename_i h0; rw [h0] at this; exact this
      · simpa using this
theorem TksAt.to {w w' : World} {v : Value} {l : List Tk} (h : TksAt w v l) (hb : Below w.heap.size w w') : TksAt w' v l := RowsAt.to h hb
theorem TksAt.slice {w : World} {v : Value} {l : List Tk} (h : TksAt w v l) : ∃ A c, v = .slice A l.length c ∧ l.length ≤ c := by
  obtain ⟨A, c, h1, h2, _⟩ := h
  rw [List.length_map] at h1 h2
  exact ⟨A, c, h1, h2⟩
/-- the first token, at its place -/
theorem TksAt.hd {w : World} {v : Value} {t : Tk} {r : List Tk} (h : TksAt w v (t :: r)) : ∃ b o c, v = .slice (some ⟨b, o, none⟩) (r.length + 1) c ∧ r.length + 1 ≤ c ∧ b < w.heap.size ∧
    w.cell? ⟨b, o, none⟩ = some (.int .i64 t.k) ∧ w.cell? ⟨b, o + 1, none⟩ = some (.int .i64 t.a) ∧ w.cell? ⟨b, o + 2, none⟩ = some (.int .i64 t.n) ∧ w.cell? ⟨b, o + 3, none⟩ = some (.string (bs t.s)) := by
  obtain ⟨a, c, h1, h2, h3, _, h4⟩ := RowsAt.at_ h (k := 0) (x := tkV t) rfl
  rw [List.length_map, List.length_cons] at h1 h2
  have c0 := h4 0 _ rfl
  obtain ⟨b, o, sp⟩ := a
  have hsp : sp = none := by
    unfold Addr.add World.cell? at c0
    simp only [Nat.zero_mul, if_true] at c0
    cases sp with
    | none => rfl
    | some x =>
      exfalso
      cases hh : w.heap[b]? with
      | none => simp [hh] at c0
      | some o => cases o <;> simp [hh] at c0
  subst hsp
  refine ⟨b, o, c, h1, h2, h3, ?_, ?_, ?_, ?_⟩
  · have := h4 0 _ rfl; simpa [Addr.add] using this
  · have := h4 1 _ rfl; simpa [Addr.add] using this
  · have := h4 2 _ rfl; simpa [Addr.add] using this
  · have := h4 3 _ rfl; simpa [Addr.add] using this
/-- the parser in its block -/
structure PAt (bP B : Nat) (n : Int) (v : Value) (l : List Tk) (W : World) : Prop where
  p : Blk W bP 74 #[v, .int .i64 n]
  t : TksAt W v l
  lo : ∀ b o m c, v = .slice (some ⟨b, o, none⟩) m c → l ≠ [] → b < B
theorem PAt.to {bP B : Nat} {n : Int} {v : Value} {l : List Tk} {W W' : World} (h : PAt bP B n v l W) (hb : Below W.heap.size W W') : PAt bP B n v l W' := ⟨h.p.to hb, h.t.to hb, h.lo⟩
def PSt (bP B : Nat) (n : Int) (l : List Tk) (W : World) : Prop := ∃ v, PAt bP B n v l W
theorem PSt.to {bP B : Nat} {n : Int} {l : List Tk} {W W' : World} (h : PSt bP B n l W) (hb : Below W.heap.size W W') : PSt bP B n l W' := h.imp fun v h => h.to hb
set_option maxRecDepth 100000 in
set_option maxHeartbeats 1000000 in
theorem sees_any (bP B : Nat) (n : Int) (l : List Tk) (k : Int) (s : List UInt8) (hl : l.length ≤ 8796093022208) (w : World) (h : PSt bP B n l w) :
    Calls Tryz.prog 82 #[.pointer (some ⟨bP, 0, none⟩), .int .i64 k, .string (bs s)] w fun e w' => e = .returned (.bool (seesP k s l)) ∧ w' = w := by
  obtain ⟨v, hp, ht, _⟩ := h
  have p0 := hp.cell 0
  cases l with
  | nil =>
    obtain ⟨A, c, rfl, _⟩ := ht.slice
    clear ht hp
    go_enter Tryz.func82, Tryz.ntmps82
    go_wp2_with fail
    go_ret
    exact ⟨rfl, rfl⟩
  | cons t r =>
    obtain ⟨b, o, c, rfl, hc, hb, c0, c1, c2, c3⟩ := ht.hd
    have HV : Hid (seesP k s (t :: r) = (decide (t.k = k) && decide (t.s = s))) := rfl
    clear ht hp c1 c2
    by_cases hk : t.k = k
    · have e1 : (t.k == k) = true := by rw [beq_iff_eq]; exact hk
      by_cases hs : t.s = s
      · have e2 : ((bs t.s).toList == (bs s).toList) = true := by rw [bs_toList, bs_toList, beq_iff_eq]; exact hs
        rw [decide_eq_true hk, decide_eq_true hs] at HV
        clear hk hs
        go_enter Tryz.func82, Tryz.ntmps82
        go_wp2_with fail
        go_ret
        exact ⟨ret_bool (by rw [HV.out]; rfl), rfl⟩
      · have e2 : ((bs t.s).toList == (bs s).toList) = false := by rw [bs_toList, bs_toList, beq_eq_false_iff_ne]; exact hs
        rw [decide_eq_true hk, decide_eq_false hs] at HV
        clear hk hs
        go_enter Tryz.func82, Tryz.ntmps82
        go_wp2_with fail
        go_ret
        exact ⟨ret_bool (by rw [HV.out]; rfl), rfl⟩
    · have e1 : (t.k == k) = false := by rw [beq_eq_false_iff_ne]; exact hk
      rw [decide_eq_false hk] at HV
      clear hk
      go_enter Tryz.func82, Tryz.ntmps82
      go_wp2_with fail
      go_ret
      exact ⟨ret_bool (by rw [HV.out]; rfl), rfl⟩
end Go.Proofs.YtdcafoekbnacnaaGreatDoor

/- Package scheme: the parser: take. -/
set_option linter.unusedVariables false
set_option linter.unusedSimpArgs false
namespace Go.Proofs.YtdcafoekbnacnaaGreatDoor
open Go.RowKit Go.Shelf

def faultV (e a : Int) : Value := .iface 70 (.agg #[.int .i64 e, .int .i64 a])
def faultE (e a : Int) : Ending := .panicked [{ v := faultV e a, recovered := false }]
theorem RowsAt.only {w w' : World} {g size n c : Nat} {A : Option Addr} {ls : List (List Value)} (h : RowsAt w size (.slice A n c) ls) (ho : Only w w' g) (hne : ls ≠ [] → ∀ a, A = some a → a.block ≠ g) : RowsAt w' size (.slice A n c) ls := by
  obtain ⟨A', c', h1, h2, h3, h4⟩ := h
  injection h1 with e1 e2 e3
  subst e1 e3
  refine ⟨A, c, by rw [e2], h2, h3, fun k x hx => ?_⟩
  obtain ⟨a, e, hl, hc⟩ := h4 k x hx
  have hk : ls ≠ [] := fun e => by rw [e] at hx; simp at hx
  exact ⟨a, e, Nat.lt_of_lt_of_le hl ho.size, fun j u hu => (ho.cell (by rw [block_of_add, block_of_add]; exact hl) (by rw [block_of_add, block_of_add]; exact hne hk a e)).trans (hc j u hu)⟩
theorem Only.trans {a b c : World} {g : Nat} (h : Only a b g) (k : Only b c g) : Only a c g :=
  ⟨k.os.trans h.os, k.tape.trans h.tape, k.output.trans h.output, Nat.le_trans h.size k.size, fun i hi hne => (k.block i (Nat.lt_of_lt_of_le hi h.size) hne).trans (h.block i hi hne)⟩
theorem Only.of_below {w w' : World} (g : Nat) (h : Below w.heap.size w w') : Only w w' g := ⟨h.os, h.tape, h.output, h.size, fun i hi _ => h.block i hi⟩
theorem Only.alloc {w w' : World} {g : Nat} (h : Only w w' g) (o : Obj) : Only w (w'.alloc o) g := h.trans (Only.of_below g (below_one w' o))
def TakeR (bP B : Nat) (n : Int) (w : World) (r : PR Tk) (e : Ending) (w' : World) : Prop := match r with
  | .ok t l => e = .returned (.agg (tcells t)) ∧ PSt bP B n l w' ∧ Only w w' bP
  | .err x a => e = faultE x a ∧ Only w w' bP
theorem takeP_no {n k : Int} {s : List UInt8} {t : Tk} {r : List Tk} (h : t.k ≠ k ∨ (s ≠ [] ∧ t.s ≠ s)) : takeP n k s (t :: r) = .err 5 t.a := by show (if t.k ≠ k ∨ (s ≠ [] ∧ t.s ≠ s) then PR.err 5 t.a else PR.ok t r) = _; exact if_pos h
theorem takeP_yes {n k : Int} {s : List UInt8} {t : Tk} {r : List Tk} (h : ¬ (t.k ≠ k ∨ (s ≠ [] ∧ t.s ≠ s))) : takeP n k s (t :: r) = .ok t r := by show (if t.k ≠ k ∨ (s ≠ [] ∧ t.s ≠ s) then PR.err 5 t.a else PR.ok t r) = _; exact if_neg h
theorem tk_block {bP : Nat} {n : Int} {v u : Value} {w : World} {b o : Nat} (hp : Blk w bP 74 #[v, .int .i64 n]) (h : w.cell? ⟨b, o + 3, none⟩ = some u) : b ≠ bP := by
  rintro rfl
  have := (hp.cell (o + 3)).symm.trans h
  rw [Array.getElem?_eq_none (by simp)] at this
  cases this
/-- the parser without its first token -/
theorem tk_tail {bP B : Nat} {n : Int} {w W : World} {b o c c' : Nat} {t : Tk} {r : List Tk} {A : Option Addr} {T : TypeId} (hp : PAt bP B n (.slice (some ⟨b, o, none⟩) (r.length + 1) c) (t :: r) w) (hW : Only w W bP)
    (hB : Blk W bP 74 #[.slice A r.length c', .int .i64 n]) (hc : r.length ≤ c') (hA : r = [] ∨ A = some ⟨b, o + 4, none⟩) : PSt bP B n r W := by
  rcases hA with rfl | rfl
  · exact ⟨_, hB, ⟨A, c', rfl, Nat.zero_le _, by simp, fun k x h => by simp at h⟩, fun _ _ _ _ _ h => absurd rfl h⟩
  · obtain ⟨b', o', c0, e, _, _, _, _, _, h3⟩ := hp.t.hd
    injection e with e1 _ _
    injection e1 with e1
    injection e1 with e1 e2 _
    subst e1 e2
    have hne := tk_block hp.p h3
    refine ⟨_, hB, ?_, fun b' o' m' c' e _ => by cases e; exact hp.lo b o _ c rfl (by simp)⟩
    have hd := RowsAt.drop (a := ⟨b, o, none⟩) hp.t (k := 1) (by simp) c' (by simpa using hc)
    have := RowsAt.only hd hW (fun _ a ha => by cases ha; exact hne)
    unfold TksAt
    simpa [Addr.add] using this
set_option maxRecDepth 100000 in
set_option maxHeartbeats 2000000 in
theorem take_any (bP B : Nat) (n : Int) (l : List Tk) (k : Int) (s : List UInt8) (hl : l.length ≤ 8796093022208) (w : World) (h : PSt bP B n l w) :
    Calls Tryz.prog 81 #[.pointer (some ⟨bP, 0, none⟩), .int .i64 k, .string (bs s)] w fun e w' => TakeR bP B n w (takeP n k s l) e w' := by
  obtain ⟨v, hP⟩ := h
  have hbP := hP.p.lt
  have HP := hide hP
  have p0 := (hP.p.alloc (.cells #[.int .i64 0, .int .i64 0, .int .i64 0, .string ⟨#[]⟩] 50)).cell 0
  have p1 := (hP.p.alloc (.cells #[.int .i64 0, .int .i64 0, .int .i64 0, .string ⟨#[]⟩] 50)).cell 1
  cases l with
  | nil =>
    obtain ⟨A, c, rfl, _⟩ := hP.t.slice
    clear hP
    go_enter Tryz.func81, Tryz.ntmps81
    go_wp2_with fail
    exact ⟨rfl, rfl, (Only.refl w bP).alloc _⟩
  | cons t r =>
    obtain ⟨b, o, c, rfl, hc, hb, c0, c1, c2, c3⟩ := hP.t.hd
    have hbn := tk_block hP.p c3
    clear hP
    by_cases hk : t.k = k
    · have e1 : (t.k != k) = false := by rw [hk]; simp
      have GO : ∀ (X : ¬ (t.k ≠ k ∨ (s ≠ [] ∧ t.s ≠ s))), (s.isEmpty = true ∨ (s.isEmpty = false ∧ t.s = s)) → Calls Tryz.prog 81 #[.pointer (some ⟨bP, 0, none⟩), .int .i64 k, .string (bs s)] w fun e w' => TakeR bP B n w (takeP n k s (t :: r)) e w' := by
        intro X hs
        have HV := hide (takeP_yes (n := n) (r := r) X)
        clear X hk
        have hTT : ∀ (A : Option Addr) (cc : Nat), r.length ≤ cc → (r = [] ∨ A = some ⟨b, o + 4, none⟩) → TakeR bP B n w (PR.ok t r) (.returned (.agg (tcells t))) (((w.setCell ⟨bP, 0, none⟩ (.slice A r.length cc)).alloc (.cells (tcells t) 50)).alloc (.cells (tcells t) 50)) := by
          intro A cc h1 h2
          have ho : Only w (((w.setCell ⟨bP, 0, none⟩ (.slice A r.length cc)).alloc (.cells (tcells t) 50)).alloc (.cells (tcells t) 50)) bP := (((Only.refl w bP).set_ 0 _).alloc _).alloc _
          exact ⟨rfl, tk_tail (T := 3) HP.out ho (((HP.out.p.set_ 0 _).alloc _).alloc _) h1 h2, ho⟩
        have HTT := hide hTT
        have e0 : ((r.length : Int) + 1 == 0) = false := by rw [beq_eq_false_iff_ne]; omega
        have f2 := ((HP.out.p.alloc (.cells #[.int .i64 0, .int .i64 0, .int .i64 0, .string ⟨#[]⟩] 50)).alloc (.cells #[.int .i64 t.k, .int .i64 t.a, .int .i64 t.n, .string (bs t.s)] 50)).frozen 0
        have p2 := ((HP.out.p.alloc (.cells #[.int .i64 0, .int .i64 0, .int .i64 0, .string ⟨#[]⟩] 50)).alloc (.cells #[.int .i64 t.k, .int .i64 t.a, .int .i64 t.n, .string (bs t.s)] 50)).cell 0
        clear hTT
        by_cases hc1 : c = 1
        · subst hc1
          have hr0 : r.length = 0 := by omega
          have HR0 := hide (List.eq_nil_of_length_eq_zero hr0)
          clear hr0
          rcases hs with hs | ⟨hs, hts⟩
          · have e2 : (bs s).toList.isEmpty = true := by rw [bs_toList]; exact hs
            clear hs
            go_enter Tryz.func81, Tryz.ntmps81
            go_wp2_with fail
            rw [HV.out]
            have hbk : Blk (((w.setCell ⟨bP, 0, none⟩ (.slice (some ⟨b, o, none⟩) r.length 0)).alloc (.cells (tcells t) 50)).alloc (.cells (tcells t) 50)) w.heap.size 50 (tcells t) := by
              have := (Blk.new (w.setCell ⟨bP, 0, none⟩ (.slice (some ⟨b, o, none⟩) r.length 0)) 50 (tcells t)).alloc (.cells (tcells t) 50)
              rwa [World.size_setCell] at this
            have hr0 : r.length = 0 := by rw [HR0.out]; rfl
            have hfin := HTT.out (some ⟨b, o, none⟩) 0 (by rw [HR0.out]; exact Nat.le_refl 0) (.inl HR0.out)
            rw [hr0] at hbk hfin
            exact bodyPost_ret (results_cell_blk rfl _ _ w.heap.size 50 (tcells t) _ rfl hbk Tryz.underlying50 rfl (by kernel_rfl)) rfl hfin
          · have e2 : (bs s).toList.isEmpty = false := by rw [bs_toList]; exact hs
            have e3 : (bs t.s).toList = (bs s).toList := by rw [hts]
            have e4 : ((bs s).toList == (bs s).toList) = true := by simp
            have e5 : ((bs t.s).toList == (bs s).toList) = true := by rw [e3]; simp
            clear hs hts e3
            go_enter Tryz.func81, Tryz.ntmps81
            go_wp2_with fail
            rw [HV.out]
            have hbk : Blk (((w.setCell ⟨bP, 0, none⟩ (.slice (some ⟨b, o, none⟩) r.length 0)).alloc (.cells (tcells t) 50)).alloc (.cells (tcells t) 50)) w.heap.size 50 (tcells t) := by
              have := (Blk.new (w.setCell ⟨bP, 0, none⟩ (.slice (some ⟨b, o, none⟩) r.length 0)) 50 (tcells t)).alloc (.cells (tcells t) 50)
              rwa [World.size_setCell] at this
            have hr0 : r.length = 0 := by rw [HR0.out]; rfl
            have hfin := HTT.out (some ⟨b, o, none⟩) 0 (by rw [HR0.out]; exact Nat.le_refl 0) (.inl HR0.out)
            rw [hr0] at hbk hfin
            exact bodyPost_ret (results_cell_blk rfl _ _ w.heap.size 50 (tcells t) _ rfl hbk Tryz.underlying50 rfl (by kernel_rfl)) rfl hfin
        · have hc2 : 1 < c := by omega
          rcases hs with hs | ⟨hs, hts⟩
          · have e2 : (bs s).toList.isEmpty = true := by rw [bs_toList]; exact hs
            clear hs
            go_enter Tryz.func81, Tryz.ntmps81
            go_wp2_with fail
            rw [HV.out]
            have hbk : Blk (((w.setCell ⟨bP, 0, none⟩ (.slice (some ⟨b, o + 4, none⟩) r.length (c - 1))).alloc (.cells (tcells t) 50)).alloc (.cells (tcells t) 50)) w.heap.size 50 (tcells t) := by
              have := (Blk.new (w.setCell ⟨bP, 0, none⟩ (.slice (some ⟨b, o + 4, none⟩) r.length (c - 1))) 50 (tcells t)).alloc (.cells (tcells t) 50)
              rwa [World.size_setCell] at this
            exact bodyPost_ret (results_cell_blk rfl _ _ w.heap.size 50 (tcells t) _ rfl hbk Tryz.underlying50 rfl (by kernel_rfl)) rfl (HTT.out (some ⟨b, o + 4, none⟩) (c - 1) (by omega) (.inr rfl))
          · have e2 : (bs s).toList.isEmpty = false := by rw [bs_toList]; exact hs
            have e3 : (bs t.s).toList = (bs s).toList := by rw [hts]
            have e4 : ((bs s).toList == (bs s).toList) = true := by simp
            have e5 : ((bs t.s).toList == (bs s).toList) = true := by rw [e3]; simp
            clear hs hts e3
            go_enter Tryz.func81, Tryz.ntmps81
            go_wp2_with fail
            rw [HV.out]
            have hbk : Blk (((w.setCell ⟨bP, 0, none⟩ (.slice (some ⟨b, o + 4, none⟩) r.length (c - 1))).alloc (.cells (tcells t) 50)).alloc (.cells (tcells t) 50)) w.heap.size 50 (tcells t) := by
              have := (Blk.new (w.setCell ⟨bP, 0, none⟩ (.slice (some ⟨b, o + 4, none⟩) r.length (c - 1))) 50 (tcells t)).alloc (.cells (tcells t) 50)
              rwa [World.size_setCell] at this
            exact bodyPost_ret (results_cell_blk rfl _ _ w.heap.size 50 (tcells t) _ rfl hbk Tryz.underlying50 rfl (by kernel_rfl)) rfl (HTT.out (some ⟨b, o + 4, none⟩) (c - 1) (by omega) (.inr rfl))
      by_cases hs0 : s = []
      · exact GO (by rintro (h | ⟨h, _⟩); exact h hk; exact h hs0) (.inl (by rw [hs0]; rfl))
      · have hse : s.isEmpty = false := by cases s with | nil => exact absurd rfl hs0 | cons a l => rfl
        by_cases hts : t.s = s
        · exact GO (by rintro (h | ⟨_, h⟩); exact h hk; exact h hts) (.inr ⟨hse, hts⟩)
        · have HV := hide (takeP_no (n := n) (s := s) (r := r) (t := t) (k := k) (.inr ⟨hs0, hts⟩))
          have e0 : ((r.length : Int) + 1 == 0) = false := by rw [beq_eq_false_iff_ne]; omega
          have e2 : (bs s).toList.isEmpty = false := by rw [bs_toList]; exact hse
          have e3 : ((bs t.s).toList == (bs s).toList) = false := by rw [bs_toList, bs_toList, beq_eq_false_iff_ne]; exact hts
          clear hk GO hts hs0 hse
          go_enter Tryz.func81, Tryz.ntmps81
          go_wp2_with fail
          exact ⟨rfl, by rw [HV.out]; exact ⟨rfl, ((Only.refl w bP).alloc _).alloc _⟩⟩
    · have e1 : (t.k != k) = true := by rw [bne_iff_ne]; exact hk
      have HV := hide (takeP_no (n := n) (s := s) (r := r) (.inl hk))
      clear hk
      go_enter Tryz.func81, Tryz.ntmps81
      go_wp2_with fail
      exact ⟨rfl, by rw [HV.out]; exact ⟨rfl, ((Only.refl w bP).alloc _).alloc _⟩⟩
end Go.Proofs.YtdcafoekbnacnaaGreatDoor

/- Package scheme: the parser: between. -/
set_option linter.unusedVariables false
set_option linter.unusedSimpArgs false
namespace Go.Proofs.YtdcafoekbnacnaaGreatDoor
open Go.RowKit Go.Shelf

/-- what a function of the parser gives -/
def ResR {α : Type} (enc : α → Value) (bP B : Nat) (n : Int) (w : World) (r : PR α) (e : Ending) (w' : World) : Prop := match r with
  | .ok t l => e = .returned (enc t) ∧ PSt bP B n l w' ∧ Only w w' bP
  | .err x a => e = faultE x a ∧ Only w w' bP
theorem take_sees {n k : Int} {s : List UInt8} {l : List Tk} (h : seesP k s l = true) : ∃ t, takeP n k s l = .ok t l.tail ∧ l ≠ [] := by
  cases l with
  | nil => cases h
  | cons t r =>
    have h' : (decide (t.k = k) && decide (t.s = s)) = true := h
    simp only [Bool.and_eq_true, decide_eq_true_eq] at h'
    exact ⟨t, takeP_yes (by rintro (h | ⟨_, h⟩); exact h h'.1; exact h h'.2), by simp⟩
theorem PSt.only {bP B : Nat} {n : Int} {l : List Tk} {w : World} (h : PSt bP B n l w) : bP < w.heap.size := by obtain ⟨v, h, _, _⟩ := h; exact h.lt
/-- how the rest of the tokens gets shorter -/
theorem takeP_len {n k : Int} {s : List UInt8} {l r : List Tk} {t : Tk} (h : takeP n k s l = .ok t r) : l = t :: r := by
  cases l with
  | nil => cases h
  | cons x y =>
    have h' : (if x.k ≠ k ∨ (s ≠ [] ∧ x.s ≠ s) then PR.err 5 x.a else PR.ok x y) = .ok t r := h
    split at h'
    · cases h'
    · cases h'; rfl
set_option maxRecDepth 100000 in
set_option maxHeartbeats 2000000 in
theorem between_any (bP B : Nat) (n : Int) (l : List Tk) (wd : List UInt8) (hl : l.length ≤ 8796093022208) (w : World) (h : PSt bP B n l w) :
    Calls Tryz.prog 118 #[.pointer (some ⟨bP, 0, none⟩), .string (bs wd)] w fun e w' => ResR (fun b => .string (bs b)) bP B n w (betwP n wd l) e w' := by
  have HP := hide h
  have CS := fun w h => sees_any bP B n l 1 wd hl w h
  clear h
  cases hs : seesP 1 wd l with
  | false =>
    have HV : Hid (betwP n wd l = .ok [] l) := by show _ = _; unfold betwP; rw [hs]; rfl
    rw [hs] at CS
    clear hs
    go_enter Tryz.func118, Tryz.ntmps118
    go_wp2_with fail
    refine (CS _ HP.out).mono ?_
    rintro e w' ⟨rfl, e9⟩
    have e9 := e9.symm
    subst e9
    go_wp2_with fail
    go_ret
    rw [HV.out]
    exact ⟨rfl, HP.out, Only.refl _ _⟩
  | true =>
    have HV : Hid (betwP n wd l = match takeP n 3 [] l.tail with | .err e a => .err e a | .ok t r => if t.s = [] ∨ smallB t.s = false then .err 1 t.a else .ok t.s r) := by show _ = _; unfold betwP; rw [if_pos hs]; rfl
    obtain ⟨t0, ht0, hne⟩ := take_sees (n := n) hs
    have hlt : l.tail.length ≤ 8796093022208 := by rw [List.length_tail]; omega
    have CT := fun w h => take_any bP B n l 1 wd hl w h
    have CT2 := fun w h => take_any bP B n l.tail 3 [] hlt w h
    rw [ht0] at CT
    rw [hs] at CS
    clear hs ht0 hne
    go_enter Tryz.func118, Tryz.ntmps118
    go_wp2_with fail
    refine (CS _ HP.out).mono ?_
    rintro e w' ⟨rfl, e9⟩
    have e9 := e9.symm
    subst e9
    go_wp2_with fail
    refine (CT _ HP.out).mono ?_
    rintro e w2 ⟨rfl, hp, ho⟩
    have HP2 := hide hp
    have HO2 := hide ho
    clear hp ho CT CS
    unfold tcells
    go_wp2_with fail
    refine (CT2 _ HP2.out).mono ?_
    intro e w3 hr
    clear CT2
    cases hT : takeP n 3 [] l.tail with
    | err x a =>
      rw [hT] at hr HV
      obtain ⟨he, ho⟩ := hr
      unfold faultE at he
      subst he
      have HO3 := hide (HO2.out.trans ho)
      clear ho hT
      go_wp2_with fail
      exact ⟨rfl, by rw [HV.out]; exact ⟨rfl, HO3.out⟩⟩
    | ok t r =>
      rw [hT] at hr HV
      obtain ⟨rfl, hp, ho⟩ := hr
      have HO3 := hide (HO2.out.trans ho)
      have HP3 := hide hp
      clear hp ho hT
      unfold tcells
      have HV : Hid (betwP n wd l = if t.s = [] ∨ smallB t.s = false then .err 1 t.a else .ok t.s r) := HV
      cases hse : t.s.isEmpty with
      | true =>
        have e2 : (bs t.s).toList.isEmpty = true := by rw [bs_toList]; exact hse
        rw [if_pos (.inl (List.isEmpty_iff.1 hse))] at HV
        clear hse
        go_wp2_with fail
        exact ⟨rfl, by rw [HV.out]; exact ⟨rfl, HO3.out.alloc _⟩⟩
      | false =>
        have e2 : (bs t.s).toList.isEmpty = false := by rw [bs_toList]; exact hse
        have HB := hide (Blk.new w3 50 #[.int .i64 t.k, .int .i64 t.a, .int .i64 t.n, .string (bs t.s)])
        go_wp2_with fail
        refine (small_any t.s _).mono ?_
        rintro e w4 ⟨rfl, hb⟩
        have HO4 := hide ((HO3.out.alloc _).trans (Only.of_below bP hb))
        have HP4 := hide ((HP3.out.to (below_one _ _)).to hb)
        have q1 := (HB.out.to hb).cell 1
        have q3 := (HB.out.to hb).cell 3
        clear hb HO3 HP3 HB
        cases hsm : smallB t.s with
        | false =>
          rw [if_pos (.inr hsm)] at HV
          clear hsm hse
          go_wp2_with fail
          exact ⟨rfl, by rw [HV.out]; exact ⟨rfl, HO4.out⟩⟩
        | true =>
          rw [if_neg (by rintro (h | h); rw [h] at hse; cases hse; rw [h] at hsm; cases hsm)] at HV
          clear hsm hse
          go_wp2_with fail
          go_ret
          rw [HV.out]
          exact ⟨rfl, HP4.out, HO4.out⟩
end Go.Proofs.YtdcafoekbnacnaaGreatDoor

/- Package scheme: the parser: ground for part. -/
set_option linter.unusedVariables false
set_option linter.unusedSimpArgs false
namespace Go.Proofs.YtdcafoekbnacnaaGreatDoor
open Go.RowKit Go.Shelf

theorem kindW_idx (s : List UInt8) : Lib.idxOfS ((wordsL.map bs).take 9) (bs s) = kindW s := by
  have hl : (wordsL.map bs).length = 9 := rfl
  have hg : ∀ j, j < 9 → ∃ x, wordsL[j]? = some x ∧ (wordsL.map bs).getD j ByteArray.empty = bs x := fun j hj => by
    obtain ⟨x, hx⟩ : ∃ x, wordsL[j]? = some x := ⟨_, List.getElem?_eq_getElem (by exact hj)⟩
    exact ⟨x, hx, by rw [List.getD_eq_getElem?_getD, List.getElem?_map, hx]; rfl⟩
  unfold kindW
  cases hf : wordsL.findIdx? (· == s) with
  | none =>
    dsimp only
    refine Lib.idxOfS_miss _ _ _ fun j hj => ?_
    obtain ⟨x, hx, e⟩ := hg j hj
    rw [e]
    intro h
    have := List.findIdx?_eq_none_iff.1 hf x (List.mem_of_getElem? hx)
    rw [bs_inj h] at this
    simp at this
  | some k =>
    obtain ⟨h1, h2, h3⟩ := List.findIdx?_eq_some_iff_getElem.1 hf
    dsimp only
    have hk9 : k < 9 := h1
    refine Lib.idxOfS_hit _ _ _ _ hk9 (by rw [hl]; exact Nat.le_refl _) ?_ (fun j hj => ?_)
    · obtain ⟨x, hx, e⟩ := hg k hk9
      rw [e]
      rw [List.getElem?_eq_getElem h1] at hx
      rw [← Option.some.inj hx, eq_of_beq h2]
    · obtain ⟨x, hx, e⟩ := hg j (by omega)
      rw [e]
      intro h
      have := h3 j hj
      rw [List.getElem?_eq_getElem (by show j < 9; omega)] at hx
      rw [Option.some.inj hx, bs_inj h] at this
      simp at this
def wordsC : Array Value := (wordsL.map fun l => Value.string (bs l)).toArray
theorem word_index (s : List UInt8) (b : Nat) (w : World) (hB : Blk w b 25 wordsC) :
    Calls Tryz.prog 115 #[.slice (some ⟨b, 0, none⟩) 9 9, .string (bs s)] w fun e w' => e = .returned (.int .i64 (kindW s)) ∧ w' = w := by
  rw [← kindW_idx]
  refine Tryz.slices_Index_string b 0 9 9 (wordsL.map bs) (bs s) w (by decide) (by decide) fun j hj => ?_
  rw [Nat.zero_add, hB.cell j]
  have hj9 : j < wordsL.length := by simpa using hj
  unfold wordsC
  rw [List.getElem?_toArray, List.getElem?_map, List.getD_eq_getElem?_getD, List.getElem?_map, List.getElem?_eq_getElem hj9]
  rfl
theorem part1_any (p : Prt) (k : Int) (bX : Nat) (w : World) (c1 c2 c3 : Value) (hX : Blk w bX 41 #[.int .i64 k, c1, c2, c3]) : Calls Tryz.prog 117 #[.agg #[.int .i64 p.k, .string (bs p.b), .string (bs p.a), .bool p.need], .pointer (some ⟨bX, 0, none⟩)] w fun e w' => e = .returned (.bool (p.k == k)) ∧ Below w.heap.size w w' := by
  have HB := hide (below_one w (.cells #[.int .i64 p.k, .string (bs p.b), .string (bs p.a), .bool p.need] 41))
  have cK := (hX.alloc (.cells #[.int .i64 p.k, .string (bs p.b), .string (bs p.a), .bool p.need] 41)).cell 0
  clear hX
  go_enter Tryz.func117, Tryz.ntmps117
  go_wp2_with fail
  go_ret
  exact ⟨rfl, HB.out⟩
theorem indexF_nil (f : Value) (w : World) : Calls Tryz.prog 59 #[.slice none 0 0, f] w fun e w' => e = .returned (.int .i64 (-1)) ∧ w' = w := by
  go_enter Tryz.func59, Tryz.ntmps59
  go_wp2_with fail
  go_loop [8] (fun i => i = .int .i64 0) (fun _ => 0)
  case atStart => rfl
  case round =>
    obtain rfl := hrel
    go_wp2_with fail
    go_ret
    exact ⟨rfl, rfl⟩
theorem containsF_nil (f : Value) (w : World) : Calls Tryz.prog 116 #[.slice none 0 0, f] w fun e w' => e = .returned (.bool false) ∧ w' = w := by
  go_enter Tryz.func116, Tryz.ntmps116
  go_wp2_with ((with_reducible refine (indexF_nil _ _).mono ?_); rintro e w' ⟨rfl, rfl⟩)
  go_ret
  exact ⟨rfl, rfl⟩
theorem contains_part (ps : List Prt) (hl0 : ps.length ≤ 8796093022208) (v : Value) (k : Int) (bX : Nat) (c1 c2 c3 : Value) (w : World) (hP : PartsAt w v ps) (hnil : ps = [] → v = .slice none 0 0) (hX : Blk w bX 41 #[.int .i64 k, c1, c2, c3]) :
    Calls Tryz.prog 116 #[v, .func (.func 117) #[] #[.pointer (some ⟨bX, 0, none⟩)]] w fun e w' => e = .returned (.bool (ps.any fun y => decide (y.k = k))) ∧ Below w.heap.size w w' := by
  by_cases hne : ps = []
  · rw [hnil hne, hne]
    exact (containsF_nil _ w).mono fun e w' ⟨h1, h2⟩ => ⟨h1, h2 ▸ Below.refl _ _⟩
  obtain ⟨b, off, c, rfl, _, hb, hat⟩ := hP.lit hne
  have := AnyQ.slices_ContainsFunc Tryz.laysH8 4 (fun _ => by kernel_rfl) (fun _ => by kernel_rfl) ptV (fun _ => rfl) (fun p => p.k == k) 117 #[.pointer (some ⟨bX, 0, none⟩)] (enters_of Tryz.func117 (by kernel_rfl) rfl) b off ps.length c ps w
    (fun W x hW => (part1_any x k bX W c1 c2 c3 (hX.to hW)).mono fun e w' ⟨h1, h2⟩ => ⟨h1, below_to hW (Nat.le_refl _) h2⟩) (Nat.le_refl _) (by omega) hb hat
  rw [List.take_length] at this
  exact this
end Go.Proofs.YtdcafoekbnacnaaGreatDoor

/- Package scheme: the parser: part. -/
set_option linter.unusedVariables false
set_option linter.unusedSimpArgs false
namespace Go.Proofs.YtdcafoekbnacnaaGreatDoor
open Go.RowKit Go.Shelf

theorem Only.set_new {w W : World} {g b : Nat} (h : Only w W g) (hb : w.heap.size ≤ b) (i : Nat) (v : Value) : Only w (W.setCell ⟨b, i, none⟩ v) g :=
  ⟨h.os, h.tape, h.output, by simpa using h.size, fun k hk hne => (Below.heap_setCell W ⟨b, i, none⟩ v k (by show k ≠ b; omega)).trans (h.block k hk hne)⟩
theorem PSt.setNew {bP B : Nat} {n : Int} {l : List Tk} {W : World} {b i : Nat} {v : Value} (h : PSt bP B n l W) (hb : b ≠ bP) (hl : l ≠ [] → ∀ v', PAt bP B n v' l W → ∀ b' o c, v' = .slice (some ⟨b', o, none⟩) l.length c → b' ≠ b) : PSt bP B n l (W.setCell ⟨b, i, none⟩ v) := by
  obtain ⟨v', hp⟩ := h
  refine ⟨v', hp.p.far (p := ⟨b, i, none⟩) (Ne.symm hb) _, ?_, hp.lo⟩
  obtain ⟨A, c, rfl, hc⟩ := hp.t.slice
  cases l with
  | nil => exact ⟨A, c, rfl, Nat.zero_le _, by simp, fun k x h => by simp at h⟩
  | cons t r =>
    obtain ⟨b', o, c', e, _⟩ := hp.t.hd
    have hne := hl (by simp) _ hp b' o c' e
    have e2 := e
    injection e2 with e2 _ _
    subst e2
    exact RowsAt.only hp.t (Only.set_ (Only.refl W b) i v) (fun _ a ha => by cases ha; exact hne)
/-- the parts and the parser keep apart -/
theorem PartsAt.apart {w : World} {v : Value} {ps : List Prt} {bP : Nat} {n : Int} {u : Value} (h : PartsAt w v ps) (hp : Blk w bP 74 #[u, .int .i64 n]) {A : Option Addr} {m c : Nat} (e : v = .slice A m c) : ps ≠ [] → ∀ a, A = some a → a.block ≠ bP := by
  intro hne a ha
  obtain ⟨b, off, c', e2, _, hb, hat⟩ := h.lit hne
  rw [e, ha] at e2
  injection e2 with e3 _ _
  injection e3 with e3
  subst e3
  rintro rfl
  have hl : 0 < ps.length := by cases ps with | nil => exact absurd rfl hne | cons p r => simp
  have := hat 0 hl 3 _ rfl
  rw [hp.cell, Array.getElem?_eq_none (by simp)] at this
  cases this
theorem PartsAt.only {w W : World} {v : Value} {ps : List Prt} {bP : Nat} {n : Int} {u : Value} (h : PartsAt w v ps) (hp : Blk w bP 74 #[u, .int .i64 n]) (ho : Only w W bP) : PartsAt W v ps := by
  obtain ⟨A, c, rfl, _⟩ := h.slice
  exact RowsAt.only h ho (fun hne a ha => h.apart hp rfl (by intro e; rw [e] at hne; exact hne rfl) a ha)
def ptVal (p : Prt) : Value := .agg (ptC p)
def zPrt : Prt := ⟨0, [], [], false⟩
/-- part under way: the result's box, the part's box, the parser -/
structure PtS (bP B : Nat) (n : Int) (w : World) (l : List Tk) (q p : Prt) (W : World) : Prop where
  st : PSt bP B n l W
  r : Blk W w.heap.size 41 (ptC q)
  x : Blk W (w.heap.size + 1) 41 (ptC p)
  on : Only w W bP
  lt : bP < w.heap.size
theorem PtS.to {bP B : Nat} {n : Int} {w W W' : World} {l : List Tk} {q p : Prt} (h : PtS bP B n w l q p W) (hb : Below W.heap.size W W') : PtS bP B n w l q p W' :=
  ⟨h.st.to hb, h.r.to hb, h.x.to hb, h.on.trans (Only.of_below bP hb), h.lt⟩
theorem PtS.step {bP B : Nat} {n : Int} {w W W' : World} {l l' : List Tk} {q p : Prt} (h : PtS bP B n w l q p W) (hs : PSt bP B n l' W') (ho : Only W W' bP) : PtS bP B n w l' q p W' :=
  ⟨hs, ho.blk h.r (by have := h.lt; omega), ho.blk h.x (by have := h.lt; omega), h.on.trans ho, h.lt⟩
theorem tok_ne {W : World} {bP B b b' o c : Nat} {n : Int} {l : List Tk} {p : Prt} {v' : Value} (hx : Blk W b 41 (ptC p)) (hl : l ≠ []) (hp : PAt bP B n v' l W) (hv : v' = .slice (some ⟨b', o, none⟩) l.length c) : b' ≠ b := by
  intro hb
  cases l with
  | nil => exact hl rfl
  | cons t r =>
    obtain ⟨b2, o2, c2, e2, _, _, _, c1, _, c3⟩ := hp.t.hd
    rw [hv] at e2
    injection e2 with e3 _ _
    injection e3 with e3
    injection e3 with e4 e5 _
    subst e4 e5 hb
    rcases Nat.eq_zero_or_pos o with h0 | h0
    · subst h0
      have := (hx.cell 1).symm.trans c1
      simp [ptC] at this
    · have := (hx.cell (o + 3)).symm.trans c3
      rw [Array.getElem?_eq_none (by simp [ptC]; omega)] at this
      cases this
theorem PtS.set {bP B : Nat} {n : Int} {w W : World} {l : List Tk} {q p p' : Prt} {i : Nat} {u : Value} (h : PtS bP B n w l q p W) (e : (ptC p).setIfInBounds i u = ptC p') : PtS bP B n w l q p' (W.setCell ⟨w.heap.size + 1, i, none⟩ u) :=
  ⟨h.st.setNew (by have := h.lt; omega) fun hl v' hp b' o c hv => tok_ne h.x hl hp hv, h.r.far (p := ⟨w.heap.size + 1, i, none⟩) (by show w.heap.size ≠ w.heap.size + 1; omega) _, by rw [← e]; exact h.x.set_ i u, h.on.set_new (by omega) i u, h.lt⟩
theorem PtS.setR {bP B : Nat} {n : Int} {w W : World} {l : List Tk} {q q' p : Prt} {i : Nat} {u : Value} (h : PtS bP B n w l q p W) (e : (ptC q).setIfInBounds i u = ptC q') : PtS bP B n w l q' p (W.setCell ⟨w.heap.size, i, none⟩ u) :=
  ⟨h.st.setNew (by have := h.lt; omega) fun hl v' hp b' o c hv => tok_ne h.r hl hp hv, by rw [← e]; exact h.r.set_ i u, h.x.far (p := ⟨w.heap.size, i, none⟩) (by show w.heap.size + 1 ≠ w.heap.size; omega) _, h.on.set_new (by omega) i u, h.lt⟩
theorem betwP_len {n : Int} {wd : List UInt8} {l r : List Tk} {b : List UInt8} (h : betwP n wd l = .ok b r) : r.length ≤ l.length := by
  unfold betwP at h
  split at h
  · cases hT : takeP n 3 [] l.tail with
    | err x a => rw [hT] at h; cases h
    | ok t r2 =>
      rw [hT] at h
      dsimp only at h
      split at h
      · cases h
      · cases h
        have := takeP_len hT
        have h2 : l.tail.length ≤ l.length := by rw [List.length_tail]; omega
        rw [this] at h2
        simp at h2; omega
  · cases h; exact Nat.le_refl _
theorem words_lit (w : World) : Calls Tryz.prog 40 #[] w fun e w' => e = .returned (.agg #[.string (bs []), .string (bs [117, 110, 105, 116]), .string (bs [102, 108, 111, 111, 114]), .string (bs [110, 117, 109, 98, 101, 114]), .string (bs [115, 116, 114, 101, 101, 116]), .string (bs [98, 108, 111, 99, 107]), .string (bs [100, 105, 115, 116, 114, 105, 99, 116]), .string (bs [99, 105, 116, 121]), .string (bs [99, 111, 100, 101])]) ∧ Below w.heap.size w w' := words_any w
set_option maxRecDepth 100000 in
set_option maxHeartbeats 4000000 in
theorem part_any (bP B : Nat) (n : Int) (l : List Tk) (others : List Prt) (v : Value) (hl : l.length ≤ 8796093022208) (hlo : others.length ≤ 8796093022208) (w : World) (h : PSt bP B n l w) (hO : PartsAt w v others) (hnil : others = [] → v = .slice none 0 0) :
    Calls Tryz.prog 83 #[.pointer (some ⟨bP, 0, none⟩), v] w fun e w' => ResR ptVal bP B n w (partP n others l) e w' := by
  have hbP := h.only
  obtain ⟨u0, hp0⟩ := h
  have HOO : Hid (∀ W, Only w W bP → PartsAt W v others) := fun W ho => hO.only hp0.p ho
  have HNL := hide hnil
  have H0 : Hid (PtS bP B n w l zPrt zPrt ((w.alloc (.cells #[.int .i64 0, .string ⟨#[]⟩, .string ⟨#[]⟩, .bool false] 41)).alloc (.cells #[.int .i64 0, .string ⟨#[]⟩, .string ⟨#[]⟩, .bool false] 41))) := by
    refine ⟨⟨u0, hp0.to (below_two w _ _)⟩, (Blk.new w _ _).alloc _, ?_, ((Only.refl w bP).alloc _).alloc _, hbP⟩
    have := Blk.new (w.alloc (.cells #[.int .i64 0, .string ⟨#[]⟩, .string ⟨#[]⟩, .bool false] 41)) 41 #[.int .i64 0, .string ⟨#[]⟩, .string ⟨#[]⟩, .bool false]
    rwa [World.size_alloc] at this
  have CS := fun w h => sees_any bP B n l 1 wNeed hl w h
  clear hp0 hO hnil
  cases hs : seesP 1 wNeed l
  · have HR : Hid (partP n others l = partR n others false l) := by show _ = _; unfold partP; rw [hs]; rfl
    rw [hs] at CS
    clear hs
    go_enter Tryz.func83, Tryz.ntmps83
    go_wp2_with fail
    refine (CS _ H0.out.st).mono ?_
    rintro e w' ⟨rfl, e9⟩
    have e9 := e9.symm
    subst e9
    go_wp2_with fail
    have HT1 : Hid (PtS bP B n w l zPrt ⟨0, [], [], false⟩ ((w.alloc (.cells #[.int .i64 0, .string ⟨#[]⟩, .string ⟨#[]⟩, .bool false] 41)).alloc (.cells #[.int .i64 0, .string ⟨#[]⟩, .string ⟨#[]⟩, .bool false] 41))) := H0.out
    clear H0 CS
    generalize (w.alloc (.cells #[.int .i64 0, .string ⟨#[]⟩, .string ⟨#[]⟩, .bool false] 41)).alloc (.cells #[.int .i64 0, .string ⟨#[]⟩, .string ⟨#[]⟩, .bool false] 41) = w1 at *
    have CT := fun w h => take_any bP B n l 1 [] hl w h
    refine (CT _ HT1.out.st).mono ?_
    intro e w2 hr
    clear CT
    cases hT : takeP n 1 [] l with
    | err x a =>
      rw [hT] at hr
      have HV : Hid (partP n others l = .err x a) := by show _ = _; rw [HR.out]; unfold partR; rw [hT]
      obtain ⟨he, ho⟩ := hr
      unfold faultE at he
      subst he
      have HO3 := hide (HT1.out.on.trans ho)
      clear ho hT
      go_wp2_with fail
      exact ⟨rfl, by rw [HV.out]; exact ⟨rfl, HO3.out⟩⟩
    | ok t r =>
      rw [hT] at hr
      obtain ⟨rfl, hp, ho⟩ := hr
      have hr : r.length ≤ 8796093022208 := by have := takeP_len hT; rw [this] at hl; simp at hl; omega
      have HR2 : Hid (partP n others l = if kindW t.s < 1 then .err 7 t.a else if others.any (fun y => decide (y.k = kindW t.s)) then .err 8 t.a else match betwP n wBefore r with | .err e a => .err e a | .ok b r2 => match betwP n wAfter r2 with | .err e a => .err e a | .ok a r3 => match takeP n 4 [59] r3 with | .err e a => .err e a | .ok _ r4 => .ok ⟨kindW t.s, b, a, false⟩ r4) := by
        show _ = _; rw [HR.out]; unfold partR; rw [hT]; rfl
      have HT2 := hide (HT1.out.step hp ho)
      have HLT : Hid (w.heap.size + 1 < w2.heap.size) := HT2.out.x.lt
      clear hp ho hT HT1 HR
      unfold tcells
      go_wp2_with fail
      refine (words_lit _).mono ?_
      rintro e w3 ⟨rfl, hb⟩
      have HT3 := hide ((HT2.out.to (below_one w2 (.cells #[.int .i64 t.k, .int .i64 t.a, .int .i64 t.n, .string (bs t.s)] 50))).to hb)
      have HK3 := hide ((Blk.new w2 50 #[.int .i64 t.k, .int .i64 t.a, .int .i64 t.n, .string (bs t.s)]).to hb)
      clear hb HT2
      go_wp2_with fail
      have HT4 := hide (HT3.out.to (below_one w3 (.cells #[.string (bs []), .string (bs [117, 110, 105, 116]), .string (bs [102, 108, 111, 111, 114]), .string (bs [110, 117, 109, 98, 101, 114]), .string (bs [115, 116, 114, 101, 101, 116]), .string (bs [98, 108, 111, 99, 107]), .string (bs [100, 105, 115, 116, 114, 105, 99, 116]), .string (bs [99, 105, 116, 121]), .string (bs [99, 111, 100, 101])] 25)))
      have HK4 := hide (HK3.out.alloc (.cells #[.string (bs []), .string (bs [117, 110, 105, 116]), .string (bs [102, 108, 111, 111, 114]), .string (bs [110, 117, 109, 98, 101, 114]), .string (bs [115, 116, 114, 101, 101, 116]), .string (bs [98, 108, 111, 99, 107]), .string (bs [100, 105, 115, 116, 114, 105, 99, 116]), .string (bs [99, 105, 116, 121]), .string (bs [99, 111, 100, 101])] 25))
      have HW4 : Hid (Blk (w3.alloc (.cells #[.string (bs []), .string (bs [117, 110, 105, 116]), .string (bs [102, 108, 111, 111, 114]), .string (bs [110, 117, 109, 98, 101, 114]), .string (bs [115, 116, 114, 101, 101, 116]), .string (bs [98, 108, 111, 99, 107]), .string (bs [100, 105, 115, 116, 114, 105, 99, 116]), .string (bs [99, 105, 116, 121]), .string (bs [99, 111, 100, 101])] 25)) w3.heap.size 25 wordsC) := Blk.new w3 25 #[.string (bs []), .string (bs [117, 110, 105, 116]), .string (bs [102, 108, 111, 111, 114]), .string (bs [110, 117, 109, 98, 101, 114]), .string (bs [115, 116, 114, 101, 101, 116]), .string (bs [98, 108, 111, 99, 107]), .string (bs [100, 105, 115, 116, 114, 105, 99, 116]), .string (bs [99, 105, 116, 121]), .string (bs [99, 111, 100, 101])]
      clear HT3 HK3
      generalize w3.alloc (.cells #[.string (bs []), .string (bs [117, 110, 105, 116]), .string (bs [102, 108, 111, 111, 114]), .string (bs [110, 117, 109, 98, 101, 114]), .string (bs [115, 116, 114, 101, 101, 116]), .string (bs [98, 108, 111, 99, 107]), .string (bs [100, 105, 115, 116, 114, 105, 99, 116]), .string (bs [99, 105, 116, 121]), .string (bs [99, 111, 100, 101])] 25) = w4 at *
      obtain ⟨U, hU, g, u0', rfl, hgu, hi⟩ := cls w4
      have x3 : ∀ u, (g u).cell? ⟨w2.heap.size, 3, none⟩ = some (.string (bs t.s)) := fun u => (HK4.out.to (hgu u)).cell 3
      have CI : ∀ u, Calls Tryz.prog 115 #[.slice (some ⟨w3.heap.size, 0, none⟩) 9 9, .string (bs t.s)] (g u) fun e w'' => e = .returned (.int .i64 (kindW t.s)) ∧ ∃ u', w'' = g u' := fun u => (word_index t.s w3.heap.size (g u) (HW4.out.to (hgu u))).mono fun e w' ⟨h1, h2⟩ => ⟨h1, u, h2⟩
      refine wp_region_class_tail g 5 (by kernel_rfl) (by kernel_rfl) (hi _ (hgu _).drew) ?_
      simp only [List.take_succ_cons, List.take_zero, List.drop_succ_cons, List.drop_zero]
      repeat (go_big_quiet_step (with_reducible exact CI _))
      refine wpQuiet_nil ?_
      intro w5 hw5
      obtain ⟨u, rfl⟩ := hw5
      have HT5 := hide (HT4.out.to (hgu u))
      have HK5 := hide (HK4.out.to (hgu u))
      clear x3 CI HT4 HK4 HW4
      revert HK5 HT5
      generalize g u = w5
      intro HT5 HK5
      clear hgu hi g u u0'
      have z0 : w5.cell? ⟨w.heap.size + 1, 0, none⟩ = some (.int .i64 0) := HT5.out.x.cell 0
      have y0 := HT5.out.x.frozen 0
      have HT6 : Hid (PtS bP B n w r zPrt ⟨kindW t.s, [], [], false⟩ (w5.setCell ⟨w.heap.size + 1, 0, none⟩ (.int .i64 (kindW t.s)))) := HT5.out.set rfl
      have HK6 := hide (HK5.out.far (p := ⟨w.heap.size + 1, 0, none⟩) (by show w2.heap.size ≠ w.heap.size + 1; have := HT5.out.r.lt; have := HLT.out; omega) (.int .i64 (kindW t.s)))
      have a1 : (w5.setCell ⟨w.heap.size + 1, 0, none⟩ (.int .i64 (kindW t.s))).cell? ⟨w2.heap.size, 1, none⟩ = some (.int .i64 t.a) := HK6.out.cell 1
      by_cases hk1 : kindW t.s < 1
      · have HV : Hid (partP n others l = .err 7 t.a) := by show _ = _; rw [HR2.out, if_pos hk1]
        have e1 : decide (kindW t.s < 1) = true := decide_eq_true hk1
        clear hk1
        go_wp2_with fail
        exact ⟨rfl, by rw [HV.out]; exact ⟨rfl, HT6.out.on⟩⟩
      rw [if_neg hk1] at HR2
      have e1 : decide (kindW t.s < 1) = false := decide_eq_false hk1
      clear hk1
      go_wp2_with fail
      clear z0 y0 a1 e1 HK5 HT5
      generalize w5.setCell ⟨w.heap.size + 1, 0, none⟩ (.int .i64 (kindW t.s)) = w6 at *
      refine (contains_part others hlo v (kindW t.s) (w.heap.size + 1) (.string (bs [])) (.string (bs [])) (.bool false) w6 (HOO.out _ HT6.out.on) HNL.out HT6.out.x).mono ?_
      rintro e w7 ⟨rfl, hb⟩
      have HT7 := hide (HT6.out.to hb)
      have HK7 := hide (HK6.out.to hb)
      clear hb HT6 HK6
      have a1 : w7.cell? ⟨w2.heap.size, 1, none⟩ = some (.int .i64 t.a) := HK7.out.cell 1
      cases hany : others.any (fun y => decide (y.k = kindW t.s)) with
      | true =>
        have HV : Hid (partP n others l = .err 8 t.a) := by show _ = _; rw [HR2.out, if_pos hany]
        clear hany
        go_wp2_with fail
        exact ⟨rfl, by rw [HV.out]; exact ⟨rfl, HT7.out.on⟩⟩
      | false =>
        rw [if_neg (by rw [hany]; decide)] at HR2
        clear hany
        go_wp2_with fail
        clear a1 HK7
        refine (between_any bP B n r wBefore hr w7 HT7.out.st).mono ?_
        intro e w8 hr'
        cases hB : betwP n wBefore r with
        | err x a =>
          rw [hB] at hr'
          have HV : Hid (partP n others l = .err x a) := by show _ = _; rw [HR2.out, hB]
          obtain ⟨he, ho⟩ := hr'
          unfold faultE at he
          subst he
          have HO := hide (HT7.out.on.trans ho)
          clear ho hB
          go_wp2_with fail
          exact ⟨rfl, by rw [HV.out]; exact ⟨rfl, HO.out⟩⟩
        | ok b r2 =>
          rw [hB] at hr'
          obtain ⟨rfl, hp, ho⟩ := hr'
          have hr2 : r2.length ≤ 8796093022208 := Nat.le_trans (betwP_len hB) hr
          have HR3 : Hid (partP n others l = match betwP n wAfter r2 with | .err e a => .err e a | .ok a r3 => match takeP n 4 [59] r3 with | .err e a => .err e a | .ok _ r4 => .ok ⟨kindW t.s, b, a, false⟩ r4) := by show _ = _; rw [HR2.out, hB]
          have HT8 := hide (HT7.out.step hp ho)
          clear hp ho hB HT7 HR2
          have z1 : w8.cell? ⟨w.heap.size + 1, 1, none⟩ = some (.string (bs [])) := HT8.out.x.cell 1
          have y1 := HT8.out.x.frozen 1
          have HT9 : Hid (PtS bP B n w r2 zPrt ⟨kindW t.s, b, [], false⟩ (w8.setCell ⟨w.heap.size + 1, 1, none⟩ (.string (bs b)))) := HT8.out.set rfl
          go_wp2_with fail
          clear z1 y1 HT8
          generalize w8.setCell ⟨w.heap.size + 1, 1, none⟩ (.string (bs b)) = w9 at *
          refine (between_any bP B n r2 wAfter hr2 w9 HT9.out.st).mono ?_
          intro e w10 hr'
          cases hB : betwP n wAfter r2 with
          | err x a =>
            rw [hB] at hr'
            have HV : Hid (partP n others l = .err x a) := by show _ = _; rw [HR3.out, hB]
            obtain ⟨he, ho⟩ := hr'
            unfold faultE at he
            subst he
            have HO := hide (HT9.out.on.trans ho)
            clear ho hB
            go_wp2_with fail
            exact ⟨rfl, by rw [HV.out]; exact ⟨rfl, HO.out⟩⟩
          | ok a r3 =>
            rw [hB] at hr'
            obtain ⟨rfl, hp, ho⟩ := hr'
            have hr3 : r3.length ≤ 8796093022208 := Nat.le_trans (betwP_len hB) hr2
            have HR4 : Hid (partP n others l = match takeP n 4 [59] r3 with | .err e a => .err e a | .ok _ r4 => .ok ⟨kindW t.s, b, a, false⟩ r4) := by show _ = _; rw [HR3.out, hB]
            have HT10 := hide (HT9.out.step hp ho)
            clear hp ho hB HT9 HR3
            have z1 : w10.cell? ⟨w.heap.size + 1, 2, none⟩ = some (.string (bs [])) := HT10.out.x.cell 2
            have y1 := HT10.out.x.frozen 2
            have HT11 : Hid (PtS bP B n w r3 zPrt ⟨kindW t.s, b, a, false⟩ (w10.setCell ⟨w.heap.size + 1, 2, none⟩ (.string (bs a)))) := HT10.out.set rfl
            go_wp2_with fail
            clear z1 y1 HT10
            generalize w10.setCell ⟨w.heap.size + 1, 2, none⟩ (.string (bs a)) = w11 at *
            refine (take_any bP B n r3 4 [59] hr3 w11 HT11.out.st).mono ?_
            intro e w12 hr'
            cases hB : takeP n 4 [59] r3 with
            | err x y =>
              rw [hB] at hr'
              have HV : Hid (partP n others l = .err x y) := by show _ = _; rw [HR4.out, hB]
              obtain ⟨he, ho⟩ := hr'
              unfold faultE at he
              subst he
              have HO := hide (HT11.out.on.trans ho)
              clear ho hB
              go_wp2_with fail
              exact ⟨rfl, by rw [HV.out]; exact ⟨rfl, HO.out⟩⟩
            | ok ts r4 =>
              rw [hB] at hr'
              obtain ⟨rfl, hp, ho⟩ := hr'
              have HV : Hid (partP n others l = .ok ⟨kindW t.s, b, a, false⟩ r4) := by show _ = _; rw [HR4.out, hB]
              have HT12 := hide (HT11.out.step hp ho)
              clear hp ho hB HT11 HR4
              have z0 : w12.cell? ⟨w.heap.size + 1, 0, none⟩ = some (.int .i64 (kindW t.s)) := HT12.out.x.cell 0
              have z1 : w12.cell? ⟨w.heap.size + 1, 1, none⟩ = some (.string (bs b)) := HT12.out.x.cell 1
              have z2 : w12.cell? ⟨w.heap.size + 1, 2, none⟩ = some (.string (bs a)) := HT12.out.x.cell 2
              have z3 : w12.cell? ⟨w.heap.size + 1, 3, none⟩ = some (.bool false) := HT12.out.x.cell 3
              have q0 : w12.cell? ⟨w.heap.size, 0, none⟩ = some (.int .i64 0) := HT12.out.r.cell 0
              have q1 : w12.cell? ⟨w.heap.size, 1, none⟩ = some (.string (bs [])) := HT12.out.r.cell 1
              have q2 : w12.cell? ⟨w.heap.size, 2, none⟩ = some (.string (bs [])) := HT12.out.r.cell 2
              have q3 : w12.cell? ⟨w.heap.size, 3, none⟩ = some (.bool false) := HT12.out.r.cell 3
              have y0 := HT12.out.r.frozen 0
              have y1 := HT12.out.r.frozen 1
              have y2 := HT12.out.r.frozen 2
              have y3 := HT12.out.r.frozen 3
              have HA1 : Hid (PtS bP B n w r4 ⟨kindW t.s, [], [], false⟩ ⟨kindW t.s, b, a, false⟩ _) := HT12.out.setR (i := 0) (u := .int .i64 (kindW t.s)) rfl
              have HA2 : Hid (PtS bP B n w r4 ⟨kindW t.s, b, [], false⟩ ⟨kindW t.s, b, a, false⟩ _) := HA1.out.setR (i := 1) (u := .string (bs b)) rfl
              have HA3 : Hid (PtS bP B n w r4 ⟨kindW t.s, b, a, false⟩ ⟨kindW t.s, b, a, false⟩ _) := HA2.out.setR (i := 2) (u := .string (bs a)) rfl
              have HA4 : Hid (PtS bP B n w r4 ⟨kindW t.s, b, a, false⟩ ⟨kindW t.s, b, a, false⟩ _) := HA3.out.setR (i := 3) (u := .bool false) rfl
              go_wp2_with fail
              exact bodyPost_ret (results_cell_blk rfl _ _ w.heap.size 41 (ptC ⟨kindW t.s, b, a, false⟩) _ rfl HA4.out.r Tryz.underlying41 rfl (by kernel_rfl)) rfl (by rw [HV.out]; exact ⟨rfl, HA4.out.st, HA4.out.on⟩)
  · have HR : Hid (partP n others l = partR n others true l.tail) := by show _ = _; unfold partP; rw [hs]; rfl
    obtain ⟨t0, ht0, hne⟩ := take_sees (n := n) hs
    have hlt : l.tail.length ≤ 8796093022208 := by rw [List.length_tail]; omega
    have CT := fun w h => take_any bP B n l 1 wNeed hl w h
    rw [ht0] at CT
    rw [hs] at CS
    clear hs ht0 hne
    go_enter Tryz.func83, Tryz.ntmps83
    go_wp2_with fail
    refine (CS _ H0.out.st).mono ?_
    rintro e w' ⟨rfl, e9⟩
    have e9 := e9.symm
    subst e9
    go_wp2_with fail
    refine (CT _ H0.out.st).mono ?_
    rintro e w0 ⟨rfl, hp, ho⟩
    have HTa := hide (H0.out.step hp ho)
    have HT1 : Hid (PtS bP B n w l.tail zPrt ⟨0, [], [], true⟩ (w0.setCell ⟨w.heap.size + 1, 3, none⟩ (.bool true))) := HTa.out.set rfl
    have z3 : w0.cell? ⟨w.heap.size + 1, 3, none⟩ = some (.bool false) := HTa.out.x.cell 3
    have y3 := HTa.out.x.frozen 3
    clear hp ho CT CS H0 HTa
    go_wp2_with fail
    clear z3 y3
    generalize w0.setCell ⟨w.heap.size + 1, 3, none⟩ (.bool true) = w1 at *
    obtain ⟨l1, hl'⟩ : ∃ l', l.tail = l' := ⟨_, rfl⟩
    rw [hl'] at HR HT1 hlt
    clear hl' hl
    have hl := hlt
    clear hlt
    have CT := fun w h => take_any bP B n l1 1 [] hl w h
    refine (CT _ HT1.out.st).mono ?_
    intro e w2 hr
    clear CT
    cases hT : takeP n 1 [] l1 with
    | err x a =>
      rw [hT] at hr
      have HV : Hid (partP n others l = .err x a) := by show _ = _; rw [HR.out]; unfold partR; rw [hT]
      obtain ⟨he, ho⟩ := hr
      unfold faultE at he
      subst he
      have HO3 := hide (HT1.out.on.trans ho)
      clear ho hT
      go_wp2_with fail
      exact ⟨rfl, by rw [HV.out]; exact ⟨rfl, HO3.out⟩⟩
    | ok t r =>
      rw [hT] at hr
      obtain ⟨rfl, hp, ho⟩ := hr
      have hr : r.length ≤ 8796093022208 := by have := takeP_len hT; rw [this] at hl; simp at hl; omega
      have HR2 : Hid (partP n others l = if kindW t.s < 1 then .err 7 t.a else if others.any (fun y => decide (y.k = kindW t.s)) then .err 8 t.a else match betwP n wBefore r with | .err e a => .err e a | .ok b r2 => match betwP n wAfter r2 with | .err e a => .err e a | .ok a r3 => match takeP n 4 [59] r3 with | .err e a => .err e a | .ok _ r4 => .ok ⟨kindW t.s, b, a, true⟩ r4) := by
        show _ = _; rw [HR.out]; unfold partR; rw [hT]; rfl
      have HT2 := hide (HT1.out.step hp ho)
      have HLT : Hid (w.heap.size + 1 < w2.heap.size) := HT2.out.x.lt
      clear hp ho hT HT1 HR
      unfold tcells
      go_wp2_with fail
      refine (words_lit _).mono ?_
      rintro e w3 ⟨rfl, hb⟩
      have HT3 := hide ((HT2.out.to (below_one w2 (.cells #[.int .i64 t.k, .int .i64 t.a, .int .i64 t.n, .string (bs t.s)] 50))).to hb)
      have HK3 := hide ((Blk.new w2 50 #[.int .i64 t.k, .int .i64 t.a, .int .i64 t.n, .string (bs t.s)]).to hb)
      clear hb HT2
      go_wp2_with fail
      have HT4 := hide (HT3.out.to (below_one w3 (.cells #[.string (bs []), .string (bs [117, 110, 105, 116]), .string (bs [102, 108, 111, 111, 114]), .string (bs [110, 117, 109, 98, 101, 114]), .string (bs [115, 116, 114, 101, 101, 116]), .string (bs [98, 108, 111, 99, 107]), .string (bs [100, 105, 115, 116, 114, 105, 99, 116]), .string (bs [99, 105, 116, 121]), .string (bs [99, 111, 100, 101])] 25)))
      have HK4 := hide (HK3.out.alloc (.cells #[.string (bs []), .string (bs [117, 110, 105, 116]), .string (bs [102, 108, 111, 111, 114]), .string (bs [110, 117, 109, 98, 101, 114]), .string (bs [115, 116, 114, 101, 101, 116]), .string (bs [98, 108, 111, 99, 107]), .string (bs [100, 105, 115, 116, 114, 105, 99, 116]), .string (bs [99, 105, 116, 121]), .string (bs [99, 111, 100, 101])] 25))
      have HW4 : Hid (Blk (w3.alloc (.cells #[.string (bs []), .string (bs [117, 110, 105, 116]), .string (bs [102, 108, 111, 111, 114]), .string (bs [110, 117, 109, 98, 101, 114]), .string (bs [115, 116, 114, 101, 101, 116]), .string (bs [98, 108, 111, 99, 107]), .string (bs [100, 105, 115, 116, 114, 105, 99, 116]), .string (bs [99, 105, 116, 121]), .string (bs [99, 111, 100, 101])] 25)) w3.heap.size 25 wordsC) := Blk.new w3 25 #[.string (bs []), .string (bs [117, 110, 105, 116]), .string (bs [102, 108, 111, 111, 114]), .string (bs [110, 117, 109, 98, 101, 114]), .string (bs [115, 116, 114, 101, 101, 116]), .string (bs [98, 108, 111, 99, 107]), .string (bs [100, 105, 115, 116, 114, 105, 99, 116]), .string (bs [99, 105, 116, 121]), .string (bs [99, 111, 100, 101])]
      clear HT3 HK3
      generalize w3.alloc (.cells #[.string (bs []), .string (bs [117, 110, 105, 116]), .string (bs [102, 108, 111, 111, 114]), .string (bs [110, 117, 109, 98, 101, 114]), .string (bs [115, 116, 114, 101, 101, 116]), .string (bs [98, 108, 111, 99, 107]), .string (bs [100, 105, 115, 116, 114, 105, 99, 116]), .string (bs [99, 105, 116, 121]), .string (bs [99, 111, 100, 101])] 25) = w4 at *
      obtain ⟨U, hU, g, u0', rfl, hgu, hi⟩ := cls w4
      have x3 : ∀ u, (g u).cell? ⟨w2.heap.size, 3, none⟩ = some (.string (bs t.s)) := fun u => (HK4.out.to (hgu u)).cell 3
      have CI : ∀ u, Calls Tryz.prog 115 #[.slice (some ⟨w3.heap.size, 0, none⟩) 9 9, .string (bs t.s)] (g u) fun e w'' => e = .returned (.int .i64 (kindW t.s)) ∧ ∃ u', w'' = g u' := fun u => (word_index t.s w3.heap.size (g u) (HW4.out.to (hgu u))).mono fun e w' ⟨h1, h2⟩ => ⟨h1, u, h2⟩
      refine wp_region_class_tail g 5 (by kernel_rfl) (by kernel_rfl) (hi _ (hgu _).drew) ?_
      simp only [List.take_succ_cons, List.take_zero, List.drop_succ_cons, List.drop_zero]
      repeat (go_big_quiet_step (with_reducible exact CI _))
      refine wpQuiet_nil ?_
      intro w5 hw5
      obtain ⟨u, rfl⟩ := hw5
      have HT5 := hide (HT4.out.to (hgu u))
      have HK5 := hide (HK4.out.to (hgu u))
      clear x3 CI HT4 HK4 HW4
      revert HK5 HT5
      generalize g u = w5
      intro HT5 HK5
      clear hgu hi g u u0'
      have z0 : w5.cell? ⟨w.heap.size + 1, 0, none⟩ = some (.int .i64 0) := HT5.out.x.cell 0
      have y0 := HT5.out.x.frozen 0
      have HT6 : Hid (PtS bP B n w r zPrt ⟨kindW t.s, [], [], true⟩ (w5.setCell ⟨w.heap.size + 1, 0, none⟩ (.int .i64 (kindW t.s)))) := HT5.out.set rfl
      have HK6 := hide (HK5.out.far (p := ⟨w.heap.size + 1, 0, none⟩) (by show w2.heap.size ≠ w.heap.size + 1; have := HT5.out.r.lt; have := HLT.out; omega) (.int .i64 (kindW t.s)))
      have a1 : (w5.setCell ⟨w.heap.size + 1, 0, none⟩ (.int .i64 (kindW t.s))).cell? ⟨w2.heap.size, 1, none⟩ = some (.int .i64 t.a) := HK6.out.cell 1
      by_cases hk1 : kindW t.s < 1
      · have HV : Hid (partP n others l = .err 7 t.a) := by show _ = _; rw [HR2.out, if_pos hk1]
        have e1 : decide (kindW t.s < 1) = true := decide_eq_true hk1
        clear hk1
        go_wp2_with fail
        exact ⟨rfl, by rw [HV.out]; exact ⟨rfl, HT6.out.on⟩⟩
      rw [if_neg hk1] at HR2
      have e1 : decide (kindW t.s < 1) = false := decide_eq_false hk1
      clear hk1
      go_wp2_with fail
      clear z0 y0 a1 e1 HK5 HT5
      generalize w5.setCell ⟨w.heap.size + 1, 0, none⟩ (.int .i64 (kindW t.s)) = w6 at *
      refine (contains_part others hlo v (kindW t.s) (w.heap.size + 1) (.string (bs [])) (.string (bs [])) (.bool true) w6 (HOO.out _ HT6.out.on) HNL.out HT6.out.x).mono ?_
      rintro e w7 ⟨rfl, hb⟩
      have HT7 := hide (HT6.out.to hb)
      have HK7 := hide (HK6.out.to hb)
      clear hb HT6 HK6
      have a1 : w7.cell? ⟨w2.heap.size, 1, none⟩ = some (.int .i64 t.a) := HK7.out.cell 1
      cases hany : others.any (fun y => decide (y.k = kindW t.s)) with
      | true =>
        have HV : Hid (partP n others l = .err 8 t.a) := by show _ = _; rw [HR2.out, if_pos hany]
        clear hany
        go_wp2_with fail
        exact ⟨rfl, by rw [HV.out]; exact ⟨rfl, HT7.out.on⟩⟩
      | false =>
        rw [if_neg (by rw [hany]; decide)] at HR2
        clear hany
        go_wp2_with fail
        clear a1 HK7
        refine (between_any bP B n r wBefore hr w7 HT7.out.st).mono ?_
        intro e w8 hr'
        cases hB : betwP n wBefore r with
        | err x a =>
          rw [hB] at hr'
          have HV : Hid (partP n others l = .err x a) := by show _ = _; rw [HR2.out, hB]
          obtain ⟨he, ho⟩ := hr'
          unfold faultE at he
          subst he
          have HO := hide (HT7.out.on.trans ho)
          clear ho hB
          go_wp2_with fail
          exact ⟨rfl, by rw [HV.out]; exact ⟨rfl, HO.out⟩⟩
        | ok b r2 =>
          rw [hB] at hr'
          obtain ⟨rfl, hp, ho⟩ := hr'
          have hr2 : r2.length ≤ 8796093022208 := Nat.le_trans (betwP_len hB) hr
          have HR3 : Hid (partP n others l = match betwP n wAfter r2 with | .err e a => .err e a | .ok a r3 => match takeP n 4 [59] r3 with | .err e a => .err e a | .ok _ r4 => .ok ⟨kindW t.s, b, a, true⟩ r4) := by show _ = _; rw [HR2.out, hB]
          have HT8 := hide (HT7.out.step hp ho)
          clear hp ho hB HT7 HR2
          have z1 : w8.cell? ⟨w.heap.size + 1, 1, none⟩ = some (.string (bs [])) := HT8.out.x.cell 1
          have y1 := HT8.out.x.frozen 1
          have HT9 : Hid (PtS bP B n w r2 zPrt ⟨kindW t.s, b, [], true⟩ (w8.setCell ⟨w.heap.size + 1, 1, none⟩ (.string (bs b)))) := HT8.out.set rfl
          go_wp2_with fail
          clear z1 y1 HT8
          generalize w8.setCell ⟨w.heap.size + 1, 1, none⟩ (.string (bs b)) = w9 at *
          refine (between_any bP B n r2 wAfter hr2 w9 HT9.out.st).mono ?_
          intro e w10 hr'
          cases hB : betwP n wAfter r2 with
          | err x a =>
            rw [hB] at hr'
            have HV : Hid (partP n others l = .err x a) := by show _ = _; rw [HR3.out, hB]
            obtain ⟨he, ho⟩ := hr'
            unfold faultE at he
            subst he
            have HO := hide (HT9.out.on.trans ho)
            clear ho hB
            go_wp2_with fail
            exact ⟨rfl, by rw [HV.out]; exact ⟨rfl, HO.out⟩⟩
          | ok a r3 =>
            rw [hB] at hr'
            obtain ⟨rfl, hp, ho⟩ := hr'
            have hr3 : r3.length ≤ 8796093022208 := Nat.le_trans (betwP_len hB) hr2
            have HR4 : Hid (partP n others l = match takeP n 4 [59] r3 with | .err e a => .err e a | .ok _ r4 => .ok ⟨kindW t.s, b, a, true⟩ r4) := by show _ = _; rw [HR3.out, hB]
            have HT10 := hide (HT9.out.step hp ho)
            clear hp ho hB HT9 HR3
            have z1 : w10.cell? ⟨w.heap.size + 1, 2, none⟩ = some (.string (bs [])) := HT10.out.x.cell 2
            have y1 := HT10.out.x.frozen 2
            have HT11 : Hid (PtS bP B n w r3 zPrt ⟨kindW t.s, b, a, true⟩ (w10.setCell ⟨w.heap.size + 1, 2, none⟩ (.string (bs a)))) := HT10.out.set rfl
            go_wp2_with fail
            clear z1 y1 HT10
            generalize w10.setCell ⟨w.heap.size + 1, 2, none⟩ (.string (bs a)) = w11 at *
            refine (take_any bP B n r3 4 [59] hr3 w11 HT11.out.st).mono ?_
            intro e w12 hr'
            cases hB : takeP n 4 [59] r3 with
            | err x y =>
              rw [hB] at hr'
              have HV : Hid (partP n others l = .err x y) := by show _ = _; rw [HR4.out, hB]
              obtain ⟨he, ho⟩ := hr'
              unfold faultE at he
              subst he
              have HO := hide (HT11.out.on.trans ho)
              clear ho hB
              go_wp2_with fail
              exact ⟨rfl, by rw [HV.out]; exact ⟨rfl, HO.out⟩⟩
            | ok ts r4 =>
              rw [hB] at hr'
              obtain ⟨rfl, hp, ho⟩ := hr'
              have HV : Hid (partP n others l = .ok ⟨kindW t.s, b, a, true⟩ r4) := by show _ = _; rw [HR4.out, hB]
              have HT12 := hide (HT11.out.step hp ho)
              clear hp ho hB HT11 HR4
              have z0 : w12.cell? ⟨w.heap.size + 1, 0, none⟩ = some (.int .i64 (kindW t.s)) := HT12.out.x.cell 0
              have z1 : w12.cell? ⟨w.heap.size + 1, 1, none⟩ = some (.string (bs b)) := HT12.out.x.cell 1
              have z2 : w12.cell? ⟨w.heap.size + 1, 2, none⟩ = some (.string (bs a)) := HT12.out.x.cell 2
              have z3 : w12.cell? ⟨w.heap.size + 1, 3, none⟩ = some (.bool true) := HT12.out.x.cell 3
              have q0 : w12.cell? ⟨w.heap.size, 0, none⟩ = some (.int .i64 0) := HT12.out.r.cell 0
              have q1 : w12.cell? ⟨w.heap.size, 1, none⟩ = some (.string (bs [])) := HT12.out.r.cell 1
              have q2 : w12.cell? ⟨w.heap.size, 2, none⟩ = some (.string (bs [])) := HT12.out.r.cell 2
              have q3 : w12.cell? ⟨w.heap.size, 3, none⟩ = some (.bool false) := HT12.out.r.cell 3
              have y0 := HT12.out.r.frozen 0
              have y1 := HT12.out.r.frozen 1
              have y2 := HT12.out.r.frozen 2
              have y3 := HT12.out.r.frozen 3
              have HA1 : Hid (PtS bP B n w r4 ⟨kindW t.s, [], [], false⟩ ⟨kindW t.s, b, a, true⟩ _) := HT12.out.setR (i := 0) (u := .int .i64 (kindW t.s)) rfl
              have HA2 : Hid (PtS bP B n w r4 ⟨kindW t.s, b, [], false⟩ ⟨kindW t.s, b, a, true⟩ _) := HA1.out.setR (i := 1) (u := .string (bs b)) rfl
              have HA3 : Hid (PtS bP B n w r4 ⟨kindW t.s, b, a, false⟩ ⟨kindW t.s, b, a, true⟩ _) := HA2.out.setR (i := 2) (u := .string (bs a)) rfl
              have HA4 : Hid (PtS bP B n w r4 ⟨kindW t.s, b, a, true⟩ ⟨kindW t.s, b, a, true⟩ _) := HA3.out.setR (i := 3) (u := .bool true) rfl
              go_wp2_with fail
              exact bodyPost_ret (results_cell_blk rfl _ _ w.heap.size 41 (ptC ⟨kindW t.s, b, a, true⟩) _ rfl HA4.out.r Tryz.underlying41 rfl (by kernel_rfl)) rfl (by rw [HV.out]; exact ⟨rfl, HA4.out.st, HA4.out.on⟩)
end Go.Proofs.YtdcafoekbnacnaaGreatDoor

/- A region that draws its order: .. and facts that hold until an operation is run. -/
set_option linter.unusedVariables false
set_option linter.unusedSimpArgs false
namespace Go.Proofs.YtdcafoekbnacnaaGreatDoor
open Go Go.RowKit

section
variable {P : Program} {ops : Array Oper} {Q : Exit → Act → World → Prop} {md : Region.Mode} {C : World → Prop} {a0 : Act}
/-- operation k waits for i, by however many steps -/
def waitsT (md : Region.Mode) (ops : Array Oper) : Nat → Nat → Nat → Bool
  | 0, _, _ => false
  | f + 1, k, i => match ops[k]? with
    | none => false
    | some o => o.after.any fun e => Region.binds md e && (e.on == i || waitsT md ops f e.on i)
theorem waitsT_listed {listed : Array Bool} (hcl : ∀ (j : Nat) (oj : Oper), ops[j]? = some oj → listed.getD j false = true → ∀ e ∈ oj.after, Region.binds md e = true → listed.getD e.on false = true) :
    ∀ (f k i : Nat), waitsT md ops f k i = true → ∀ o, ops[k]? = some o → (∀ e ∈ o.after, Region.binds md e = true → listed.getD e.on false = true) → listed.getD i false = true
  | 0, _, _, h, _, _, _ => by cases h
  | f + 1, k, i, h, o, ho, hall => by
    unfold waitsT at h
    simp only [ho] at h
    obtain ⟨e, he, hb⟩ := Array.any_eq_true'.1 h
    simp only [Bool.and_eq_true, Bool.or_eq_true, beq_iff_eq] at hb
    have hl := hall e he hb.1
    rcases hb.2 with h1 | h1
    · rw [← h1]; exact hl
    · cases hoe : ops[e.on]? with
      | none =>
        cases f with
        | zero => cases h1
        | succ f => unfold waitsT at h1; simp only [hoe] at h1; cases h1
      | some oe => exact waitsT_listed hcl f e.on i h1 oe hoe (hcl e.on oe hoe hl)

theorem wpAny_pre (Kn : Nat → Act → World → Prop) (N : Nat → Act → World → Prop) (Rel : Nat → World → World → Prop)
    (hacyc : ∀ (i : Nat) (o : Oper), ops[i]? = some o → ∀ e ∈ o.after, Region.binds md e = true → e.on < i)
    (hC : ∀ i w w', C w → Rel i w w' → C w')
    (hkeep : ∀ (i j : Nat) (o : Oper), i ≠ j → ops[i]? = some o → Region.waitsFor md ops j i = false → ∀ a v w w', Kn j a w → Rel i w w' → Kn j (a.put o.dst v) w')
    (hNk : ∀ (i k : Nat) (o : Oper), i ≠ k → ops[k]? = some o → waitsT md ops ops.size k i = false → ∀ a v w w', N i a w → Rel k w w' → N i (a.put o.dst v) w')
    (hop : ∀ (i : Nat) (o : Oper), ops[i]? = some o → ∀ a w, C w → Same ops a0 a → (∀ e ∈ o.after, Region.binds md e = true → Kn e.on a w) → N i a w →
      wpOp P ops Q i (fun a' w' => ∃ v, a' = a.put o.dst v ∧ Rel i w w' ∧ Kn i (a.put o.dst v) w') a w)
    (hfin : ∀ a w, C w → Same ops a0 a → (∀ i, i < ops.size → Kn i a w) → Q .normal a w) :
    ∀ (f : Nat) (L : List Nat) (listed : Array Bool) (a : Act) (w : World), L.length ≤ f → listed.size = ops.size → (∀ i, i < ops.size → listed.getD i true = false → i ∈ L) → C w → Same ops a0 a →
      (∀ (j : Nat) (oj : Oper), ops[j]? = some oj → listed.getD j false = true → ∀ e ∈ oj.after, Region.binds md e = true → listed.getD e.on false = true) →
      (∀ i, i < ops.size → listed.getD i false = true → Kn i a w) → (∀ i, i < ops.size → listed.getD i true = false → N i a w) → wpAny P md ops Q f listed a w := by
  have hfull : ∀ listed : Array Bool, listed.size = ops.size → Region.ready md ops listed = [] → ∀ (d i : Nat), i < d → i < ops.size → listed.getD i false = true := by
    intro listed hsz hr d
    induction d with
    | zero => intro i hi; omega
    | succ d ih =>
      intro i hi hin
      rcases Nat.lt_or_ge i d with h | h
      · exact ih i h hin
      · obtain rfl : i = d := by omega
        cases hl : listed.getD i false with
        | true => rfl
        | false =>
          have hmem : i ∈ Region.ready md ops listed := by
            rw [mem_ready]
            refine ⟨getD_in (by omega) hl, ops[i], Array.getElem?_eq_getElem hin, fun e he hb => ?_⟩
            have := hacyc i ops[i] (Array.getElem?_eq_getElem hin) e he hb
            exact ih e.on this (by omega)
          rw [hr] at hmem
          cases hmem
  intro f
  induction f with
  | zero =>
    intro L listed a w hL hsz hun hw hs hcl hk hN
    have hall : ∀ i, i < ops.size → listed.getD i false = true := by
      intro i hi
      cases hl : listed.getD i false with
      | true => rfl
      | false =>
        have := hun i hi (getD_in (by omega) hl)
        have hL0 : L = [] := List.length_eq_zero_iff.1 (by omega)
        rw [hL0] at this
        cases this
    have hr : Region.ready md ops listed = [] := by
      apply List.eq_nil_iff_forall_not_mem.2
      intro i hi
      obtain ⟨h1, o, ho, _⟩ := mem_ready.1 hi
      have hlt : i < ops.size := (Array.getElem?_eq_some_iff.1 ho).1
      have h2 := hall i hlt
      rw [getD_both h1] at h2
      cases h2
    exact ⟨hr, hfin a w hw hs (fun i hi => hk i hi (hall i hi))⟩
  | succ f ih =>
    intro L listed a w hL hsz hun hw hs hcl hk hN
    refine ⟨fun hr => hfin a w hw hs (fun i hi => hk i hi (hfull listed hsz hr _ i hi hi)), fun i hi => ?_⟩
    obtain ⟨hiun, o, ho, hall⟩ := mem_ready.1 hi
    have hlt : i < ops.size := (Array.getElem?_eq_some_iff.1 ho).1
    refine wpOp_mono ?_ (hop i o ho a w hw hs (fun e he hb => hk e.on (by have := hacyc i o ho e he hb; omega) (hall e he hb)) (hN i hlt hiun))
    rintro a' w' ⟨v, rfl, hrel, hkn⟩
    have hiL := hun i hlt hiun
    refine ih (L.erase i) (listed.setIfInBounds i true) _ w' ?_ (by simpa using hsz) ?_ (hC i _ _ hw hrel) (hs.put ho v) ?_ ?_ ?_
    · rw [List.length_erase_of_mem hiL]; omega
    · intro j hj hjl
      rcases Nat.decEq j i with hji | hji
      · rw [getD_set_ne true (Ne.symm hji)] at hjl
        exact (List.mem_erase_of_ne hji).2 (hun j hj hjl)
      · subst hji
        rw [Array.getD_eq_getD_getElem?, Array.getElem?_setIfInBounds_self_of_lt (by omega)] at hjl
        cases hjl
    · intro j oj hoj hjl e he hb
      rcases Nat.decEq j i with hji | hji
      · rw [getD_set_ne false (Ne.symm hji)] at hjl
        exact getD_set_true (hcl j oj hoj hjl e he hb)
      · subst hji
        have : oj = o := Option.some.inj (hoj.symm.trans ho)
        subst this
        exact getD_set_true (hall e he hb)
    · intro j hj hjl
      rcases Nat.decEq j i with hji | hji
      · rw [getD_set_ne false (Ne.symm hji)] at hjl
        refine hkeep i j o (Ne.symm hji) ho ?_ a v w w' (hk j hj hjl) hrel
        cases hwf : Region.waitsFor md ops j i with
        | false => rfl
        | true =>
          obtain ⟨oj, hoj, e, he, hb, hon⟩ := Region.waitsFor_spec hwf
          have h1 := hcl j oj hoj hjl e he hb
          rw [hon, getD_both hiun] at h1
          cases h1
      · subst hji; exact hkn
    · intro j hj hjl
      rcases Nat.decEq j i with hji | hji
      · rw [getD_set_ne true (Ne.symm hji)] at hjl
        refine hNk j i o hji ho ?_ a v w w' (hN j hj hjl) hrel
        cases hwt : waitsT md ops ops.size i j with
        | false => rfl
        | true =>
          have := waitsT_listed hcl _ _ _ hwt o ho hall
          rw [getD_both hjl] at this
          cases this
      · subst hji
        rw [Array.getD_eq_getD_getElem?, Array.getElem?_setIfInBounds_self_of_lt (by omega)] at hjl
        cases hjl
/-- what operation i owes -/
def Owes2 (P : Program) (ops : Array Oper) (Q : Exit → Act → World → Prop) (C : World → Prop) (a0 : Act) (V : List (Option Value)) (Fs Ns : List (Nat × (Act → World → Prop))) (Rel : Nat → World → World → Prop) (i : Nat) (o : Oper) : Prop :=
  ∀ (a : Act) (w : World) (K : Act → World → Prop), C w → Same ops a0 a → (∀ e ∈ o.after, Region.binds .any e = true → Kn ops V Fs e.on a w) → (∀ p ∈ Ns, p.1 = i → p.2 a w) →
    (∀ v w', Rel i w w' → (∀ v0, V[i]? = some (some v0) → v = v0) → (∀ p ∈ Fs, p.1 = i → p.2 (a.put o.dst v) w') → K (a.put o.dst v) w') →
    if Region.wanted o (yielded ops a.tmps) then o.wp P a w K Q else K (a.put o.dst undef) w
def AllOwe2 (P : Program) (ops : Array Oper) (Q : Exit → Act → World → Prop) (C : World → Prop) (a0 : Act) (V : List (Option Value)) (Fs Ns : List (Nat × (Act → World → Prop))) (Rel : Nat → World → World → Prop) : List Oper → Nat → Prop
  | [], _ => True
  | o :: l, k => Owes2 P ops Q C a0 V Fs Ns Rel k o ∧ AllOwe2 P ops Q C a0 V Fs Ns Rel l (k + 1)
theorem AllOwe2.at {V : List (Option Value)} {Fs Ns : List (Nat × (Act → World → Prop))} {Rel : Nat → World → World → Prop} : ∀ (l : List Oper) (k : Nat), AllOwe2 P ops Q C a0 V Fs Ns Rel l k → ∀ (j : Nat) (o : Oper), l[j]? = some o → Owes2 P ops Q C a0 V Fs Ns Rel (k + j) o
  | [], _, _, j, o, ho => by simp at ho
  | x :: l, k, h, 0, o, ho => by
    simp only [List.getElem?_cons_zero, Option.some.injEq] at ho
    subst ho
    exact h.1
  | x :: l, k, h, j + 1, o, ho => by
    simp only [List.getElem?_cons_succ] at ho
    have := AllOwe2.at l (k + 1) h.2 j o ho
    rwa [show k + 1 + j = k + (j + 1) by omega] at this
theorem wpAny_lo2 {w : World} {l : List Oper} (V : List (Option Value)) (Fs : List (Nat × (Act → World → Prop))) (Ns : List (Nat × (Act → World → Prop))) (Rel : Nat → World → World → Prop)
    (hB : looseB l.toArray a0.tmps.size = true) (hCw : C w.drew) (hC : ∀ i w w', C w → Rel i w w' → C w')
    (hst : ∀ p ∈ Fs, ∀ (i : Nat) (a a' : Act) (w w' : World), i ≠ p.1 → Region.waitsFor .any l.toArray p.1 i = false → (∀ t, (Oper.slots l.toArray p.1).contains t = true → a'.tmps[t]? = a.tmps[t]?) → Rel i w w' → p.2 a w → p.2 a' w')
    (hN0 : ∀ p ∈ Ns, p.2 a0 w.drew)
    (hNst : ∀ p ∈ Ns, ∀ (i : Nat) (a a' : Act) (w w' : World), i ≠ p.1 → waitsT .any l.toArray l.length i p.1 = false → Rel i w w' → p.2 a w → (∀ o, l.toArray[i]? = some o → ∃ v, a' = a.put o.dst v) → p.2 a' w')
    (hop : AllOwe2 P l.toArray Q C a0 V Fs Ns Rel l 0)
    (hfin : ∀ a w, C w → Same l.toArray a0 a → (∀ i, i < l.length → Kn l.toArray V Fs i a w) → Q .normal a w) : wpAny P .any l.toArray Q l.toArray.size (Array.replicate l.toArray.size false) a0 w.drew := by
  have hspec := looseB_spec hB
  refine (wpAny_pre (C := C) (a0 := a0) (Kn l.toArray V Fs) (fun i a w => ∀ p ∈ Ns, p.1 = i → p.2 a w) Rel (fun i o ho => (hspec i o ho).1) hC ?_ ?_ ?_ ?_ _ (List.range l.toArray.size) _ _ _ (by simp) (by simp) ?_ hCw (Same.refl _ _) ?_ ?_ ?_)
  · intro i j o hij ho hwf a v w w' hk hrel
    refine ⟨fun oj u d hoj hu hd => ?_, fun p hp hpj => ?_⟩
    · have h1 := hk.1 oj u d hoj hu hd
      unfold Act.put
      split
      · rename_i di hdi
        have hne : di ≠ d := fun e => ((hspec i o ho).2 di hdi).2 j oj hij hoj |>.1 (by rw [hd, e])
        show (a.tmps.setIfInBounds di v)[d]? = _
        rw [Array.getElem?_setIfInBounds_ne hne]
        exact h1
      · exact h1
    · refine hst p hp i a _ w w' (by rw [hpj]; exact hij) (by rw [hpj]; exact hwf) (fun t ht => ?_) hrel (hk.2 p hp hpj)
      rw [hpj, List.contains_iff_mem] at ht
      unfold Act.put
      split
      · rename_i di hdi
        show (a.tmps.setIfInBounds di v)[t]? = _
        have hne : di ≠ t := by
          intro e
          subst e
          unfold Oper.slots at ht
          split at ht
          · cases ht
          · rename_i oj hoj
            have h2 := ((hspec i o ho).2 di hdi).2 j oj hij hoj
            rcases List.mem_append.1 ht with h3 | h3
            · rw [Option.mem_toList] at h3
              exact h2.1 h3
            · rw [h2.2 h3] at hwf
              cases hwf
        rw [Array.getElem?_setIfInBounds_ne hne]
      · rfl
  · intro i k o hik ho hwt a v w w' hN hrel p hp hpi
    refine hNst p hp k a _ w w' (by rw [hpi]; exact Ne.symm hik) (by rw [hpi]; simpa using hwt) hrel (hN p hp hpi) (fun o' ho' => ?_)
    rw [ho] at ho'
    cases ho'
    exact ⟨v, rfl⟩
  · intro i o ho a w hw hs hk hN
    have h := AllOwe2.at l 0 hop i o (by simpa using ho)
    rw [Nat.zero_add] at h
    unfold wpOp
    simp only [ho]
    have hput : ∀ (v : Value) (w' : World), Rel i w w' → (∀ v0, V[i]? = some (some v0) → v = v0) → (∀ p ∈ Fs, p.1 = i → p.2 (a.put o.dst v) w') → ∃ u, a.put o.dst v = a.put o.dst u ∧ Rel i w w' ∧ Kn l.toArray V Fs i (a.put o.dst u) w' := by
      intro v w' hr hv hf
      refine ⟨v, rfl, hr, fun oj u d hoj hu hd => ?_, hf⟩
      have : oj = o := Option.some.inj (hoj.symm.trans ho)
      subst this
      have hvu := hv u hu
      subst hvu
      have hlt := ((hspec i oj ho).2 d hd).1
      unfold Act.put
      rw [hd]
      show (a.tmps.setIfInBounds d v)[d]? = _
      rw [Array.getElem?_setIfInBounds_self_of_lt (by rw [hs.2.1]; exact hlt)]
    have h' := h a w (fun a' w' => ∃ u, a' = a.put o.dst u ∧ Rel i w w' ∧ Kn l.toArray V Fs i (a.put o.dst u) w') hw hs hk hN hput
    split
    · rename_i hwt
      rw [if_pos hwt] at h'
      exact .inl h'
    · rename_i hwt
      rw [if_neg hwt] at h'
      exact h'
  · intro a w hw hs hk
    exact hfin a w hw hs (fun i hi => hk i (by simpa using hi))
  · intro i hi _
    simpa using hi
  · intro j oj _ hl
    rw [getD_replicate_false] at hl
    cases hl
  · intro i _ hl
    rw [getD_replicate_false] at hl
    cases hl
  · intro i _ _ p hp _
    exact hN0 p hp
theorem wp_region_lo2 {id : Nat} {w : World} {l : List Oper} (V : List (Option Value)) (Fs : List (Nat × (Act → World → Prop))) (Ns : List (Nat × (Act → World → Prop))) (Rel : Nat → World → World → Prop)
    (hm : P.follows .mixedOrders = true) (hB : looseB l.toArray a0.tmps.size = true) (hCw : C w.drew) (hC : ∀ i w w', C w → Rel i w w' → C w')
    (hst : ∀ p ∈ Fs, ∀ (i : Nat) (a a' : Act) (w w' : World), i ≠ p.1 → Region.waitsFor .any l.toArray p.1 i = false → (∀ t, (Oper.slots l.toArray p.1).contains t = true → a'.tmps[t]? = a.tmps[t]?) → Rel i w w' → p.2 a w → p.2 a' w')
    (hN0 : ∀ p ∈ Ns, p.2 a0 w.drew)
    (hNst : ∀ p ∈ Ns, ∀ (i : Nat) (a a' : Act) (w w' : World), i ≠ p.1 → waitsT .any l.toArray l.length i p.1 = false → Rel i w w' → p.2 a w → (∀ o, l.toArray[i]? = some o → ∃ v, a' = a.put o.dst v) → p.2 a' w')
    (hop : AllOwe2 P l.toArray Q C a0 V Fs Ns Rel l 0)
    (hfin : ∀ a w, C w → Same l.toArray a0 a → (∀ i, i < l.length → Kn l.toArray V Fs i a w) → Q .normal a w) : (Code.region id l.toArray true).wp P Q a0 w :=
  wp_region_any hm (wpAny_lo2 V Fs Ns Rel hB hCw hC hst hN0 hNst hop hfin)

end
theorem pre0_nil {a : Act} {w : World} : ∀ p ∈ ([] : List (Nat × (Act → World → Prop))), p.2 a w := fun p hp => by cases hp
theorem pre0_cons {j : Nat} {F : Act → World → Prop} {Ns : List (Nat × (Act → World → Prop))} {a : Act} {w : World} (h1 : F a w) (h2 : ∀ p ∈ Ns, p.2 a w) : ∀ p ∈ (j, F) :: Ns, p.2 a w := fun p hp => by
  rcases List.mem_cons.1 hp with rfl | hp
  · exact h1
  · exact h2 p hp
section
variable {ops : Array Oper} {n : Nat} {Rel : Nat → World → World → Prop}
theorem prek_nil : ∀ p ∈ ([] : List (Nat × (Act → World → Prop))), ∀ (i : Nat) (a a' : Act) (w w' : World), i ≠ p.1 → waitsT .any ops n i p.1 = false → Rel i w w' → p.2 a w → (∀ o, ops[i]? = some o → ∃ v, a' = a.put o.dst v) → p.2 a' w' := fun p hp => by cases hp
theorem prek_cons {j : Nat} {F : Act → World → Prop} {Ns : List (Nat × (Act → World → Prop))} (h1 : ∀ (i : Nat) (a a' : Act) (w w' : World), i ≠ j → waitsT .any ops n i j = false → Rel i w w' → F a w → (∀ o, ops[i]? = some o → ∃ v, a' = a.put o.dst v) → F a' w')
    (h2 : ∀ p ∈ Ns, ∀ (i : Nat) (a a' : Act) (w w' : World), i ≠ p.1 → waitsT .any ops n i p.1 = false → Rel i w w' → p.2 a w → (∀ o, ops[i]? = some o → ∃ v, a' = a.put o.dst v) → p.2 a' w') :
    ∀ p ∈ (j, F) :: Ns, ∀ (i : Nat) (a a' : Act) (w w' : World), i ≠ p.1 → waitsT .any ops n i p.1 = false → Rel i w w' → p.2 a w → (∀ o, ops[i]? = some o → ∃ v, a' = a.put o.dst v) → p.2 a' w' := fun p hp => by
  rcases List.mem_cons.1 hp with rfl | hp
  · exact h1
  · exact h2 p hp
end
end Go.Proofs.YtdcafoekbnacnaaGreatDoor
