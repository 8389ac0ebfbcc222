/- The plain laws of layer 55: logs from which persons can be erased. No program in sight. -/
import Derived.Test.YtdiebacfbhjbdaaGreatDoorX3
import Derived.Test.YtdiebacfbhjbdaaGreatDoorDig1
set_option linter.unusedVariables false
set_option linter.unusedSimpArgs false
namespace Go.Proofs.YtdiebacfbhjbdaaGreatDoor
open Go

/-- a line of a log -/
structure Ln where
  p : List UInt8
  t : List UInt8
  s : List UInt8
  d : List UInt8
theorem Ln.eq_iff (a b : Ln) : a = b ↔ a.p = b.p ∧ a.t = b.t ∧ a.s = b.s ∧ a.d = b.d := by
  constructor
  · rintro rfl; exact ⟨rfl, rfl, rfl, rfl⟩
  · rintro ⟨h1, h2, h3, h4⟩; cases a; cases b; simp_all
instance (a b : Ln) : Decidable (a = b) := decidable_of_iff _ (Ln.eq_iff a b).symm
def lineT : List UInt8 := [108, 105, 110, 101]
def leafT : List UInt8 := [108, 101, 97, 102]
def nodeT : List UInt8 := [110, 111, 100, 101]
def emptyT : List UInt8 := [101, 109, 112, 116, 121]
def canM (p t s : List UInt8) : Bool := isNm p && !t.isEmpty && decide (t.length ≤ 400) && !t.contains 10 && isD s
def mkL (p t s : List UInt8) : Ln := ⟨p, t, s, listD [lineT, p, t, s]⟩
def noL : Ln := ⟨[], [], [], []⟩
def makeV (p t s : List UInt8) : Ln := if canM p t s then mkL p t s else noL
def makeE (p t s : List UInt8) : Int := if canM p t s then 0 else 1
def er (l : Ln) : Ln := ⟨[], [], [], l.d⟩
def validL (l : Ln) : Bool := if l = er l then isD l.d else canM l.p l.t l.s && decide (mkL l.p l.t l.s = l)
def validG (log : List Ln) : Bool := log.all validL && decide (log.length ≤ 10000)
def eraseP (log : List Ln) (q : List UInt8) : List Ln := log.map fun l => if l.p = q then er l else l
def hitsP (log : List Ln) (q : List UInt8) : Nat := (log.filter fun l => decide (l.p = q)).length
def aboutP (log : List Ln) (q : List UInt8) : List (List UInt8) := (log.filter fun l => decide (l.p = q)).map (·.t)
theorem nm_ne {q : List UInt8} (h : isNm q = true) : q ≠ [] := by rintro rfl; simp [isNm] at h
theorem er_er (l : Ln) : er (er l) = er l := rfl
theorem er_d (l : Ln) : (er l).d = l.d := rfl
theorem valid_d {l : Ln} (h : validL l = true) : isD l.d = true := by
  unfold validL at h
  split at h
  · exact h
  · simp only [Bool.and_eq_true, decide_eq_true_eq] at h
    rw [← h.2]
    exact listD_isD _
theorem valid_er {l : Ln} (h : validL l = true) : validL (er l) = true := by
  unfold validL
  rw [er_er, if_pos rfl]
  show isD l.d = true
  exact valid_d h
theorem valid_erase {log : List Ln} {q : List UInt8} (h : validG log = true) : validG (eraseP log q) = true := by
  unfold validG at h ⊢
  simp only [Bool.and_eq_true, decide_eq_true_eq, List.all_eq_true] at h ⊢
  refine ⟨fun l hl => ?_, by unfold eraseP; simpa using h.2⟩
  obtain ⟨x, hx, rfl⟩ := List.mem_map.1 hl
  split
  · exact valid_er (h.1 x hx)
  · exact h.1 x hx
theorem erase_len (log : List Ln) (q : List UInt8) : (eraseP log q).length = log.length := by simp [eraseP]
theorem erase_at (log : List Ln) (q : List UInt8) (i : Nat) : (eraseP log q)[i]? = (log[i]?).map fun l => if l.p = q then er l else l := by unfold eraseP; rw [List.getElem?_map]
theorem erase_d (log : List Ln) (q : List UInt8) : (eraseP log q).map (·.d) = log.map (·.d) := by
  unfold eraseP
  rw [List.map_map]
  exact List.map_congr_left fun l _ => by show (if l.p = q then er l else l).d = l.d; split <;> rfl
theorem changed_iff {q : List UInt8} (hq : isNm q = true) (l : Ln) : (if l.p = q then er l else l) ≠ l ↔ l.p = q := by
  split
  · rename_i h
    refine ⟨fun _ => h, fun _ e => ?_⟩
    have := congrArg Ln.p e
    exact nm_ne hq (h ▸ this.symm)
  · rename_i h
    exact ⟨fun e => absurd rfl e, fun e => absurd e h⟩
theorem erase_none {q : List UInt8} (hq : isNm q = true) (log : List Ln) : ∀ l ∈ eraseP log q, l.p ≠ q := by
  intro l hl
  obtain ⟨x, hx, rfl⟩ := List.mem_map.1 hl
  split
  · exact fun e => nm_ne hq e.symm
  · assumption
theorem hits_none {q : List UInt8} (hq : isNm q = true) (log : List Ln) : hitsP (eraseP log q) q = 0 := by
  unfold hitsP
  rw [List.filter_eq_nil_iff.2 fun l hl => by simpa using erase_none hq log l hl]; rfl
theorem about_none {q : List UInt8} (hq : isNm q = true) (log : List Ln) : aboutP (eraseP log q) q = [] := by
  unfold aboutP
  rw [List.filter_eq_nil_iff.2 fun l hl => by simpa using erase_none hq log l hl]; rfl
theorem filter_other {q o : List UInt8} (ho : isNm o = true) (hqo : q ≠ o) : ∀ log : List Ln, (eraseP log q).filter (fun l => decide (l.p = o)) = log.filter (fun l => decide (l.p = o))
  | [] => rfl
  | l :: r => by
    have ih := filter_other ho hqo r
    unfold eraseP at ih ⊢
    rw [List.map_cons]
    by_cases h : l.p = q
    · rw [if_pos h, List.filter_cons_of_neg (by simpa [er] using nm_ne ho), List.filter_cons_of_neg (by simp; rw [h]; exact hqo), ih]
    · rw [if_neg h, List.filter_cons, List.filter_cons, ih]
theorem about_other {q o : List UInt8} (ho : isNm o = true) (hqo : q ≠ o) (log : List Ln) : aboutP (eraseP log q) o = aboutP log o := by unfold aboutP; rw [filter_other ho hqo]
theorem hits_other {q o : List UInt8} (ho : isNm o = true) (hqo : q ≠ o) (log : List Ln) : hitsP (eraseP log q) o = hitsP log o := by unfold hitsP; rw [filter_other ho hqo]
theorem erase_again {q : List UInt8} (hq : isNm q = true) (log : List Ln) : eraseP (eraseP log q) q = eraseP log q := by
  unfold eraseP
  rw [List.map_map]
  refine List.map_congr_left fun l _ => ?_
  show (if (if l.p = q then er l else l).p = q then er (if l.p = q then er l else l) else (if l.p = q then er l else l)) = _
  split
  · rename_i h; rw [if_neg fun e => nm_ne hq e.symm]
  · rfl
theorem erase_comm {q o : List UInt8} (hq : isNm q = true) (ho : isNm o = true) (log : List Ln) : eraseP (eraseP log q) o = eraseP (eraseP log o) q := by
  unfold eraseP
  rw [List.map_map, List.map_map]
  refine List.map_congr_left fun l _ => ?_
  simp only [Function.comp]
  have nq : ∀ x : Ln, (er x).p ≠ q := fun x e => nm_ne hq e.symm
  have no : ∀ x : Ln, (er x).p ≠ o := fun x e => nm_ne ho e.symm
  by_cases h1 : l.p = q
  · rw [if_pos h1, if_neg (no l)]
    by_cases h2 : l.p = o
    · rw [if_pos h2, if_neg (nq l)]
    · rw [if_neg h2, if_pos h1]
  · rw [if_neg h1]
    by_cases h2 : l.p = o
    · rw [if_pos h2, if_neg (nq l)]
    · rw [if_neg h2, if_neg h1]
theorem hits_sum {q o : List UInt8} (hq : isNm q = true) (ho : isNm o = true) (log : List Ln) : hitsP log q + hitsP (eraseP log q) o = hitsP log o + hitsP (eraseP log o) q := by
  by_cases h : q = o
  · subst h; rfl
  · rw [hits_other ho h, hits_other hq (Ne.symm h)]; omega
/-- some lines about the person erased already -/
theorem erase_some {q : List UInt8} (hq : isNm q = true) (log other : List Ln) (hl : other.length = log.length) (h : ∀ (i : Nat) (l m : Ln), log[i]? = some l → other[i]? = some m → m = l ∨ (l.p = q ∧ m = er l)) : eraseP other q = eraseP log q := by
  apply List.ext_getElem?
  intro i
  rw [erase_at, erase_at]
  rcases Nat.lt_or_ge i log.length with hi | hi
  · have e1 := List.getElem?_eq_getElem hi
    have e2 := List.getElem?_eq_getElem (show i < other.length by omega)
    rw [e1, e2]
    rcases h i _ _ e1 e2 with e | ⟨e, e'⟩
    · rw [e]
    · rw [e', Option.map_some, Option.map_some, if_pos e, if_neg fun h => nm_ne hq h.symm]
  · rw [List.getElem?_eq_none hi, List.getElem?_eq_none (by omega)]
theorem valid_some {q : List UInt8} (log other : List Ln) (hl : other.length = log.length) (hv : validG log = true) (h : ∀ (i : Nat) (l m : Ln), log[i]? = some l → other[i]? = some m → m = l ∨ (l.p = q ∧ m = er l)) : validG other = true := by
  unfold validG at hv ⊢
  simp only [Bool.and_eq_true, decide_eq_true_eq, List.all_eq_true] at hv ⊢
  refine ⟨fun m hm => ?_, by omega⟩
  obtain ⟨i, hi, rfl⟩ := List.getElem_of_mem hm
  have e2 := List.getElem?_eq_getElem hi
  have e1 := List.getElem?_eq_getElem (show i < log.length by omega)
  have hm := hv.1 _ (List.getElem_mem (show i < log.length by omega))
  rcases h i _ _ e1 e2 with e | ⟨e, e'⟩
  · rw [e]; exact hm
  · rw [e']; exact valid_er hm
/-- what a full line is -/
theorem full_valid {p t s : List UInt8} (h : canM p t s = true) : validL (mkL p t s) = true := by
  unfold validL
  have hp : isNm p = true := by unfold canM at h; simp only [Bool.and_eq_true] at h; exact h.1.1.1.1
  rw [if_neg (fun e => nm_ne hp (congrArg Ln.p e))]
  show (canM p t s && decide (mkL p t s = mkL p t s)) = true
  rw [h]; simp
/-- another line with the same digest -/
theorem changed_same {p t s : List UInt8} (b : Ln) (hd : b.d = (mkL p t s).d) (hv : validL b = true) (h2 : b ≠ er b) : listD [lineT, p, t, s] = listD [lineT, b.p, b.t, b.s] := by
  unfold validL at hv
  rw [if_neg h2] at hv
  simp only [Bool.and_eq_true, decide_eq_true_eq] at hv
  have := congrArg Ln.d hv.2
  exact hd.symm.trans this.symm
/-! trees -/
def leafD (d : List UInt8) : List UInt8 := listD [leafT, d]
def nodeD (a b : List UInt8) : List UInt8 := listD [nodeT, a, b]
def halfF : Nat → Nat → Nat → Nat
  | 0, k, _ => k
  | f + 1, k, n => if k * 2 < n then halfF f (k * 2) n else k
def halfN (n : Nat) : Nat := halfF n 1 n
theorem halfF_lt : ∀ (f k n : Nat), 1 ≤ k → k < n → 1 ≤ halfF f k n ∧ halfF f k n < n
  | 0, k, n, h1, h2 => ⟨h1, h2⟩
  | f + 1, k, n, h1, h2 => by
    unfold halfF
    split
    · rename_i h; exact halfF_lt f (k * 2) n (by omega) h
    · exact ⟨h1, h2⟩
theorem half_lt {n : Nat} (h : 2 ≤ n) : 1 ≤ halfN n ∧ halfN n < n := halfF_lt n 1 n (Nat.le_refl _) (by omega)
def sumT : Nat → List (List UInt8) → List UInt8
  | 0, _ => []
  | f + 1, l => if l.length = 1 then l.headD [] else nodeD (sumT f (l.take (halfN l.length))) (sumT f (l.drop (halfN l.length)))
theorem sumT_one (f : Nat) {l : List (List UInt8)} (h : l.length = 1) : sumT (f + 1) l = l.headD [] := by unfold sumT; rw [if_pos h]
theorem sumT_two (f : Nat) {l : List (List UInt8)} (h : l.length ≠ 1) : sumT (f + 1) l = nodeD (sumT f (l.take (halfN l.length))) (sumT f (l.drop (halfN l.length))) := by
  conv => lhs; unfold sumT
  rw [if_neg h]
theorem sumT_more : ∀ (f g : Nat) (l : List (List UInt8)), 1 ≤ l.length → l.length ≤ f → l.length ≤ g → sumT f l = sumT g l := by
  intro f
  induction f with
  | zero => intro g l h1 h2 _; omega
  | succ f ih =>
    intro g l h1 h2 h3
    obtain ⟨g', rfl⟩ : ∃ g', g = g' + 1 := ⟨g - 1, by omega⟩
    by_cases h : l.length = 1
    · rw [sumT_one f h, sumT_one g' h]
    · obtain ⟨a, b⟩ := half_lt (n := l.length) (by omega)
      rw [sumT_two f h, sumT_two g' h]
      generalize halfN l.length = k at *
      rw [ih g' (l.take k) (by rw [List.length_take]; omega) (by rw [List.length_take]; omega) (by rw [List.length_take]; omega), ih g' (l.drop k) (by rw [List.length_drop]; omega) (by rw [List.length_drop]; omega) (by rw [List.length_drop]; omega)]
def totalT (l : List (List UInt8)) : List UInt8 := if l.length = 0 then listD [emptyT] else sumT l.length l
def properT (l : List (List UInt8)) : Bool := l.all isD
def rootV (l : List (List UInt8)) : List UInt8 := if properT l then totalT l else []
def rootE (l : List (List UInt8)) : Int := if properT l then 0 else 1
def leavesP (log : List Ln) : List (List UInt8) := log.map fun l => leafD l.d
theorem leaves_erase (log : List Ln) (q : List UInt8) : leavesP (eraseP log q) = leavesP log := by
  unfold leavesP
  have := congrArg (List.map leafD) (erase_d log q)
  rw [List.map_map, List.map_map] at this
  exact this
theorem leaf_isD (d : List UInt8) : isD (leafD d) = true := by
  unfold leafD
  exact listD_isD _
theorem leaves_proper (log : List Ln) : properT (leavesP log) = true := by
  unfold properT
  rw [List.all_eq_true]
  intro x hx
  unfold leavesP at hx
  obtain ⟨l, _, e⟩ := List.mem_map.1 hx
  rw [← e]
  exact leaf_isD l.d
end Go.Proofs.YtdiebacfbhjbdaaGreatDoor
