/- The plain side: ways to edit, one behind the other, backwards, with other weights; the tables of beginnings. -/
import Derived.Test.YtnpdhbagfkilkaaPlain5
set_option linter.unusedVariables false
set_option linter.unusedSimpArgs false
namespace Go.Proofs.Ytnpdhbagfkilkaa
namespace Wt

theorem Al.app {W : Wt} {x y x' y' : List UInt8} {c c' : Int} (h : Al W x y c) (h' : Al W x' y' c') : Al W (x ++ x') (y ++ y') (c + c') := by
  induction h with
  | nil => simpa using h'
  | same a _ ih => exact Al.same a ih
  | chg a b hab _ ih => rw [Int.add_assoc]; exact Al.chg a b hab ih
  | ins b _ ih => rw [Int.add_assoc]; exact Al.ins b ih
  | del a _ ih => rw [Int.add_assoc]; exact Al.del a ih
  | swp a b hab _ ih => rw [Int.add_assoc]; exact Al.swp a b hab ih
theorem Al.cast {W : Wt} {x y : List UInt8} {c c' : Int} (h : Al W x y c) (e : c = c') : Al W x y c' := e ▸ h
theorem Al.refl (W : Wt) : ∀ x : List UInt8, Al W x x 0
  | [] => Al.nil
  | a :: x => Al.same a (Al.refl W x)
theorem Al.dels (W : Wt) : ∀ x : List UInt8, Al W x [] (W.del * x.length)
  | [] => by simpa using Al.nil
  | a :: x => (Al.del a (Al.dels W x)).cast (by simp [Int.mul_add]; omega)
theorem Al.inss (W : Wt) : ∀ y : List UInt8, Al W [] y (W.ins * y.length)
  | [] => by simpa using Al.nil
  | a :: y => (Al.ins a (Al.inss W y)).cast (by simp [Int.mul_add]; omega)
theorem Al.lo {W : Wt} (hW : W.valid = true) {x y : List UInt8} {c : Int} (h : Al W x y c) : 0 ≤ c := by
  have hv := valid_num hW
  induction h with
  | nil => omega
  | same _ _ ih => exact ih
  | chg a b _ _ ih =>
    have : 0 ≤ W.cc a b := by
      unfold cc
      cases hl : look W.near (a.toNat : Int) (b.toNat : Int) with
      | none => simp; omega
      | some c => simpa using (look_le hW hl).1
    omega
  | ins _ _ ih => omega
  | del _ _ ih => omega
  | swp _ _ _ _ ih => omega

theorem look_symm (l : List (Int × Int × Int)) (a b : Int) : look l a b = look l b a := by
  unfold look
  congr 1
  congr 1
  funext n
  rw [Bool.or_comm]
theorem cc_symm (W : Wt) (a b : UInt8) : W.cc a b = W.cc b a := by unfold cc; rw [look_symm]
/-- with Insert and Delete exchanged, the other way round -/
def back (W : Wt) : Wt := { W with ins := W.del, del := W.ins }
theorem Al.symm {W : Wt} {x y : List UInt8} {c : Int} (h : Al W x y c) : Al W.back y x c := by
  induction h with
  | nil => exact Al.nil
  | same a _ ih => exact Al.same a ih
  | chg a b hab _ ih => rw [cc_symm]; exact Al.chg b a (Ne.symm hab) ih
  | ins b _ ih => exact Al.del (W := W.back) b ih
  | del a _ ih => exact Al.ins (W := W.back) a ih
  | swp a b hab _ ih => exact Al.swp b a (Ne.symm hab) ih

/-- backwards -/
theorem Al.rev {W : Wt} {x y : List UInt8} {c : Int} (h : Al W x y c) : Al W x.reverse y.reverse c := by
  induction h with
  | nil => exact Al.nil
  | same a _ ih => simpa using (ih.app (Al.same a Al.nil))
  | chg a b hab _ ih => simpa [Int.add_comm] using (ih.app (Al.chg a b hab Al.nil))
  | ins b _ ih => simpa [Int.add_comm] using (ih.app (Al.ins b Al.nil))
  | del a _ ih => simpa [Int.add_comm] using (ih.app (Al.del a Al.nil))
  | swp a b hab _ ih => simpa [Int.add_comm] using (ih.app (Al.swp b a (Ne.symm hab) Al.nil))

/-- the ways end in one of the steps -/
inductive Last (W : Wt) (x y : List UInt8) (c : Int) : Prop
  | nil : x = [] → y = [] → c = 0 → Last W x y c
  | same (a : UInt8) (x' y' : List UInt8) : x = x' ++ [a] → y = y' ++ [a] → Al W x' y' c → Last W x y c
  | chg (a b : UInt8) (x' y' : List UInt8) (d : Int) : x = x' ++ [a] → y = y' ++ [b] → a ≠ b → Al W x' y' d → c = d + W.cc a b → Last W x y c
  | ins (b : UInt8) (y' : List UInt8) (d : Int) : y = y' ++ [b] → Al W x y' d → c = d + W.ins → Last W x y c
  | del (a : UInt8) (x' : List UInt8) (d : Int) : x = x' ++ [a] → Al W x' y d → c = d + W.del → Last W x y c
  | swp (a b : UInt8) (x' y' : List UInt8) (d : Int) : x = x' ++ [a, b] → y = y' ++ [b, a] → a ≠ b → Al W x' y' d → c = d + W.swp → Last W x y c
theorem rev_cons {x l : List UInt8} {a : UInt8} (h : a :: l = x.reverse) : x = l.reverse ++ [a] := by
  have := congrArg List.reverse h
  simpa using this.symm
theorem Al.last {W : Wt} {x y : List UInt8} {c : Int} (h : Al W x y c) : Last W x y c := by
  have h1 := h.rev
  generalize hx : x.reverse = rx at h1
  generalize hy : y.reverse = ry at h1
  cases h1 with
  | nil => exact .nil (by simpa using hx) (by simpa using hy) rfl
  | @same a x1 y1 c h2 => exact .same a x1.reverse y1.reverse (rev_cons hx.symm) (rev_cons hy.symm) h2.rev
  | @chg a b x1 y1 c hab h2 => exact .chg a b x1.reverse y1.reverse c (rev_cons hx.symm) (rev_cons hy.symm) hab h2.rev (by omega)
  | @ins b x1 y1 c h2 => exact .ins b y1.reverse c (rev_cons hy.symm) (by have := h2.rev; rw [← hx] at this; simpa using this) (by omega)
  | @del a x1 y1 c h2 => exact .del a x1.reverse c (rev_cons hx.symm) (by have := h2.rev; rw [← hy] at this; simpa using this) (by omega)
  | @swp a b x1 y1 c hab h2 =>
    refine .swp b a x1.reverse y1.reverse c ?_ ?_ (Ne.symm hab) h2.rev (by omega)
    · have := rev_cons hx.symm; simpa using this
    · have := rev_cons hy.symm; simpa using this

/-- a way to a text and a rest is cut where the rest begins; or a swap lies over the cut -/
theorem Al.split {W : Wt} {x q : List UInt8} {c : Int} (h : Al W x q c) : ∀ (p r : List UInt8), q = p ++ r →
    (∃ x1 x2 c1 c2, x = x1 ++ x2 ∧ Al W x1 p c1 ∧ Al W x2 r c2 ∧ c = c1 + c2) ∨
    (∃ x1 a b x2 p' r' c1 c2, x = x1 ++ a :: b :: x2 ∧ p = p' ++ [b] ∧ r = a :: r' ∧ a ≠ b ∧ Al W x1 p' c1 ∧ Al W x2 r' c2 ∧ c = c1 + W.swp + c2) := by
  induction h with
  | nil =>
    intro p r e
    have e1 : p = [] := (List.append_eq_nil_iff.1 e.symm).1
    have e2 : r = [] := (List.append_eq_nil_iff.1 e.symm).2
    subst e1 e2
    exact .inl ⟨[], [], 0, 0, rfl, Al.nil, Al.nil, rfl⟩
  | @same a x y c h ih =>
    intro p r e
    cases p with
    | nil => exact .inl ⟨[], a :: x, 0, c, rfl, Al.nil, by rw [List.nil_append] at e; rw [← e]; exact Al.same a h, by omega⟩
    | cons b p =>
      rw [List.cons_append] at e
      injection e with e1 e2
      subst e1
      rcases ih p r e2 with ⟨x1, x2, c1, c2, rfl, h1, h2, rfl⟩ | ⟨x1, u, v, x2, p', r', c1, c2, rfl, rfl, rfl, hne, h1, h2, rfl⟩
      · exact .inl ⟨a :: x1, x2, c1, c2, rfl, Al.same a h1, h2, rfl⟩
      · exact .inr ⟨a :: x1, u, v, x2, a :: p', r', c1, c2, rfl, rfl, rfl, hne, Al.same a h1, h2, rfl⟩
  | @chg a b x y c hab h ih =>
    intro p r e
    cases p with
    | nil => exact .inl ⟨[], a :: x, 0, _, rfl, Al.nil, by rw [List.nil_append] at e; rw [← e]; exact Al.chg a b hab h, by omega⟩
    | cons b' p =>
      rw [List.cons_append] at e
      injection e with e1 e2
      subst e1
      rcases ih p r e2 with ⟨x1, x2, c1, c2, rfl, h1, h2, rfl⟩ | ⟨x1, u, v, x2, p', r', c1, c2, rfl, rfl, rfl, hne, h1, h2, rfl⟩
      · exact .inl ⟨a :: x1, x2, W.cc a b + c1, c2, rfl, Al.chg a b hab h1, h2, by omega⟩
      · exact .inr ⟨a :: x1, u, v, x2, b :: p', r', W.cc a b + c1, c2, rfl, rfl, rfl, hne, Al.chg a b hab h1, h2, by omega⟩
  | @ins b x y c h ih =>
    intro p r e
    cases p with
    | nil => exact .inl ⟨[], x, 0, _, rfl, Al.nil, by rw [List.nil_append] at e; rw [← e]; exact Al.ins b h, by omega⟩
    | cons b' p =>
      rw [List.cons_append] at e
      injection e with e1 e2
      subst e1
      rcases ih p r e2 with ⟨x1, x2, c1, c2, rfl, h1, h2, rfl⟩ | ⟨x1, u, v, x2, p', r', c1, c2, rfl, rfl, rfl, hne, h1, h2, rfl⟩
      · exact .inl ⟨x1, x2, W.ins + c1, c2, rfl, Al.ins b h1, h2, by omega⟩
      · exact .inr ⟨x1, u, v, x2, b :: p', r', W.ins + c1, c2, rfl, rfl, rfl, hne, Al.ins b h1, h2, by omega⟩
  | @del a x y c h ih =>
    intro p r e
    rcases ih p r e with ⟨x1, x2, c1, c2, rfl, h1, h2, rfl⟩ | ⟨x1, u, v, x2, p', r', c1, c2, rfl, rfl, rfl, hne, h1, h2, rfl⟩
    · exact .inl ⟨a :: x1, x2, W.del + c1, c2, rfl, Al.del a h1, h2, by omega⟩
    · exact .inr ⟨a :: x1, u, v, x2, p', r', W.del + c1, c2, rfl, rfl, rfl, hne, Al.del a h1, h2, by omega⟩
  | @swp a b x y c hab h ih =>
    intro p r e
    cases p with
    | nil => exact .inl ⟨[], a :: b :: x, 0, _, rfl, Al.nil, by rw [List.nil_append] at e; rw [← e]; exact Al.swp a b hab h, by omega⟩
    | cons b' p =>
      rw [List.cons_append] at e
      injection e with e1 e2
      subst e1
      cases p with
      | nil =>
        rw [List.nil_append] at e2
        exact .inr ⟨[], a, b, x, [], y, 0, c, rfl, rfl, e2.symm, hab, Al.nil, h, by omega⟩
      | cons a' p =>
        rw [List.cons_append] at e2
        injection e2 with e3 e4
        subst e3
        rcases ih p r e4 with ⟨x1, x2, c1, c2, rfl, h1, h2, rfl⟩ | ⟨x1, u, v, x2, p', r', c1, c2, rfl, rfl, rfl, hne, h1, h2, rfl⟩
        · exact .inl ⟨a :: b :: x1, x2, W.swp + c1, c2, rfl, Al.swp a b hab h1, h2, by omega⟩
        · exact .inr ⟨a :: b :: x1, u, v, x2, b :: a :: p', r', W.swp + c1, c2, rfl, rfl, rfl, hne, Al.swp a b hab h1, h2, by omega⟩

/-- the distance of two texts, whatever bytes they have (at most 120 each) -/
def dl (W : Wt) (x y : List UInt8) : Int := D W x y 0 0
theorem dl_al {W : Wt} (hW : W.valid = true) {x y : List UInt8} (hx : x.length ≤ 120) (hy : y.length ≤ 120) : Al W x y (dl W x y) := by
  exact Al_D hW hx hy _ 0 0 (Nat.le_refl _) (by omega) (by omega)
theorem dl_min {W : Wt} (hW : W.valid = true) {x y : List UInt8} (hx : x.length ≤ 120) (hy : y.length ≤ 120) {c : Int} (h : Al W x y c) : dl W x y ≤ c :=
  D_min hW hx hy h 0 0 (by simp) (by simp) (by omega) (by omega)
theorem dl_lo {W : Wt} (hW : W.valid = true) {x y : List UInt8} (hx : x.length ≤ 120) (hy : y.length ≤ 120) : 0 ≤ dl W x y := (isDist hW hx hy).lo 0 0
theorem dl_hi {W : Wt} (hW : W.valid = true) {x y : List UInt8} (hx : x.length ≤ 120) (hy : y.length ≤ 120) : dl W x y ≤ 1000000 := (isDist hW hx hy).hi 0 0 (by omega) (by omega)
end Wt
end Go.Proofs.Ytnpdhbagfkilkaa
