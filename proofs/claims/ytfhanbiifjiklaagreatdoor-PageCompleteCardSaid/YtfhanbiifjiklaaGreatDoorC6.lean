/- A client: Accept, a page of the same log. -/
import Derived.Test.YtfhanbiifjiklaaGreatDoorC5
set_option linter.unusedVariables false
set_option linter.unusedSimpArgs false
namespace Go.Proofs.YtfhanbiifjiklaaGreatDoor
open Go.RowKit Go.Shelf
attribute [local go_sem] Oper.semAt_some

def AcceptR0 (b : Nat) (root : List UInt8) (size : Int) (p : Pg) (its : List (List UInt8)) (v : Value) (w : World) (k : Int) (e : Ending) (w' : World) : Prop :=
  e = .returned (.int .i64 k) ∧ ((((List.finRange p.items.length).all (p.checkAt root size) = false ∧ k = 17) ∨ ((List.finRange p.items.length).all (p.checkAt root size) = true ∧ (its.length : Int) < p.fr ∧ k = 13)) ∧ AcceptR b root size k its v w e w' ∨
    ((List.finRange p.items.length).all (p.checkAt root size) = true ∧ p.fr ≤ (its.length : Int) ∧ k = 0) ∧ AcceptR b root size k (its ++ p.items.drop (its.length - p.fr.toNat)) v w e w')
theorem CliAt.own_ {b : Nat} {root : List UInt8} {size : Int} {its : List (List UInt8)} {v : Value} {W W' : World} {row : Option Nat} (h : CliAt b root size its v W) (hg : W.grownBy W' row) (hr : ∀ r, row = some r → ∃ o : Obj, W.heap[r]? = some o ∧ o.isCells = false) : CliAt b root size its v W' := by
  refine ⟨h.blk.own hg hr, h.own.1, ?_⟩
  rcases h.own.2 with hn | ⟨g, cap, cur, rfl, hb, hgg, rest⟩
  · exact .inl hn
  · refine .inr ⟨g, cap, cur, rfl, hb, ?_, rest⟩
    rw [hg.block g (Array.getElem?_eq_some_iff.1 hgg).1 (fun e => by obtain ⟨o, ho, hc⟩ := hr g e.symm; rw [hgg] at ho; cases ho; cases hc)]
    exact hgg

set_option maxRecDepth 100000 in
set_option maxHeartbeats 4000000 in
theorem Accept_main (b : Nat) (root : List UInt8) (size : Int) (its : List (List UInt8)) (hil : its.length ≤ 1000000) (v : Value) (p : Pg) (hp : p.fit) (hf : formedB p = true) (hh : p.root = root ∧ p.size = size ∧ p.fr ≤ p.size - p.items.length) (vi vp : Value) (w : World) (hg : Glob w) (hcl : CliAt b root size its v w) (hvi : TextsAt w vi p.items) (hvp : PathsAt w vp p.paths) (hvb : vi.ownBlock ≠ some b) (hvr : ∀ g, v.ownBlock = some g → vi.ownBlock ≠ some g) :
    Calls Tryz.prog 24 #[cliP b, .agg (p.cs vi vp)] w fun e w' => ∃ k : Int, AcceptR0 b root size p its v w k e w' := by
  have hq := fun q hq => (⟨hp.nq q hq, hp.lq q hq⟩ : q.length ≤ 200000 ∧ ∀ x ∈ q, x.length ≤ 100000)
  have CF := fun w' (hb : Below w.heap.size w w') => formed_any p hp.lr hp.li hq vi vp w' (hvi.to hb) (hvp.to hb)
  rw [hf] at CF
  have HG := hide hg
  obtain ⟨Ai, ci, rfl, hci⟩ := hvi.slice
  obtain ⟨Ap, cp, rfl, hcp⟩ := hvp.slice
  obtain ⟨⟨hfr, hsz, _, hn50, hpl⟩, _⟩ := formed_spec hf
  have HC := hide hcl
  have HVI := hide hvi
  have HVP := hide hvp
  clear hvi hvp hcl hq
  have CT := fun w' : World => items_any p (.slice Ai p.items.length ci) (.slice Ap p.paths.length cp) w'
  unfold Pg.cs at CF CT ⊢
  unfold cliP
  have hb0 : Below w.heap.size w (((w.alloc (.cells #[.pointer (some ⟨b, 0, none⟩)] 38)).alloc (.cells #[.int .i64 p.fr, .int .i64 p.size, .string (bs p.root), .slice Ai p.items.length ci, .slice Ap p.paths.length cp] 25)).alloc (.cells #[.int .i64 0] 29)) := (((Below.refl _ w).alloc (Nat.le_refl _) _).alloc (by simp) _).alloc (by simp; omega) _
  have he := Blk.new ((w.alloc (.cells #[.pointer (some ⟨b, 0, none⟩)] 38)).alloc (.cells #[.int .i64 p.fr, .int .i64 p.size, .string (bs p.root), .slice Ai p.items.length ci, .slice Ap p.paths.length cp] 25)) 29 #[.int .i64 0]
  rw [World.size_alloc, World.size_alloc] at he
  have hb1 := (Blk.new (w.alloc (.cells #[.pointer (some ⟨b, 0, none⟩)] 38)) 25 #[.int .i64 p.fr, .int .i64 p.size, .string (bs p.root), .slice Ai p.items.length ci, .slice Ap p.paths.length cp]).alloc (.cells #[.int .i64 0] 29)
  rw [World.size_alloc] at hb1
  have hb2 := ((Blk.new w 38 #[.pointer (some ⟨b, 0, none⟩)]).alloc (.cells #[.int .i64 p.fr, .int .i64 p.size, .string (bs p.root), .slice Ai p.items.length ci, .slice Ap p.paths.length cp] 25)).alloc (.cells #[.int .i64 0] 29)
  have HB0 := hide hb0
  have HE := hide he
  have HP1 := hide hb1
  have HP0 := hide hb2
  have HPL := hide hpl
  clear hb0 he hb1 hb2 hpl
  have e1 : ((bs p.root).toList == (bs root).toList) = true := by rw [beq_iff_eq, bs_toList, bs_toList]; exact hh.1
  have e2 : (p.size == size) = true := by rw [beq_iff_eq]; exact hh.2.1
  have e3 : (p.size != size) = false := by rw [bne, e2]; rfl
  have ew : IntKind.i64.wrap (p.size - (p.items.length : Int)) = p.size - (p.items.length : Int) := w64 (by omega) (by omega)
  have e4 : decide (p.size - (p.items.length : Int) < p.fr) = false := decide_eq_false (by have := hh.2.2; omega)
  have HRS : Hid (p.root = root ∧ p.size = size) := ⟨hh.1, hh.2.1⟩
  clear hh hf hg
  obtain ⟨n, h1⟩ : ∃ n : Nat, 5 ≤ n := ⟨5, Nat.le_refl _⟩
  refine (callsIn_wide (n := n)).1 ?_
  refine callsIn_of_wp_marks Tryz.func24 rfl trivial ?_ rfl
  simp only [Tryz.ntmps24, List.size_toArray, List.length_cons, List.length_nil, Nat.reduceAdd, Nat.reduceSub, Array.replicate_succ, Array.replicate_zero, List.push_toArray, List.append_toArray, List.nil_append, List.cons_append]
  gi_wp2_with (refine ⟨trivial, fun _ => (by omega), ?_⟩; gi_at_call 52; refine (callsIn_wide.2 (CF _ HB0.out)).mono ?_; rintro e w2 ⟨rfl, hb2⟩; have HEw := hide (HE.out.to hb2); have HP1w := hide (HP1.out.to hb2); have HP0w := hide (HP0.out.to hb2); have HBw := hide (below_to HB0.out (Nat.le_refl _) hb2); clear hb2)
  have HC2 := hide (HC.out.to HBw.out)
  obtain ⟨Av, cv, rfl⟩ := own_sl4 HC.out.own
  obtain ⟨U, hU, g, u0, rfl, hgu, hi⟩ := cls w2
  have k0 := fun u => ((HP0w.out.to (hgu u)).cell 0).trans (show _ = some (Value.pointer (some ⟨b, 0, none⟩)) from rfl)
  have p0 := fun u => ((HP1w.out.to (hgu u)).cell 0).trans (show _ = some (Value.int .i64 p.fr) from rfl)
  have p1 := fun u => ((HP1w.out.to (hgu u)).cell 1).trans (show _ = some (Value.int .i64 p.size) from rfl)
  have p2 := fun u => ((HP1w.out.to (hgu u)).cell 2).trans (show _ = some (Value.string (bs p.root)) from rfl)
  have p3 := fun u => ((HP1w.out.to (hgu u)).cell 3).trans (show _ = some (Value.slice Ai p.items.length ci) from rfl)
  have z0 := fun u => ((HC2.out.blk.to (hgu u)).cell 0).trans (show _ = some (Value.string (bs root)) from rfl)
  have z1 := fun u => ((HC2.out.blk.to (hgu u)).cell 1).trans (show _ = some (Value.int .i64 size) from rfl)
  have z2 := fun u => ((HC2.out.blk.to (hgu u)).cell 2).trans (show _ = some (Value.slice Av its.length cv) from rfl)
  refine wpIn_region_ofW (by kernel_rfl) (by kernel_rfl) (fun ⟨a, w, h⟩ => by obtain ⟨_, h2, _⟩ := h; cases h2) ?_
  apply wpAny_looseG g (V := [some _, some _, some _, some _, some _, some _, some _, some _, some _, some _, some _, some _, some _, some _, some _, some _, some _, some _, some _, some _, some _, some _, some _, some _, some _, some _, some _]) (Fs := []) (Rel := fun _ w w' => Below w.heap.size w w')
  case hB => kernel_rfl
  case hCw => exact hi _ (hgu _).drew
  case hC =>
    rintro i uq w' hr
    exact hi _ (below_to (hgu uq) (Nat.le_refl _) hr)
  case hst =>
    exact keeps_nil
  case hop =>
    refine ⟨?_, ?_, ?_, ?_, ?_, ?_, ?_, ?_, ?_, ?_, ?_, ?_, ?_, ?_, ?_, ?_, ?_, ?_, ?_, ?_, ?_, ?_, ?_, ?_, ?_, ?_, ?_, trivial⟩
    · intro a uq K hS hd hK
      have s3 := hS.at 3 (by kernel_rfl) rfl
      rw [if_pos (want_free rfl)]
      go_simp
      exact hK _ _ (Below.refl _ _) (vok rfl) facts_nil
    · intro a uq K hS hd hK
      have s14 := (waits_on hd 0 (by kernel_rfl)).at (d := 14) rfl rfl rfl
      rw [if_pos (want_free rfl)]
      have c := p2 uq
      go_simp
      exact hK _ _ (Below.refl _ _) (vok rfl) facts_nil
    · intro a uq K hS hd hK
      have s2 := hS.at 2 (by kernel_rfl) rfl
      rw [if_pos (want_free rfl)]
      have c := k0 uq
      go_simp
      exact hK _ _ (Below.refl _ _) (vok rfl) facts_nil
    · intro a uq K hS hd hK
      have s16 := (waits_on hd 2 (by kernel_rfl)).at (d := 16) rfl rfl rfl
      rw [if_pos (want_free rfl)]
      go_simp
      exact hK _ _ (Below.refl _ _) (vok rfl) facts_nil
    · intro a uq K hS hd hK
      have s17 := (waits_on hd 3 (by kernel_rfl)).at (d := 17) rfl rfl rfl
      rw [if_pos (want_free rfl)]
      go_simp
      exact hK _ _ (Below.refl _ _) (vok rfl) facts_nil
    · intro a uq K hS hd hK
      have s18 := (waits_on hd 4 (by kernel_rfl)).at (d := 18) rfl rfl rfl
      rw [if_pos (want_free rfl)]
      have c := z0 uq
      go_simp
      exact hK _ _ (Below.refl _ _) (vok rfl) facts_nil
    · intro a uq K hS hd hK
      have s15 := (waits_on hd 1 (by kernel_rfl)).at (d := 15) rfl rfl rfl
      have s19 := (waits_on hd 5 (by kernel_rfl)).at (d := 19) rfl rfl rfl
      rw [if_pos (want_free rfl)]
      go_simp
      exact hK _ _ (Below.refl _ _) (vok rfl) facts_nil
    · intro a uq K hS hd hK
      have s20 := (waits_on hd 6 (by kernel_rfl)).at (d := 20) rfl rfl rfl
      rw [if_pos (want_free rfl)]
      go_simp
      exact hK _ _ (Below.refl _ _) (vok rfl) facts_nil
    · intro a uq K hS hd hK
      have s21 := (waits_on hd 7 (by kernel_rfl)).at (d := 21) rfl rfl rfl
      have s3 := hS.at 3 (by kernel_rfl) rfl
      rw [if_pos (want_yes rfl rfl rfl s21)]
      go_simp
      exact hK _ _ (Below.refl _ _) (vok rfl) facts_nil
    · intro a uq K hS hd hK
      have s21 := (waits_on hd 7 (by kernel_rfl)).at (d := 21) rfl rfl rfl
      have s22 := (waits_on hd 8 (by kernel_rfl)).at (d := 22) rfl rfl rfl
      rw [if_pos (want_yes rfl rfl rfl s21)]
      have c := p1 uq
      go_simp
      exact hK _ _ (Below.refl _ _) (vok rfl) facts_nil
    · intro a uq K hS hd hK
      have s21 := (waits_on hd 7 (by kernel_rfl)).at (d := 21) rfl rfl rfl
      have s2 := hS.at 2 (by kernel_rfl) rfl
      rw [if_pos (want_yes rfl rfl rfl s21)]
      have c := k0 uq
      go_simp
      exact hK _ _ (Below.refl _ _) (vok rfl) facts_nil
    · intro a uq K hS hd hK
      have s21 := (waits_on hd 7 (by kernel_rfl)).at (d := 21) rfl rfl rfl
      have s24 := (waits_on hd 10 (by kernel_rfl)).at (d := 24) rfl rfl rfl
      rw [if_pos (want_yes rfl rfl rfl s21)]
      go_simp
      exact hK _ _ (Below.refl _ _) (vok rfl) facts_nil
    · intro a uq K hS hd hK
      have s21 := (waits_on hd 7 (by kernel_rfl)).at (d := 21) rfl rfl rfl
      have s25 := (waits_on hd 11 (by kernel_rfl)).at (d := 25) rfl rfl rfl
      rw [if_pos (want_yes rfl rfl rfl s21)]
      go_simp
      exact hK _ _ (Below.refl _ _) (vok rfl) facts_nil
    · intro a uq K hS hd hK
      have s21 := (waits_on hd 7 (by kernel_rfl)).at (d := 21) rfl rfl rfl
      have s26 := (waits_on hd 12 (by kernel_rfl)).at (d := 26) rfl rfl rfl
      rw [if_pos (want_yes rfl rfl rfl s21)]
      have c := z1 uq
      go_simp
      exact hK _ _ (Below.refl _ _) (vok rfl) facts_nil
    · intro a uq K hS hd hK
      have s21 := (waits_on hd 7 (by kernel_rfl)).at (d := 21) rfl rfl rfl
      have s23 := (waits_on hd 9 (by kernel_rfl)).at (d := 23) rfl rfl rfl
      have s27 := (waits_on hd 13 (by kernel_rfl)).at (d := 27) rfl rfl rfl
      rw [if_pos (want_yes rfl rfl rfl s21)]
      go_simp
      exact hK _ _ (Below.refl _ _) (vok rfl) facts_nil
    · intro a uq K hS hd hK
      have s21 := (waits_on hd 7 (by kernel_rfl)).at (d := 21) rfl rfl rfl
      have s28 := (waits_on hd 14 (by kernel_rfl)).at (d := 28) rfl rfl rfl
      rw [if_pos (want_free rfl)]
      go_simp
      exact hK _ _ (Below.refl _ _) (vok rfl) facts_nil
    · intro a uq K hS hd hK
      have s29 := (waits_on hd 15 (by kernel_rfl)).at (d := 29) rfl rfl rfl
      rw [if_pos (want_free rfl)]
      go_simp
      exact hK _ _ (Below.refl _ _) (vok rfl) facts_nil
    · intro a uq K hS hd hK
      have s30 := (waits_on hd 16 (by kernel_rfl)).at (d := 30) rfl rfl rfl
      have s3 := hS.at 3 (by kernel_rfl) rfl
      rw [if_pos (want_yes rfl rfl rfl s30)]
      go_simp
      exact hK _ _ (Below.refl _ _) (vok rfl) facts_nil
    · intro a uq K hS hd hK
      have s30 := (waits_on hd 16 (by kernel_rfl)).at (d := 30) rfl rfl rfl
      have s31 := (waits_on hd 17 (by kernel_rfl)).at (d := 31) rfl rfl rfl
      rw [if_pos (want_yes rfl rfl rfl s30)]
      have c := p0 uq
      go_simp
      exact hK _ _ (Below.refl _ _) (vok rfl) facts_nil
    · intro a uq K hS hd hK
      have s30 := (waits_on hd 16 (by kernel_rfl)).at (d := 30) rfl rfl rfl
      have s3 := hS.at 3 (by kernel_rfl) rfl
      rw [if_pos (want_yes rfl rfl rfl s30)]
      go_simp
      exact hK _ _ (Below.refl _ _) (vok rfl) facts_nil
    · intro a uq K hS hd hK
      have s30 := (waits_on hd 16 (by kernel_rfl)).at (d := 30) rfl rfl rfl
      have s33 := (waits_on hd 19 (by kernel_rfl)).at (d := 33) rfl rfl rfl
      rw [if_pos (want_yes rfl rfl rfl s30)]
      have c := p1 uq
      go_simp
      exact hK _ _ (Below.refl _ _) (vok rfl) facts_nil
    · intro a uq K hS hd hK
      have s30 := (waits_on hd 16 (by kernel_rfl)).at (d := 30) rfl rfl rfl
      have s3 := hS.at 3 (by kernel_rfl) rfl
      rw [if_pos (want_yes rfl rfl rfl s30)]
      go_simp
      exact hK _ _ (Below.refl _ _) (vok rfl) facts_nil
    · intro a uq K hS hd hK
      have s30 := (waits_on hd 16 (by kernel_rfl)).at (d := 30) rfl rfl rfl
      have s35 := (waits_on hd 21 (by kernel_rfl)).at (d := 35) rfl rfl rfl
      rw [if_pos (want_yes rfl rfl rfl s30)]
      have c := p3 uq
      go_simp
      exact hK _ _ (Below.refl _ _) (vok rfl) facts_nil
    · intro a uq K hS hd hK
      have s30 := (waits_on hd 16 (by kernel_rfl)).at (d := 30) rfl rfl rfl
      have s36 := (waits_on hd 22 (by kernel_rfl)).at (d := 36) rfl rfl rfl
      rw [if_pos (want_yes rfl rfl rfl s30)]
      go_simp
      exact hK _ _ (Below.refl _ _) (vok rfl) facts_nil
    · intro a uq K hS hd hK
      have s30 := (waits_on hd 16 (by kernel_rfl)).at (d := 30) rfl rfl rfl
      have s34 := (waits_on hd 20 (by kernel_rfl)).at (d := 34) rfl rfl rfl
      have s37 := (waits_on hd 23 (by kernel_rfl)).at (d := 37) rfl rfl rfl
      rw [if_pos (want_yes rfl rfl rfl s30)]
      go_simp
      exact hK _ _ (Below.refl _ _) (vok rfl) facts_nil
    · intro a uq K hS hd hK
      have s30 := (waits_on hd 16 (by kernel_rfl)).at (d := 30) rfl rfl rfl
      have s32 := (waits_on hd 18 (by kernel_rfl)).at (d := 32) rfl rfl rfl
      have s38 := (waits_on hd 24 (by kernel_rfl)).at (d := 38) rfl rfl rfl
      rw [if_pos (want_yes rfl rfl rfl s30)]
      go_simp
      exact hK _ _ (Below.refl _ _) (vok rfl) facts_nil
    · intro a uq K hS hd hK
      have s30 := (waits_on hd 16 (by kernel_rfl)).at (d := 30) rfl rfl rfl
      have s39 := (waits_on hd 25 (by kernel_rfl)).at (d := 39) rfl rfl rfl
      rw [if_pos (want_free rfl)]
      go_simp
      exact hK _ _ (Below.refl _ _) (vok rfl) facts_nil
  case hfin =>
    intro a uq hS hk
    have s14 := (hk 0 (by decide)).at (d := 14) rfl rfl rfl
    have s15 := (hk 1 (by decide)).at (d := 15) rfl rfl rfl
    have s16 := (hk 2 (by decide)).at (d := 16) rfl rfl rfl
    have s17 := (hk 3 (by decide)).at (d := 17) rfl rfl rfl
    have s18 := (hk 4 (by decide)).at (d := 18) rfl rfl rfl
    have s19 := (hk 5 (by decide)).at (d := 19) rfl rfl rfl
    have s20 := (hk 6 (by decide)).at (d := 20) rfl rfl rfl
    have s21 := (hk 7 (by decide)).at (d := 21) rfl rfl rfl
    have s22 := (hk 8 (by decide)).at (d := 22) rfl rfl rfl
    have s23 := (hk 9 (by decide)).at (d := 23) rfl rfl rfl
    have s24 := (hk 10 (by decide)).at (d := 24) rfl rfl rfl
    have s25 := (hk 11 (by decide)).at (d := 25) rfl rfl rfl
    have s26 := (hk 12 (by decide)).at (d := 26) rfl rfl rfl
    have s27 := (hk 13 (by decide)).at (d := 27) rfl rfl rfl
    have s28 := (hk 14 (by decide)).at (d := 28) rfl rfl rfl
    have s29 := (hk 15 (by decide)).at (d := 29) rfl rfl rfl
    have s30 := (hk 16 (by decide)).at (d := 30) rfl rfl rfl
    have s31 := (hk 17 (by decide)).at (d := 31) rfl rfl rfl
    have s32 := (hk 18 (by decide)).at (d := 32) rfl rfl rfl
    have s33 := (hk 19 (by decide)).at (d := 33) rfl rfl rfl
    have s34 := (hk 20 (by decide)).at (d := 34) rfl rfl rfl
    have s35 := (hk 21 (by decide)).at (d := 35) rfl rfl rfl
    have s36 := (hk 22 (by decide)).at (d := 36) rfl rfl rfl
    have s37 := (hk 23 (by decide)).at (d := 37) rfl rfl rfl
    have s38 := (hk 24 (by decide)).at (d := 38) rfl rfl rfl
    have s39 := (hk 25 (by decide)).at (d := 39) rfl rfl rfl
    have s40 := (hk 26 (by decide)).at (d := 40) rfl rfl rfl
    have hlit := hS.lit _ (by kernel_rfl) (lits_cons s14 (lits_cons s15 (lits_cons s16 (lits_cons s17 (lits_cons s18 (lits_cons s19 (lits_cons s20 (lits_cons s21 (lits_cons s22 (lits_cons s23 (lits_cons s24 (lits_cons s25 (lits_cons s26 (lits_cons s27 (lits_cons s28 (lits_cons s29 (lits_cons s30 (lits_cons s31 (lits_cons s32 (lits_cons s33 (lits_cons s34 (lits_cons s35 (lits_cons s36 (lits_cons s37 (lits_cons s38 (lits_cons s39 (lits_cons s40 lits_nil)))))))))))))))))))))))))))
    rw [hlit]
    clear hlit hk hS s14 s15 s16 s17 s18 s19 s20 s21 s22 s23 s24 s25 s26 s27 s28 s29 s30 s31 s32 s33 s34 s35 s36 s37 s38 s39 s40
    have HEu := hide (HEw.out.to (hgu uq))
    have HBu := hide (below_to HBw.out (Nat.le_refl _) (hgu uq))
    have HP0u := hide (HP0w.out.to (hgu uq))
    have HP1u := hide (HP1w.out.to (hgu uq))
    have HCu := hide (HC2.out.to (hgu uq))
    simp only [litT, List.setIfInBounds_toArray, List.set_cons_succ, List.set_cons_zero]
    clear k0 p0 p1 p2 p3 z0 z1 z2 HEw HBw HP0w HP1w HC2
    revert HEu HBu HP0u HP1u HCu
    generalize g uq = w3
    intro HEu HBu HP0u HP1u HCu
    clear hgu hi g u0
    have p0 := (HP1u.out.cell 0).trans (show _ = some (Value.int .i64 p.fr) from rfl)
    have p1 := (HP1u.out.cell 1).trans (show _ = some (Value.int .i64 p.size) from rfl)
    have p2 := (HP1u.out.cell 2).trans (show _ = some (Value.string (bs p.root)) from rfl)
    have p3 := (HP1u.out.cell 3).trans (show _ = some (Value.slice Ai p.items.length ci) from rfl)
    have p4 := (HP1u.out.cell 4).trans (show _ = some (Value.slice Ap p.paths.length cp) from rfl)
    gi_wp2_with (refine ⟨trivial, fun _ => (by omega), ?_⟩; gi_at_call 56; refine (callsIn_wide.2 (CT _)).mono ?_; rintro e w4 ⟨rfl, rfl⟩)
    have hvo : ∀ g, (Value.ownBlock (.slice Av its.length cv)) = some g → g < w.heap.size := fun g e => (CliAt.lt HC.out g e).2
    have hbw : b < w.heap.size := HC.out.blk.lt
    have HX2 := hide (Blk.new w3 25 #[.int .i64 p.fr, .int .i64 p.size, .string (bs p.root), .slice Ai p.items.length ci, .slice Ap p.paths.length cp])
    have HB2 := hide (HBu.out.alloc HBu.out.size (.cells #[.int .i64 p.fr, .int .i64 p.size, .string (bs p.root), .slice Ai p.items.length ci, .slice Ap p.paths.length cp] 25))
    have HC3 := hide (HCu.out.to (below_one w3 (.cells #[.int .i64 p.fr, .int .i64 p.size, .string (bs p.root), .slice Ai p.items.length ci, .slice Ap p.paths.length cp] 25)))
    have HE3 := hide (HEu.out.alloc (.cells #[.int .i64 p.fr, .int .i64 p.size, .string (bs p.root), .slice Ai p.items.length ci, .slice Ap p.paths.length cp] 25))
    have HP03 := hide (HP0u.out.alloc (.cells #[.int .i64 p.fr, .int .i64 p.size, .string (bs p.root), .slice Ai p.items.length ci, .slice Ap p.paths.length cp] 25))
    have HP13 := hide (HP1u.out.alloc (.cells #[.int .i64 p.fr, .int .i64 p.size, .string (bs p.root), .slice Ai p.items.length ci, .slice Ap p.paths.length cp] 25))
    have hsz2 : (w3.alloc (.cells #[.int .i64 p.fr, .int .i64 p.size, .string (bs p.root), .slice Ai p.items.length ci, .slice Ap p.paths.length cp] 25)).heap.size = w3.heap.size + 1 := by simp
    have hsw : w.heap.size + 2 < w3.heap.size := HEu.out.lt
    obtain ⟨W0, hW0⟩ : ∃ W0, w3.alloc (.cells #[.int .i64 p.fr, .int .i64 p.size, .string (bs p.root), .slice Ai p.items.length ci, .slice Ap p.paths.length cp] 25) = W0 := ⟨_, rfl⟩
    rw [hW0] at HX2 HB2 HC3 HE3 HP03 HP13 hsz2 ⊢
    clear hW0 HEu HBu HP0u HP1u HCu p0 p1 p2 p3 p4 CT CF
    refine wpIn_rangeFunc_ownH (F := Fence.wide) rfl (by omega) (gf := 95) (lb := #[.pointer (some ⟨w3.heap.size, 0, none⟩)]) rfl trivial (enters_fn Tryz.func95 (by kernel_rfl) rfl)
      (items_stops (n - 1) (by omega) w3.heap.size p (by omega) HPL.out hfr _ _ w HVI.out HVP.out W0 HB2.out HX2.out) KpX.t (KpX.b (by omega) (by omega)) (Below.refl _ _) (fun _ => rfl)
      (fun pre W => (CliAt b root size its (.slice Av its.length cv) W ∧ Blk W (w.heap.size + 1 + 1) 29 #[.int .i64 0] ∧ Blk W w.heap.size 38 #[.pointer (some ⟨b, 0, none⟩)] ∧ Blk W (w.heap.size + 1) 25 #[.int .i64 p.fr, .int .i64 p.size, .string (bs p.root), .slice Ai p.items.length ci, .slice Ap p.paths.length cp] ∧ w3.heap.size < W.heap.size ∧ pre.all (p.checkAt root size) = true) ∧ Below w.heap.size w W)
      (fun c pre W => (c = .ret ∧ (∃ k, p.checkAt root size k = false) ∧ CliAt b root size its (.slice Av its.length cv) W ∧ Blk W (w.heap.size + 1 + 1) 29 #[.int .i64 17]) ∧ Below w.heap.size w W)
      (OwnFrom.and (fun s A B row hs hg hr => ⟨hs.1.own_ hg (fun r e => (hr r e).2), hs.2.1.own hg (fun r e => (hr r e).2), hs.2.2.1.own hg (fun r e => (hr r e).2), hs.2.2.2.1.own hg (fun r e => (hr r e).2), Nat.lt_of_lt_of_le hs.2.2.2.2.1 hg.size, hs.2.2.2.2.2⟩) (ownFrom_below (Nat.le_refl _) (by omega)))
      (fun c => OwnFrom.and (fun s A B row hs hg hr => ⟨hs.1, hs.2.1, hs.2.2.1.own_ hg (fun r e => (hr r e).2), hs.2.2.2.own hg (fun r e => (hr r e).2)⟩) (ownFrom_below (Nat.le_refl _) (by omega)))
      ⟨⟨HC3.out, HE3.out, HP03.out, HP13.out, by omega, rfl⟩, HB2.out⟩
      (fun x a' W => ∃ Bx, w3.heap.size < Bx ∧ Blk W Bx 80 (itC p w (.slice Ap p.paths.length cp) x) ∧ a' = { tmps := #[Value.pointer (some ⟨b, 0, none⟩), Value.agg #[Value.int IntKind.i64 p.fr, Value.int IntKind.i64 p.size, Value.string (bs p.root), Value.slice Ai p.items.length ci, Value.slice Ap p.paths.length cp], Value.pointer (some ⟨w.heap.size, 0, none⟩), Value.pointer (some ⟨w.heap.size + 1, 0, none⟩), Value.pointer (some ⟨w.heap.size + 1 + 1, 0, none⟩), .pointer (some ⟨Bx, 0, none⟩), undef, Value.pointer (some ⟨b, 0, none⟩), Value.bool false, Value.bool false, Value.agg #[Value.int IntKind.i64 p.fr, Value.int IntKind.i64 p.size, Value.string (bs p.root), Value.slice Ai p.items.length ci, Value.slice Ap p.paths.length cp], Value.bool true, Value.bool false, Value.bool false, Value.pointer (some ⟨w.heap.size + 1, 2, none⟩), Value.string (bs p.root), Value.pointer (some ⟨b, 0, none⟩), Value.pointer (some ⟨b, 0, none⟩), Value.pointer (some ⟨b, 0, none⟩), Value.string (bs root), Value.bool false, Value.bool false, Value.pointer (some ⟨w.heap.size + 1, 1, none⟩), Value.int IntKind.i64 p.size, Value.pointer (some ⟨b, 0, none⟩), Value.pointer (some ⟨b, 0, none⟩), Value.pointer (some ⟨b, 1, none⟩), Value.int IntKind.i64 size, Value.bool false, Value.bool false, Value.bool false, Value.pointer (some ⟨w.heap.size + 1, 0, none⟩), Value.int IntKind.i64 p.fr, Value.pointer (some ⟨w.heap.size + 1, 1, none⟩), Value.int IntKind.i64 p.size, Value.pointer (some ⟨w.heap.size + 1, 3, none⟩), Value.slice Ai p.items.length ci, Value.int IntKind.i64 (p.items.length : Int), Value.int IntKind.i64 (p.size - (p.items.length : Int)), Value.bool false, Value.bool false, Value.agg #[Value.int IntKind.i64 p.fr, Value.int IntKind.i64 p.size, Value.string (bs p.root), Value.slice Ai p.items.length ci, Value.slice Ap p.paths.length cp], Value.func (.func 95) #[] #[Value.pointer (some ⟨w3.heap.size, 0, none⟩)], .agg (itC p w (.slice Ap p.paths.length cp) x), undef, undef, undef, undef, undef, undef, undef, undef, undef, undef, undef, undef, undef, undef, undef, undef, undef, undef, undef, undef, undef, undef, undef, undef, undef, undef, undef, undef, undef, undef, undef, undef, undef, undef, undef, undef, undef, undef, undef, undef, undef, undef, undef, undef, undef, undef, undef, undef, undef, undef, undef, undef, undef, undef, undef, undef], defers := [] })
      (fun x a' s A B row hs hg hr => by obtain ⟨Bx, q1, q2, q3⟩ := hs; exact ⟨Bx, q1, q2.own hg (fun r e => (hr r e).2), q3⟩) ?assign ?body ?done ?stop
    case assign =>
      rintro l pre ⟨k, hk⟩ W K ⟨⟨hcW, heW, h0W, h1W, hsW, hpre⟩, hBW⟩ hK
      have HCW := hide hcW
      have HEW := hide heW
      have H0W := hide h0W
      have H1W := hide h1W
      have HBl := hide hBW
      clear hcW heW h0W h1W hBW
      obtain ⟨x, hx⟩ : ∃ x, p.items[k] = x := ⟨_, rfl⟩
      obtain ⟨q, hq⟩ : ∃ q, p.paths[k]? = some q := ⟨_, List.getElem?_eq_getElem (by have := HPL.out; omega)⟩
      obtain ⟨Aq, cq, hv, hcq⟩ := (HVP.out.vps hq).1.slice
      unfold Pg.enc
      rw [show p.items[(⟨k, hk⟩ : Fin p.items.length)] = x from hx]
      unfold itC at hK
      rw [show p.items[(⟨k, hk⟩ : Fin p.items.length)] = x from hx] at hK
      simp only [hv] at hK ⊢
      have hK2 := hide hK
      clear hK
      gi_wp2
      exact hK2.out _ _ ((KeepsOthers.alloc _ _).from _) (KpX.of ((Below.refl W.heap.size W).alloc (Nat.le_refl _) _) HBl.out.size hsW) ⟨⟨HCW.out.to (below_one _ _), HEW.out.alloc _, H0W.out.alloc _, H1W.out.alloc _, by simp; omega, hpre⟩, HBl.out.alloc HBl.out.size _⟩ ⟨W.heap.size, hsW, Blk.new _ _ _, rfl⟩
    case body =>
      rintro l pre ⟨k, hk⟩ a' W hlw ⟨r, hlr⟩ ⟨⟨hcW, heW, h0W, h1W, hsW, hpre⟩, hBW⟩ ⟨Bx, hBx, hbI, rfl⟩ hlen
      have HCL := hide hcW
      have HER := hide heW
      have HK0 := hide h0W
      have HK1 := hide h1W
      have HBl := hide hBW
      have HIt := hide hbI
      clear hcW heW h0W h1W hBW hbI hlr
      obtain ⟨x, hx⟩ : ∃ x, p.items[k] = x := ⟨_, rfl⟩
      obtain ⟨q, hq⟩ : ∃ q, p.paths[k]? = some q := ⟨_, List.getElem?_eq_getElem (by have := HPL.out; omega)⟩
      have hxl := hp.li x (hx ▸ List.getElem_mem _)
      have hql := hp.nq q (List.mem_of_getElem? hq)
      have HQX := hide (hp.lq q (List.mem_of_getElem? hq))
      have HT := hide ((HVP.out.vps hq).1.to HBl.out)
      obtain ⟨Aq, cq, hv, hcq⟩ := (HVP.out.vps hq).1.slice
      rw [hv] at HT
      have HEk0 : Hid (p.checkAt root size ⟨k, hk⟩ = checkV root size (p.fr + (k : Int)) (leafD x) q) := by
        show _ = _
        unfold Pg.checkAt
        rw [show p.items[(⟨k, hk⟩ : Fin p.items.length)] = x from hx, show p.paths.getD ((⟨k, hk⟩ : Fin p.items.length) : Nat) [] = q by simp [hq]]
      have HIt2 : Hid (Blk W Bx 80 #[.int .i64 (p.fr + (k : Nat)), .string (bs x), .slice Aq q.length cq]) := by
        have := HIt.out
        unfold itC at this
        rw [show p.items[(⟨k, hk⟩ : Fin p.items.length)] = x from hx] at this
        simp only [hv] at this
        exact this
      unfold itC
      rw [show p.items[(⟨k, hk⟩ : Fin p.items.length)] = x from hx]
      simp only [hv]
      have CLf := fun (W' : World) (hg' : Glob W') => Leaf_any x (by omega) W' hg'
      have hll : (leafD x).length ≤ 100000000000 := by rw [isD_len (leaf_isD x)]; decide
      have CK := fun (W' : World) (ht : TextsAt W' (.slice Aq q.length cq) q) (hg' : Glob W') => Check_any root size (p.fr + (k : Int)) (leafD x) q hll (by omega) (fun y hy => by have := HQX.out y hy; omega) (.slice Aq q.length cq) W' ht hg'
      have HG2 : Hid (Glob W) := HG.out.belowB HBl.out HG.out.top
      clear HIt hv hll
      generalize hcv : checkV root size (p.fr + (k : Int)) (leafD x) q = B at *
      have HEk : Hid (p.checkAt root size ⟨k, hk⟩ = B) := HEk0.out
      clear hcv HEk0
      generalize leafD x = LX at *
      obtain ⟨U, hU, g, u0, rfl, hgu, hi⟩ := cls W
      have k0 := fun u => ((HK0.out.to (hgu u)).cell 0).trans (show _ = some (Value.pointer (some ⟨b, 0, none⟩)) from rfl)
      have z0 := fun u => ((HCL.out.blk.to (hgu u)).cell 0).trans (show _ = some (Value.string (bs root)) from rfl)
      have z1 := fun u => ((HCL.out.blk.to (hgu u)).cell 1).trans (show _ = some (Value.int .i64 size) from rfl)
      have z2 := fun u => ((HCL.out.blk.to (hgu u)).cell 2).trans (show _ = some (Value.slice Av its.length cv) from rfl)
      have i0 := fun u => ((HIt2.out.to (hgu u)).cell 0).trans (show _ = some (Value.int .i64 (p.fr + (k : Nat))) from rfl)
      have i1 := fun u => ((HIt2.out.to (hgu u)).cell 1).trans (show _ = some (Value.string (bs x)) from rfl)
      have i2 := fun u => ((HIt2.out.to (hgu u)).cell 2).trans (show _ = some (Value.slice Aq q.length cq) from rfl)
      have HGg := fun u => HG2.out.to (hgu u)
      have HTg := fun u => HT.out.to (hgu u)
      gi_wp2
      refine wpIn_region_of (by kernel_rfl) (by kernel_rfl) (fun ⟨a, w, h⟩ => h) ?_
      apply wpAny_looseG g (V := [some _, some _, some _, some _, some _, some _, some _, some _, some _, some _, some _, some _, some _, some _, some _, some _, some _]) (Fs := []) (Rel := fun _ w w' => Below w.heap.size w w')
      case hB => kernel_rfl
      case hCw => exact hi _ (hgu _).drew
      case hC =>
        rintro i uq w' hr
        exact hi _ (below_to (hgu uq) (Nat.le_refl _) hr)
      case hst =>
        exact keeps_nil
      case hop =>
        refine ⟨?_, ?_, ?_, ?_, ?_, ?_, ?_, ?_, ?_, ?_, ?_, ?_, ?_, ?_, ?_, ?_, ?_, trivial⟩
        · intro a uq K hS hd hK
          have s2 := hS.at 2 (by kernel_rfl) rfl
          rw [if_pos (want_free rfl)]
          have c := k0 uq
          go_simp
          exact hK _ _ (Below.refl _ _) (vok rfl) facts_nil
        · intro a uq K hS hd hK
          have s44 := (waits_on hd 0 (by kernel_rfl)).at (d := 44) rfl rfl rfl
          rw [if_pos (want_free rfl)]
          go_simp
          exact hK _ _ (Below.refl _ _) (vok rfl) facts_nil
        · intro a uq K hS hd hK
          have s45 := (waits_on hd 1 (by kernel_rfl)).at (d := 45) rfl rfl rfl
          rw [if_pos (want_free rfl)]
          go_simp
          exact hK _ _ (Below.refl _ _) (vok rfl) facts_nil
        · intro a uq K hS hd hK
          have s46 := (waits_on hd 2 (by kernel_rfl)).at (d := 46) rfl rfl rfl
          rw [if_pos (want_free rfl)]
          have c := z0 uq
          go_simp
          exact hK _ _ (Below.refl _ _) (vok rfl) facts_nil
        · intro a uq K hS hd hK
          have s2 := hS.at 2 (by kernel_rfl) rfl
          rw [if_pos (want_free rfl)]
          have c := k0 uq
          go_simp
          exact hK _ _ (Below.refl _ _) (vok rfl) facts_nil
        · intro a uq K hS hd hK
          have s48 := (waits_on hd 4 (by kernel_rfl)).at (d := 48) rfl rfl rfl
          rw [if_pos (want_free rfl)]
          go_simp
          exact hK _ _ (Below.refl _ _) (vok rfl) facts_nil
        · intro a uq K hS hd hK
          have s49 := (waits_on hd 5 (by kernel_rfl)).at (d := 49) rfl rfl rfl
          rw [if_pos (want_free rfl)]
          go_simp
          exact hK _ _ (Below.refl _ _) (vok rfl) facts_nil
        · intro a uq K hS hd hK
          have s50 := (waits_on hd 6 (by kernel_rfl)).at (d := 50) rfl rfl rfl
          rw [if_pos (want_free rfl)]
          have c := z1 uq
          go_simp
          exact hK _ _ (Below.refl _ _) (vok rfl) facts_nil
        · intro a uq K hS hd hK
          have s5 := hS.at 5 (by kernel_rfl) rfl
          rw [if_pos (want_free rfl)]
          go_simp
          exact hK _ _ (Below.refl _ _) (vok rfl) facts_nil
        · intro a uq K hS hd hK
          have s52 := (waits_on hd 8 (by kernel_rfl)).at (d := 52) rfl rfl rfl
          rw [if_pos (want_free rfl)]
          have c := i0 uq
          go_simp
          exact hK _ _ (Below.refl _ _) (vok rfl) facts_nil
        · intro a uq K hS hd hK
          have s5 := hS.at 5 (by kernel_rfl) rfl
          rw [if_pos (want_free rfl)]
          go_simp
          exact hK _ _ (Below.refl _ _) (vok rfl) facts_nil
        · intro a uq K hS hd hK
          have s54 := (waits_on hd 10 (by kernel_rfl)).at (d := 54) rfl rfl rfl
          rw [if_pos (want_free rfl)]
          have c := i1 uq
          go_simp
          exact hK _ _ (Below.refl _ _) (vok rfl) facts_nil
        · intro a uq K hS hd hK
          have s55 := (waits_on hd 11 (by kernel_rfl)).at (d := 55) rfl rfl rfl
          rw [if_pos (want_free rfl)]
          go_simp
          with_reducible refine (CLf (g uq) (HGg uq)).mono ?_
          rintro e w' ⟨rfl, hb⟩
          exact hK _ _ hb (vok rfl) facts_nil
        · intro a uq K hS hd hK
          have s5 := hS.at 5 (by kernel_rfl) rfl
          rw [if_pos (want_free rfl)]
          go_simp
          exact hK _ _ (Below.refl _ _) (vok rfl) facts_nil
        · intro a uq K hS hd hK
          have s57 := (waits_on hd 13 (by kernel_rfl)).at (d := 57) rfl rfl rfl
          rw [if_pos (want_free rfl)]
          have c := i2 uq
          go_simp
          exact hK _ _ (Below.refl _ _) (vok rfl) facts_nil
        · intro a uq K hS hd hK
          have s47 := (waits_on hd 3 (by kernel_rfl)).at (d := 47) rfl rfl rfl
          have s51 := (waits_on hd 7 (by kernel_rfl)).at (d := 51) rfl rfl rfl
          have s53 := (waits_on hd 9 (by kernel_rfl)).at (d := 53) rfl rfl rfl
          have s56 := (waits_on hd 12 (by kernel_rfl)).at (d := 56) rfl rfl rfl
          have s58 := (waits_on hd 14 (by kernel_rfl)).at (d := 58) rfl rfl rfl
          rw [if_pos (want_free rfl)]
          go_simp
          with_reducible refine (CK (g uq) (HTg uq) (HGg uq)).mono ?_
          rintro e w' ⟨rfl, hb⟩
          exact hK _ _ hb (vok rfl) facts_nil
        · intro a uq K hS hd hK
          have s59 := (waits_on hd 15 (by kernel_rfl)).at (d := 59) rfl rfl rfl
          rw [if_pos (want_free rfl)]
          go_simp
          exact hK _ _ (Below.refl _ _) (vok rfl) facts_nil
      case hfin =>
        intro a uq hS hk
        have s44 := (hk 0 (by decide)).at (d := 44) rfl rfl rfl
        have s45 := (hk 1 (by decide)).at (d := 45) rfl rfl rfl
        have s46 := (hk 2 (by decide)).at (d := 46) rfl rfl rfl
        have s47 := (hk 3 (by decide)).at (d := 47) rfl rfl rfl
        have s48 := (hk 4 (by decide)).at (d := 48) rfl rfl rfl
        have s49 := (hk 5 (by decide)).at (d := 49) rfl rfl rfl
        have s50 := (hk 6 (by decide)).at (d := 50) rfl rfl rfl
        have s51 := (hk 7 (by decide)).at (d := 51) rfl rfl rfl
        have s52 := (hk 8 (by decide)).at (d := 52) rfl rfl rfl
        have s53 := (hk 9 (by decide)).at (d := 53) rfl rfl rfl
        have s54 := (hk 10 (by decide)).at (d := 54) rfl rfl rfl
        have s55 := (hk 11 (by decide)).at (d := 55) rfl rfl rfl
        have s56 := (hk 12 (by decide)).at (d := 56) rfl rfl rfl
        have s57 := (hk 13 (by decide)).at (d := 57) rfl rfl rfl
        have s58 := (hk 14 (by decide)).at (d := 58) rfl rfl rfl
        have s59 := (hk 15 (by decide)).at (d := 59) rfl rfl rfl
        have s60 := (hk 16 (by decide)).at (d := 60) rfl rfl rfl
        have hlit := hS.lit _ (by kernel_rfl) (lits_cons s44 (lits_cons s45 (lits_cons s46 (lits_cons s47 (lits_cons s48 (lits_cons s49 (lits_cons s50 (lits_cons s51 (lits_cons s52 (lits_cons s53 (lits_cons s54 (lits_cons s55 (lits_cons s56 (lits_cons s57 (lits_cons s58 (lits_cons s59 (lits_cons s60 lits_nil)))))))))))))))))
        rw [hlit]
        clear hlit hk hS s44 s45 s46 s47 s48 s49 s50 s51 s52 s53 s54 s55 s56 s57 s58 s59 s60
        have HCq := hide (HCL.out.to (hgu uq))
        have HEq := hide (HER.out.to (hgu uq))
        have HK0q := hide (HK0.out.to (hgu uq))
        have HK1q := hide (HK1.out.to (hgu uq))
        have HBq := hide (below_to HBl.out (Nat.le_refl _) (hgu uq))
        have hsq : w3.heap.size < (g uq).heap.size := Nat.lt_of_lt_of_le hsW (hgu uq).size
        have HKFq : Hid (KeepsFrom W0.heap.size (g u0) (g uq)) := keepsFrom_of (hgu uq)
        have HKq : Hid (KpX w.heap.size w3.heap.size (g u0) (g uq)) := KpX.of (hgu uq) HBl.out.size hsW
        have y0 := (HEq.out.cell 0).trans (show _ = some (Value.int .i64 0) from rfl)
        have yf := HEq.out.frozen 0
        simp only [litT, List.setIfInBounds_toArray, List.set_cons_succ, List.set_cons_zero]
        clear k0 z0 z1 z2 i0 i1 i2 CK CLf HGg HTg
        cases B
        · gi_wp2
          exact ⟨HKFq.out.trans ((KeepsOthers.setCell _ _ _).from _), ⟨rfl, ⟨⟨k, hk⟩, HEk.out⟩, ⟨HCq.out.blk.far (p := ⟨w.heap.size + 1 + 1, 0, none⟩) (by show b ≠ w.heap.size + 1 + 1; omega) _, ownsRow_set HCq.out.own (fun e => by have := hvo _ e; omega)⟩, HEq.out.set_ 0 _⟩, HBq.out.setCell (p := ⟨w.heap.size + 1 + 1, 0, none⟩) (by show _ ≤ w.heap.size + 1 + 1; omega) _⟩
        · gi_wp2
          exact ⟨HKFq.out, HKq.out, ⟨HCq.out, HEq.out, HK0q.out, HK1q.out, hsq, by rw [List.all_append, hpre, List.all_cons, HEk.out]; rfl⟩, HBq.out⟩
    case done =>
      rintro D ys W hD rfl ⟨⟨hcW, heW, h0W, h1W, hsW, hall⟩, hBW⟩ hK
      have HCL := hide hcW
      have HER := hide heW
      have HK0 := hide h0W
      have HK1 := hide h1W
      have HBl := hide hBW
      have HK := hide hK
      clear hcW heW h0W h1W hBW hK hsW
      obtain ⟨U, hU, g, u0, rfl, hgu, hi⟩ := cls W
      have k0 := fun u => ((HK0.out.to (hgu u)).cell 0).trans (show _ = some (Value.pointer (some ⟨b, 0, none⟩)) from rfl)
      have p0 := fun u => ((HK1.out.to (hgu u)).cell 0).trans (show _ = some (Value.int .i64 p.fr) from rfl)
      have p3 := fun u => ((HK1.out.to (hgu u)).cell 3).trans (show _ = some (Value.slice Ai p.items.length ci) from rfl)
      have z0 := fun u => ((HCL.out.blk.to (hgu u)).cell 0).trans (show _ = some (Value.string (bs root)) from rfl)
      have z1 := fun u => ((HCL.out.blk.to (hgu u)).cell 1).trans (show _ = some (Value.int .i64 size) from rfl)
      have z2 := fun u => ((HCL.out.blk.to (hgu u)).cell 2).trans (show _ = some (Value.slice Av its.length cv) from rfl)
      gi_wp2
      refine wpIn_region_ofW (by kernel_rfl) (by kernel_rfl) (fun ⟨a, w, h⟩ => by obtain ⟨_, h2, _⟩ := h; cases h2) ?_
      apply wpAny_looseG g (V := [some _, some _, some _, some _, some _, some _, some _, some _]) (Fs := []) (Rel := fun _ w w' => Below w.heap.size w w')
      case hB => kernel_rfl
      case hCw => exact hi _ (hgu _).drew
      case hC =>
        rintro i uq w' hr
        exact hi _ (below_to (hgu uq) (Nat.le_refl _) hr)
      case hst =>
        exact keeps_nil
      case hop =>
        refine ⟨?_, ?_, ?_, ?_, ?_, ?_, ?_, ?_, trivial⟩
        · intro a uq K hS hd hK
          have s3 := hS.at 3 (by kernel_rfl) rfl
          rw [if_pos (want_free rfl)]
          go_simp
          exact hK _ _ (Below.refl _ _) (vok rfl) facts_nil
        · intro a uq K hS hd hK
          have s61 := (waits_on hd 0 (by kernel_rfl)).at (d := 61) rfl rfl rfl
          rw [if_pos (want_free rfl)]
          have c := p0 uq
          go_simp
          exact hK _ _ (Below.refl _ _) (vok rfl) facts_nil
        · intro a uq K hS hd hK
          have s2 := hS.at 2 (by kernel_rfl) rfl
          rw [if_pos (want_free rfl)]
          have c := k0 uq
          go_simp
          exact hK _ _ (Below.refl _ _) (vok rfl) facts_nil
        · intro a uq K hS hd hK
          have s63 := (waits_on hd 2 (by kernel_rfl)).at (d := 63) rfl rfl rfl
          rw [if_pos (want_free rfl)]
          go_simp
          exact hK _ _ (Below.refl _ _) (vok rfl) facts_nil
        · intro a uq K hS hd hK
          have s64 := (waits_on hd 3 (by kernel_rfl)).at (d := 64) rfl rfl rfl
          rw [if_pos (want_free rfl)]
          go_simp
          exact hK _ _ (Below.refl _ _) (vok rfl) facts_nil
        · intro a uq K hS hd hK
          have s65 := (waits_on hd 4 (by kernel_rfl)).at (d := 65) rfl rfl rfl
          rw [if_pos (want_free rfl)]
          have c := z2 uq
          go_simp
          exact hK _ _ (Below.refl _ _) (vok rfl) facts_nil
        · intro a uq K hS hd hK
          have s66 := (waits_on hd 5 (by kernel_rfl)).at (d := 66) rfl rfl rfl
          rw [if_pos (want_free rfl)]
          go_simp
          exact hK _ _ (Below.refl _ _) (vok rfl) facts_nil
        · intro a uq K hS hd hK
          have s62 := (waits_on hd 1 (by kernel_rfl)).at (d := 62) rfl rfl rfl
          have s67 := (waits_on hd 6 (by kernel_rfl)).at (d := 67) rfl rfl rfl
          rw [if_pos (want_free rfl)]
          go_simp
          exact hK _ _ (Below.refl _ _) (vok rfl) facts_nil
      case hfin =>
        intro a uq hS hk
        have s61 := (hk 0 (by decide)).at (d := 61) rfl rfl rfl
        have s62 := (hk 1 (by decide)).at (d := 62) rfl rfl rfl
        have s63 := (hk 2 (by decide)).at (d := 63) rfl rfl rfl
        have s64 := (hk 3 (by decide)).at (d := 64) rfl rfl rfl
        have s65 := (hk 4 (by decide)).at (d := 65) rfl rfl rfl
        have s66 := (hk 5 (by decide)).at (d := 66) rfl rfl rfl
        have s67 := (hk 6 (by decide)).at (d := 67) rfl rfl rfl
        have s68 := (hk 7 (by decide)).at (d := 68) rfl rfl rfl
        have hlit := hS.lit _ (by kernel_rfl) (lits_cons s61 (lits_cons s62 (lits_cons s63 (lits_cons s64 (lits_cons s65 (lits_cons s66 (lits_cons s67 (lits_cons s68 lits_nil))))))))
        rw [hlit]
        clear hlit hk hS s61 s62 s63 s64 s65 s66 s67 s68
        have HCq := hide (HCL.out.to (hgu uq))
        have HEq := hide (HER.out.to (hgu uq))
        have HK0q := hide (HK0.out.to (hgu uq))
        have HK1q := hide (HK1.out.to (hgu uq))
        have HBq := hide (below_to HBl.out (Nat.le_refl _) (hgu uq))
        have HKq : Hid ((g uq).heap[D]? = some (.deferred (some []))) := ((hgu uq).block D (Array.getElem?_eq_some_iff.1 HK.out).1).trans HK.out
        simp only [litT, List.setIfInBounds_toArray, List.set_cons_succ, List.set_cons_zero]
        clear k0 p0 p3 z0 z1 z2 HCL HER HK0 HK1 HBl HK
        revert HCq HEq HK0q HK1q HBq HKq
        generalize g uq = w9
        intro HCL HER HK0 HK1 HBl HK
        clear hgu hi g u0
        by_cases hlo : (its.length : Int) < p.fr
        · have e9 : decide ((its.length : Int) < p.fr) = true := decide_eq_true hlo
          have y0 := (HER.out.cell 0).trans (show _ = some (Value.int .i64 0) from rfl)
          have yf := HER.out.frozen 0
        
          gi_wp2
          have HKs : (w9.setCell ⟨w.heap.size + 1 + 1, 0, none⟩ (.int .i64 13)).heap[D]? = some (.deferred (some [])) := (KeepsOthers.setCell w9 ⟨w.heap.size + 1 + 1, 0, none⟩ (.int .i64 13)).same D _ HK.out rfl
          have hbs := HBl.out.setCell (p := ⟨w.heap.size + 1 + 1, 0, none⟩) (by show _ ≤ w.heap.size + 1 + 1; omega) (.int .i64 13)
          refine ⟨by simp, .inl ⟨_, _, rfl, run_takeDeferred HKs, ?_⟩⟩
          refine ⟨_, results_errno rfl _ _ (w.heap.size + 1 + 1) _ rfl ((HER.out.set_ 0 (.int .i64 13)).own (grownBy_putObj' _ D (.deferred none)) (fun r e => by cases e; exact ⟨_, HKs, rfl⟩)), 13, rfl, (.inl ⟨.inr ⟨hall, of_decide_eq_true e9, rfl⟩, accept_same HC.out (hbs.trans (belowK_b (w := w) (Nat.le_refl _) _ D _ _ (by omega) HKs rfl rfl))⟩)⟩
        · have e9 : decide ((its.length : Int) < p.fr) = false := decide_eq_false hlo
          have ew9 : IntKind.i64.wrap ((its.length : Int) - p.fr) = (its.length : Int) - p.fr := w64 (by omega) (by omega)
          obtain ⟨U, hU, g, u0, rfl, hgu, hi⟩ := cls w9
          have k0 := fun u => ((HK0.out.to (hgu u)).cell 0).trans (show _ = some (Value.pointer (some ⟨b, 0, none⟩)) from rfl)
          have p0 := fun u => ((HK1.out.to (hgu u)).cell 0).trans (show _ = some (Value.int .i64 p.fr) from rfl)
          have p3 := fun u => ((HK1.out.to (hgu u)).cell 3).trans (show _ = some (Value.slice Ai p.items.length ci) from rfl)
          have z0 := fun u => ((HCL.out.blk.to (hgu u)).cell 0).trans (show _ = some (Value.string (bs root)) from rfl)
          have z1 := fun u => ((HCL.out.blk.to (hgu u)).cell 1).trans (show _ = some (Value.int .i64 size) from rfl)
          have z2 := fun u => ((HCL.out.blk.to (hgu u)).cell 2).trans (show _ = some (Value.slice Av its.length cv) from rfl)
          gi_wp2
          refine wpIn_region_ofW (by kernel_rfl) (by kernel_rfl) (fun ⟨a, w, h⟩ => by obtain ⟨_, h2, _⟩ := h; cases h2) ?_
          apply wpAny_looseG g (V := [some _, some _, some _, some _, some _, some _, some _, some _, some _]) (Fs := []) (Rel := fun _ w w' => Below w.heap.size w w')
          case hB => kernel_rfl
          case hCw => exact hi _ (hgu _).drew
          case hC =>
            rintro i uq w' hr
            exact hi _ (below_to (hgu uq) (Nat.le_refl _) hr)
          case hst =>
            exact keeps_nil
          case hop =>
            refine ⟨?_, ?_, ?_, ?_, ?_, ?_, ?_, ?_, ?_, trivial⟩
            · intro a uq K hS hd hK
              have s2 := hS.at 2 (by kernel_rfl) rfl
              rw [if_pos (want_free rfl)]
              have c := k0 uq
              go_simp
              exact hK _ _ (Below.refl _ _) (vok rfl) facts_nil
            · intro a uq K hS hd hK
              have s69 := (waits_on hd 0 (by kernel_rfl)).at (d := 69) rfl rfl rfl
              rw [if_pos (want_free rfl)]
              go_simp
              exact hK _ _ (Below.refl _ _) (vok rfl) facts_nil
            · intro a uq K hS hd hK
              have s70 := (waits_on hd 1 (by kernel_rfl)).at (d := 70) rfl rfl rfl
              rw [if_pos (want_free rfl)]
              go_simp
              exact hK _ _ (Below.refl _ _) (vok rfl) facts_nil
            · intro a uq K hS hd hK
              have s71 := (waits_on hd 2 (by kernel_rfl)).at (d := 71) rfl rfl rfl
              rw [if_pos (want_free rfl)]
              have c := z2 uq
              go_simp
              exact hK _ _ (Below.refl _ _) (vok rfl) facts_nil
            · intro a uq K hS hd hK
              have s72 := (waits_on hd 3 (by kernel_rfl)).at (d := 72) rfl rfl rfl
              rw [if_pos (want_free rfl)]
              go_simp
              exact hK _ _ (Below.refl _ _) (vok rfl) facts_nil
            · intro a uq K hS hd hK
              have s3 := hS.at 3 (by kernel_rfl) rfl
              rw [if_pos (want_free rfl)]
              go_simp
              exact hK _ _ (Below.refl _ _) (vok rfl) facts_nil
            · intro a uq K hS hd hK
              have s74 := (waits_on hd 5 (by kernel_rfl)).at (d := 74) rfl rfl rfl
              rw [if_pos (want_free rfl)]
              have c := p0 uq
              go_simp
              exact hK _ _ (Below.refl _ _) (vok rfl) facts_nil
            · intro a uq K hS hd hK
              have s73 := (waits_on hd 4 (by kernel_rfl)).at (d := 73) rfl rfl rfl
              have s75 := (waits_on hd 6 (by kernel_rfl)).at (d := 75) rfl rfl rfl
              rw [if_pos (want_free rfl)]
              go_simp
              exact hK _ _ (Below.refl _ _) (vok rfl) facts_nil
            · intro a uq K hS hd hK
              have s76 := (waits_on hd 7 (by kernel_rfl)).at (d := 76) rfl rfl rfl
              rw [if_pos (want_free rfl)]
              go_simp
              exact hK _ _ (Below.refl _ _) (vok rfl) facts_nil
          case hfin =>
            intro a uq hS hk
            have s69 := (hk 0 (by decide)).at (d := 69) rfl rfl rfl
            have s70 := (hk 1 (by decide)).at (d := 70) rfl rfl rfl
            have s71 := (hk 2 (by decide)).at (d := 71) rfl rfl rfl
            have s72 := (hk 3 (by decide)).at (d := 72) rfl rfl rfl
            have s73 := (hk 4 (by decide)).at (d := 73) rfl rfl rfl
            have s74 := (hk 5 (by decide)).at (d := 74) rfl rfl rfl
            have s75 := (hk 6 (by decide)).at (d := 75) rfl rfl rfl
            have s76 := (hk 7 (by decide)).at (d := 76) rfl rfl rfl
            have s6 := (hk 8 (by decide)).at (d := 6) rfl rfl rfl
            have hlit := hS.lit _ (by kernel_rfl) (lits_cons s69 (lits_cons s70 (lits_cons s71 (lits_cons s72 (lits_cons s73 (lits_cons s74 (lits_cons s75 (lits_cons s76 (lits_cons s6 lits_nil)))))))))
            rw [hlit]
            clear hlit hk hS s69 s70 s71 s72 s73 s74 s75 s76 s6
            have HCq := hide (HCL.out.to (hgu uq))
            have HEq := hide (HER.out.to (hgu uq))
            have HK0q := hide (HK0.out.to (hgu uq))
            have HK1q := hide (HK1.out.to (hgu uq))
            have HBq := hide (below_to HBl.out (Nat.le_refl _) (hgu uq))
            have HKq : Hid ((g uq).heap[D]? = some (.deferred (some []))) := ((hgu uq).block D (Array.getElem?_eq_some_iff.1 HK.out).1).trans HK.out
            simp only [litT, List.setIfInBounds_toArray, List.set_cons_succ, List.set_cons_zero]
            clear k0 p0 p3 z0 z1 z2 HCL HER HK0 HK1 HBl HK
            revert HCq HEq HK0q HK1q HBq HKq
            generalize g uq = w11
            intro HCL HER HK0 HK1 HBl HK
            clear hgu hi g u0
            obtain ⟨kk, hkk⟩ : ∃ kk : Nat, (its.length : Int) - p.fr = (kk : Int) := ⟨its.length - p.fr.toNat, by omega⟩
            rw [hkk]
            have hkn : its.length - p.fr.toNat = kk := by omega
            have y0 := (HER.out.cell 0).trans (show _ = some (Value.int .i64 0) from rfl)
            have yf := HER.out.frozen 0
            have p3 := (HK1.out.cell 3).trans (show _ = some (Value.slice Ai p.items.length ci) from rfl)
            have HKN : Hid (its.length - p.fr.toNat = kk) := hkn
            have hple : p.fr ≤ (its.length : Int) := by omega
            clear ew9 hkn e9 hlo hkk
            by_cases hlt : kk < p.items.length
            · have e12 : decide ((kk : Int) < (p.items.length : Int)) = true := decide_eq_true (by omega)
              gi_wp2
              have hrl : rowOr (.slice Av its.length cv) b < w.heap.size := by
                unfold rowOr
                cases e : (Value.ownBlock (.slice Av its.length cv)) with
                | none => exact hbw
                | some g => exact hvo g e
              have hvi := HVI.out
              obtain ⟨x0, hx0⟩ : ∃ x, p.items[0]? = some x := ⟨_, List.getElem?_eq_getElem (by omega)⟩
              obtain ⟨ai, rfl, _⟩ := hvi.at_ hx0
              clear hx0
              have hk0 : ∀ W, Two b (rowOr (.slice Av its.length cv) b) w11 W → W.cell? ⟨w.heap.size, 0, none⟩ = some (.pointer (some ⟨b, 0, none⟩)) := fun W hW => ((Two.blk HK0.out hW (by omega) (by omega)).cell 0).trans rfl
              have hk3 : ∀ W, Two b (rowOr (.slice Av its.length cv) b) w11 W → W.cell? ⟨w.heap.size + 1, 3, none⟩ = some (.slice (some ai) p.items.length ci) := fun W hW => ((Two.blk HK1.out hW (by omega) (by omega)).cell 3).trans rfl
              have hks : ∀ W, Two b (rowOr (.slice Av its.length cv) b) w11 W → TextsAt W (.slice (some ai) p.items.length ci) p.items := fun W hW => (HVI.out.to HBl.out).two hW hvb (fun e => by
                unfold rowOr at e
                cases e2 : (Value.ownBlock (.slice Av its.length cv)) with
                | none => rw [e2] at e; exact hvb e
                | some g => rw [e2] at e; exact hvr g e2 e)
              have hkl : kk ≤ p.items.length := by omega
              have hnk : ¬ p.items.length = kk := by omega
              have hoN : ∀ k, k ≤ b → some k ≠ (Value.ownBlock (.slice Av its.length cv)) := fun k hk e => by have := (CliAt.lt HC.out k e.symm).1; omega
              obtain ⟨i0, hi0, hz0, hz1, hz2⟩ := info_parts info_str
              refine wpIn_region_ofW (by kernel_rfl) (by kernel_rfl) (fun ⟨a, w, h⟩ => by obtain ⟨_, h2, _⟩ := h; cases h2) ?_
              apply wpAny_lo2 (C := fun W => Two b (rowOr (.slice Av its.length cv) b) w11 W) (V := [some _, some _, some _, some _, some _, some _, some _, some _, some _, some _, some _, some _, some _, some _, some _, none, some _, some _, none]) (Fs := [(15, fun a W => ∃ v', a.tmps[97]? = some v' ∧ World.ownsRow W (b + 1) 9 1 v' (its.length + (p.items.length - kk)) (flatS its ++ flatS (p.items.drop kk)) ∧ (v'.ownBlock = Value.ownBlock (.slice Av its.length cv) ∨ ∃ g, v'.ownBlock = some g ∧ w11.heap.size ≤ g)), (18, fun a W => ∃ v', a.tmps[97]? = some v' ∧ Blk W b 94 #[.string (bs root), .int .i64 size, v'])]) (Ns := [(4, fun (_ : Act) W => Blk W b 94 #[.string (bs root), .int .i64 size, (.slice Av its.length cv)]), (15, fun (_ : Act) W => World.ownsRow W (b + 1) 9 1 (.slice Av its.length cv) its.length (flatS its) ∧ w11.heap.size ≤ W.heap.size), (18, fun (_ : Act) W => Blk W b 94 #[.string (bs root), .int .i64 size, (.slice Av its.length cv)])]) (Rel := fun i x x' => if i = 15 then (fun x x' => World.grownBy x x' (Value.ownBlock (.slice Av its.length cv))) x x' else if i = 18 then (fun x x' => ∃ u, x' = World.setCell x ⟨b, 2, none⟩ u) x x' else Below x.heap.size x x')
              case hB => kernel_rfl
              case hCw => exact ((Two.refl b (rowOr (.slice Av its.length cv) b) w11).drewN 1)
              case hC =>
                intro i w_ w' hw hr
                by_cases e15 : i = 15
                · subst e15
                  have hr' : (fun x x' => World.grownBy x x' (Value.ownBlock (.slice Av its.length cv))) w_ w' := hr
                  exact Two.trans hw (Two.grown hr')
                by_cases e18 : i = 18
                · subst e18
                  have hr' : (fun x x' => ∃ u, x' = World.setCell x ⟨b, 2, none⟩ u) w_ w' := hr
                  obtain ⟨u, rfl⟩ := hr'
                  exact Two.set1 hw _ u
                have hr' : Below w_.heap.size w_ w' := by simpa [e15, e18] using hr
                exact Two.to hw hr'
              case hst =>
                refine keeps_cons (fun i a a' w_ w' hne hwt hs hr h => by
                  by_cases e15 : i = 15
                  · exact absurd e15 hne
                  by_cases e18 : i = 18
                  · subst e18
                    have hr' : (fun x x' => ∃ u, x' = World.setCell x ⟨b, 2, none⟩ u) w_ w' := hr
                    obtain ⟨c, h1, h2, h3⟩ := h
                    obtain ⟨u, rfl⟩ := hr'
                    exact ⟨c, (hs 97 (by kernel_rfl)).trans h1, ownsRow_set h2 (fun e => by have := (World.ownsRow.lt h2 _ e).1; omega), h3⟩
                  have hr' : Below w_.heap.size w_ w' := by simpa [e15, e18] using hr
                  obtain ⟨c, h1, h2, h3⟩ := h
                  exact ⟨c, (hs 97 (by kernel_rfl)).trans h1, ownsRow_to h2 hr', h3⟩) ?_
                refine keeps_cons (fun i a a' w_ w' hne hwt hs hr h => by
                  by_cases e15 : i = 15
                  · subst e15
                    exact absurd (hwt.symm.trans (show Region.waitsFor .any _ 18 15 = true by kernel_rfl)) (by decide)
                  by_cases e18 : i = 18
                  · exact absurd e18 hne
                  have hr' : Below w_.heap.size w_ w' := by simpa [e15, e18] using hr
                  obtain ⟨c, h1, h2⟩ := h
                  exact ⟨c, (hs 97 (by kernel_rfl)).trans h1, h2.to hr'⟩) ?_
                exact keeps_nil
              case hN0 => exact pre0_cons (HCL.out.blk) (pre0_cons (⟨HCL.out.own, Nat.le_refl _⟩) (pre0_cons (HCL.out.blk) (pre0_nil)))
              case hNst =>
                refine prek_cons (fun i a a' w_ w' hne hwt hr h hp => by
                  by_cases e15 : i = 15
                  · subst e15
                    exact absurd (hwt.symm.trans (show waitsT .any _ _ 15 4 = true by kernel_rfl)) (by decide)
                  by_cases e18 : i = 18
                  · subst e18
                    exact absurd (hwt.symm.trans (show waitsT .any _ _ 18 4 = true by kernel_rfl)) (by decide)
                  have hr' : Below w_.heap.size w_ w' := by simpa [e15, e18] using hr
                  exact h.to hr') ?_
                refine prek_cons (fun i a a' w_ w' hne hwt hr h hp => by
                  by_cases e15 : i = 15
                  · exact absurd e15 hne
                  by_cases e18 : i = 18
                  · subst e18
                    exact absurd (hwt.symm.trans (show waitsT .any _ _ 18 15 = true by kernel_rfl)) (by decide)
                  have hr' : Below w_.heap.size w_ w' := by simpa [e15, e18] using hr
                  exact ⟨ownsRow_to h.1 hr', Nat.le_trans h.2 hr'.size⟩) ?_
                refine prek_cons (fun i a a' w_ w' hne hwt hr h hp => by
                  by_cases e15 : i = 15
                  · subst e15
                    have hr' : (fun x x' => World.grownBy x x' (Value.ownBlock (.slice Av its.length cv))) w_ w' := hr
                    exact (hr'.block b h.lt (hoN b (Nat.le_refl _))).trans h
                  by_cases e18 : i = 18
                  · exact absurd e18 hne
                  have hr' : Below w_.heap.size w_ w' := by simpa [e15, e18] using hr
                  exact h.to hr') ?_
                exact prek_nil
              case hop =>
                refine ⟨?_, ?_, ?_, ?_, ?_, ?_, ?_, ?_, ?_, ?_, ?_, ?_, ?_, ?_, ?_, ?_, ?_, ?_, ?_, trivial⟩
                · intro a w_ K hw hS hd hN hK
                  have s2 := hS.at 2 (by kernel_rfl) rfl
                  rw [if_pos (want_free rfl)]
                  have c := hk0 w_ hw
                  go_simp
                  exact hK _ _ (Below.refl _ _) (vok rfl) (facts_cons (fun h => absurd h (by decide)) (facts_cons (fun h => absurd h (by decide)) facts_nil))
                · intro a w_ K hw hS hd hN hK
                  have s2 := hS.at 2 (by kernel_rfl) rfl
                  rw [if_pos (want_free rfl)]
                  have c := hk0 w_ hw
                  go_simp
                  exact hK _ _ (Below.refl _ _) (vok rfl) (facts_cons (fun h => absurd h (by decide)) (facts_cons (fun h => absurd h (by decide)) facts_nil))
                · intro a w_ K hw hS hd hN hK
                  have s83 := (waits_on hd 1 (by kernel_rfl)).at (d := 83) rfl rfl rfl
                  rw [if_pos (want_free rfl)]
                  go_simp
                  exact hK _ _ (Below.refl _ _) (vok rfl) (facts_cons (fun h => absurd h (by decide)) (facts_cons (fun h => absurd h (by decide)) facts_nil))
                · intro a w_ K hw hS hd hN hK
                  have s84 := (waits_on hd 2 (by kernel_rfl)).at (d := 84) rfl rfl rfl
                  rw [if_pos (want_free rfl)]
                  go_simp
                  exact hK _ _ (Below.refl _ _) (vok rfl) (facts_cons (fun h => absurd h (by decide)) (facts_cons (fun h => absurd h (by decide)) facts_nil))
                · intro a w_ K hw hS hd hN hK
                  have s85 := (waits_on hd 3 (by kernel_rfl)).at (d := 85) rfl rfl rfl
                  have hBp := hN _ (List.mem_cons_self ..) rfl
                  rw [if_pos (want_free rfl)]
                  have c := (hBp.cell 2).trans (show _ = some (Value.slice Av its.length cv) from rfl)
                  go_simp
                  exact hK _ _ (Below.refl _ _) (vok rfl) (facts_cons (fun h => absurd h (by decide)) (facts_cons (fun h => absurd h (by decide)) facts_nil))
                · intro a w_ K hw hS hd hN hK
                  have s3 := hS.at 3 (by kernel_rfl) rfl
                  rw [if_pos (want_free rfl)]
                  go_simp
                  exact hK _ _ (Below.refl _ _) (vok rfl) (facts_cons (fun h => absurd h (by decide)) (facts_cons (fun h => absurd h (by decide)) facts_nil))
                · intro a w_ K hw hS hd hN hK
                  have s87 := (waits_on hd 5 (by kernel_rfl)).at (d := 87) rfl rfl rfl
                  rw [if_pos (want_free rfl)]
                  have c := hk3 w_ hw
                  go_simp
                  exact hK _ _ (Below.refl _ _) (vok rfl) (facts_cons (fun h => absurd h (by decide)) (facts_cons (fun h => absurd h (by decide)) facts_nil))
                · intro a w_ K hw hS hd hN hK
                  have s6 := hS.at 6 (by kernel_rfl) rfl
                  rw [if_pos (want_free rfl)]
                  go_simp
                  exact hK _ _ (Below.refl _ _) (vok rfl) (facts_cons (fun h => absurd h (by decide)) (facts_cons (fun h => absurd h (by decide)) facts_nil))
                · intro a w_ K hw hS hd hN hK
                  have s3 := hS.at 3 (by kernel_rfl) rfl
                  rw [if_pos (want_free rfl)]
                  go_simp
                  exact hK _ _ (Below.refl _ _) (vok rfl) (facts_cons (fun h => absurd h (by decide)) (facts_cons (fun h => absurd h (by decide)) facts_nil))
                · intro a w_ K hw hS hd hN hK
                  have s90 := (waits_on hd 8 (by kernel_rfl)).at (d := 90) rfl rfl rfl
                  rw [if_pos (want_free rfl)]
                  have c := hk3 w_ hw
                  go_simp
                  exact hK _ _ (Below.refl _ _) (vok rfl) (facts_cons (fun h => absurd h (by decide)) (facts_cons (fun h => absurd h (by decide)) facts_nil))
                · intro a w_ K hw hS hd hN hK
                  have s91 := (waits_on hd 9 (by kernel_rfl)).at (d := 91) rfl rfl rfl
                  rw [if_pos (want_free rfl)]
                  go_simp
                  exact hK _ _ (Below.refl _ _) (vok rfl) (facts_cons (fun h => absurd h (by decide)) (facts_cons (fun h => absurd h (by decide)) facts_nil))
                · intro a w_ K hw hS hd hN hK
                  have s3 := hS.at 3 (by kernel_rfl) rfl
                  rw [if_pos (want_free rfl)]
                  go_simp
                  exact hK _ _ (Below.refl _ _) (vok rfl) (facts_cons (fun h => absurd h (by decide)) (facts_cons (fun h => absurd h (by decide)) facts_nil))
                · intro a w_ K hw hS hd hN hK
                  have s93 := (waits_on hd 11 (by kernel_rfl)).at (d := 93) rfl rfl rfl
                  rw [if_pos (want_free rfl)]
                  have c := hk3 w_ hw
                  go_simp
                  exact hK _ _ (Below.refl _ _) (vok rfl) (facts_cons (fun h => absurd h (by decide)) (facts_cons (fun h => absurd h (by decide)) facts_nil))
                · intro a w_ K hw hS hd hN hK
                  have s94 := (waits_on hd 12 (by kernel_rfl)).at (d := 94) rfl rfl rfl
                  rw [if_pos (want_free rfl)]
                  go_simp
                  exact hK _ _ (Below.refl _ _) (vok rfl) (facts_cons (fun h => absurd h (by decide)) (facts_cons (fun h => absurd h (by decide)) facts_nil))
                · intro a w_ K hw hS hd hN hK
                  have s88 := (waits_on hd 6 (by kernel_rfl)).at (d := 88) rfl rfl rfl
                  have s89 := (waits_on hd 7 (by kernel_rfl)).at (d := 89) rfl rfl rfl
                  have s92 := (waits_on hd 10 (by kernel_rfl)).at (d := 92) rfl rfl rfl
                  have s95 := (waits_on hd 13 (by kernel_rfl)).at (d := 95) rfl rfl rfl
                  rw [if_pos (want_free rfl)]
                  go_simp
                  exact hK _ _ (Below.refl _ _) (vok rfl) (facts_cons (fun h => absurd h (by decide)) (facts_cons (fun h => absurd h (by decide)) facts_nil))
                · intro a w_ K hw hS hd hN hK
                  have s86 := (waits_on hd 4 (by kernel_rfl)).at (d := 86) rfl rfl rfl
                  have s96 := (waits_on hd 14 (by kernel_rfl)).at (d := 96) rfl rfl rfl
                  obtain ⟨hOwn, hSz⟩ := hN _ (List.mem_cons_of_mem _ (List.mem_cons_self ..)) rfl
                  rw [if_pos (want_free rfl)]
                  have hdk := (hks w_ hw).drop (k := kk) hkl (p.items.length - kk) (by omega)
                  refine wp_append_keep w_ (.tmp 86) (.tmp 96) 22 rfl (b + 1) 9 i0 _ 1 16 Tryz.underlying22 hi0 hz0 hz1 hz2 rfl (by decide) (.slice Av its.length cv) its.length _ (eval_at s86) hOwn (ai.add kk) (p.items.length - kk) (p.items.length - kk) (flatS (p.items.drop kk)) (eval_at s96) (by rw [flatS_len, List.length_drop, Nat.mul_one]) (TextsAt.cells hdk) (by
                    intro u hu
                    obtain ⟨x, _, rfl⟩ := List.mem_map.1 hu
                    rfl) (by unfold maxLen; omega) (by omega) (by have := HCL.out.blk.lt; omega) ?_
                  intro v' w' h2 h3 h4 h5
                  exact hK v' w' h3 (vfree rfl) (facts_cons (fun _ => ⟨v', hS.put_at (by kernel_rfl) _, h2, h5.imp id fun ⟨g, e, hg⟩ => ⟨g, e, Nat.le_trans hSz hg⟩⟩) (facts_cons (fun h => absurd h (by decide)) facts_nil))
                · intro a w_ K hw hS hd hN hK
                  have s82 := (waits_on hd 0 (by kernel_rfl)).at (d := 82) rfl rfl rfl
                  rw [if_pos (want_free rfl)]
                  go_simp
                  exact hK _ _ (Below.refl _ _) (vok rfl) (facts_cons (fun h => absurd h (by decide)) (facts_cons (fun h => absurd h (by decide)) facts_nil))
                · intro a w_ K hw hS hd hN hK
                  have s98 := (waits_on hd 16 (by kernel_rfl)).at (d := 98) rfl rfl rfl
                  rw [if_pos (want_free rfl)]
                  go_simp
                  exact hK _ _ (Below.refl _ _) (vok rfl) (facts_cons (fun h => absurd h (by decide)) (facts_cons (fun h => absurd h (by decide)) facts_nil))
                · intro a w_ K hw hS hd hN hK
                  have s99 := (waits_on hd 17 (by kernel_rfl)).at (d := 99) rfl rfl rfl
                  obtain ⟨v97, s97, o97, k97⟩ := (waits_on hd 15 (by kernel_rfl)).2 _ (List.mem_cons_self ..) rfl
                  have hBs := hN _ (List.mem_cons_of_mem _ (List.mem_cons_of_mem _ (List.mem_cons_self ..))) rfl
                  rw [if_pos (want_free rfl)]
                  have c0 := (hBs.cell 2).trans (show _ = some (Value.slice Av its.length cv) from rfl)
                  have f0 := hBs.frozen 2
                  obtain ⟨A0, c0', rfl⟩ := own_sl4 o97
                  go_simp
                  exact hK undef _ ⟨_, rfl⟩ (vfree rfl) (facts_cons (fun h => absurd h (by decide)) (facts_cons (fun _ => ⟨_, s97, hBs.set_ 2 _⟩) facts_nil))
              case hfin =>
                intro a w13 hw hS hk
                have s82 := (hk 0 (by decide)).at (d := 82) rfl rfl rfl
                have s83 := (hk 1 (by decide)).at (d := 83) rfl rfl rfl
                have s84 := (hk 2 (by decide)).at (d := 84) rfl rfl rfl
                have s85 := (hk 3 (by decide)).at (d := 85) rfl rfl rfl
                have s86 := (hk 4 (by decide)).at (d := 86) rfl rfl rfl
                have s87 := (hk 5 (by decide)).at (d := 87) rfl rfl rfl
                have s88 := (hk 6 (by decide)).at (d := 88) rfl rfl rfl
                have s89 := (hk 7 (by decide)).at (d := 89) rfl rfl rfl
                have s90 := (hk 8 (by decide)).at (d := 90) rfl rfl rfl
                have s91 := (hk 9 (by decide)).at (d := 91) rfl rfl rfl
                have s92 := (hk 10 (by decide)).at (d := 92) rfl rfl rfl
                have s93 := (hk 11 (by decide)).at (d := 93) rfl rfl rfl
                have s94 := (hk 12 (by decide)).at (d := 94) rfl rfl rfl
                have s95 := (hk 13 (by decide)).at (d := 95) rfl rfl rfl
                have s96 := (hk 14 (by decide)).at (d := 96) rfl rfl rfl
                obtain ⟨v97, s97, o97, k97⟩ := (hk 15 (by decide)).2 _ (List.mem_cons_self ..) rfl
                have s98 := (hk 16 (by decide)).at (d := 98) rfl rfl rfl
                have s99 := (hk 17 (by decide)).at (d := 99) rfl rfl rfl
                obtain ⟨z97, zs97, zB⟩ := (hk 18 (by decide)).2 _ (List.mem_cons_of_mem _ (List.mem_cons_self ..)) rfl
                have hlit := hS.lit _ (by kernel_rfl) (lits_cons s82 (lits_cons s83 (lits_cons s84 (lits_cons s85 (lits_cons s86 (lits_cons s87 (lits_cons s88 (lits_cons s89 (lits_cons s90 (lits_cons s91 (lits_cons s92 (lits_cons s93 (lits_cons s94 (lits_cons s95 (lits_cons s96 (lits_cons s97 (lits_cons s98 (lits_cons s99 lits_nil))))))))))))))))))
                rw [hlit]
                obtain rfl : v97 = z97 := Option.some.inj (s97.symm.trans zs97)
                clear hlit hk hS s82 s83 s84 s85 s86 s87 s88 s89 s90 s91 s92 s93 s94 s95 s96 s97 zs97 s98 s99
                have hPRn := hk0 w13 hw
                have hEn := Two.blk HER.out hw (by omega) (by omega)
                have hDn : w13.heap[D]? = some (.deferred (some [])) := (hw.block D (Array.getElem?_eq_some_iff.1 HK.out).1 (by omega) (by omega)).trans HK.out
                obtain ⟨A97, c97, rfl⟩ := own_sl4 o97
                have y0 := (hEn.cell 0).trans (show _ = some (Value.int .i64 0) from rfl)
                have yf := hEn.frozen 0
                simp only [litT, List.setIfInBounds_toArray, List.set_cons_succ, List.set_cons_zero]
                clear hk0 hk3
                gi_wp2
                have HKs : (w13.setCell ⟨w.heap.size + 1 + 1, 0, none⟩ (.int .i64 0)).heap[D]? = some (.deferred (some [])) := (KeepsOthers.setCell w13 ⟨w.heap.size + 1 + 1, 0, none⟩ (.int .i64 0)).same D _ hDn rfl
                refine ⟨by simp, .inl ⟨_, _, rfl, run_takeDeferred HKs, ?_⟩⟩
                refine ⟨_, results_errno rfl _ _ (w.heap.size + 1 + 1) _ rfl ((hEn.set_ 0 (.int .i64 0)).own (grownBy_putObj' _ D (.deferred none)) (fun r e => by cases e; exact ⟨_, HKs, rfl⟩)), 0, rfl, .inr ⟨⟨hall, hple, rfl⟩, ?_⟩⟩
                have hT1 : Two b (rowOr (.slice Av its.length cv) b) w w13 := (Two.of HBl.out).trans hw
                have hP1 := belowK_b (n₀ := w.heap.size) (w := w) (Nat.le_refl _) _ D _ (.deferred none) (by omega) HKs rfl rfl
                have hT2 := (hT1.further ((Below.refl w.heap.size w13).setCell (p := ⟨w.heap.size + 1 + 1, 0, none⟩) (by show _ ≤ w.heap.size + 1 + 1; omega) (.int .i64 0))).further hP1
                have hC1 : CliAt b root size (its ++ p.items.drop (its.length - p.fr.toNat)) (.slice A97 (its.length + (p.items.length - kk)) c97) w13 := by
                  rw [HKN.out]
                  refine ⟨zB, ?_⟩
                  rw [List.length_append, List.length_drop, show flatS (its ++ p.items.drop kk) = flatS its ++ flatS (p.items.drop kk) by simp [flatS]]
                  exact o97
                have hC2 : CliAt b root size (its ++ p.items.drop (its.length - p.fr.toNat)) (.slice A97 (its.length + (p.items.length - kk)) c97) (w13.setCell ⟨w.heap.size + 1 + 1, 0, none⟩ (.int .i64 0)) :=
                  ⟨hC1.blk.far (p := ⟨w.heap.size + 1 + 1, 0, none⟩) (by show b ≠ w.heap.size + 1 + 1; omega) _, ownsRow_set hC1.own (fun e => by
                    rcases k97 with h | ⟨g, h, hg⟩
                    · rw [h] at e; have := hvo _ e; omega
                    · rw [h] at e; cases e; have := HER.out.lt; omega)⟩
                exact ⟨_, rfl, hC2.own_ (grownBy_putObj' _ D (.deferred none)) (fun r e => by cases e; exact ⟨_, HKs, rfl⟩), hT2, k97.imp id fun ⟨g, e, hg⟩ => ⟨g, e, Nat.le_trans HBl.out.size hg⟩⟩
            · have e12 : decide ((kk : Int) < (p.items.length : Int)) = false := decide_eq_false (by omega)
              gi_wp2
              have HKs : (w11.setCell ⟨w.heap.size + 1 + 1, 0, none⟩ (.int .i64 0)).heap[D]? = some (.deferred (some [])) := (KeepsOthers.setCell w11 ⟨w.heap.size + 1 + 1, 0, none⟩ (.int .i64 0)).same D _ HK.out rfl
              have hbs := HBl.out.setCell (p := ⟨w.heap.size + 1 + 1, 0, none⟩) (by show _ ≤ w.heap.size + 1 + 1; omega) (.int .i64 0)
              have hdr : its ++ p.items.drop (its.length - p.fr.toNat) = its := by rw [HKN.out, List.drop_of_length_le (by omega), List.append_nil]
              refine ⟨by simp, .inl ⟨_, _, rfl, run_takeDeferred HKs, ?_⟩⟩
              refine ⟨_, results_errno rfl _ _ (w.heap.size + 1 + 1) _ rfl ((HER.out.set_ 0 (.int .i64 0)).own (grownBy_putObj' _ D (.deferred none)) (fun r e => by cases e; exact ⟨_, HKs, rfl⟩)), 0, rfl, (.inr ⟨⟨hall, hple, rfl⟩, by rw [hdr]; exact accept_same HC.out (hbs.trans (belowK_b (w := w) (Nat.le_refl _) _ D _ _ (by omega) HKs rfl rfl))⟩)⟩
    case stop =>
      rintro D c pre W hD _ ⟨⟨rfl, hk, hcW, heW⟩, hBW⟩ hK
      obtain ⟨k, hk⟩ := hk
      have HBl := hide hBW
      have HK := hide hK
      clear hBW hK
      gi_wp2
      refine ⟨by simp, .inl ⟨_, _, rfl, run_takeDeferred HK.out, ?_⟩⟩
      refine ⟨_, results_errno rfl _ _ (w.heap.size + 1 + 1) _ rfl (heW.own (grownBy_putObj' _ D (.deferred none)) (fun r e => by cases e; exact ⟨_, HK.out, rfl⟩)), 17, rfl, (.inl ⟨.inl ⟨?_, rfl⟩, accept_same HC.out (HBl.out.trans (belowK_b (w := w) (Nat.le_refl _) _ D _ _ (by omega) HK.out rfl rfl))⟩)⟩
      rw [Bool.eq_false_iff]
      intro hall
      rw [List.all_eq_true.1 hall k (List.mem_finRange k)] at hk
      cases hk
end Go.Proofs.YtfhanbiifjiklaaGreatDoor
