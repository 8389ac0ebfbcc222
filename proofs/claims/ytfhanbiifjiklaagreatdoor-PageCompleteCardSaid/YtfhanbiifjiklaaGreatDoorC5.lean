/- A client: Accept, pages of another log. -/
import Derived.Test.YtfhanbiifjiklaaGreatDoorC4
set_option linter.unusedVariables false
set_option linter.unusedSimpArgs false
namespace Go.Proofs.YtfhanbiifjiklaaGreatDoor
open Go.RowKit Go.Shelf
attribute [local go_sem] Oper.semAt_some

set_option maxRecDepth 100000 in
set_option maxHeartbeats 400000 in
theorem Accept_root (b : Nat) (root : List UInt8) (size : Int) (its : List (List UInt8)) (v : Value) (p : Pg) (hp : p.fit) (hf : formedB p = true) (hh : ¬ p.root = root) (vi vp : Value) (w : World) (hcl : CliAt b root size its v w) (hvi : TextsAt w vi p.items) (hvp : PathsAt w vp p.paths) :
    Calls Tryz.prog 24 #[cliP b, .agg (p.cs vi vp)] w (AcceptR b root size 17 its v w) := by
  have hq := fun q hq => (⟨hp.nq q hq, hp.lq q hq⟩ : q.length ≤ 200000 ∧ ∀ x ∈ q, x.length ≤ 100000)
  have CF := fun w' (hb : Below w.heap.size w w') => formed_any p hp.lr hp.li hq vi vp w' (hvi.to hb) (hvp.to hb)
  rw [hf] at CF
  obtain ⟨Ai, ci, rfl, hci⟩ := hvi.slice
  obtain ⟨Ap, cp, rfl, hcp⟩ := hvp.slice
  obtain ⟨⟨hfr, hsz, _, hn50, hpl⟩, _⟩ := formed_spec hf
  have HC := hide hcl
  have HVI := hide hvi
  have HVP := hide hvp
  clear hvi hvp hcl hq
  unfold Pg.cs at CF ⊢
  unfold cliP
  have hb0 : Below w.heap.size w (((w.alloc (.cells #[.pointer (some ⟨b, 0, none⟩)] 38)).alloc (.cells #[.int .i64 p.fr, .int .i64 p.size, .string (bs p.root), .slice Ai p.items.length ci, .slice Ap p.paths.length cp] 25)).alloc (.cells #[.int .i64 0] 29)) := (((Below.refl _ w).alloc (Nat.le_refl _) _).alloc (by simp) _).alloc (by simp; omega) _
  have he := Blk.new ((w.alloc (.cells #[.pointer (some ⟨b, 0, none⟩)] 38)).alloc (.cells #[.int .i64 p.fr, .int .i64 p.size, .string (bs p.root), .slice Ai p.items.length ci, .slice Ap p.paths.length cp] 25)) 29 #[.int .i64 0]
  rw [World.size_alloc, World.size_alloc] at he
  have hb1 := (Blk.new (w.alloc (.cells #[.pointer (some ⟨b, 0, none⟩)] 38)) 25 #[.int .i64 p.fr, .int .i64 p.size, .string (bs p.root), .slice Ai p.items.length ci, .slice Ap p.paths.length cp]).alloc (.cells #[.int .i64 0] 29)
  rw [World.size_alloc] at hb1
  have hb2 := ((Blk.new w 38 #[.pointer (some ⟨b, 0, none⟩)]).alloc (.cells #[.int .i64 p.fr, .int .i64 p.size, .string (bs p.root), .slice Ai p.items.length ci, .slice Ap p.paths.length cp] 25)).alloc (.cells #[.int .i64 0] 29)
  have HB0 := hide hb0
  have HE := hide he
  have HP1 := hide hb1
  have HP0 := hide hb2
  have HPL := hide hpl
  clear hb0 he hb1 hb2 hpl
  have e1 : ((bs p.root).toList == (bs root).toList) = false := by rw [beq_eq_false_iff_ne, bs_toList, bs_toList]; exact hh
  clear hh hf
  go_enter Tryz.func24, Tryz.ntmps24
  go_wp2_with fail
  refine (CF _ HB0.out).mono ?_
  rintro e w2 ⟨rfl, hb2⟩
  have HB2 := hide hb2
  have HEw := hide (HE.out.to hb2)
  have HP1w := hide (HP1.out.to hb2)
  have HP0w := hide (HP0.out.to hb2)
  have HBw := hide (below_to HB0.out (Nat.le_refl _) hb2)
  clear hb2 CF
  go_wp2_with fail
  have HC2 := hide (HC.out.to HBw.out)
  obtain ⟨Av, cv, rfl⟩ := own_sl4 HC.out.own
  obtain ⟨U, hU, g, u0, rfl, hgu, hi⟩ := cls w2
  have k0 := fun u => ((HP0w.out.to (hgu u)).cell 0).trans (show _ = some (Value.pointer (some ⟨b, 0, none⟩)) from rfl)
  have p0 := fun u => ((HP1w.out.to (hgu u)).cell 0).trans (show _ = some (Value.int .i64 p.fr) from rfl)
  have p1 := fun u => ((HP1w.out.to (hgu u)).cell 1).trans (show _ = some (Value.int .i64 p.size) from rfl)
  have p2 := fun u => ((HP1w.out.to (hgu u)).cell 2).trans (show _ = some (Value.string (bs p.root)) from rfl)
  have p3 := fun u => ((HP1w.out.to (hgu u)).cell 3).trans (show _ = some (Value.slice Ai p.items.length ci) from rfl)
  have z0 := fun u => ((HC2.out.blk.to (hgu u)).cell 0).trans (show _ = some (Value.string (bs root)) from rfl)
  have z1 := fun u => ((HC2.out.blk.to (hgu u)).cell 1).trans (show _ = some (Value.int .i64 size) from rfl)
  have z2 := fun u => ((HC2.out.blk.to (hgu u)).cell 2).trans (show _ = some (Value.slice Av its.length cv) from rfl)
  apply wp_region_looseG g (V := [some _, some _, some _, some _, some _, some _, some _, some _, some _, some _, some _, some _, some _, some _, some _, some _, some _, some _, some _, some _, some _, some _, some _, some _, some _, some _, some _]) (Fs := []) (Rel := fun _ w w' => Below w.heap.size w w')
  case hm => kernel_rfl
  case hB => kernel_rfl
  case hCw => exact hi _ (hgu _).drew
  case hC =>
    rintro i uq w' hr
    exact hi _ (below_to (hgu uq) (Nat.le_refl _) hr)
  case hst =>
    exact keeps_nil
  case hop =>
    refine ⟨?_, ?_, ?_, ?_, ?_, ?_, ?_, ?_, ?_, ?_, ?_, ?_, ?_, ?_, ?_, ?_, ?_, ?_, ?_, ?_, ?_, ?_, ?_, ?_, ?_, ?_, ?_, trivial⟩
    · intro a uq K hS hd hK
      have s3 := hS.at 3 (by kernel_rfl) rfl
      rw [if_pos (want_free rfl)]
      go_simp
      exact hK _ _ (Below.refl _ _) (vok rfl) facts_nil
    · intro a uq K hS hd hK
      have s14 := (waits_on hd 0 (by kernel_rfl)).at (d := 14) rfl rfl rfl
      rw [if_pos (want_free rfl)]
      have c := p2 uq
      go_simp
      exact hK _ _ (Below.refl _ _) (vok rfl) facts_nil
    · intro a uq K hS hd hK
      have s2 := hS.at 2 (by kernel_rfl) rfl
      rw [if_pos (want_free rfl)]
      have c := k0 uq
      go_simp
      exact hK _ _ (Below.refl _ _) (vok rfl) facts_nil
    · intro a uq K hS hd hK
      have s16 := (waits_on hd 2 (by kernel_rfl)).at (d := 16) rfl rfl rfl
      rw [if_pos (want_free rfl)]
      go_simp
      exact hK _ _ (Below.refl _ _) (vok rfl) facts_nil
    · intro a uq K hS hd hK
      have s17 := (waits_on hd 3 (by kernel_rfl)).at (d := 17) rfl rfl rfl
      rw [if_pos (want_free rfl)]
      go_simp
      exact hK _ _ (Below.refl _ _) (vok rfl) facts_nil
    · intro a uq K hS hd hK
      have s18 := (waits_on hd 4 (by kernel_rfl)).at (d := 18) rfl rfl rfl
      rw [if_pos (want_free rfl)]
      have c := z0 uq
      go_simp
      exact hK _ _ (Below.refl _ _) (vok rfl) facts_nil
    · intro a uq K hS hd hK
      have s15 := (waits_on hd 1 (by kernel_rfl)).at (d := 15) rfl rfl rfl
      have s19 := (waits_on hd 5 (by kernel_rfl)).at (d := 19) rfl rfl rfl
      rw [if_pos (want_free rfl)]
      go_simp
      exact hK _ _ (Below.refl _ _) (vok rfl) facts_nil
    · intro a uq K hS hd hK
      have s20 := (waits_on hd 6 (by kernel_rfl)).at (d := 20) rfl rfl rfl
      rw [if_pos (want_free rfl)]
      go_simp
      exact hK _ _ (Below.refl _ _) (vok rfl) facts_nil
    · intro a uq K hS hd hK
      have s21 := (waits_on hd 7 (by kernel_rfl)).at (d := 21) rfl rfl rfl
      rw [if_neg (want_no rfl rfl rfl s21 rfl)]
      exact hK _ _ (Below.refl _ _) (vok rfl) facts_nil
    · intro a uq K hS hd hK
      have s21 := (waits_on hd 7 (by kernel_rfl)).at (d := 21) rfl rfl rfl
      rw [if_neg (want_no rfl rfl rfl s21 rfl)]
      exact hK _ _ (Below.refl _ _) (vok rfl) facts_nil
    · intro a uq K hS hd hK
      have s21 := (waits_on hd 7 (by kernel_rfl)).at (d := 21) rfl rfl rfl
      rw [if_neg (want_no rfl rfl rfl s21 rfl)]
      exact hK _ _ (Below.refl _ _) (vok rfl) facts_nil
    · intro a uq K hS hd hK
      have s21 := (waits_on hd 7 (by kernel_rfl)).at (d := 21) rfl rfl rfl
      rw [if_neg (want_no rfl rfl rfl s21 rfl)]
      exact hK _ _ (Below.refl _ _) (vok rfl) facts_nil
    · intro a uq K hS hd hK
      have s21 := (waits_on hd 7 (by kernel_rfl)).at (d := 21) rfl rfl rfl
      rw [if_neg (want_no rfl rfl rfl s21 rfl)]
      exact hK _ _ (Below.refl _ _) (vok rfl) facts_nil
    · intro a uq K hS hd hK
      have s21 := (waits_on hd 7 (by kernel_rfl)).at (d := 21) rfl rfl rfl
      rw [if_neg (want_no rfl rfl rfl s21 rfl)]
      exact hK _ _ (Below.refl _ _) (vok rfl) facts_nil
    · intro a uq K hS hd hK
      have s21 := (waits_on hd 7 (by kernel_rfl)).at (d := 21) rfl rfl rfl
      rw [if_neg (want_no rfl rfl rfl s21 rfl)]
      exact hK _ _ (Below.refl _ _) (vok rfl) facts_nil
    · intro a uq K hS hd hK
      have s21 := (waits_on hd 7 (by kernel_rfl)).at (d := 21) rfl rfl rfl
      have s28 := (waits_on hd 14 (by kernel_rfl)).at (d := 28) rfl rfl rfl
      rw [if_pos (want_free rfl)]
      go_simp
      exact hK _ _ (Below.refl _ _) (vok rfl) facts_nil
    · intro a uq K hS hd hK
      have s29 := (waits_on hd 15 (by kernel_rfl)).at (d := 29) rfl rfl rfl
      rw [if_pos (want_free rfl)]
      go_simp
      exact hK _ _ (Below.refl _ _) (vok rfl) facts_nil
    · intro a uq K hS hd hK
      have s30 := (waits_on hd 16 (by kernel_rfl)).at (d := 30) rfl rfl rfl
      rw [if_neg (want_no rfl rfl rfl s30 rfl)]
      exact hK _ _ (Below.refl _ _) (vok rfl) facts_nil
    · intro a uq K hS hd hK
      have s30 := (waits_on hd 16 (by kernel_rfl)).at (d := 30) rfl rfl rfl
      rw [if_neg (want_no rfl rfl rfl s30 rfl)]
      exact hK _ _ (Below.refl _ _) (vok rfl) facts_nil
    · intro a uq K hS hd hK
      have s30 := (waits_on hd 16 (by kernel_rfl)).at (d := 30) rfl rfl rfl
      rw [if_neg (want_no rfl rfl rfl s30 rfl)]
      exact hK _ _ (Below.refl _ _) (vok rfl) facts_nil
    · intro a uq K hS hd hK
      have s30 := (waits_on hd 16 (by kernel_rfl)).at (d := 30) rfl rfl rfl
      rw [if_neg (want_no rfl rfl rfl s30 rfl)]
      exact hK _ _ (Below.refl _ _) (vok rfl) facts_nil
    · intro a uq K hS hd hK
      have s30 := (waits_on hd 16 (by kernel_rfl)).at (d := 30) rfl rfl rfl
      rw [if_neg (want_no rfl rfl rfl s30 rfl)]
      exact hK _ _ (Below.refl _ _) (vok rfl) facts_nil
    · intro a uq K hS hd hK
      have s30 := (waits_on hd 16 (by kernel_rfl)).at (d := 30) rfl rfl rfl
      rw [if_neg (want_no rfl rfl rfl s30 rfl)]
      exact hK _ _ (Below.refl _ _) (vok rfl) facts_nil
    · intro a uq K hS hd hK
      have s30 := (waits_on hd 16 (by kernel_rfl)).at (d := 30) rfl rfl rfl
      rw [if_neg (want_no rfl rfl rfl s30 rfl)]
      exact hK _ _ (Below.refl _ _) (vok rfl) facts_nil
    · intro a uq K hS hd hK
      have s30 := (waits_on hd 16 (by kernel_rfl)).at (d := 30) rfl rfl rfl
      rw [if_neg (want_no rfl rfl rfl s30 rfl)]
      exact hK _ _ (Below.refl _ _) (vok rfl) facts_nil
    · intro a uq K hS hd hK
      have s30 := (waits_on hd 16 (by kernel_rfl)).at (d := 30) rfl rfl rfl
      rw [if_neg (want_no rfl rfl rfl s30 rfl)]
      exact hK _ _ (Below.refl _ _) (vok rfl) facts_nil
    · intro a uq K hS hd hK
      have s30 := (waits_on hd 16 (by kernel_rfl)).at (d := 30) rfl rfl rfl
      have s39 := (waits_on hd 25 (by kernel_rfl)).at (d := 39) rfl rfl rfl
      rw [if_pos (want_free rfl)]
      go_simp
      exact hK _ _ (Below.refl _ _) (vok rfl) facts_nil
  case hfin =>
    intro a uq hS hk
    have s14 := (hk 0 (by decide)).at (d := 14) rfl rfl rfl
    have s15 := (hk 1 (by decide)).at (d := 15) rfl rfl rfl
    have s16 := (hk 2 (by decide)).at (d := 16) rfl rfl rfl
    have s17 := (hk 3 (by decide)).at (d := 17) rfl rfl rfl
    have s18 := (hk 4 (by decide)).at (d := 18) rfl rfl rfl
    have s19 := (hk 5 (by decide)).at (d := 19) rfl rfl rfl
    have s20 := (hk 6 (by decide)).at (d := 20) rfl rfl rfl
    have s21 := (hk 7 (by decide)).at (d := 21) rfl rfl rfl
    have s22 := (hk 8 (by decide)).at (d := 22) rfl rfl rfl
    have s23 := (hk 9 (by decide)).at (d := 23) rfl rfl rfl
    have s24 := (hk 10 (by decide)).at (d := 24) rfl rfl rfl
    have s25 := (hk 11 (by decide)).at (d := 25) rfl rfl rfl
    have s26 := (hk 12 (by decide)).at (d := 26) rfl rfl rfl
    have s27 := (hk 13 (by decide)).at (d := 27) rfl rfl rfl
    have s28 := (hk 14 (by decide)).at (d := 28) rfl rfl rfl
    have s29 := (hk 15 (by decide)).at (d := 29) rfl rfl rfl
    have s30 := (hk 16 (by decide)).at (d := 30) rfl rfl rfl
    have s31 := (hk 17 (by decide)).at (d := 31) rfl rfl rfl
    have s32 := (hk 18 (by decide)).at (d := 32) rfl rfl rfl
    have s33 := (hk 19 (by decide)).at (d := 33) rfl rfl rfl
    have s34 := (hk 20 (by decide)).at (d := 34) rfl rfl rfl
    have s35 := (hk 21 (by decide)).at (d := 35) rfl rfl rfl
    have s36 := (hk 22 (by decide)).at (d := 36) rfl rfl rfl
    have s37 := (hk 23 (by decide)).at (d := 37) rfl rfl rfl
    have s38 := (hk 24 (by decide)).at (d := 38) rfl rfl rfl
    have s39 := (hk 25 (by decide)).at (d := 39) rfl rfl rfl
    have s40 := (hk 26 (by decide)).at (d := 40) rfl rfl rfl
    have hlit := hS.lit _ (by kernel_rfl) (lits_cons s14 (lits_cons s15 (lits_cons s16 (lits_cons s17 (lits_cons s18 (lits_cons s19 (lits_cons s20 (lits_cons s21 (lits_cons s22 (lits_cons s23 (lits_cons s24 (lits_cons s25 (lits_cons s26 (lits_cons s27 (lits_cons s28 (lits_cons s29 (lits_cons s30 (lits_cons s31 (lits_cons s32 (lits_cons s33 (lits_cons s34 (lits_cons s35 (lits_cons s36 (lits_cons s37 (lits_cons s38 (lits_cons s39 (lits_cons s40 lits_nil)))))))))))))))))))))))))))
    rw [hlit]
    clear hlit hk hS s14 s15 s16 s17 s18 s19 s20 s21 s22 s23 s24 s25 s26 s27 s28 s29 s30 s31 s32 s33 s34 s35 s36 s37 s38 s39 s40
    have HEu := hide (HEw.out.to (hgu uq))
    have HBu := hide (below_to HBw.out (Nat.le_refl _) (hgu uq))
    have y0 := (HEu.out.cell 0).trans (show _ = some (Value.int .i64 0) from rfl)
    have yf := HEu.out.frozen 0
    simp only [litT, List.setIfInBounds_toArray, List.set_cons_succ, List.set_cons_zero]
    clear k0 p0 p1 p2 p3 z0 z1 z2
    go_wp2_with fail
    refine bodyPost_ret (results_errno rfl _ _ (w.heap.size + 1 + 1) _ rfl (HEu.out.set_ 0 (.int .i64 17))) rfl (accept_same HC.out ?_)
    exact HBu.out.setCell (p := ⟨w.heap.size + 1 + 1, 0, none⟩) (by show _ ≤ w.heap.size + 1 + 1; omega) _
set_option maxRecDepth 100000 in
set_option maxHeartbeats 400000 in
theorem Accept_size (b : Nat) (root : List UInt8) (size : Int) (its : List (List UInt8)) (v : Value) (p : Pg) (hp : p.fit) (hf : formedB p = true) (hh : p.root = root ∧ ¬ p.size = size) (vi vp : Value) (w : World) (hcl : CliAt b root size its v w) (hvi : TextsAt w vi p.items) (hvp : PathsAt w vp p.paths) :
    Calls Tryz.prog 24 #[cliP b, .agg (p.cs vi vp)] w (AcceptR b root size 17 its v w) := by
  have hq := fun q hq => (⟨hp.nq q hq, hp.lq q hq⟩ : q.length ≤ 200000 ∧ ∀ x ∈ q, x.length ≤ 100000)
  have CF := fun w' (hb : Below w.heap.size w w') => formed_any p hp.lr hp.li hq vi vp w' (hvi.to hb) (hvp.to hb)
  rw [hf] at CF
  obtain ⟨Ai, ci, rfl, hci⟩ := hvi.slice
  obtain ⟨Ap, cp, rfl, hcp⟩ := hvp.slice
  obtain ⟨⟨hfr, hsz, _, hn50, hpl⟩, _⟩ := formed_spec hf
  have HC := hide hcl
  have HVI := hide hvi
  have HVP := hide hvp
  clear hvi hvp hcl hq
  unfold Pg.cs at CF ⊢
  unfold cliP
  have hb0 : Below w.heap.size w (((w.alloc (.cells #[.pointer (some ⟨b, 0, none⟩)] 38)).alloc (.cells #[.int .i64 p.fr, .int .i64 p.size, .string (bs p.root), .slice Ai p.items.length ci, .slice Ap p.paths.length cp] 25)).alloc (.cells #[.int .i64 0] 29)) := (((Below.refl _ w).alloc (Nat.le_refl _) _).alloc (by simp) _).alloc (by simp; omega) _
  have he := Blk.new ((w.alloc (.cells #[.pointer (some ⟨b, 0, none⟩)] 38)).alloc (.cells #[.int .i64 p.fr, .int .i64 p.size, .string (bs p.root), .slice Ai p.items.length ci, .slice Ap p.paths.length cp] 25)) 29 #[.int .i64 0]
  rw [World.size_alloc, World.size_alloc] at he
  have hb1 := (Blk.new (w.alloc (.cells #[.pointer (some ⟨b, 0, none⟩)] 38)) 25 #[.int .i64 p.fr, .int .i64 p.size, .string (bs p.root), .slice Ai p.items.length ci, .slice Ap p.paths.length cp]).alloc (.cells #[.int .i64 0] 29)
  rw [World.size_alloc] at hb1
  have hb2 := ((Blk.new w 38 #[.pointer (some ⟨b, 0, none⟩)]).alloc (.cells #[.int .i64 p.fr, .int .i64 p.size, .string (bs p.root), .slice Ai p.items.length ci, .slice Ap p.paths.length cp] 25)).alloc (.cells #[.int .i64 0] 29)
  have HB0 := hide hb0
  have HE := hide he
  have HP1 := hide hb1
  have HP0 := hide hb2
  have HPL := hide hpl
  clear hb0 he hb1 hb2 hpl
  have e1 : ((bs p.root).toList == (bs root).toList) = true := by rw [beq_iff_eq, bs_toList, bs_toList]; exact hh.1
  have e2 : (p.size == size) = false := by rw [beq_eq_false_iff_ne]; exact hh.2
  have e3 : (p.size != size) = true := by rw [bne_iff_ne]; exact hh.2
  clear hh hf
  go_enter Tryz.func24, Tryz.ntmps24
  go_wp2_with fail
  refine (CF _ HB0.out).mono ?_
  rintro e w2 ⟨rfl, hb2⟩
  have HB2 := hide hb2
  have HEw := hide (HE.out.to hb2)
  have HP1w := hide (HP1.out.to hb2)
  have HP0w := hide (HP0.out.to hb2)
  have HBw := hide (below_to HB0.out (Nat.le_refl _) hb2)
  clear hb2 CF
  go_wp2_with fail
  have HC2 := hide (HC.out.to HBw.out)
  obtain ⟨Av, cv, rfl⟩ := own_sl4 HC.out.own
  obtain ⟨U, hU, g, u0, rfl, hgu, hi⟩ := cls w2
  have k0 := fun u => ((HP0w.out.to (hgu u)).cell 0).trans (show _ = some (Value.pointer (some ⟨b, 0, none⟩)) from rfl)
  have p0 := fun u => ((HP1w.out.to (hgu u)).cell 0).trans (show _ = some (Value.int .i64 p.fr) from rfl)
  have p1 := fun u => ((HP1w.out.to (hgu u)).cell 1).trans (show _ = some (Value.int .i64 p.size) from rfl)
  have p2 := fun u => ((HP1w.out.to (hgu u)).cell 2).trans (show _ = some (Value.string (bs p.root)) from rfl)
  have p3 := fun u => ((HP1w.out.to (hgu u)).cell 3).trans (show _ = some (Value.slice Ai p.items.length ci) from rfl)
  have z0 := fun u => ((HC2.out.blk.to (hgu u)).cell 0).trans (show _ = some (Value.string (bs root)) from rfl)
  have z1 := fun u => ((HC2.out.blk.to (hgu u)).cell 1).trans (show _ = some (Value.int .i64 size) from rfl)
  have z2 := fun u => ((HC2.out.blk.to (hgu u)).cell 2).trans (show _ = some (Value.slice Av its.length cv) from rfl)
  apply wp_region_looseG g (V := [some _, some _, some _, some _, some _, some _, some _, some _, some _, some _, some _, some _, some _, some _, some _, some _, some _, some _, some _, some _, some _, some _, some _, some _, some _, some _, some _]) (Fs := []) (Rel := fun _ w w' => Below w.heap.size w w')
  case hm => kernel_rfl
  case hB => kernel_rfl
  case hCw => exact hi _ (hgu _).drew
  case hC =>
    rintro i uq w' hr
    exact hi _ (below_to (hgu uq) (Nat.le_refl _) hr)
  case hst =>
    exact keeps_nil
  case hop =>
    refine ⟨?_, ?_, ?_, ?_, ?_, ?_, ?_, ?_, ?_, ?_, ?_, ?_, ?_, ?_, ?_, ?_, ?_, ?_, ?_, ?_, ?_, ?_, ?_, ?_, ?_, ?_, ?_, trivial⟩
    · intro a uq K hS hd hK
      have s3 := hS.at 3 (by kernel_rfl) rfl
      rw [if_pos (want_free rfl)]
      go_simp
      exact hK _ _ (Below.refl _ _) (vok rfl) facts_nil
    · intro a uq K hS hd hK
      have s14 := (waits_on hd 0 (by kernel_rfl)).at (d := 14) rfl rfl rfl
      rw [if_pos (want_free rfl)]
      have c := p2 uq
      go_simp
      exact hK _ _ (Below.refl _ _) (vok rfl) facts_nil
    · intro a uq K hS hd hK
      have s2 := hS.at 2 (by kernel_rfl) rfl
      rw [if_pos (want_free rfl)]
      have c := k0 uq
      go_simp
      exact hK _ _ (Below.refl _ _) (vok rfl) facts_nil
    · intro a uq K hS hd hK
      have s16 := (waits_on hd 2 (by kernel_rfl)).at (d := 16) rfl rfl rfl
      rw [if_pos (want_free rfl)]
      go_simp
      exact hK _ _ (Below.refl _ _) (vok rfl) facts_nil
    · intro a uq K hS hd hK
      have s17 := (waits_on hd 3 (by kernel_rfl)).at (d := 17) rfl rfl rfl
      rw [if_pos (want_free rfl)]
      go_simp
      exact hK _ _ (Below.refl _ _) (vok rfl) facts_nil
    · intro a uq K hS hd hK
      have s18 := (waits_on hd 4 (by kernel_rfl)).at (d := 18) rfl rfl rfl
      rw [if_pos (want_free rfl)]
      have c := z0 uq
      go_simp
      exact hK _ _ (Below.refl _ _) (vok rfl) facts_nil
    · intro a uq K hS hd hK
      have s15 := (waits_on hd 1 (by kernel_rfl)).at (d := 15) rfl rfl rfl
      have s19 := (waits_on hd 5 (by kernel_rfl)).at (d := 19) rfl rfl rfl
      rw [if_pos (want_free rfl)]
      go_simp
      exact hK _ _ (Below.refl _ _) (vok rfl) facts_nil
    · intro a uq K hS hd hK
      have s20 := (waits_on hd 6 (by kernel_rfl)).at (d := 20) rfl rfl rfl
      rw [if_pos (want_free rfl)]
      go_simp
      exact hK _ _ (Below.refl _ _) (vok rfl) facts_nil
    · intro a uq K hS hd hK
      have s21 := (waits_on hd 7 (by kernel_rfl)).at (d := 21) rfl rfl rfl
      have s3 := hS.at 3 (by kernel_rfl) rfl
      rw [if_pos (want_yes rfl rfl rfl s21)]
      go_simp
      exact hK _ _ (Below.refl _ _) (vok rfl) facts_nil
    · intro a uq K hS hd hK
      have s21 := (waits_on hd 7 (by kernel_rfl)).at (d := 21) rfl rfl rfl
      have s22 := (waits_on hd 8 (by kernel_rfl)).at (d := 22) rfl rfl rfl
      rw [if_pos (want_yes rfl rfl rfl s21)]
      have c := p1 uq
      go_simp
      exact hK _ _ (Below.refl _ _) (vok rfl) facts_nil
    · intro a uq K hS hd hK
      have s21 := (waits_on hd 7 (by kernel_rfl)).at (d := 21) rfl rfl rfl
      have s2 := hS.at 2 (by kernel_rfl) rfl
      rw [if_pos (want_yes rfl rfl rfl s21)]
      have c := k0 uq
      go_simp
      exact hK _ _ (Below.refl _ _) (vok rfl) facts_nil
    · intro a uq K hS hd hK
      have s21 := (waits_on hd 7 (by kernel_rfl)).at (d := 21) rfl rfl rfl
      have s24 := (waits_on hd 10 (by kernel_rfl)).at (d := 24) rfl rfl rfl
      rw [if_pos (want_yes rfl rfl rfl s21)]
      go_simp
      exact hK _ _ (Below.refl _ _) (vok rfl) facts_nil
    · intro a uq K hS hd hK
      have s21 := (waits_on hd 7 (by kernel_rfl)).at (d := 21) rfl rfl rfl
      have s25 := (waits_on hd 11 (by kernel_rfl)).at (d := 25) rfl rfl rfl
      rw [if_pos (want_yes rfl rfl rfl s21)]
      go_simp
      exact hK _ _ (Below.refl _ _) (vok rfl) facts_nil
    · intro a uq K hS hd hK
      have s21 := (waits_on hd 7 (by kernel_rfl)).at (d := 21) rfl rfl rfl
      have s26 := (waits_on hd 12 (by kernel_rfl)).at (d := 26) rfl rfl rfl
      rw [if_pos (want_yes rfl rfl rfl s21)]
      have c := z1 uq
      go_simp
      exact hK _ _ (Below.refl _ _) (vok rfl) facts_nil
    · intro a uq K hS hd hK
      have s21 := (waits_on hd 7 (by kernel_rfl)).at (d := 21) rfl rfl rfl
      have s23 := (waits_on hd 9 (by kernel_rfl)).at (d := 23) rfl rfl rfl
      have s27 := (waits_on hd 13 (by kernel_rfl)).at (d := 27) rfl rfl rfl
      rw [if_pos (want_yes rfl rfl rfl s21)]
      go_simp
      exact hK _ _ (Below.refl _ _) (vok rfl) facts_nil
    · intro a uq K hS hd hK
      have s21 := (waits_on hd 7 (by kernel_rfl)).at (d := 21) rfl rfl rfl
      have s28 := (waits_on hd 14 (by kernel_rfl)).at (d := 28) rfl rfl rfl
      rw [if_pos (want_free rfl)]
      go_simp
      exact hK _ _ (Below.refl _ _) (vok rfl) facts_nil
    · intro a uq K hS hd hK
      have s29 := (waits_on hd 15 (by kernel_rfl)).at (d := 29) rfl rfl rfl
      rw [if_pos (want_free rfl)]
      go_simp
      exact hK _ _ (Below.refl _ _) (vok rfl) facts_nil
    · intro a uq K hS hd hK
      have s30 := (waits_on hd 16 (by kernel_rfl)).at (d := 30) rfl rfl rfl
      rw [if_neg (want_no rfl rfl rfl s30 rfl)]
      exact hK _ _ (Below.refl _ _) (vok rfl) facts_nil
    · intro a uq K hS hd hK
      have s30 := (waits_on hd 16 (by kernel_rfl)).at (d := 30) rfl rfl rfl
      rw [if_neg (want_no rfl rfl rfl s30 rfl)]
      exact hK _ _ (Below.refl _ _) (vok rfl) facts_nil
    · intro a uq K hS hd hK
      have s30 := (waits_on hd 16 (by kernel_rfl)).at (d := 30) rfl rfl rfl
      rw [if_neg (want_no rfl rfl rfl s30 rfl)]
      exact hK _ _ (Below.refl _ _) (vok rfl) facts_nil
    · intro a uq K hS hd hK
      have s30 := (waits_on hd 16 (by kernel_rfl)).at (d := 30) rfl rfl rfl
      rw [if_neg (want_no rfl rfl rfl s30 rfl)]
      exact hK _ _ (Below.refl _ _) (vok rfl) facts_nil
    · intro a uq K hS hd hK
      have s30 := (waits_on hd 16 (by kernel_rfl)).at (d := 30) rfl rfl rfl
      rw [if_neg (want_no rfl rfl rfl s30 rfl)]
      exact hK _ _ (Below.refl _ _) (vok rfl) facts_nil
    · intro a uq K hS hd hK
      have s30 := (waits_on hd 16 (by kernel_rfl)).at (d := 30) rfl rfl rfl
      rw [if_neg (want_no rfl rfl rfl s30 rfl)]
      exact hK _ _ (Below.refl _ _) (vok rfl) facts_nil
    · intro a uq K hS hd hK
      have s30 := (waits_on hd 16 (by kernel_rfl)).at (d := 30) rfl rfl rfl
      rw [if_neg (want_no rfl rfl rfl s30 rfl)]
      exact hK _ _ (Below.refl _ _) (vok rfl) facts_nil
    · intro a uq K hS hd hK
      have s30 := (waits_on hd 16 (by kernel_rfl)).at (d := 30) rfl rfl rfl
      rw [if_neg (want_no rfl rfl rfl s30 rfl)]
      exact hK _ _ (Below.refl _ _) (vok rfl) facts_nil
    · intro a uq K hS hd hK
      have s30 := (waits_on hd 16 (by kernel_rfl)).at (d := 30) rfl rfl rfl
      rw [if_neg (want_no rfl rfl rfl s30 rfl)]
      exact hK _ _ (Below.refl _ _) (vok rfl) facts_nil
    · intro a uq K hS hd hK
      have s30 := (waits_on hd 16 (by kernel_rfl)).at (d := 30) rfl rfl rfl
      have s39 := (waits_on hd 25 (by kernel_rfl)).at (d := 39) rfl rfl rfl
      rw [if_pos (want_free rfl)]
      go_simp
      exact hK _ _ (Below.refl _ _) (vok rfl) facts_nil
  case hfin =>
    intro a uq hS hk
    have s14 := (hk 0 (by decide)).at (d := 14) rfl rfl rfl
    have s15 := (hk 1 (by decide)).at (d := 15) rfl rfl rfl
    have s16 := (hk 2 (by decide)).at (d := 16) rfl rfl rfl
    have s17 := (hk 3 (by decide)).at (d := 17) rfl rfl rfl
    have s18 := (hk 4 (by decide)).at (d := 18) rfl rfl rfl
    have s19 := (hk 5 (by decide)).at (d := 19) rfl rfl rfl
    have s20 := (hk 6 (by decide)).at (d := 20) rfl rfl rfl
    have s21 := (hk 7 (by decide)).at (d := 21) rfl rfl rfl
    have s22 := (hk 8 (by decide)).at (d := 22) rfl rfl rfl
    have s23 := (hk 9 (by decide)).at (d := 23) rfl rfl rfl
    have s24 := (hk 10 (by decide)).at (d := 24) rfl rfl rfl
    have s25 := (hk 11 (by decide)).at (d := 25) rfl rfl rfl
    have s26 := (hk 12 (by decide)).at (d := 26) rfl rfl rfl
    have s27 := (hk 13 (by decide)).at (d := 27) rfl rfl rfl
    have s28 := (hk 14 (by decide)).at (d := 28) rfl rfl rfl
    have s29 := (hk 15 (by decide)).at (d := 29) rfl rfl rfl
    have s30 := (hk 16 (by decide)).at (d := 30) rfl rfl rfl
    have s31 := (hk 17 (by decide)).at (d := 31) rfl rfl rfl
    have s32 := (hk 18 (by decide)).at (d := 32) rfl rfl rfl
    have s33 := (hk 19 (by decide)).at (d := 33) rfl rfl rfl
    have s34 := (hk 20 (by decide)).at (d := 34) rfl rfl rfl
    have s35 := (hk 21 (by decide)).at (d := 35) rfl rfl rfl
    have s36 := (hk 22 (by decide)).at (d := 36) rfl rfl rfl
    have s37 := (hk 23 (by decide)).at (d := 37) rfl rfl rfl
    have s38 := (hk 24 (by decide)).at (d := 38) rfl rfl rfl
    have s39 := (hk 25 (by decide)).at (d := 39) rfl rfl rfl
    have s40 := (hk 26 (by decide)).at (d := 40) rfl rfl rfl
    have hlit := hS.lit _ (by kernel_rfl) (lits_cons s14 (lits_cons s15 (lits_cons s16 (lits_cons s17 (lits_cons s18 (lits_cons s19 (lits_cons s20 (lits_cons s21 (lits_cons s22 (lits_cons s23 (lits_cons s24 (lits_cons s25 (lits_cons s26 (lits_cons s27 (lits_cons s28 (lits_cons s29 (lits_cons s30 (lits_cons s31 (lits_cons s32 (lits_cons s33 (lits_cons s34 (lits_cons s35 (lits_cons s36 (lits_cons s37 (lits_cons s38 (lits_cons s39 (lits_cons s40 lits_nil)))))))))))))))))))))))))))
    rw [hlit]
    clear hlit hk hS s14 s15 s16 s17 s18 s19 s20 s21 s22 s23 s24 s25 s26 s27 s28 s29 s30 s31 s32 s33 s34 s35 s36 s37 s38 s39 s40
    have HEu := hide (HEw.out.to (hgu uq))
    have HBu := hide (below_to HBw.out (Nat.le_refl _) (hgu uq))
    have y0 := (HEu.out.cell 0).trans (show _ = some (Value.int .i64 0) from rfl)
    have yf := HEu.out.frozen 0
    simp only [litT, List.setIfInBounds_toArray, List.set_cons_succ, List.set_cons_zero]
    clear k0 p0 p1 p2 p3 z0 z1 z2
    go_wp2_with fail
    refine bodyPost_ret (results_errno rfl _ _ (w.heap.size + 1 + 1) _ rfl (HEu.out.set_ 0 (.int .i64 17))) rfl (accept_same HC.out ?_)
    exact HBu.out.setCell (p := ⟨w.heap.size + 1 + 1, 0, none⟩) (by show _ ≤ w.heap.size + 1 + 1; omega) _
set_option maxRecDepth 100000 in
set_option maxHeartbeats 400000 in
theorem Accept_far (b : Nat) (root : List UInt8) (size : Int) (its : List (List UInt8)) (v : Value) (p : Pg) (hp : p.fit) (hf : formedB p = true) (hh : p.root = root ∧ p.size = size ∧ ¬ p.fr ≤ p.size - p.items.length) (vi vp : Value) (w : World) (hcl : CliAt b root size its v w) (hvi : TextsAt w vi p.items) (hvp : PathsAt w vp p.paths) :
    Calls Tryz.prog 24 #[cliP b, .agg (p.cs vi vp)] w (AcceptR b root size 17 its v w) := by
  have hq := fun q hq => (⟨hp.nq q hq, hp.lq q hq⟩ : q.length ≤ 200000 ∧ ∀ x ∈ q, x.length ≤ 100000)
  have CF := fun w' (hb : Below w.heap.size w w') => formed_any p hp.lr hp.li hq vi vp w' (hvi.to hb) (hvp.to hb)
  rw [hf] at CF
  obtain ⟨Ai, ci, rfl, hci⟩ := hvi.slice
  obtain ⟨Ap, cp, rfl, hcp⟩ := hvp.slice
  obtain ⟨⟨hfr, hsz, _, hn50, hpl⟩, _⟩ := formed_spec hf
  have HC := hide hcl
  have HVI := hide hvi
  have HVP := hide hvp
  clear hvi hvp hcl hq
  unfold Pg.cs at CF ⊢
  unfold cliP
  have hb0 : Below w.heap.size w (((w.alloc (.cells #[.pointer (some ⟨b, 0, none⟩)] 38)).alloc (.cells #[.int .i64 p.fr, .int .i64 p.size, .string (bs p.root), .slice Ai p.items.length ci, .slice Ap p.paths.length cp] 25)).alloc (.cells #[.int .i64 0] 29)) := (((Below.refl _ w).alloc (Nat.le_refl _) _).alloc (by simp) _).alloc (by simp; omega) _
  have he := Blk.new ((w.alloc (.cells #[.pointer (some ⟨b, 0, none⟩)] 38)).alloc (.cells #[.int .i64 p.fr, .int .i64 p.size, .string (bs p.root), .slice Ai p.items.length ci, .slice Ap p.paths.length cp] 25)) 29 #[.int .i64 0]
  rw [World.size_alloc, World.size_alloc] at he
  have hb1 := (Blk.new (w.alloc (.cells #[.pointer (some ⟨b, 0, none⟩)] 38)) 25 #[.int .i64 p.fr, .int .i64 p.size, .string (bs p.root), .slice Ai p.items.length ci, .slice Ap p.paths.length cp]).alloc (.cells #[.int .i64 0] 29)
  rw [World.size_alloc] at hb1
  have hb2 := ((Blk.new w 38 #[.pointer (some ⟨b, 0, none⟩)]).alloc (.cells #[.int .i64 p.fr, .int .i64 p.size, .string (bs p.root), .slice Ai p.items.length ci, .slice Ap p.paths.length cp] 25)).alloc (.cells #[.int .i64 0] 29)
  have HB0 := hide hb0
  have HE := hide he
  have HP1 := hide hb1
  have HP0 := hide hb2
  have HPL := hide hpl
  clear hb0 he hb1 hb2 hpl
  have e1 : ((bs p.root).toList == (bs root).toList) = true := by rw [beq_iff_eq, bs_toList, bs_toList]; exact hh.1
  have e2 : (p.size == size) = true := by rw [beq_iff_eq]; exact hh.2.1
  have e3 : (p.size != size) = false := by rw [bne, e2]; rfl
  have ew : IntKind.i64.wrap (p.size - (p.items.length : Int)) = p.size - (p.items.length : Int) := w64 (by omega) (by omega)
  have e4 : decide (p.size - (p.items.length : Int) < p.fr) = true := decide_eq_true (by have := hh.2.2; omega)
  clear hh hf
  go_enter Tryz.func24, Tryz.ntmps24
  go_wp2_with fail
  refine (CF _ HB0.out).mono ?_
  rintro e w2 ⟨rfl, hb2⟩
  have HB2 := hide hb2
  have HEw := hide (HE.out.to hb2)
  have HP1w := hide (HP1.out.to hb2)
  have HP0w := hide (HP0.out.to hb2)
  have HBw := hide (below_to HB0.out (Nat.le_refl _) hb2)
  clear hb2 CF
  go_wp2_with fail
  have HC2 := hide (HC.out.to HBw.out)
  obtain ⟨Av, cv, rfl⟩ := own_sl4 HC.out.own
  obtain ⟨U, hU, g, u0, rfl, hgu, hi⟩ := cls w2
  have k0 := fun u => ((HP0w.out.to (hgu u)).cell 0).trans (show _ = some (Value.pointer (some ⟨b, 0, none⟩)) from rfl)
  have p0 := fun u => ((HP1w.out.to (hgu u)).cell 0).trans (show _ = some (Value.int .i64 p.fr) from rfl)
  have p1 := fun u => ((HP1w.out.to (hgu u)).cell 1).trans (show _ = some (Value.int .i64 p.size) from rfl)
  have p2 := fun u => ((HP1w.out.to (hgu u)).cell 2).trans (show _ = some (Value.string (bs p.root)) from rfl)
  have p3 := fun u => ((HP1w.out.to (hgu u)).cell 3).trans (show _ = some (Value.slice Ai p.items.length ci) from rfl)
  have z0 := fun u => ((HC2.out.blk.to (hgu u)).cell 0).trans (show _ = some (Value.string (bs root)) from rfl)
  have z1 := fun u => ((HC2.out.blk.to (hgu u)).cell 1).trans (show _ = some (Value.int .i64 size) from rfl)
  have z2 := fun u => ((HC2.out.blk.to (hgu u)).cell 2).trans (show _ = some (Value.slice Av its.length cv) from rfl)
  apply wp_region_looseG g (V := [some _, some _, some _, some _, some _, some _, some _, some _, some _, some _, some _, some _, some _, some _, some _, some _, some _, some _, some _, some _, some _, some _, some _, some _, some _, some _, some _]) (Fs := []) (Rel := fun _ w w' => Below w.heap.size w w')
  case hm => kernel_rfl
  case hB => kernel_rfl
  case hCw => exact hi _ (hgu _).drew
  case hC =>
    rintro i uq w' hr
    exact hi _ (below_to (hgu uq) (Nat.le_refl _) hr)
  case hst =>
    exact keeps_nil
  case hop =>
    refine ⟨?_, ?_, ?_, ?_, ?_, ?_, ?_, ?_, ?_, ?_, ?_, ?_, ?_, ?_, ?_, ?_, ?_, ?_, ?_, ?_, ?_, ?_, ?_, ?_, ?_, ?_, ?_, trivial⟩
    · intro a uq K hS hd hK
      have s3 := hS.at 3 (by kernel_rfl) rfl
      rw [if_pos (want_free rfl)]
      go_simp
      exact hK _ _ (Below.refl _ _) (vok rfl) facts_nil
    · intro a uq K hS hd hK
      have s14 := (waits_on hd 0 (by kernel_rfl)).at (d := 14) rfl rfl rfl
      rw [if_pos (want_free rfl)]
      have c := p2 uq
      go_simp
      exact hK _ _ (Below.refl _ _) (vok rfl) facts_nil
    · intro a uq K hS hd hK
      have s2 := hS.at 2 (by kernel_rfl) rfl
      rw [if_pos (want_free rfl)]
      have c := k0 uq
      go_simp
      exact hK _ _ (Below.refl _ _) (vok rfl) facts_nil
    · intro a uq K hS hd hK
      have s16 := (waits_on hd 2 (by kernel_rfl)).at (d := 16) rfl rfl rfl
      rw [if_pos (want_free rfl)]
      go_simp
      exact hK _ _ (Below.refl _ _) (vok rfl) facts_nil
    · intro a uq K hS hd hK
      have s17 := (waits_on hd 3 (by kernel_rfl)).at (d := 17) rfl rfl rfl
      rw [if_pos (want_free rfl)]
      go_simp
      exact hK _ _ (Below.refl _ _) (vok rfl) facts_nil
    · intro a uq K hS hd hK
      have s18 := (waits_on hd 4 (by kernel_rfl)).at (d := 18) rfl rfl rfl
      rw [if_pos (want_free rfl)]
      have c := z0 uq
      go_simp
      exact hK _ _ (Below.refl _ _) (vok rfl) facts_nil
    · intro a uq K hS hd hK
      have s15 := (waits_on hd 1 (by kernel_rfl)).at (d := 15) rfl rfl rfl
      have s19 := (waits_on hd 5 (by kernel_rfl)).at (d := 19) rfl rfl rfl
      rw [if_pos (want_free rfl)]
      go_simp
      exact hK _ _ (Below.refl _ _) (vok rfl) facts_nil
    · intro a uq K hS hd hK
      have s20 := (waits_on hd 6 (by kernel_rfl)).at (d := 20) rfl rfl rfl
      rw [if_pos (want_free rfl)]
      go_simp
      exact hK _ _ (Below.refl _ _) (vok rfl) facts_nil
    · intro a uq K hS hd hK
      have s21 := (waits_on hd 7 (by kernel_rfl)).at (d := 21) rfl rfl rfl
      have s3 := hS.at 3 (by kernel_rfl) rfl
      rw [if_pos (want_yes rfl rfl rfl s21)]
      go_simp
      exact hK _ _ (Below.refl _ _) (vok rfl) facts_nil
    · intro a uq K hS hd hK
      have s21 := (waits_on hd 7 (by kernel_rfl)).at (d := 21) rfl rfl rfl
      have s22 := (waits_on hd 8 (by kernel_rfl)).at (d := 22) rfl rfl rfl
      rw [if_pos (want_yes rfl rfl rfl s21)]
      have c := p1 uq
      go_simp
      exact hK _ _ (Below.refl _ _) (vok rfl) facts_nil
    · intro a uq K hS hd hK
      have s21 := (waits_on hd 7 (by kernel_rfl)).at (d := 21) rfl rfl rfl
      have s2 := hS.at 2 (by kernel_rfl) rfl
      rw [if_pos (want_yes rfl rfl rfl s21)]
      have c := k0 uq
      go_simp
      exact hK _ _ (Below.refl _ _) (vok rfl) facts_nil
    · intro a uq K hS hd hK
      have s21 := (waits_on hd 7 (by kernel_rfl)).at (d := 21) rfl rfl rfl
      have s24 := (waits_on hd 10 (by kernel_rfl)).at (d := 24) rfl rfl rfl
      rw [if_pos (want_yes rfl rfl rfl s21)]
      go_simp
      exact hK _ _ (Below.refl _ _) (vok rfl) facts_nil
    · intro a uq K hS hd hK
      have s21 := (waits_on hd 7 (by kernel_rfl)).at (d := 21) rfl rfl rfl
      have s25 := (waits_on hd 11 (by kernel_rfl)).at (d := 25) rfl rfl rfl
      rw [if_pos (want_yes rfl rfl rfl s21)]
      go_simp
      exact hK _ _ (Below.refl _ _) (vok rfl) facts_nil
    · intro a uq K hS hd hK
      have s21 := (waits_on hd 7 (by kernel_rfl)).at (d := 21) rfl rfl rfl
      have s26 := (waits_on hd 12 (by kernel_rfl)).at (d := 26) rfl rfl rfl
      rw [if_pos (want_yes rfl rfl rfl s21)]
      have c := z1 uq
      go_simp
      exact hK _ _ (Below.refl _ _) (vok rfl) facts_nil
    · intro a uq K hS hd hK
      have s21 := (waits_on hd 7 (by kernel_rfl)).at (d := 21) rfl rfl rfl
      have s23 := (waits_on hd 9 (by kernel_rfl)).at (d := 23) rfl rfl rfl
      have s27 := (waits_on hd 13 (by kernel_rfl)).at (d := 27) rfl rfl rfl
      rw [if_pos (want_yes rfl rfl rfl s21)]
      go_simp
      exact hK _ _ (Below.refl _ _) (vok rfl) facts_nil
    · intro a uq K hS hd hK
      have s21 := (waits_on hd 7 (by kernel_rfl)).at (d := 21) rfl rfl rfl
      have s28 := (waits_on hd 14 (by kernel_rfl)).at (d := 28) rfl rfl rfl
      rw [if_pos (want_free rfl)]
      go_simp
      exact hK _ _ (Below.refl _ _) (vok rfl) facts_nil
    · intro a uq K hS hd hK
      have s29 := (waits_on hd 15 (by kernel_rfl)).at (d := 29) rfl rfl rfl
      rw [if_pos (want_free rfl)]
      go_simp
      exact hK _ _ (Below.refl _ _) (vok rfl) facts_nil
    · intro a uq K hS hd hK
      have s30 := (waits_on hd 16 (by kernel_rfl)).at (d := 30) rfl rfl rfl
      have s3 := hS.at 3 (by kernel_rfl) rfl
      rw [if_pos (want_yes rfl rfl rfl s30)]
      go_simp
      exact hK _ _ (Below.refl _ _) (vok rfl) facts_nil
    · intro a uq K hS hd hK
      have s30 := (waits_on hd 16 (by kernel_rfl)).at (d := 30) rfl rfl rfl
      have s31 := (waits_on hd 17 (by kernel_rfl)).at (d := 31) rfl rfl rfl
      rw [if_pos (want_yes rfl rfl rfl s30)]
      have c := p0 uq
      go_simp
      exact hK _ _ (Below.refl _ _) (vok rfl) facts_nil
    · intro a uq K hS hd hK
      have s30 := (waits_on hd 16 (by kernel_rfl)).at (d := 30) rfl rfl rfl
      have s3 := hS.at 3 (by kernel_rfl) rfl
      rw [if_pos (want_yes rfl rfl rfl s30)]
      go_simp
      exact hK _ _ (Below.refl _ _) (vok rfl) facts_nil
    · intro a uq K hS hd hK
      have s30 := (waits_on hd 16 (by kernel_rfl)).at (d := 30) rfl rfl rfl
      have s33 := (waits_on hd 19 (by kernel_rfl)).at (d := 33) rfl rfl rfl
      rw [if_pos (want_yes rfl rfl rfl s30)]
      have c := p1 uq
      go_simp
      exact hK _ _ (Below.refl _ _) (vok rfl) facts_nil
    · intro a uq K hS hd hK
      have s30 := (waits_on hd 16 (by kernel_rfl)).at (d := 30) rfl rfl rfl
      have s3 := hS.at 3 (by kernel_rfl) rfl
      rw [if_pos (want_yes rfl rfl rfl s30)]
      go_simp
      exact hK _ _ (Below.refl _ _) (vok rfl) facts_nil
    · intro a uq K hS hd hK
      have s30 := (waits_on hd 16 (by kernel_rfl)).at (d := 30) rfl rfl rfl
      have s35 := (waits_on hd 21 (by kernel_rfl)).at (d := 35) rfl rfl rfl
      rw [if_pos (want_yes rfl rfl rfl s30)]
      have c := p3 uq
      go_simp
      exact hK _ _ (Below.refl _ _) (vok rfl) facts_nil
    · intro a uq K hS hd hK
      have s30 := (waits_on hd 16 (by kernel_rfl)).at (d := 30) rfl rfl rfl
      have s36 := (waits_on hd 22 (by kernel_rfl)).at (d := 36) rfl rfl rfl
      rw [if_pos (want_yes rfl rfl rfl s30)]
      go_simp
      exact hK _ _ (Below.refl _ _) (vok rfl) facts_nil
    · intro a uq K hS hd hK
      have s30 := (waits_on hd 16 (by kernel_rfl)).at (d := 30) rfl rfl rfl
      have s34 := (waits_on hd 20 (by kernel_rfl)).at (d := 34) rfl rfl rfl
      have s37 := (waits_on hd 23 (by kernel_rfl)).at (d := 37) rfl rfl rfl
      rw [if_pos (want_yes rfl rfl rfl s30)]
      go_simp
      exact hK _ _ (Below.refl _ _) (vok rfl) facts_nil
    · intro a uq K hS hd hK
      have s30 := (waits_on hd 16 (by kernel_rfl)).at (d := 30) rfl rfl rfl
      have s32 := (waits_on hd 18 (by kernel_rfl)).at (d := 32) rfl rfl rfl
      have s38 := (waits_on hd 24 (by kernel_rfl)).at (d := 38) rfl rfl rfl
      rw [if_pos (want_yes rfl rfl rfl s30)]
      go_simp
      exact hK _ _ (Below.refl _ _) (vok rfl) facts_nil
    · intro a uq K hS hd hK
      have s30 := (waits_on hd 16 (by kernel_rfl)).at (d := 30) rfl rfl rfl
      have s39 := (waits_on hd 25 (by kernel_rfl)).at (d := 39) rfl rfl rfl
      rw [if_pos (want_free rfl)]
      go_simp
      exact hK _ _ (Below.refl _ _) (vok rfl) facts_nil
  case hfin =>
    intro a uq hS hk
    have s14 := (hk 0 (by decide)).at (d := 14) rfl rfl rfl
    have s15 := (hk 1 (by decide)).at (d := 15) rfl rfl rfl
    have s16 := (hk 2 (by decide)).at (d := 16) rfl rfl rfl
    have s17 := (hk 3 (by decide)).at (d := 17) rfl rfl rfl
    have s18 := (hk 4 (by decide)).at (d := 18) rfl rfl rfl
    have s19 := (hk 5 (by decide)).at (d := 19) rfl rfl rfl
    have s20 := (hk 6 (by decide)).at (d := 20) rfl rfl rfl
    have s21 := (hk 7 (by decide)).at (d := 21) rfl rfl rfl
    have s22 := (hk 8 (by decide)).at (d := 22) rfl rfl rfl
    have s23 := (hk 9 (by decide)).at (d := 23) rfl rfl rfl
    have s24 := (hk 10 (by decide)).at (d := 24) rfl rfl rfl
    have s25 := (hk 11 (by decide)).at (d := 25) rfl rfl rfl
    have s26 := (hk 12 (by decide)).at (d := 26) rfl rfl rfl
    have s27 := (hk 13 (by decide)).at (d := 27) rfl rfl rfl
    have s28 := (hk 14 (by decide)).at (d := 28) rfl rfl rfl
    have s29 := (hk 15 (by decide)).at (d := 29) rfl rfl rfl
    have s30 := (hk 16 (by decide)).at (d := 30) rfl rfl rfl
    have s31 := (hk 17 (by decide)).at (d := 31) rfl rfl rfl
    have s32 := (hk 18 (by decide)).at (d := 32) rfl rfl rfl
    have s33 := (hk 19 (by decide)).at (d := 33) rfl rfl rfl
    have s34 := (hk 20 (by decide)).at (d := 34) rfl rfl rfl
    have s35 := (hk 21 (by decide)).at (d := 35) rfl rfl rfl
    have s36 := (hk 22 (by decide)).at (d := 36) rfl rfl rfl
    have s37 := (hk 23 (by decide)).at (d := 37) rfl rfl rfl
    have s38 := (hk 24 (by decide)).at (d := 38) rfl rfl rfl
    have s39 := (hk 25 (by decide)).at (d := 39) rfl rfl rfl
    have s40 := (hk 26 (by decide)).at (d := 40) rfl rfl rfl
    have hlit := hS.lit _ (by kernel_rfl) (lits_cons s14 (lits_cons s15 (lits_cons s16 (lits_cons s17 (lits_cons s18 (lits_cons s19 (lits_cons s20 (lits_cons s21 (lits_cons s22 (lits_cons s23 (lits_cons s24 (lits_cons s25 (lits_cons s26 (lits_cons s27 (lits_cons s28 (lits_cons s29 (lits_cons s30 (lits_cons s31 (lits_cons s32 (lits_cons s33 (lits_cons s34 (lits_cons s35 (lits_cons s36 (lits_cons s37 (lits_cons s38 (lits_cons s39 (lits_cons s40 lits_nil)))))))))))))))))))))))))))
    rw [hlit]
    clear hlit hk hS s14 s15 s16 s17 s18 s19 s20 s21 s22 s23 s24 s25 s26 s27 s28 s29 s30 s31 s32 s33 s34 s35 s36 s37 s38 s39 s40
    have HEu := hide (HEw.out.to (hgu uq))
    have HBu := hide (below_to HBw.out (Nat.le_refl _) (hgu uq))
    have y0 := (HEu.out.cell 0).trans (show _ = some (Value.int .i64 0) from rfl)
    have yf := HEu.out.frozen 0
    simp only [litT, List.setIfInBounds_toArray, List.set_cons_succ, List.set_cons_zero]
    clear k0 p0 p1 p2 p3 z0 z1 z2
    go_wp2_with fail
    refine bodyPost_ret (results_errno rfl _ _ (w.heap.size + 1 + 1) _ rfl (HEu.out.set_ 0 (.int .i64 17))) rfl (accept_same HC.out ?_)
    exact HBu.out.setCell (p := ⟨w.heap.size + 1 + 1, 0, none⟩) (by show _ ≤ w.heap.size + 1 + 1; omega) _
end Go.Proofs.YtfhanbiifjiklaaGreatDoor
