/- Several texts as one, in build order. -/
import Derived.Test.YtfhanbiifjiklaaGreatDoorMD
import Derived.BigQuiet
import Derived.Test.YtfhanbiifjiklaaGreatDoorMB
import Derived.Test.YtfhanbiifjiklaaGreatDoorMC
import Derived.Test.YtfhanbiifjiklaaGreatDoorMA
/- Walks of the reference: Holds, Checked, at a page that holds. -/
set_option linter.unusedVariables false
set_option linter.unusedSimpArgs false
namespace Go.Proofs.YtfhanbiifjiklaaGreatDoor
open Go.RowKit

theorem held_at {p : Pg} (hh : heldB p p.root p.size = true) {k : Nat} {x : List UInt8} {q : List (List UInt8)} (hx : p.items[k]? = some x) (hq : p.paths[k]? = some q) : checkV p.root p.size (p.fr + (k : Int)) (leafD x) q = true := by
  unfold heldB at hh
  rw [Bool.and_eq_true] at hh
  have hk := (List.getElem?_eq_some_iff.1 hx).1
  have h := List.all_eq_true.1 hh.2 ⟨k, hk⟩ (List.mem_finRange _)
  unfold Pg.checkAt at h
  rw [List.getElem?_eq_getElem hk] at hx
  have e : p.items[(⟨k, hk⟩ : Fin p.items.length)] = x := Option.some.inj hx
  rw [e, List.getD_eq_getElem?_getD, hq] at h
  exact h
theorem held_same {p : Pg} (hh : heldB p p.root p.size = true) : p.fr ≤ p.size - p.items.length := by
  unfold heldB sameB at hh
  simp only [Bool.and_eq_true, decide_eq_true_eq] at hh
  exact hh.1.2.2
theorem held_len {p : Pg} {N I k : Nat} {x : List UInt8} {q : List (List UInt8)} (h : checkV p.root p.size (p.fr + (k : Int)) (leafD x) q = true) (hN : p.size = N) (hI : p.fr + (k : Int) = I) : I < N ∧ N ≤ 1000000 ∧ q.length = lenF N N I ∧ properT q = true := by
  rw [hN, hI] at h
  have hb : (N : Int) ≤ 1000000 ∧ (I : Int) < (N : Int) := by
    unfold checkV at h
    split at h
    · rename_i hc; exact ⟨hc.1, hc.2.2.1⟩
    · cases h
  rw [checkV_ref _ _ _ _ _ (by omega) (by omega)] at h
  simp only [Bool.and_eq_true, decide_eq_true_eq] at h
  exact ⟨by omega, by omega, h.1, h.2.1⟩
def itemJ (p : Pg) (j : Nat) : List (List UInt8) := leafJ (p.items.getD j []) :: ptxF (leafD (p.items.getD j [])) p.size.toNat p.size.toNat (p.fr.toNat + j) (p.paths.getD j []).reverse
/-- what is digested to check the first k items of a page -/
def chkUp (p : Pg) (k : Nat) : List (List UInt8) := (List.range k).flatMap (itemJ p)
def checkedV (p : Pg) : List (List UInt8) := chkUp p p.items.length
theorem chk_step (p : Pg) (k : Nat) : chkUp p (k + 1) = chkUp p k ++ itemJ p k := by unfold chkUp; rw [List.range_succ, List.flatMap_append, List.flatMap_singleton]
theorem chk_at {p : Pg} {k : Nat} {x : List UInt8} {q : List (List UInt8)} (hx : p.items[k]? = some x) (hq : p.paths[k]? = some q) : itemJ p k = leafJ x :: ptxF (leafD x) p.size.toNat p.size.toNat (p.fr.toNat + k) q.reverse := by
  unfold itemJ; rw [List.getD_eq_getElem?_getD, List.getD_eq_getElem?_getD, hx, hq]; rfl
theorem chk_len (p : Pg) : ∀ k, (chkUp p k).length ≤ k * (p.size.toNat + 1)
  | 0 => by simp [chkUp]
  | k + 1 => by
    have := chk_len p k
    rw [chk_step, List.length_append, Nat.add_mul]
    have h2 : (itemJ p k).length ≤ p.size.toNat + 1 := by unfold itemJ; rw [List.length_cons]; exact Nat.succ_le_succ (ptx_len _ _ _ _ _)
    omega
/-- texts that lie behind a row are not touched when it grows -/
theorem sep_texts {w5 : World} {v5 : Value} {PX L : List (List UInt8)} {B : Nat} (h5 : OwnT w5 B v5 L) : ∀ (x x' : World) (v : Value), World.grownBy x x' v5.ownBlock → TextsAt x v PX → (∀ g, v.ownBlock = some g → w5.heap.size ≤ g) → TextsAt x' v PX := fun x x' v hg ht hl => by
  cases e : v5.ownBlock with
  | none =>
    rw [e] at hg
    exact ht.to ⟨hg.os, hg.tape, hg.output, hg.size, fun k hk => hg.block k hk (by simp)⟩
  | some r =>
    have hr := (own_blk_lt h5 r e).2
    have hne : v.ownBlock ≠ some r := fun e0 => by have := hl r e0; omega
    rw [e] at hg
    exact ht.two (p := r) (q := r) ⟨hg.os, hg.tape, hg.output, hg.size, fun k hk h1 _ => hg.block k hk (fun e0 => h1 (Option.some.inj e0))⟩ hne hne
set_option maxRecDepth 100000 in
set_option maxHeartbeats 4000000 in
theorem Holds_yes (p : Pg) (hp : p.fit) (hf : formedB p = true) (hh : heldB p p.root p.size = true) (vi vp : Value) (w : World) (hvi : TextsAt w vi p.items) (hvp : PathsAt w vp p.paths) :
    Calls Tryz.prog 27 #[.agg (p.cs vi vp)] w fun e w' => e = .returned (.bool true) ∧ Below w.heap.size w w' := by
  have HH := hide hh
  have HI := hide hp.li
  have HQ := hide (formed_len hf).1
  have hfs := (formed_spec hf).1
  have HPL : Hid (p.paths.length = p.items.length) := hfs.2.2.2.2
  have hfr := hfs.1
  have hsz := hfs.2.1
  have hil := hfs.2.2.2.1
  have HSM := hide (held_same hh)
  obtain ⟨Ai, ci, rfl, hci⟩ := hvi.slice
  obtain ⟨Ap, cp, rfl, hcp⟩ := hvp.slice
  have hb0 := below_one w (.cells #[.int .i64 p.fr, .int .i64 p.size, .string (bs p.root), .slice Ai p.items.length ci, .slice Ap p.paths.length cp] 25)
  have CF : Calls Tryz.prog 58 #[.agg #[.int .i64 p.fr, .int .i64 p.size, .string (bs p.root), .slice Ai p.items.length ci, .slice Ap p.paths.length cp]] (w.alloc (.cells #[.int .i64 p.fr, .int .i64 p.size, .string (bs p.root), .slice Ai p.items.length ci, .slice Ap p.paths.length cp] 25)) fun e w' => e = .returned (.bool true) ∧ Below (w.alloc (.cells #[.int .i64 p.fr, .int .i64 p.size, .string (bs p.root), .slice Ai p.items.length ci, .slice Ap p.paths.length cp] 25)).heap.size (w.alloc (.cells #[.int .i64 p.fr, .int .i64 p.size, .string (bs p.root), .slice Ai p.items.length ci, .slice Ap p.paths.length cp] 25)) w' := by
    have := rFormed_any p hp _ _ _ (hvi.to hb0) (hvp.to hb0)
    rw [hf] at this
    exact this
  have HVI := hide (hvi.to hb0)
  have HVP := hide (hvp.to hb0)
  have HB := hide hb0
  have HX := hide (Blk.new w 25 (p.cs (.slice Ai p.items.length ci) (.slice Ap p.paths.length cp)))
  have hsm := HSM.out
  have c1 : decide (p.size < p.fr) = false := decide_eq_false (by omega)
  have c2 : decide (p.size < p.fr + (p.items.length : Int)) = false := decide_eq_false (by omega)
  clear hvi hvp hb0 hf hh hfs
  unfold Pg.cs at HX ⊢
  go_enter Tryz.func27, Tryz.ntmps27
  go_wp2_with fail
  generalize w.alloc (.cells #[.int .i64 p.fr, .int .i64 p.size, .string (bs p.root), .slice Ai p.items.length ci, .slice Ap p.paths.length cp] 25) = w1 at *
  refine CF.mono ?_
  rintro e w2 ⟨rfl, hb⟩
  obtain ⟨x0, x1, x2, x3, x4⟩ := page_cells (HX.out.to hb)
  have HB2 := hide hb
  clear hb CF
  go_wp2_with fail
  clear x0 x1 x2 x3 x4
  go_loopw [3] (fun i wr => ∃ k : Nat, i = .int .i64 (k : Int) ∧ k ≤ p.items.length ∧ Aside (Below w1.heap.size w1 wr)) (fun i _ => p.items.length - (intOf i).toNat)
  case atStart => exact ⟨0, rfl, by omega, HB2.out⟩
  case round =>
    clear HB2
    obtain ⟨k, rfl, hk, hB⟩ := hrel
    have HBr : Hid (Below w1.heap.size w1 wr) := hB
    clear hB
    by_cases hlt : k < p.items.length
    · have e1 : decide ((k : Int) < (p.items.length : Int)) = true := decide_eq_true (by omega)
      obtain ⟨x, hx⟩ : ∃ x, p.items[k]? = some x := ⟨_, List.getElem?_eq_getElem hlt⟩
      obtain ⟨q, hq⟩ : ∃ q, p.paths[k]? = some q := ⟨_, List.getElem?_eq_getElem (by have := HPL.out; omega)⟩
      have hxl := HI.out x (List.mem_of_getElem? hx)
      have hql := HQ.out q (List.mem_of_getElem? hq)
      have HCK := hide (held_at HH.out hx hq)
      have i0 : (0 : Int) ≤ (k : Int) := by omega
      have i1 : (k : Int) < (p.items.length : Int) := by omega
      have i2 : (k : Int) < (p.paths.length : Int) := by have := HPL.out; omega
      have hwr : IntKind.i64.wrap (p.fr + (k : Int)) = p.fr + (k : Int) := IntWalk.i64_in _ (by omega)
      obtain ⟨a, e9, ha, c0⟩ := (HVI.out.to HBr.out).at_ hx
      obtain ⟨b, vq, e8, hb, d0, htq⟩ := (HVP.out.to HBr.out).at_ hq
      subst e9 e8
      obtain ⟨U, hU, g, u0, e7, hgu, hi⟩ := cls wr
      subst e7
      have CL := cls_call hgu hi (fun w hb => rLeaf_any x (by omega) w)
      have CC := cls_call hgu hi (fun w hb => rCheck_any p.root p.size (p.fr + (k : Int)) (leafD x) q (by rw [isD_len (leaf_isD x)]; decide) (by omega) (fun y hy => by rw [hql.2 y hy]; decide) vq w (htq.to hb))
      rw [HCK.out] at CC
      have X0 := blk_all hgu (HX.out.to HBr.out) 0 rfl
      have X1 := blk_all hgu (HX.out.to HBr.out) 1 rfl
      have X2 := blk_all hgu (HX.out.to HBr.out) 2 rfl
      have X3 := blk_all hgu (HX.out.to HBr.out) 3 rfl
      have X4 := blk_all hgu (HX.out.to HBr.out) 4 rfl
      have Y0 : ∀ u, (g u).cell? (a.add k) = some (.string (bs x)) := fun u => ((hgu u).cell (p := a.add k) (by rw [block_of_add]; exact ha)).trans c0
      have Y1 : ∀ u, (g u).cell? (b.add k) = some vq := fun u => ((hgu u).cell (p := b.add k) (by rw [block_of_add]; exact hb)).trans d0
      have HGU := hide hgu
      have HHI := hide hi
      clear hx hq hgu hi c0 d0 htq
      generalize leafD x = lx at *
      go_wp2_with fail
      refine wp_region_class g (by kernel_rfl) (by kernel_rfl) (HHI.out _ (HGU.out _).drew) ?_
      repeat (go_big_quiet_step (first | with_reducible exact CL _ | with_reducible exact CC _))
      refine wpQuiet_nil ?_
      intro w5 hw5
      obtain ⟨u, rfl⟩ := hw5
      go_wp2_with fail
      refine ⟨⟨k + 1, by go_num, by omega, below_to HBr.out (Nat.le_refl _) (HGU.out u)⟩, ?_⟩
      simp [intOf]; omega
    · obtain rfl : k = p.items.length := by omega
      have e1 : decide ((p.items.length : Int) < (p.items.length : Int)) = false := by simp
      obtain ⟨x0, x1, x2, x3, x4⟩ := page_cells (HX.out.to HBr.out)
      go_wp2_with fail
      go_ret
      exact ⟨rfl, below_to HB.out (Nat.le_refl _) HBr.out⟩
set_option maxRecDepth 100000 in
set_option maxHeartbeats 2000000 in
theorem Checked_any (p : Pg) (hp : p.fit) (hf : formedB p = true) (hh : heldB p p.root p.size = true) (vi vp : Value) (w : World) (hvi : TextsAt w vi p.items) (hvp : PathsAt w vp p.paths) :
    Calls Tryz.prog 31 #[.agg (p.cs vi vp)] w (LvR (checkedV p) w) := by
  have HH := hide hh
  have HI := hide hp.li
  have HQ := hide (formed_len hf).1
  have hfs := (formed_spec hf).1
  have HPL : Hid (p.paths.length = p.items.length) := hfs.2.2.2.2
  have hfr := hfs.1
  have hsz := hfs.2.1
  have hil := hfs.2.2.2.1
  have HSM := hide (held_same hh)
  obtain ⟨Ai, ci, rfl, hci⟩ := hvi.slice
  obtain ⟨Ap, cp, rfl, hcp⟩ := hvp.slice
  have hb0 := below_one w (.cells #[.int .i64 p.fr, .int .i64 p.size, .string (bs p.root), .slice Ai p.items.length ci, .slice Ap p.paths.length cp] 25)
  have HVI := hide (hvi.to hb0)
  have HVP := hide (hvp.to hb0)
  have HB := hide hb0
  have HX := hide (Blk.new w 25 (p.cs (.slice Ai p.items.length ci) (.slice Ap p.paths.length cp)))
  have hsm := HSM.out
  have HCL := hide (chk_len p)
  obtain ⟨N, hN⟩ : ∃ N : Nat, p.size = N := ⟨p.size.toNat, by omega⟩
  obtain ⟨F, hF⟩ : ∃ F : Nat, p.fr = F := ⟨p.fr.toNat, by omega⟩
  have hN1 : p.size.toNat = N := by omega
  have hF1 : p.fr.toNat = F := by omega
  have HN := hide hN
  have HF := hide hF
  have HN1 := hide hN1
  have HF1 := hide hF1
  have hNb : N ≤ 10000 := by omega
  clear hvi hvp hb0 hf hh hfs hN hF hN1 hF1
  unfold Pg.cs at HX ⊢
  go_enter Tryz.func31, Tryz.ntmps31
  go_wp2_with fail
  generalize w.alloc (.cells #[.int .i64 p.fr, .int .i64 p.size, .string (bs p.root), .slice Ai p.items.length ci, .slice Ap p.paths.length cp] 25) = w1 at *
  go_loopw [3, 4] (fun o i wr => ∃ k : Nat, i = .int .i64 (k : Int) ∧ k ≤ p.items.length ∧ Aside (OwnT wr w1.heap.size o (chkUp p k)) ∧ Aside (Below w1.heap.size w1 wr)) (fun _ i _ => p.items.length - (intOf i).toNat)
  case atStart => exact ⟨0, rfl, by omega, World.ownsRow_nil _ _ _ _, Below.refl _ _⟩
  case round =>
    obtain ⟨k, rfl, hk, hO, hB⟩ := hrel
    have HBr : Hid (Below w1.heap.size w1 wr) := hB
    have HO : Hid (OwnT wr w1.heap.size _ (chkUp p k)) := hO
    have hcl := HCL.out k
    rw [HN1.out] at hcl
    have hcl2 : (chkUp p k).length ≤ 50 * 10001 := Nat.le_trans hcl (Nat.mul_le_mul (by omega) (by omega))
    obtain ⟨Ao, co, rfl⟩ := own_sl4 hO
    clear hB hO hcl
    obtain ⟨x0, x1, x2, x3, x4⟩ := page_cells (HX.out.to HBr.out)
    by_cases hlt : k < p.items.length
    · have e1 : decide ((k : Int) < (p.items.length : Int)) = true := decide_eq_true (by omega)
      obtain ⟨x, hx⟩ : ∃ x, p.items[k]? = some x := ⟨_, List.getElem?_eq_getElem hlt⟩
      obtain ⟨q, hq⟩ : ∃ q, p.paths[k]? = some q := ⟨_, List.getElem?_eq_getElem (by have := HPL.out; omega)⟩
      have hxl := HI.out x (List.mem_of_getElem? hx)
      have hql := HQ.out q (List.mem_of_getElem? hq)
      have HCK := hide (held_at HH.out hx hq)
      have i0 : (0 : Int) ≤ (k : Int) := by omega
      have i1 : (k : Int) < (p.items.length : Int) := by omega
      have i2 : (k : Int) < (p.paths.length : Int) := by have := HPL.out; omega
      have hwr : IntKind.i64.wrap (p.fr + (k : Int)) = p.fr + (k : Int) := IntWalk.i64_in _ (by omega)
      have HCS := hide (chk_step p k)
      rw [chk_at hx hq, HN1.out, HF1.out] at HCS
      obtain ⟨hI1, hI2, hI3, hI4⟩ := held_len (I := F + k) HCK.out HN.out (by have := HF.out; omega)
      have hqx : ∀ y ∈ q, y.length ≤ 1000000 := fun y hy => by rw [hql.2 y hy]; decide
      have hlx : (leafD x).length ≤ 1000000 := by rw [isD_len (leaf_isD x)]; decide
      obtain ⟨a, e9, ha1, c01⟩ := HVI.out.at_ hx
      obtain ⟨b, vq, e8, hb1, d01, htq⟩ := HVP.out.at_ hq
      subst e9 e8
      have HC1 := hide (fun (W : World) (h : Below w1.heap.size w1 W) => (h.cell (p := a.add k) (by rw [block_of_add]; exact ha1)).trans c01)
      have HD1 := hide (fun (W : World) (h : Below w1.heap.size w1 W) => (h.cell (p := b.add k) (by rw [block_of_add]; exact hb1)).trans d01)
      have c0 := HC1.out wr HBr.out
      have d0 := HD1.out wr HBr.out
      have ha := Nat.lt_of_lt_of_le ha1 HBr.out.size
      have hb := Nat.lt_of_lt_of_le hb1 HBr.out.size
      have HTQ := hide htq
      have CJ := fun (w' : World) (g : Nat) => join_leafB (x := x) hxl w' g
      have CJ := CJ (wr.alloc (.cells #[.string ⟨#[108, 101, 97, 102]⟩, .string (bs x)] 9)) wr.heap.size (Blk.new _ _ _)
      have hpx := ptx_len (leafD x) N N (F + k) q.reverse
      have HP : Hid (∀ w', TextsAt w' vq q → Calls Tryz.prog 74 #[.int .i64 p.size, .int .i64 (p.fr + (k : Int)), .string (bs (leafD x)), vq] w' (LvR (ptxF (leafD x) N N (F + k) q.reverse) w')) := fun w' ht => by
        have := rpt_any N N (F + k) (leafD x) q vq w' (by omega) (Nat.le_refl _) hI1 (by omega) hI3 hlx hqx ht
        rwa [show ((N : Nat) : Int) = p.size by have := HN.out; omega, show ((F + k : Nat) : Int) = p.fr + (k : Int) by have := HF.out; omega] at this
      have HLf := hide (fun w : World => rLeaf_any x (by omega) w)
      clear hx hq htq hI3 hI4 hqx hlx c01 d01 ha1 hb1
      generalize leafJ x = J at *
      generalize leafD x = lx at *
      generalize ptxF lx N N (F + k) q.reverse = PX at *
      generalize chkUp p k = L at *
      go_wp2_with fail
      refine CJ.mono ?_
      rintro e w4 ⟨rfl, hb4⟩
      have hb4' := below_to (below_one wr (.cells #[.string ⟨#[108, 101, 97, 102]⟩, .string (bs x)] 9)) (Nat.le_refl _) hb4
      have HO4 := hide (own_to4 HO.out hb4')
      have HB4 := hide (below_to HBr.out (Nat.le_refl _) hb4')
      have y0 := (hb4'.cell (p := a.add k) (by rw [block_of_add]; exact ha)).trans c0
      have y1 := (hb4'.cell (p := b.add k) (by rw [block_of_add]; exact hb)).trans d0
      have ha4 := Nat.lt_of_lt_of_le ha hb4'.size
      have hbb4 := Nat.lt_of_lt_of_le hb hb4'.size
      clear hb4 hb4' CJ HO c0 d0 ha hb x0 x1 x2 x3 x4
      go_wp2_with (at_builtin; refine wpList_append_texts rfl (.tmp 12) (.tmp 20) rfl w1.heap.size _ L rfl (own_to4 HO4.out (below_one w4 (.cells #[.string (bs J)] 9))) (.slice (some ⟨w4.heap.size, 0, none⟩) 1 1) [J] rfl (TextsAt.of_blk (ls := [J]) (Blk.new w4 9 #[.string (bs J)]) rfl) (by simp; omega) (by have := HB4.out.size; simp; omega) ?_)
      intro v5 w5 ho5 hg5 _
      obtain ⟨A5, c5, rfl⟩ := own_sl4 ho5
      have HB5 := hide ((below_alloc HB4.out (Nat.le_refl _) (.cells #[.string (bs J)] 9)).trans (below_grown hg5 (by have := HB4.out.size; simp; omega) (fun g e => (own_blk_lt HO4.out g e).1)))
      have HO5 := hide ho5
      have hl5 : (L ++ [J]).length ≤ 50 * 10001 + 1 := by simp; omega
      generalize hL5 : L ++ [J] = L5 at *
      clear ho5 hg5 HO4 HB4 y0 y1 ha4 hbb4
      have HSEP := hide (sep_texts (w5 := w5) (v5 := .slice A5 L5.length c5) (PX := PX) (B := w1.heap.size) HO5.out)
      go_wp2_with fail
      apply wp_region_lo3 (C := fun W => Below w1.heap.size w1 W) (V := [some _, some _, some _, some _, some _, some _, some _, some _, some _, some _, some _, some _, some _, some _, some _, some _, some _, some _, none, none, none]) (Fs := [(18, fun a W => ∃ v, a.tmps[40]? = some v ∧ TextsAt W v PX ∧ ∀ g, v.ownBlock = some g → w5.heap.size ≤ g), (19, fun a W => ∃ v, a.tmps[41]? = some v ∧ OwnT W w1.heap.size v (L5 ++ PX)), (20, fun a W => ∃ v, a.tmps[41]? = some v ∧ a.tmps[3]? = some v ∧ OwnT W w1.heap.size v (L5 ++ PX))]) (Ns := [(0, fun a (_ : World) => a.tmps[3]? = some (.slice A5 L5.length c5)), (18, fun (_ : Act) W => w5.heap.size ≤ W.heap.size), (19, fun (_ : Act) W => OwnT W w1.heap.size (.slice A5 L5.length c5) L5)]) (Rel := fun i b b' x x' => if i = 19 then (fun _ _ x x' => World.grownBy x x' (Value.ownBlock (.slice A5 L5.length c5))) b b' x x' else if i = 20 then (fun _ _ x x' => Below x.heap.size x x') b b' x x' else Below x.heap.size x x')
      case hm => kernel_rfl
      case hB => kernel_rfl
      case hCw => exact HB5.out.drew
      case hC =>
        intro i a a' w_ w' hw hr
        by_cases e19 : i = 19
        · subst e19
          have hr' : (fun _ _ x x' => World.grownBy x x' (Value.ownBlock (.slice A5 L5.length c5))) a a' w_ w' := hr
          exact hw.trans (below_grown hr' hw.size (fun g e => (own_blk_lt HO5.out g e).1))
        by_cases e20 : i = 20
        · subst e20
          have hr' : (fun _ _ x x' => Below x.heap.size x x') a a' w_ w' := hr
          exact below_to hw (Nat.le_refl _) hr'
        have hr' : Below w_.heap.size w_ w' := by simpa [e19, e20] using hr
        exact below_to hw (Nat.le_refl _) hr'
      case hst =>
        refine keeps3_cons (fun i a a' w_ w' hne hwt hs hput hr h => by
          by_cases e19 : i = 19
          · subst e19
            have hr' : (fun _ _ x x' => World.grownBy x x' (Value.ownBlock (.slice A5 L5.length c5))) a a' w_ w' := hr
            obtain ⟨v, h1, h2, h3⟩ := h
            exact ⟨v, (hs 40 (by kernel_rfl)).trans h1, HSEP.out _ _ v hr' h2 h3, h3⟩
          by_cases e20 : i = 20
          · subst e20
            have hr' : (fun _ _ x x' => Below x.heap.size x x') a a' w_ w' := hr
            obtain ⟨v, h1, h2, h3⟩ := h
            exact ⟨v, (hs 40 (by kernel_rfl)).trans h1, h2.to hr', h3⟩
          have hr' : Below w_.heap.size w_ w' := by simpa [e19, e20] using hr
          obtain ⟨v, h1, h2, h3⟩ := h
          exact ⟨v, (hs 40 (by kernel_rfl)).trans h1, h2.to hr', h3⟩) ?_
        refine keeps3_cons (fun i a a' w_ w' hne hwt hs hput hr h => by
          by_cases e19 : i = 19
          · exact absurd e19 hne
          by_cases e20 : i = 20
          · subst e20
            have hr' : (fun _ _ x x' => Below x.heap.size x x') a a' w_ w' := hr
            obtain ⟨v, h1, h2⟩ := h
            exact ⟨v, (hs 41 (by kernel_rfl)).trans h1, own_to4 h2 hr'⟩
          have hr' : Below w_.heap.size w_ w' := by simpa [e19, e20] using hr
          obtain ⟨v, h1, h2⟩ := h
          exact ⟨v, (hs 41 (by kernel_rfl)).trans h1, own_to4 h2 hr'⟩) ?_
        refine keeps3_cons (fun i a a' w_ w' hne hwt hs hput hr h => by
          by_cases e19 : i = 19
          · subst e19
            exact absurd (hwt.symm.trans (show Region.waitsFor .any _ 20 19 = true by kernel_rfl)) (by decide)
          by_cases e20 : i = 20
          · exact absurd e20 hne
          have hr' : Below w_.heap.size w_ w' := by simpa [e19, e20] using hr
          obtain ⟨v, h1, h3, h2⟩ := h
          exact ⟨v, (hs 41 (by kernel_rfl)).trans h1, (hs 3 (by kernel_rfl)).trans h3, own_to4 h2 hr'⟩) ?_
        exact keeps3_nil
      case hN0 => exact pre0_cons (rfl) (pre0_cons (Nat.le_refl _) (pre0_cons (HO5.out) (pre0_nil)))
      case hNst =>
        refine prek_cons3 (fun i a a' w_ w' hne hwt hr h hput => by
          by_cases e19 : i = 19
          · subst e19
            have hr' : (fun _ _ x x' => World.grownBy x x' (Value.ownBlock (.slice A5 L5.length c5))) a a' w_ w' := hr
            exact (other_slot (d := 3) (k := 20) (by kernel_rfl) hput (by decide)).trans h
          by_cases e20 : i = 20
          · subst e20
            exact absurd (hwt.symm.trans (show waitsT .any _ _ 20 0 = true by kernel_rfl)) (by decide)
          have hr' : Below w_.heap.size w_ w' := by simpa [e19, e20] using hr
          exact (other_slot (d := 3) (k := 20) (by kernel_rfl) hput e20).trans h) ?_
        refine prek_cons3 (fun i a a' w_ w' hne hwt hr h hput => by
          by_cases e19 : i = 19
          · subst e19
            have hr' : (fun _ _ x x' => World.grownBy x x' (Value.ownBlock (.slice A5 L5.length c5))) a a' w_ w' := hr
            exact Nat.le_trans h hr'.size
          by_cases e20 : i = 20
          · subst e20
            have hr' : (fun _ _ x x' => Below x.heap.size x x') a a' w_ w' := hr
            exact Nat.le_trans h hr'.size
          have hr' : Below w_.heap.size w_ w' := by simpa [e19, e20] using hr
          exact Nat.le_trans h hr'.size) ?_
        refine prek_cons3 (fun i a a' w_ w' hne hwt hr h hput => by
          by_cases e19 : i = 19
          · exact absurd e19 hne
          by_cases e20 : i = 20
          · subst e20
            exact absurd (hwt.symm.trans (show waitsT .any _ _ 20 19 = true by kernel_rfl)) (by decide)
          have hr' : Below w_.heap.size w_ w' := by simpa [e19, e20] using hr
          exact own_to4 h hr') ?_
        exact prek_nil3
      case hop =>
        refine ⟨?_, ?_, ?_, ?_, ?_, ?_, ?_, ?_, ?_, ?_, ?_, ?_, ?_, ?_, ?_, ?_, ?_, ?_, ?_, ?_, ?_, trivial⟩
        · intro a w_ K hw hS hd hN hK
          have s3 := hN _ (List.mem_cons_self ..) rfl
          rw [if_pos (want_free rfl)]
          have s3 : a.tmps[3]? = some (.slice A5 L5.length c5) := s3
          go_simp
          exact hK _ _ (Below.refl _ _) (vok rfl) (facts_cons (fun h => absurd h (by decide)) (facts_cons (fun h => absurd h (by decide)) (facts_cons (fun h => absurd h (by decide)) facts_nil)))
        · intro a w_ K hw hS hd hN hK
          have s1 := hS.at 1 (by kernel_rfl) rfl
          rw [if_pos (want_free rfl)]
          go_simp
          exact hK _ _ (Below.refl _ _) (vok rfl) (facts_cons (fun h => absurd h (by decide)) (facts_cons (fun h => absurd h (by decide)) (facts_cons (fun h => absurd h (by decide)) facts_nil)))
        · intro a w_ K hw hS hd hN hK
          have s23 := (waits_on hd 1 (by kernel_rfl)).at (d := 23) rfl rfl rfl
          rw [if_pos (want_free rfl)]
          obtain ⟨x0, x1, x2, x3, x4⟩ := page_cells (HX.out.to hw)
          go_simp
          exact hK _ _ (Below.refl _ _) (vok rfl) (facts_cons (fun h => absurd h (by decide)) (facts_cons (fun h => absurd h (by decide)) (facts_cons (fun h => absurd h (by decide)) facts_nil)))
        · intro a w_ K hw hS hd hN hK
          have s1 := hS.at 1 (by kernel_rfl) rfl
          rw [if_pos (want_free rfl)]
          go_simp
          exact hK _ _ (Below.refl _ _) (vok rfl) (facts_cons (fun h => absurd h (by decide)) (facts_cons (fun h => absurd h (by decide)) (facts_cons (fun h => absurd h (by decide)) facts_nil)))
        · intro a w_ K hw hS hd hN hK
          have s25 := (waits_on hd 3 (by kernel_rfl)).at (d := 25) rfl rfl rfl
          rw [if_pos (want_free rfl)]
          obtain ⟨x0, x1, x2, x3, x4⟩ := page_cells (HX.out.to hw)
          go_simp
          exact hK _ _ (Below.refl _ _) (vok rfl) (facts_cons (fun h => absurd h (by decide)) (facts_cons (fun h => absurd h (by decide)) (facts_cons (fun h => absurd h (by decide)) facts_nil)))
        · intro a w_ K hw hS hd hN hK
          have s4 := hS.at 4 (by kernel_rfl) rfl
          rw [if_pos (want_free rfl)]
          go_simp
          exact hK _ _ (Below.refl _ _) (vok rfl) (facts_cons (fun h => absurd h (by decide)) (facts_cons (fun h => absurd h (by decide)) (facts_cons (fun h => absurd h (by decide)) facts_nil)))
        · intro a w_ K hw hS hd hN hK
          have s26 := (waits_on hd 4 (by kernel_rfl)).at (d := 26) rfl rfl rfl
          have s27 := (waits_on hd 5 (by kernel_rfl)).at (d := 27) rfl rfl rfl
          rw [if_pos (want_free rfl)]
          go_simp
          exact hK _ _ (Below.refl _ _) (vok rfl) (facts_cons (fun h => absurd h (by decide)) (facts_cons (fun h => absurd h (by decide)) (facts_cons (fun h => absurd h (by decide)) facts_nil)))
        · intro a w_ K hw hS hd hN hK
          have s1 := hS.at 1 (by kernel_rfl) rfl
          rw [if_pos (want_free rfl)]
          go_simp
          exact hK _ _ (Below.refl _ _) (vok rfl) (facts_cons (fun h => absurd h (by decide)) (facts_cons (fun h => absurd h (by decide)) (facts_cons (fun h => absurd h (by decide)) facts_nil)))
        · intro a w_ K hw hS hd hN hK
          have s29 := (waits_on hd 7 (by kernel_rfl)).at (d := 29) rfl rfl rfl
          rw [if_pos (want_free rfl)]
          obtain ⟨x0, x1, x2, x3, x4⟩ := page_cells (HX.out.to hw)
          go_simp
          exact hK _ _ (Below.refl _ _) (vok rfl) (facts_cons (fun h => absurd h (by decide)) (facts_cons (fun h => absurd h (by decide)) (facts_cons (fun h => absurd h (by decide)) facts_nil)))
        · intro a w_ K hw hS hd hN hK
          have s4 := hS.at 4 (by kernel_rfl) rfl
          rw [if_pos (want_free rfl)]
          go_simp
          exact hK _ _ (Below.refl _ _) (vok rfl) (facts_cons (fun h => absurd h (by decide)) (facts_cons (fun h => absurd h (by decide)) (facts_cons (fun h => absurd h (by decide)) facts_nil)))
        · intro a w_ K hw hS hd hN hK
          have s30 := (waits_on hd 8 (by kernel_rfl)).at (d := 30) rfl rfl rfl
          have s31 := (waits_on hd 9 (by kernel_rfl)).at (d := 31) rfl rfl rfl
          rw [if_pos (want_free rfl)]
          go_simp
          exact hK _ _ (Below.refl _ _) (vok rfl) (facts_cons (fun h => absurd h (by decide)) (facts_cons (fun h => absurd h (by decide)) (facts_cons (fun h => absurd h (by decide)) facts_nil)))
        · intro a w_ K hw hS hd hN hK
          have s32 := (waits_on hd 10 (by kernel_rfl)).at (d := 32) rfl rfl rfl
          rw [if_pos (want_free rfl)]
          have c0 := HC1.out w_ hw
          go_simp
          exact hK _ _ (Below.refl _ _) (vok rfl) (facts_cons (fun h => absurd h (by decide)) (facts_cons (fun h => absurd h (by decide)) (facts_cons (fun h => absurd h (by decide)) facts_nil)))
        · intro a w_ K hw hS hd hN hK
          have s33 := (waits_on hd 11 (by kernel_rfl)).at (d := 33) rfl rfl rfl
          rw [if_pos (want_free rfl)]
          go_simp
          with_reducible refine (HLf.out w_).mono ?_
          rintro e w' ⟨rfl, hb⟩
          exact hK _ _ hb (vok rfl) (facts_cons (fun h => absurd h (by decide)) (facts_cons (fun h => absurd h (by decide)) (facts_cons (fun h => absurd h (by decide)) facts_nil)))
        · intro a w_ K hw hS hd hN hK
          have s1 := hS.at 1 (by kernel_rfl) rfl
          rw [if_pos (want_free rfl)]
          go_simp
          exact hK _ _ (Below.refl _ _) (vok rfl) (facts_cons (fun h => absurd h (by decide)) (facts_cons (fun h => absurd h (by decide)) (facts_cons (fun h => absurd h (by decide)) facts_nil)))
        · intro a w_ K hw hS hd hN hK
          have s35 := (waits_on hd 13 (by kernel_rfl)).at (d := 35) rfl rfl rfl
          rw [if_pos (want_free rfl)]
          obtain ⟨x0, x1, x2, x3, x4⟩ := page_cells (HX.out.to hw)
          go_simp
          exact hK _ _ (Below.refl _ _) (vok rfl) (facts_cons (fun h => absurd h (by decide)) (facts_cons (fun h => absurd h (by decide)) (facts_cons (fun h => absurd h (by decide)) facts_nil)))
        · intro a w_ K hw hS hd hN hK
          have s4 := hS.at 4 (by kernel_rfl) rfl
          rw [if_pos (want_free rfl)]
          go_simp
          exact hK _ _ (Below.refl _ _) (vok rfl) (facts_cons (fun h => absurd h (by decide)) (facts_cons (fun h => absurd h (by decide)) (facts_cons (fun h => absurd h (by decide)) facts_nil)))
        · intro a w_ K hw hS hd hN hK
          have s36 := (waits_on hd 14 (by kernel_rfl)).at (d := 36) rfl rfl rfl
          have s37 := (waits_on hd 15 (by kernel_rfl)).at (d := 37) rfl rfl rfl
          rw [if_pos (want_free rfl)]
          go_simp
          exact hK _ _ (Below.refl _ _) (vok rfl) (facts_cons (fun h => absurd h (by decide)) (facts_cons (fun h => absurd h (by decide)) (facts_cons (fun h => absurd h (by decide)) facts_nil)))
        · intro a w_ K hw hS hd hN hK
          have s38 := (waits_on hd 16 (by kernel_rfl)).at (d := 38) rfl rfl rfl
          rw [if_pos (want_free rfl)]
          have d0 := HD1.out w_ hw
          go_simp
          exact hK _ _ (Below.refl _ _) (vok rfl) (facts_cons (fun h => absurd h (by decide)) (facts_cons (fun h => absurd h (by decide)) (facts_cons (fun h => absurd h (by decide)) facts_nil)))
        · intro a w_ K hw hS hd hN hK
          have s24 := (waits_on hd 2 (by kernel_rfl)).at (d := 24) rfl rfl rfl
          have s28 := (waits_on hd 6 (by kernel_rfl)).at (d := 28) rfl rfl rfl
          have s34 := (waits_on hd 12 (by kernel_rfl)).at (d := 34) rfl rfl rfl
          have s39 := (waits_on hd 17 (by kernel_rfl)).at (d := 39) rfl rfl rfl
          have hw5 := hN _ (List.mem_cons_of_mem _ (List.mem_cons_self ..)) rfl
          rw [if_pos (want_free rfl)]
          go_simp
          with_reducible refine (HP.out w_ (HTQ.out.to hw)).mono ?_
          rintro e w' ⟨v7, rfl, ho7, hb7⟩
          exact hK _ _ hb7 (vfree rfl) (facts_cons (fun _ => ⟨v7, hS.put_at (by kernel_rfl) _, TextsAt.of_own ho7, fun g e => Nat.le_trans hw5 (own_blk_lt ho7 g e).1⟩) (facts_cons (fun h => absurd h (by decide)) (facts_cons (fun h => absurd h (by decide)) facts_nil)))
        · intro a w_ K hw hS hd hN hK
          have s22 := (waits_on hd 0 (by kernel_rfl)).at (d := 22) rfl rfl rfl
          obtain ⟨v40, s40, t40, l40⟩ := (waits_on hd 18 (by kernel_rfl)).2 _ (List.mem_cons_self ..) rfl
          have hOwn := hN _ (List.mem_cons_of_mem _ (List.mem_cons_of_mem _ (List.mem_cons_self ..))) rfl
          rw [if_pos (want_free rfl)]
          refine wp_append_texts (.tmp 22) (.tmp 40) rfl w1.heap.size (.slice A5 L5.length c5) L5 (eval_at s22) hOwn v40 PX (eval_at s40) t40 (by omega) hw.size ?_
          intro v8 w' ho hg hne
          exact hK v8 w' hg (vfree rfl) (facts_cons (fun h => absurd h (by decide)) (facts_cons (fun _ => ⟨v8, hS.put_at (by kernel_rfl) _, ho⟩) (facts_cons (fun h => absurd h (by decide)) facts_nil)))
        · intro a w_ K hw hS hd hN hK
          obtain ⟨v41, s41, o41⟩ := (waits_on hd 19 (by kernel_rfl)).2 _ (List.mem_cons_of_mem _ (List.mem_cons_self ..)) rfl
          rw [if_pos (want_free rfl)]
          go_simp
          exact hK _ _ (Below.refl _ _) (vfree rfl) (facts_cons (fun h => absurd h (by decide)) (facts_cons (fun h => absurd h (by decide)) (facts_cons (fun _ => ⟨v41, (put_far (by decide)).trans s41, hS.put_at (by kernel_rfl) _, o41⟩) facts_nil)))
      case hfin =>
        intro a w8 hw hS hk
        have s22 := (hk 0 (by decide)).at (d := 22) rfl rfl rfl
        have s23 := (hk 1 (by decide)).at (d := 23) rfl rfl rfl
        have s24 := (hk 2 (by decide)).at (d := 24) rfl rfl rfl
        have s25 := (hk 3 (by decide)).at (d := 25) rfl rfl rfl
        have s26 := (hk 4 (by decide)).at (d := 26) rfl rfl rfl
        have s27 := (hk 5 (by decide)).at (d := 27) rfl rfl rfl
        have s28 := (hk 6 (by decide)).at (d := 28) rfl rfl rfl
        have s29 := (hk 7 (by decide)).at (d := 29) rfl rfl rfl
        have s30 := (hk 8 (by decide)).at (d := 30) rfl rfl rfl
        have s31 := (hk 9 (by decide)).at (d := 31) rfl rfl rfl
        have s32 := (hk 10 (by decide)).at (d := 32) rfl rfl rfl
        have s33 := (hk 11 (by decide)).at (d := 33) rfl rfl rfl
        have s34 := (hk 12 (by decide)).at (d := 34) rfl rfl rfl
        have s35 := (hk 13 (by decide)).at (d := 35) rfl rfl rfl
        have s36 := (hk 14 (by decide)).at (d := 36) rfl rfl rfl
        have s37 := (hk 15 (by decide)).at (d := 37) rfl rfl rfl
        have s38 := (hk 16 (by decide)).at (d := 38) rfl rfl rfl
        have s39 := (hk 17 (by decide)).at (d := 39) rfl rfl rfl
        obtain ⟨v40, s40, t40, l40⟩ := (hk 18 (by decide)).2 _ (List.mem_cons_self ..) rfl
        obtain ⟨v41, s41, o41⟩ := (hk 19 (by decide)).2 _ (List.mem_cons_of_mem _ (List.mem_cons_self ..)) rfl
        obtain ⟨v3, s41', s3, o3⟩ := (hk 20 (by decide)).2 _ (List.mem_cons_of_mem _ (List.mem_cons_of_mem _ (List.mem_cons_self ..))) rfl
        have hlit := hS.lit _ (by kernel_rfl) (lits_cons s22 (lits_cons s23 (lits_cons s24 (lits_cons s25 (lits_cons s26 (lits_cons s27 (lits_cons s28 (lits_cons s29 (lits_cons s30 (lits_cons s31 (lits_cons s32 (lits_cons s33 (lits_cons s34 (lits_cons s35 (lits_cons s36 (lits_cons s37 (lits_cons s38 (lits_cons s39 (lits_cons s40 (lits_cons s41 (lits_cons s3 lits_nil)))))))))))))))))))))
        rw [hlit]
        clear hlit hk hS t40 l40 o41 s41'
        have HB8 := hide hw
        have HO8 : Hid (OwnT w8 w1.heap.size v3 (chkUp p (k + 1))) := by
          rw [HCS.out]
          have := o3
          rw [← hL5, List.append_assoc, List.singleton_append] at this
          exact this
        clear o3 hw
        simp only [litT, List.setIfInBounds_toArray, List.set_cons_succ, List.set_cons_zero]
        go_wp2_with fail
        refine ⟨⟨k + 1, by go_num, by omega, HO8.out, HB8.out⟩, ?_⟩
        simp [intOf]; omega
    · obtain rfl : k = p.items.length := by omega
      have e1 : decide ((p.items.length : Int) < (p.items.length : Int)) = false := by simp
      go_wp2_with fail
      go_ret
      exact ⟨_, rfl, own_less HO.out HB.out.size, below_to HB.out (Nat.le_refl _) HBr.out⟩
end Go.Proofs.YtfhanbiifjiklaaGreatDoor

/- The reference of layer 2: the path of an element. -/
set_option linter.unusedVariables false
set_option linter.unusedSimpArgs false
namespace Go.Proofs.YtfhanbiifjiklaaGreatDoor
open Go.RowKit

def RPathOk (f : Nat) : Prop := ∀ (ls : List (List UInt8)) (i : Nat) (v : Value) (w : World), TextsAt w v ls → ls.length ≤ f → i < ls.length → ls.length ≤ 100000 → (∀ x ∈ ls, x.length ≤ 1000000) → Calls Tryz.prog 90 #[v, .int .i64 (i : Int)] w (LvR (pathF f ls i).reverse w)
set_option maxRecDepth 100000 in
set_option maxHeartbeats 2000000 in
theorem rpath_step (f : Nat) (hf0 : f ≤ 100000) (ih : RPathOk f) : RPathOk (f + 1) := by
  intro ls i v w hv hf hil hn hx
  obtain ⟨A, c, rfl, hc⟩ := hv.slice
  by_cases hl1 : ls.length ≤ 1
  · have HV := hide (pathF_one (f := f + 1) (i := i) hl1)
    have e0 : ((ls.length : Int) == 1) = true := by rw [beq_iff_eq]; omega
    clear hv hx ih
    go_enter Tryz.func90, Tryz.ntmps90
    go_wp2_with fail
    go_ret
    refine ⟨_, rfl, ?_, Below.refl _ _⟩
    rw [HV.out]
    exact World.ownsRow_nil _ _ _ _
  have hh := half_lt (n := ls.length) (by omega)
  have CH := fun w => rHalf_any ls.length (by omega) w
  obtain ⟨x0, hx0⟩ : ∃ x, ls[0]? = some x := ⟨_, List.getElem?_eq_getElem (by omega)⟩
  obtain ⟨a, rfl, ha, _⟩ := hv.at_ hx0
  clear hx0
  have e1 : ((ls.length : Int) == 1) = false := by rw [beq_eq_false_iff_ne]; omega
  generalize hk : halfN ls.length = k at *
  have HS := hide hv
  have HX := hide hx
  have k1 : (k : Int) ≤ (c : Int) := by omega
  have k0 : (0 : Int) ≤ (k : Int) := by omega
  have k2 : (k : Int) ≤ (ls.length : Int) := by omega
  have k3 : ((k : Int) == (c : Int)) = false := by rw [beq_eq_false_iff_ne]; omega
  have k4 : k ≠ c := by omega
  have k5 : ¬ c = k := by omega
  by_cases hi : i < k
  · have HP := pathF_lt (f := f) (l := ls) (i := i) (by omega) (by rw [hk]; exact hi)
    rw [hk] at HP
    have HPL := pathF_len f (ls.take k) i
    obtain ⟨LP, hLP⟩ : ∃ LP, (pathF f (ls.take k) i).reverse = LP := ⟨_, rfl⟩
    have HLP := hide hLP
    obtain ⟨R, hR⟩ : ∃ R, totalT (ls.drop k) = R := ⟨_, rfl⟩
    have HV : Hid ((pathF (f + 1) ls i).reverse = LP ++ [R]) := by show _ = _; rw [HP, List.reverse_cons, hLP, hR]
    have hll : LP.length ≤ 100000 := by rw [← hLP, List.length_reverse]; omega
    have HR : Hid (∀ (w : World) (v : Value), TextsAt w v (ls.drop k) → Calls Tryz.prog 89 #[v] w fun e w' => e = .returned (.string (bs R)) ∧ Below w.heap.size w w') := fun w v hv => by
      have := rroot_at (ls.drop k) v w hv (by simp; omega) (fun x h => Nat.le_trans (hx x (List.mem_of_mem_drop h)) (by decide))
      rwa [hR] at this
    have e2 : decide ((i : Int) < (k : Int)) = true := decide_eq_true (by omega)
    have e2' : decide (i < k) = true := decide_eq_true (by omega)
    clear HP HPL hLP hv hx
    go_enter Tryz.func90, Tryz.ntmps90
    go_wp2_with ((with_reducible refine (CH _).mono ?_); rintro e w' ⟨rfl, rfl⟩)
    rename World => w2
    apply wp_region_lo3 (C := fun W => Below w2.heap.size w2 W) (V := [some _, some _, some _, some _, none, some _, some _, some _, some _, none, none, none]) (Fs := [(4, fun a W => ∃ v, a.tmps[20]? = some v ∧ (a.tmps[26]? = some undef → OwnT W w2.heap.size v LP)), (9, fun a W => ∃ b, a.tmps[25]? = some (.slice (some ⟨b, 0, none⟩) 1 1) ∧ (a.tmps[26]? = some undef → Blk W b 9 #[.string (bs R)])), (10, fun a W => ∃ v, a.tmps[26]? = some v ∧ OwnT W w2.heap.size v (LP ++ [R])), (11, fun a W => ∃ v, a.tmps[26]? = some v ∧ a.tmps[4]? = some v ∧ OwnT W w2.heap.size v (LP ++ [R]))]) (Ns := [(10, fun a (_ : World) => a.tmps[26]? = some undef)]) (Rel := fun i b b' x x' => if i = 10 then (fun b b' x x' => ¬ b'.tmps[26]? = some undef ∧ ∃ r, World.grownBy x x' r ∧ ∀ g, r = some g → w2.heap.size ≤ g) b b' x x' else Below x.heap.size x x')
    case hm => kernel_rfl
    case hB => kernel_rfl
    case hCw => exact (Below.refl _ w2).drew
    case hC =>
      intro i a a' w_ w' hw hr
      by_cases e10 : i = 10
      · subst e10
        have hr' : (fun b b' x x' => ¬ b'.tmps[26]? = some undef ∧ ∃ r, World.grownBy x x' r ∧ ∀ g, r = some g → w2.heap.size ≤ g) a a' w_ w' := hr
        obtain ⟨_, r, hg, hv⟩ := hr'
        exact hw.trans (below_grown hg hw.size hv)
      have hr' : Below w_.heap.size w_ w' := by simpa [e10] using hr
      exact below_to hw (Nat.le_refl _) hr'
    case hst =>
      refine keeps3_cons (fun i a a' w_ w' hne hwt hs hput hr h => by
        by_cases e10 : i = 10
        · subst e10
          have hr' : (fun b b' x x' => ¬ b'.tmps[26]? = some undef ∧ ∃ r, World.grownBy x x' r ∧ ∀ g, r = some g → w2.heap.size ≤ g) a a' w_ w' := hr
          obtain ⟨v, h1, _⟩ := h
          exact ⟨v, (hs 20 (by kernel_rfl)).trans h1, fun e => absurd e hr'.1⟩
        have hr' : Below w_.heap.size w_ w' := by simpa [e10] using hr
        obtain ⟨v, h1, h2⟩ := h
        exact ⟨v, (hs 20 (by kernel_rfl)).trans h1, fun e => own_to4 (h2 ((other_slot (d := 26) (k := 10) (by kernel_rfl) hput e10).symm.trans e)) hr'⟩) ?_
      refine keeps3_cons (fun i a a' w_ w' hne hwt hs hput hr h => by
        by_cases e10 : i = 10
        · subst e10
          have hr' : (fun b b' x x' => ¬ b'.tmps[26]? = some undef ∧ ∃ r, World.grownBy x x' r ∧ ∀ g, r = some g → w2.heap.size ≤ g) a a' w_ w' := hr
          obtain ⟨v, h1, _⟩ := h
          exact ⟨v, (hs 25 (by kernel_rfl)).trans h1, fun e => absurd e hr'.1⟩
        have hr' : Below w_.heap.size w_ w' := by simpa [e10] using hr
        obtain ⟨v, h1, h2⟩ := h
        exact ⟨v, (hs 25 (by kernel_rfl)).trans h1, fun e => (h2 ((other_slot (d := 26) (k := 10) (by kernel_rfl) hput e10).symm.trans e)).to hr'⟩) ?_
      refine keeps3_cons (fun i a a' w_ w' hne hwt hs hput hr h => by
        by_cases e10 : i = 10
        · exact absurd e10 hne
        have hr' : Below w_.heap.size w_ w' := by simpa [e10] using hr
        obtain ⟨v, h1, h2⟩ := h
        exact ⟨v, (hs 26 (by kernel_rfl)).trans h1, own_to4 h2 hr'⟩) ?_
      refine keeps3_cons (fun i a a' w_ w' hne hwt hs hput hr h => by
        by_cases e10 : i = 10
        · subst e10
          exact absurd (hwt.symm.trans (show Region.waitsFor .any _ 11 10 = true by kernel_rfl)) (by decide)
        have hr' : Below w_.heap.size w_ w' := by simpa [e10] using hr
        obtain ⟨v, h1, h3, h2⟩ := h
        exact ⟨v, (hs 26 (by kernel_rfl)).trans h1, (hs 4 (by kernel_rfl)).trans h3, own_to4 h2 hr'⟩) ?_
      exact keeps3_nil
    case hN0 => exact pre0_cons (rfl) (pre0_nil)
    case hNst =>
      refine prek_cons3 (fun i a a' w_ w' hne hwt hr h hput => by
        by_cases e10 : i = 10
        · exact absurd e10 hne
        have hr' : Below w_.heap.size w_ w' := by simpa [e10] using hr
        exact (other_slot (d := 26) (k := 10) (by kernel_rfl) hput e10).trans h) ?_
      exact prek_nil3
    case hop =>
      refine ⟨?_, ?_, ?_, ?_, ?_, ?_, ?_, ?_, ?_, ?_, ?_, ?_, trivial⟩
      · intro a w_ K hw hS hd hN hK
        have s0 := hS.at 0 (by kernel_rfl) rfl
        rw [if_pos (want_free rfl)]
        go_simp
        exact hK _ _ (Below.refl _ _) (vok rfl) (facts_cons (fun h => absurd h (by decide)) (facts_cons (fun h => absurd h (by decide)) (facts_cons (fun h => absurd h (by decide)) (facts_cons (fun h => absurd h (by decide)) facts_nil))))
      · intro a w_ K hw hS hd hN hK
        have s6 := hS.at 6 (by kernel_rfl) rfl
        rw [if_pos (want_free rfl)]
        go_simp
        exact hK _ _ (Below.refl _ _) (vok rfl) (facts_cons (fun h => absurd h (by decide)) (facts_cons (fun h => absurd h (by decide)) (facts_cons (fun h => absurd h (by decide)) (facts_cons (fun h => absurd h (by decide)) facts_nil))))
      · intro a w_ K hw hS hd hN hK
        have s16 := (waits_on hd 0 (by kernel_rfl)).at (d := 16) rfl rfl rfl
        have s17 := (waits_on hd 1 (by kernel_rfl)).at (d := 17) rfl rfl rfl
        rw [if_pos (want_free rfl)]
        go_simp
        exact hK _ _ (Below.refl _ _) (vok rfl) (facts_cons (fun h => absurd h (by decide)) (facts_cons (fun h => absurd h (by decide)) (facts_cons (fun h => absurd h (by decide)) (facts_cons (fun h => absurd h (by decide)) facts_nil))))
      · intro a w_ K hw hS hd hN hK
        have s1 := hS.at 1 (by kernel_rfl) rfl
        rw [if_pos (want_free rfl)]
        go_simp
        exact hK _ _ (Below.refl _ _) (vok rfl) (facts_cons (fun h => absurd h (by decide)) (facts_cons (fun h => absurd h (by decide)) (facts_cons (fun h => absurd h (by decide)) (facts_cons (fun h => absurd h (by decide)) facts_nil))))
      · intro a w_ K hw hS hd hN hK
        have s18 := (waits_on hd 2 (by kernel_rfl)).at (d := 18) rfl rfl rfl
        have s19 := (waits_on hd 3 (by kernel_rfl)).at (d := 19) rfl rfl rfl
        rw [if_pos (want_free rfl)]
        go_simp
        refine (ih (ls.take k) i _ w_ ((HS.out.take (k := k) (by omega) c (by omega)).to hw) (by simp; omega) (by simp; omega) (by simp; omega) (fun x h => HX.out x (List.mem_of_mem_take h))).mono ?_
        rintro e w' ⟨v7, rfl, ho7, hb7⟩
        exact hK _ _ hb7 (vfree rfl) (facts_cons (fun _ => ⟨v7, hS.put_at (by kernel_rfl) _, fun _ => by rw [HLP.out] at ho7; exact own_less ho7 hw.size⟩) (facts_cons (fun h => absurd h (by decide)) (facts_cons (fun h => absurd h (by decide)) (facts_cons (fun h => absurd h (by decide)) facts_nil))))
      · intro a w_ K hw hS hd hN hK
        have s0 := hS.at 0 (by kernel_rfl) rfl
        rw [if_pos (want_free rfl)]
        go_simp
        exact hK _ _ (Below.refl _ _) (vok rfl) (facts_cons (fun h => absurd h (by decide)) (facts_cons (fun h => absurd h (by decide)) (facts_cons (fun h => absurd h (by decide)) (facts_cons (fun h => absurd h (by decide)) facts_nil))))
      · intro a w_ K hw hS hd hN hK
        have s6 := hS.at 6 (by kernel_rfl) rfl
        rw [if_pos (want_free rfl)]
        go_simp
        exact hK _ _ (Below.refl _ _) (vok rfl) (facts_cons (fun h => absurd h (by decide)) (facts_cons (fun h => absurd h (by decide)) (facts_cons (fun h => absurd h (by decide)) (facts_cons (fun h => absurd h (by decide)) facts_nil))))
      · intro a w_ K hw hS hd hN hK
        have s21 := (waits_on hd 5 (by kernel_rfl)).at (d := 21) rfl rfl rfl
        have s22 := (waits_on hd 6 (by kernel_rfl)).at (d := 22) rfl rfl rfl
        rw [if_pos (want_free rfl)]
        go_simp
        exact hK _ _ (Below.refl _ _) (vok rfl) (facts_cons (fun h => absurd h (by decide)) (facts_cons (fun h => absurd h (by decide)) (facts_cons (fun h => absurd h (by decide)) (facts_cons (fun h => absurd h (by decide)) facts_nil))))
      · intro a w_ K hw hS hd hN hK
        have s23 := (waits_on hd 7 (by kernel_rfl)).at (d := 23) rfl rfl rfl
        rw [if_pos (want_free rfl)]
        go_simp
        with_reducible refine (HR.out w_ _ ((HS.out.drop (k := k) (by omega) (c - k) (by omega)).to hw)).mono ?_
        rintro e w' ⟨rfl, hb⟩
        exact hK _ _ hb (vok rfl) (facts_cons (fun h => absurd h (by decide)) (facts_cons (fun h => absurd h (by decide)) (facts_cons (fun h => absurd h (by decide)) (facts_cons (fun h => absurd h (by decide)) facts_nil))))
      · intro a w_ K hw hS hd hN hK
        have s24 := (waits_on hd 8 (by kernel_rfl)).at (d := 24) rfl rfl rfl
        rw [if_pos (want_free rfl)]
        go_simp
        exact hK _ _ (below_one _ _) (vfree rfl) (facts_cons (fun h => absurd h (by decide)) (facts_cons (fun _ => ⟨w_.heap.size, hS.put_at (by kernel_rfl) _, fun _ => Blk.new _ _ _⟩) (facts_cons (fun h => absurd h (by decide)) (facts_cons (fun h => absurd h (by decide)) facts_nil))))
      · intro a w_ K hw hS hd hN hK
        obtain ⟨v20, s20, f20⟩ := (waits_on hd 4 (by kernel_rfl)).2 _ (List.mem_cons_self ..) rfl
        obtain ⟨b25, s25, f25⟩ := (waits_on hd 9 (by kernel_rfl)).2 _ (List.mem_cons_of_mem _ (List.mem_cons_self ..)) rfl
        have hu := hN _ (List.mem_cons_self ..) rfl
        rw [if_pos (want_free rfl)]
        refine wp_append_texts (.tmp 20) (.tmp 25) rfl w2.heap.size v20 LP (eval_at s20) (f20 hu) (.slice (some ⟨b25, 0, none⟩) 1 1) [R] (eval_at s25) (TextsAt.of_blk (ls := [R]) (f25 hu) rfl) (by rw [List.length_singleton]; omega) hw.size ?_
        intro v8 w' ho hg hne
        have hp := hS.put_at (s := 26) (by kernel_rfl) v8
        exact hK v8 w' ⟨fun e => hne (Option.some.inj (hp.symm.trans e)), _, hg, fun g e => (own_blk_lt (f20 hu) g e).1⟩ (vfree rfl) (facts_cons (fun h => absurd h (by decide)) (facts_cons (fun h => absurd h (by decide)) (facts_cons (fun _ => ⟨v8, hp, ho⟩) (facts_cons (fun h => absurd h (by decide)) facts_nil))))
      · intro a w_ K hw hS hd hN hK
        obtain ⟨v26, s26, t26⟩ := (waits_on hd 10 (by kernel_rfl)).2 _ (List.mem_cons_of_mem _ (List.mem_cons_of_mem _ (List.mem_cons_self ..))) rfl
        rw [if_pos (want_free rfl)]
        go_simp
        exact hK _ _ (Below.refl _ _) (vfree rfl) (facts_cons (fun h => absurd h (by decide)) (facts_cons (fun h => absurd h (by decide)) (facts_cons (fun h => absurd h (by decide)) (facts_cons (fun _ => ⟨v26, (put_far (by decide)).trans s26, hS.put_at (by kernel_rfl) _, t26⟩) facts_nil))))
    case hfin =>
      intro a w9 hw hS hk
      have s16 := (hk 0 (by decide)).at (d := 16) rfl rfl rfl
      have s17 := (hk 1 (by decide)).at (d := 17) rfl rfl rfl
      have s18 := (hk 2 (by decide)).at (d := 18) rfl rfl rfl
      have s19 := (hk 3 (by decide)).at (d := 19) rfl rfl rfl
      obtain ⟨v20, s20, f20⟩ := (hk 4 (by decide)).2 _ (List.mem_cons_self ..) rfl
      have s21 := (hk 5 (by decide)).at (d := 21) rfl rfl rfl
      have s22 := (hk 6 (by decide)).at (d := 22) rfl rfl rfl
      have s23 := (hk 7 (by decide)).at (d := 23) rfl rfl rfl
      have s24 := (hk 8 (by decide)).at (d := 24) rfl rfl rfl
      obtain ⟨b25, s25, f25⟩ := (hk 9 (by decide)).2 _ (List.mem_cons_of_mem _ (List.mem_cons_self ..)) rfl
      obtain ⟨v26, s26, t26⟩ := (hk 10 (by decide)).2 _ (List.mem_cons_of_mem _ (List.mem_cons_of_mem _ (List.mem_cons_self ..))) rfl
      obtain ⟨v4, s4a, s4, t4⟩ := (hk 11 (by decide)).2 _ (List.mem_cons_of_mem _ (List.mem_cons_of_mem _ (List.mem_cons_of_mem _ (List.mem_cons_self ..)))) rfl
      have hlit := hS.lit _ (by kernel_rfl) (lits_cons s16 (lits_cons s17 (lits_cons s18 (lits_cons s19 (lits_cons s20 (lits_cons s21 (lits_cons s22 (lits_cons s23 (lits_cons s24 (lits_cons s25 (lits_cons s26 (lits_cons s4 lits_nil))))))))))))
      rw [hlit]
      have HB5 := hide hw
      have ht := hide t4
      clear hlit hk hS hw t4
      simp only [litT, List.setIfInBounds_toArray, List.set_cons_succ, List.set_cons_zero]
      go_wp2_with fail
      go_ret
      exact ⟨v4, rfl, by rw [HV.out]; exact ht.out, HB5.out⟩
  · have HP := pathF_ge (f := f) (l := ls) (i := i) (by omega) (by rw [hk]; exact hi)
    rw [hk] at HP
    have HPL := pathF_len f (ls.drop k) (i - k)
    obtain ⟨LP, hLP⟩ : ∃ LP, (pathF f (ls.drop k) (i - k)).reverse = LP := ⟨_, rfl⟩
    have HLP := hide hLP
    obtain ⟨R, hR⟩ : ∃ R, totalT (ls.take k) = R := ⟨_, rfl⟩
    have HV : Hid ((pathF (f + 1) ls i).reverse = LP ++ [R]) := by show _ = _; rw [HP, List.reverse_cons, hLP, hR]
    have hll : LP.length ≤ 100000 := by rw [← hLP, List.length_reverse]; omega
    have HR : Hid (∀ (w : World) (v : Value), TextsAt w v (ls.take k) → Calls Tryz.prog 89 #[v] w fun e w' => e = .returned (.string (bs R)) ∧ Below w.heap.size w w') := fun w v hv => by
      have := rroot_at (ls.take k) v w hv (by simp; omega) (fun x h => Nat.le_trans (hx x (List.mem_of_mem_take h)) (by decide))
      rwa [hR] at this
    have e2 : decide ((i : Int) < (k : Int)) = false := decide_eq_false (by omega)
    have e2' : decide (i < k) = false := decide_eq_false (by omega)
    have hsub : IntKind.i64.wrap ((i : Int) - (k : Int)) = ((i - k : Nat) : Int) := by rw [w64 (by omega) (by omega)]; omega
    clear HP HPL hLP hv hx
    go_enter Tryz.func90, Tryz.ntmps90
    go_wp2_with ((with_reducible refine (CH _).mono ?_); rintro e w' ⟨rfl, rfl⟩)
    rename World => w2
    apply wp_region_lo3 (C := fun W => Below w2.heap.size w2 W) (V := [some _, some _, some _, some _, some _, some _, none, some _, some _, some _, some _, none, none, none]) (Fs := [(6, fun a W => ∃ v, a.tmps[33]? = some v ∧ (a.tmps[39]? = some undef → OwnT W w2.heap.size v LP)), (11, fun a W => ∃ b, a.tmps[38]? = some (.slice (some ⟨b, 0, none⟩) 1 1) ∧ (a.tmps[39]? = some undef → Blk W b 9 #[.string (bs R)])), (12, fun a W => ∃ v, a.tmps[39]? = some v ∧ OwnT W w2.heap.size v (LP ++ [R])), (13, fun a W => ∃ v, a.tmps[39]? = some v ∧ a.tmps[4]? = some v ∧ OwnT W w2.heap.size v (LP ++ [R]))]) (Ns := [(12, fun a (_ : World) => a.tmps[39]? = some undef)]) (Rel := fun i b b' x x' => if i = 12 then (fun b b' x x' => ¬ b'.tmps[39]? = some undef ∧ ∃ r, World.grownBy x x' r ∧ ∀ g, r = some g → w2.heap.size ≤ g) b b' x x' else Below x.heap.size x x')
    case hm => kernel_rfl
    case hB => kernel_rfl
    case hCw => exact (Below.refl _ w2).drew
    case hC =>
      intro i a a' w_ w' hw hr
      by_cases e12 : i = 12
      · subst e12
        have hr' : (fun b b' x x' => ¬ b'.tmps[39]? = some undef ∧ ∃ r, World.grownBy x x' r ∧ ∀ g, r = some g → w2.heap.size ≤ g) a a' w_ w' := hr
        obtain ⟨_, r, hg, hv⟩ := hr'
        exact hw.trans (below_grown hg hw.size hv)
      have hr' : Below w_.heap.size w_ w' := by simpa [e12] using hr
      exact below_to hw (Nat.le_refl _) hr'
    case hst =>
      refine keeps3_cons (fun i a a' w_ w' hne hwt hs hput hr h => by
        by_cases e12 : i = 12
        · subst e12
          have hr' : (fun b b' x x' => ¬ b'.tmps[39]? = some undef ∧ ∃ r, World.grownBy x x' r ∧ ∀ g, r = some g → w2.heap.size ≤ g) a a' w_ w' := hr
          obtain ⟨v, h1, _⟩ := h
          exact ⟨v, (hs 33 (by kernel_rfl)).trans h1, fun e => absurd e hr'.1⟩
        have hr' : Below w_.heap.size w_ w' := by simpa [e12] using hr
        obtain ⟨v, h1, h2⟩ := h
        exact ⟨v, (hs 33 (by kernel_rfl)).trans h1, fun e => own_to4 (h2 ((other_slot (d := 39) (k := 12) (by kernel_rfl) hput e12).symm.trans e)) hr'⟩) ?_
      refine keeps3_cons (fun i a a' w_ w' hne hwt hs hput hr h => by
        by_cases e12 : i = 12
        · subst e12
          have hr' : (fun b b' x x' => ¬ b'.tmps[39]? = some undef ∧ ∃ r, World.grownBy x x' r ∧ ∀ g, r = some g → w2.heap.size ≤ g) a a' w_ w' := hr
          obtain ⟨v, h1, _⟩ := h
          exact ⟨v, (hs 38 (by kernel_rfl)).trans h1, fun e => absurd e hr'.1⟩
        have hr' : Below w_.heap.size w_ w' := by simpa [e12] using hr
        obtain ⟨v, h1, h2⟩ := h
        exact ⟨v, (hs 38 (by kernel_rfl)).trans h1, fun e => (h2 ((other_slot (d := 39) (k := 12) (by kernel_rfl) hput e12).symm.trans e)).to hr'⟩) ?_
      refine keeps3_cons (fun i a a' w_ w' hne hwt hs hput hr h => by
        by_cases e12 : i = 12
        · exact absurd e12 hne
        have hr' : Below w_.heap.size w_ w' := by simpa [e12] using hr
        obtain ⟨v, h1, h2⟩ := h
        exact ⟨v, (hs 39 (by kernel_rfl)).trans h1, own_to4 h2 hr'⟩) ?_
      refine keeps3_cons (fun i a a' w_ w' hne hwt hs hput hr h => by
        by_cases e12 : i = 12
        · subst e12
          exact absurd (hwt.symm.trans (show Region.waitsFor .any _ 13 12 = true by kernel_rfl)) (by decide)
        have hr' : Below w_.heap.size w_ w' := by simpa [e12] using hr
        obtain ⟨v, h1, h3, h2⟩ := h
        exact ⟨v, (hs 39 (by kernel_rfl)).trans h1, (hs 4 (by kernel_rfl)).trans h3, own_to4 h2 hr'⟩) ?_
      exact keeps3_nil
    case hN0 => exact pre0_cons (rfl) (pre0_nil)
    case hNst =>
      refine prek_cons3 (fun i a a' w_ w' hne hwt hr h hput => by
        by_cases e12 : i = 12
        · exact absurd e12 hne
        have hr' : Below w_.heap.size w_ w' := by simpa [e12] using hr
        exact (other_slot (d := 39) (k := 12) (by kernel_rfl) hput e12).trans h) ?_
      exact prek_nil3
    case hop =>
      refine ⟨?_, ?_, ?_, ?_, ?_, ?_, ?_, ?_, ?_, ?_, ?_, ?_, ?_, ?_, trivial⟩
      · intro a w_ K hw hS hd hN hK
        have s0 := hS.at 0 (by kernel_rfl) rfl
        rw [if_pos (want_free rfl)]
        go_simp
        exact hK _ _ (Below.refl _ _) (vok rfl) (facts_cons (fun h => absurd h (by decide)) (facts_cons (fun h => absurd h (by decide)) (facts_cons (fun h => absurd h (by decide)) (facts_cons (fun h => absurd h (by decide)) facts_nil))))
      · intro a w_ K hw hS hd hN hK
        have s6 := hS.at 6 (by kernel_rfl) rfl
        rw [if_pos (want_free rfl)]
        go_simp
        exact hK _ _ (Below.refl _ _) (vok rfl) (facts_cons (fun h => absurd h (by decide)) (facts_cons (fun h => absurd h (by decide)) (facts_cons (fun h => absurd h (by decide)) (facts_cons (fun h => absurd h (by decide)) facts_nil))))
      · intro a w_ K hw hS hd hN hK
        have s27 := (waits_on hd 0 (by kernel_rfl)).at (d := 27) rfl rfl rfl
        have s28 := (waits_on hd 1 (by kernel_rfl)).at (d := 28) rfl rfl rfl
        rw [if_pos (want_free rfl)]
        go_simp
        exact hK _ _ (Below.refl _ _) (vok rfl) (facts_cons (fun h => absurd h (by decide)) (facts_cons (fun h => absurd h (by decide)) (facts_cons (fun h => absurd h (by decide)) (facts_cons (fun h => absurd h (by decide)) facts_nil))))
      · intro a w_ K hw hS hd hN hK
        have s1 := hS.at 1 (by kernel_rfl) rfl
        rw [if_pos (want_free rfl)]
        go_simp
        exact hK _ _ (Below.refl _ _) (vok rfl) (facts_cons (fun h => absurd h (by decide)) (facts_cons (fun h => absurd h (by decide)) (facts_cons (fun h => absurd h (by decide)) (facts_cons (fun h => absurd h (by decide)) facts_nil))))
      · intro a w_ K hw hS hd hN hK
        have s6 := hS.at 6 (by kernel_rfl) rfl
        rw [if_pos (want_free rfl)]
        go_simp
        exact hK _ _ (Below.refl _ _) (vok rfl) (facts_cons (fun h => absurd h (by decide)) (facts_cons (fun h => absurd h (by decide)) (facts_cons (fun h => absurd h (by decide)) (facts_cons (fun h => absurd h (by decide)) facts_nil))))
      · intro a w_ K hw hS hd hN hK
        have s30 := (waits_on hd 3 (by kernel_rfl)).at (d := 30) rfl rfl rfl
        have s31 := (waits_on hd 4 (by kernel_rfl)).at (d := 31) rfl rfl rfl
        rw [if_pos (want_free rfl)]
        go_simp
        exact hK _ _ (Below.refl _ _) (vok rfl) (facts_cons (fun h => absurd h (by decide)) (facts_cons (fun h => absurd h (by decide)) (facts_cons (fun h => absurd h (by decide)) (facts_cons (fun h => absurd h (by decide)) facts_nil))))
      · intro a w_ K hw hS hd hN hK
        have s29 := (waits_on hd 2 (by kernel_rfl)).at (d := 29) rfl rfl rfl
        have s32 := (waits_on hd 5 (by kernel_rfl)).at (d := 32) rfl rfl rfl
        rw [if_pos (want_free rfl)]
        go_simp
        refine (ih (ls.drop k) (i - k) _ w_ ((HS.out.drop (k := k) (by omega) (c - k) (by omega)).to hw) (by simp; omega) (by simp; omega) (by simp; omega) (fun x h => HX.out x (List.mem_of_mem_drop h))).mono ?_
        rintro e w' ⟨v7, rfl, ho7, hb7⟩
        exact hK _ _ hb7 (vfree rfl) (facts_cons (fun _ => ⟨v7, hS.put_at (by kernel_rfl) _, fun _ => by rw [HLP.out] at ho7; exact own_less ho7 hw.size⟩) (facts_cons (fun h => absurd h (by decide)) (facts_cons (fun h => absurd h (by decide)) (facts_cons (fun h => absurd h (by decide)) facts_nil))))
      · intro a w_ K hw hS hd hN hK
        have s0 := hS.at 0 (by kernel_rfl) rfl
        rw [if_pos (want_free rfl)]
        go_simp
        exact hK _ _ (Below.refl _ _) (vok rfl) (facts_cons (fun h => absurd h (by decide)) (facts_cons (fun h => absurd h (by decide)) (facts_cons (fun h => absurd h (by decide)) (facts_cons (fun h => absurd h (by decide)) facts_nil))))
      · intro a w_ K hw hS hd hN hK
        have s6 := hS.at 6 (by kernel_rfl) rfl
        rw [if_pos (want_free rfl)]
        go_simp
        exact hK _ _ (Below.refl _ _) (vok rfl) (facts_cons (fun h => absurd h (by decide)) (facts_cons (fun h => absurd h (by decide)) (facts_cons (fun h => absurd h (by decide)) (facts_cons (fun h => absurd h (by decide)) facts_nil))))
      · intro a w_ K hw hS hd hN hK
        have s34 := (waits_on hd 7 (by kernel_rfl)).at (d := 34) rfl rfl rfl
        have s35 := (waits_on hd 8 (by kernel_rfl)).at (d := 35) rfl rfl rfl
        rw [if_pos (want_free rfl)]
        go_simp
        exact hK _ _ (Below.refl _ _) (vok rfl) (facts_cons (fun h => absurd h (by decide)) (facts_cons (fun h => absurd h (by decide)) (facts_cons (fun h => absurd h (by decide)) (facts_cons (fun h => absurd h (by decide)) facts_nil))))
      · intro a w_ K hw hS hd hN hK
        have s36 := (waits_on hd 9 (by kernel_rfl)).at (d := 36) rfl rfl rfl
        rw [if_pos (want_free rfl)]
        go_simp
        with_reducible refine (HR.out w_ _ ((HS.out.take (k := k) (by omega) c (by omega)).to hw)).mono ?_
        rintro e w' ⟨rfl, hb⟩
        exact hK _ _ hb (vok rfl) (facts_cons (fun h => absurd h (by decide)) (facts_cons (fun h => absurd h (by decide)) (facts_cons (fun h => absurd h (by decide)) (facts_cons (fun h => absurd h (by decide)) facts_nil))))
      · intro a w_ K hw hS hd hN hK
        have s37 := (waits_on hd 10 (by kernel_rfl)).at (d := 37) rfl rfl rfl
        rw [if_pos (want_free rfl)]
        go_simp
        exact hK _ _ (below_one _ _) (vfree rfl) (facts_cons (fun h => absurd h (by decide)) (facts_cons (fun _ => ⟨w_.heap.size, hS.put_at (by kernel_rfl) _, fun _ => Blk.new _ _ _⟩) (facts_cons (fun h => absurd h (by decide)) (facts_cons (fun h => absurd h (by decide)) facts_nil))))
      · intro a w_ K hw hS hd hN hK
        obtain ⟨v33, s33, f33⟩ := (waits_on hd 6 (by kernel_rfl)).2 _ (List.mem_cons_self ..) rfl
        obtain ⟨b38, s38, f38⟩ := (waits_on hd 11 (by kernel_rfl)).2 _ (List.mem_cons_of_mem _ (List.mem_cons_self ..)) rfl
        have hu := hN _ (List.mem_cons_self ..) rfl
        rw [if_pos (want_free rfl)]
        refine wp_append_texts (.tmp 33) (.tmp 38) rfl w2.heap.size v33 LP (eval_at s33) (f33 hu) (.slice (some ⟨b38, 0, none⟩) 1 1) [R] (eval_at s38) (TextsAt.of_blk (ls := [R]) (f38 hu) rfl) (by rw [List.length_singleton]; omega) hw.size ?_
        intro v8 w' ho hg hne
        have hp := hS.put_at (s := 39) (by kernel_rfl) v8
        exact hK v8 w' ⟨fun e => hne (Option.some.inj (hp.symm.trans e)), _, hg, fun g e => (own_blk_lt (f33 hu) g e).1⟩ (vfree rfl) (facts_cons (fun h => absurd h (by decide)) (facts_cons (fun h => absurd h (by decide)) (facts_cons (fun _ => ⟨v8, hp, ho⟩) (facts_cons (fun h => absurd h (by decide)) facts_nil))))
      · intro a w_ K hw hS hd hN hK
        obtain ⟨v39, s39, t39⟩ := (waits_on hd 12 (by kernel_rfl)).2 _ (List.mem_cons_of_mem _ (List.mem_cons_of_mem _ (List.mem_cons_self ..))) rfl
        rw [if_pos (want_free rfl)]
        go_simp
        exact hK _ _ (Below.refl _ _) (vfree rfl) (facts_cons (fun h => absurd h (by decide)) (facts_cons (fun h => absurd h (by decide)) (facts_cons (fun h => absurd h (by decide)) (facts_cons (fun _ => ⟨v39, (put_far (by decide)).trans s39, hS.put_at (by kernel_rfl) _, t39⟩) facts_nil))))
    case hfin =>
      intro a w9 hw hS hk
      have s27 := (hk 0 (by decide)).at (d := 27) rfl rfl rfl
      have s28 := (hk 1 (by decide)).at (d := 28) rfl rfl rfl
      have s29 := (hk 2 (by decide)).at (d := 29) rfl rfl rfl
      have s30 := (hk 3 (by decide)).at (d := 30) rfl rfl rfl
      have s31 := (hk 4 (by decide)).at (d := 31) rfl rfl rfl
      have s32 := (hk 5 (by decide)).at (d := 32) rfl rfl rfl
      obtain ⟨v33, s33, f33⟩ := (hk 6 (by decide)).2 _ (List.mem_cons_self ..) rfl
      have s34 := (hk 7 (by decide)).at (d := 34) rfl rfl rfl
      have s35 := (hk 8 (by decide)).at (d := 35) rfl rfl rfl
      have s36 := (hk 9 (by decide)).at (d := 36) rfl rfl rfl
      have s37 := (hk 10 (by decide)).at (d := 37) rfl rfl rfl
      obtain ⟨b38, s38, f38⟩ := (hk 11 (by decide)).2 _ (List.mem_cons_of_mem _ (List.mem_cons_self ..)) rfl
      obtain ⟨v39, s39, t39⟩ := (hk 12 (by decide)).2 _ (List.mem_cons_of_mem _ (List.mem_cons_of_mem _ (List.mem_cons_self ..))) rfl
      obtain ⟨v4, s4a, s4, t4⟩ := (hk 13 (by decide)).2 _ (List.mem_cons_of_mem _ (List.mem_cons_of_mem _ (List.mem_cons_of_mem _ (List.mem_cons_self ..)))) rfl
      have hlit := hS.lit _ (by kernel_rfl) (lits_cons s27 (lits_cons s28 (lits_cons s29 (lits_cons s30 (lits_cons s31 (lits_cons s32 (lits_cons s33 (lits_cons s34 (lits_cons s35 (lits_cons s36 (lits_cons s37 (lits_cons s38 (lits_cons s39 (lits_cons s4 lits_nil))))))))))))))
      rw [hlit]
      have HB5 := hide hw
      have ht := hide t4
      clear hlit hk hS hw t4
      simp only [litT, List.setIfInBounds_toArray, List.set_cons_succ, List.set_cons_zero]
      go_wp2_with fail
      go_ret
      exact ⟨v4, rfl, by rw [HV.out]; exact ht.out, HB5.out⟩
theorem rpath_any : ∀ f, f ≤ 100001 → RPathOk f
  | 0, _ => fun ls i v w hv hf hi hn hx => by omega
  | f + 1, h => rpath_step f (by omega) (rpath_any f (by omega))
set_option maxRecDepth 100000 in
set_option maxHeartbeats 2000000 in
theorem rPath_any (ls : List (List UInt8)) (hn : ls.length ≤ 100000) (hx : ∀ x ∈ ls, x.length ≤ 1000000) (hp : properT ls = true) (i : Nat) (hi : i < ls.length) (v : Value) (w : World) (hv : TextsAt w v ls) :
    Calls Tryz.prog 51 #[v, .int .i64 (i : Int)] w fun e w' => ∃ v', e = .returned (.tuple #[v', .int .i64 0]) ∧ OwnT w' w.heap.size v' (pathV ls i) ∧ Below w.heap.size w w' := by
  have CD := rdigests_any ls (by omega) (fun x h => Nat.le_trans (hx x h) (by decide)) v w hv
  rw [hp] at CD
  have CP := rpath_any ls.length (by omega) ls i v w hv (Nat.le_refl _) hi hn hx
  have HV : Hid (pathV ls i = (pathF ls.length ls i).reverse) := rfl
  rw [← HV.out] at CP
  unfold LvR at CP
  obtain ⟨A, c, rfl, hc⟩ := hv.slice
  have e1 : decide ((i : Int) < 0) = false := decide_eq_false (by omega)
  have e2 : decide ((ls.length : Int) ≤ (i : Int)) = false := decide_eq_false (by omega)
  have e2' : decide (ls.length ≤ i) = false := decide_eq_false (by omega)
  clear hv hx HV
  generalize pathV ls i = L at *
  go_enter Tryz.func51, Tryz.ntmps51
  go_wp2_with (first | ((with_reducible refine CD.mono ?_); rintro e w' ⟨rfl, e9⟩; have e9 := e9.symm; subst e9) | ((with_reducible refine CP.mono ?_); rintro e w2 ⟨v2, rfl, ho2, hb2⟩))
  go_ret2
  exact ⟨v2, rfl, ho2, hb2⟩
end Go.Proofs.YtfhanbiifjiklaaGreatDoor

/- Pages that grow in a box; the reference's Log and Serve. -/
set_option linter.unusedVariables false
set_option linter.unusedSimpArgs false
namespace Go.Proofs.YtfhanbiifjiklaaGreatDoor
open Go.RowKit Go.Shelf
attribute [local go_sem] Oper.semAt_some

def RApt (B n : Nat) (pv vi vp : Value) : Prop := ∀ g, pv.ownBlock = some g → B ≤ g ∧ g < n ∧ vi.ownBlock ≠ some g ∧ vp.ownBlock ≠ some g
/-- a page in a box, its rows of its own -/
structure RPg (bp B : Nat) (f s : Int) (R : List UInt8) (I : List (List UInt8)) (Q : List (List (List UInt8))) (vi vp : Value) (pvs : List Value) (W : World) : Prop where
  p : Blk W bp 25 #[.int .i64 f, .int .i64 s, .string (bs R), vi, vp]
  oi : W.ownsRow B 9 1 vi I.length (flatS I)
  op : W.ownsRow B 22 1 vp Q.length pvs
  at_ : ∀ (j : Nat) (q : List (List UInt8)), Q[j]? = some q → ∃ pv : Value, pvs[j]? = some pv ∧ TextsAt W pv q ∧ RApt B W.heap.size pv vi vp
section
variable {bp B : Nat} {f s : Int} {R : List UInt8} {I : List (List UInt8)} {Q : List (List (List UInt8))} {vi vp v' : Value} {pvs : List Value} {W W' : World}
theorem RPg.to (h : RPg bp B f s R I Q vi vp pvs W) (hb : Below W.heap.size W W') : RPg bp B f s R I Q vi vp pvs W' :=
  ⟨h.p.to hb, ownsRow_to h.oi hb, ownsRow_to h.op hb, fun j q hq => by
    obtain ⟨pv, h1, h2, h3⟩ := h.at_ j q hq
    exact ⟨pv, h1, h2.to hb, fun g e => by obtain ⟨a, b, c⟩ := h3 g e; exact ⟨a, Nat.lt_of_lt_of_le b hb.size, c⟩⟩⟩
theorem RPg.far {p q : Nat} (h : RPg bp B f s R I Q vi vp pvs W) (hT : Two p q W W') (hpB : p < B) (hqB : q < B) (h1 : bp ≠ p) (h2 : bp ≠ q) : RPg bp B f s R I Q vi vp pvs W' := by
  have hne : ∀ v : Value, (∀ g, v.ownBlock = some g → B ≤ g) → v.ownBlock ≠ some p ∧ v.ownBlock ≠ some q := fun v hv => ⟨fun e => by have := hv _ e; omega, fun e => by have := hv _ e; omega⟩
  refine ⟨hT.blk h.p h1 h2, ?_, ?_, fun j q hq => ?_⟩
  · obtain ⟨h1, h2⟩ := hne vi fun g e => (World.ownsRow.lt h.oi g e).1
    exact ownsRow_two h.oi hT h1 h2
  · obtain ⟨h1, h2⟩ := hne vp fun g e => (World.ownsRow.lt h.op g e).1
    exact ownsRow_two h.op hT h1 h2
  · obtain ⟨pv, h1, h2, h3⟩ := h.at_ j q hq
    obtain ⟨h4, h5⟩ := hne pv fun g e => (h3 g e).1
    exact ⟨pv, h1, h2.two hT h4 h5, fun g e => by obtain ⟨a, b, c⟩ := h3 g e; exact ⟨a, Nat.lt_of_lt_of_le b hT.size, c⟩⟩
theorem own_ne_two {pv v : Value} (hp : ∀ g, pv.ownBlock = some g → bp ≠ g ∧ v.ownBlock ≠ some g) : pv.ownBlock ≠ some bp ∧ pv.ownBlock ≠ some (rowOr v bp) := by
  cases e : pv.ownBlock with
  | none => exact ⟨by simp, by simp⟩
  | some g => obtain ⟨h1, h2⟩ := hp g e; exact ⟨fun e => by cases e; exact h1 rfl, rowOr_ne h2 h1⟩
theorem RPg.addI (hbp : bp < B) (h : RPg bp B f s R I Q vi vp pvs W) (hT : Two bp (rowOr vi bp) W W') (hP : Blk W' bp 25 #[.int .i64 f, .int .i64 s, .string (bs R), v', vp]) {x : List UInt8} (hO : W'.ownsRow B 9 1 v' (I.length + 1) (flatS I ++ [.string (bs x)]))
    (hv : v'.ownBlock = vi.ownBlock ∨ ∃ g, v'.ownBlock = some g ∧ W.heap.size ≤ g) : RPg bp B f s R (I ++ [x]) Q v' vp pvs W' := by
  refine ⟨hP, by rw [flatS_snoc, List.length_append]; exact hO, ?_, fun j q hq => ?_⟩
  · obtain ⟨h1, h2⟩ := own_ne_two (bp := bp) (pv := vp) (v := vi) fun g e => ⟨by have := (World.ownsRow.lt h.op g e).1; omega, fun e2 => by
      rcases ownsRow_apart h.oi h.op (by decide) with h1 | h1
      · exact h1 (by rw [e, e2])
      · rw [h1] at e2; cases e2⟩
    exact ownsRow_two h.op hT h1 h2
  · obtain ⟨pv, h1, h2, h3⟩ := h.at_ j q hq
    obtain ⟨h4, h5⟩ := own_ne_two (bp := bp) (pv := pv) (v := vi) fun g e => ⟨by have := (h3 g e).1; omega, (h3 g e).2.2.1⟩
    refine ⟨pv, h1, h2.two hT h4 h5, fun g e => ?_⟩
    obtain ⟨a, b, c, d⟩ := h3 g e
    refine ⟨a, Nat.lt_of_lt_of_le b hT.size, ?_, d⟩
    rcases hv with hv | ⟨k, hv, hk⟩
    · rw [hv]; exact c
    · rw [hv]; intro e; cases e; omega
theorem RPg.addP (hbp : bp < B) (h : RPg bp B f s R I Q vi vp pvs W) (hT : Two bp (rowOr vp bp) W W') {pv : Value} (hP : Blk W' bp 25 #[.int .i64 f, .int .i64 s, .string (bs R), vi, v']) (hO : W'.ownsRow B 22 1 v' (Q.length + 1) (pvs ++ [pv]))
    (hv : v'.ownBlock = vp.ownBlock ∨ ∃ g, v'.ownBlock = some g ∧ W.heap.size ≤ g) {q : List (List UInt8)} (hq : TextsAt W pv q) (hf : RApt B W.heap.size pv vi vp) : RPg bp B f s R I (Q ++ [q]) vi v' (pvs ++ [pv]) W' := by
  have hall : ∀ (pv : Value) (q : List (List UInt8)), TextsAt W pv q → RApt B W.heap.size pv vi vp → TextsAt W' pv q ∧ RApt B W'.heap.size pv vi v' := by
    intro pv q h2 h3
    obtain ⟨h4, h5⟩ := own_ne_two (bp := bp) (pv := pv) (v := vp) fun g e => ⟨by have := (h3 g e).1; omega, (h3 g e).2.2.2⟩
    refine ⟨h2.two hT h4 h5, fun g e => ?_⟩
    obtain ⟨a, b, c, d⟩ := h3 g e
    refine ⟨a, Nat.lt_of_lt_of_le b hT.size, c, ?_⟩
    rcases hv with hv | ⟨k, hv, hk⟩
    · rw [hv]; exact d
    · rw [hv]; intro e; cases e; omega
  have hpl : pvs.length = Q.length := by have := h.op.1; omega
  refine ⟨hP, ?_, by rw [List.length_append]; exact hO, fun j q' hq' => ?_⟩
  · obtain ⟨h1, h2⟩ := own_ne_two (bp := bp) (pv := vi) (v := vp) fun g e => ⟨by have := (World.ownsRow.lt h.oi g e).1; omega, fun e2 => by
      rcases ownsRow_apart h.oi h.op (by decide) with h1 | h1
      · exact h1 (by rw [e, e2])
      · rw [h1] at e; cases e⟩
    exact ownsRow_two h.oi hT h1 h2
  · rcases Nat.lt_or_ge j Q.length with hj | hj
    · rw [List.getElem?_append_left hj] at hq'
      obtain ⟨pv', h1, h2, h3⟩ := h.at_ j q' hq'
      obtain ⟨h4, h5⟩ := hall pv' q' h2 h3
      exact ⟨pv', by rw [List.getElem?_append_left (by omega)]; exact h1, h4, h5⟩
    · rw [List.getElem?_append_right hj] at hq'
      have hj0 : j = Q.length := by
        have := (List.getElem?_eq_some_iff.1 hq').1
        simp at this; omega
      subst hj0
      simp at hq'
      subst hq'
      obtain ⟨h4, h5⟩ := hall pv q hq hf
      exact ⟨pv, by rw [List.getElem?_append_right (by omega), hpl]; simp, h4, h5⟩
theorem RPg.paths (h : RPg bp B f s R I Q vi vp pvs W) : PathsAt W vp Q := by
  obtain ⟨A, c, rfl⟩ := own_sl4 h.op
  rcases h.op.2 with ⟨e, h0⟩ | ⟨g, cap, cur, e, hb, hg, h1, h2, h3, h4⟩
  · have : Q = [] := List.eq_nil_of_length_eq_zero h0
    rw [this]
    exact ⟨A, c, rfl, Nat.zero_le _, fun k p hp => by simp at hp⟩
  · cases e
    refine ⟨_, _, rfl, h1, fun k p hp => ?_⟩
    obtain ⟨pv, q1, q2, _⟩ := h.at_ k p hp
    exact ⟨⟨g, 0, none⟩, pv, rfl, (Array.getElem?_eq_some_iff.1 hg).1, h.op.cells (g := g) rfl k pv q1, q2⟩
end
set_option maxRecDepth 100000 in
set_option maxHeartbeats 2000000 in
theorem rLog_any (l : List (List UInt8)) (hn : l.length ≤ 1000000) (hx : ∀ x ∈ l, x.length ≤ 100000) (v : Value) (w : World) (hv : TextsAt w v l) :
    Calls Tryz.prog 48 #[v] w fun e w' => e = .returned (.bool (logB l)) ∧ Below w.heap.size w w' := by
  obtain ⟨A, c, rfl, _⟩ := hv.slice
  have HS := hide hv
  have HX := hide hx
  clear hv hx
  by_cases hlen : 10000 < l.length
  · have HL : Hid (logB l = false) := by show _ = _; unfold logB; rw [decide_eq_false (by omega), Bool.and_false]
    have e0 : decide ((10000 : Int) < (l.length : Int)) = true := decide_eq_true (by omega)
    have e0' : decide (10000 < l.length) = true := decide_eq_true (by omega)
    go_enter Tryz.func48, Tryz.ntmps48
    go_wp2_with fail
    go_ret
    exact ⟨by rw [HL.out]; rfl, Below.refl _ _⟩
  · have e0 : decide ((10000 : Int) < (l.length : Int)) = false := decide_eq_false (by omega)
    have e0' : decide (10000 < l.length) = false := decide_eq_false (by omega)
    go_enter Tryz.func48, Tryz.ntmps48
    go_wp2_with fail
    go_loopw [3] (fun i wr => ∃ k : Nat, i = .int .i64 (k : Int) ∧ k ≤ l.length ∧ Aside (Below w.heap.size w wr) ∧ Aside ((l.take k).all (fun x => !decide (20000 < x.length)) = true)) (fun i _ => l.length - (intOf i).toNat)
    case atStart => exact ⟨0, rfl, by omega, Below.refl _ _, rfl⟩
    case round =>
      obtain ⟨k, rfl, hk, hB, hA⟩ := hrel
      have HB : Hid (Below w.heap.size w wr) := hB
      have HA : Hid ((l.take k).all (fun x => !decide (20000 < x.length)) = true) := hA
      clear hB hA
      by_cases hlt : k < l.length
      · have e1 : decide ((k : Int) < (l.length : Int)) = true := decide_eq_true (by omega)
        obtain ⟨x, hx⟩ : ∃ x, l[k]? = some x := ⟨_, List.getElem?_eq_getElem hlt⟩
        have hxl := HX.out x (List.mem_of_getElem? hx)
        have hsz : (bs x).size = x.length := bs_size x
        obtain ⟨a, rfl, ha, c0⟩ := (HS.out.to HB.out).at_ hx
        have i0 : (0 : Int) ≤ (k : Int) := by omega
        have i1 : (k : Int) < (l.length : Int) := by omega
        by_cases hb : 20000 < x.length
        · have HL : Hid (logB l = false) := by
            show _ = _
            unfold logB
            rw [show (l.any fun x => decide (20000 < x.length)) = true from List.any_eq_true.2 ⟨x, List.mem_of_getElem? hx, decide_eq_true hb⟩]
            rfl
          have e2 : decide ((20000 : Int) < (x.length : Int)) = true := decide_eq_true (by omega)
          have e2' : decide (20000 < x.length) = true := decide_eq_true (by omega)
          clear hx
          go_wp2_with fail
          go_ret
          exact ⟨by rw [HL.out]; rfl, HB.out⟩
        · have HN : Hid ((l.take (k + 1)).all (fun x => !decide (20000 < x.length)) = true) := by show _ = _; rw [all_step hx, HA.out, decide_eq_false hb]; rfl
          have e2 : decide ((20000 : Int) < (x.length : Int)) = false := decide_eq_false (by omega)
          have e2' : decide (20000 < x.length) = false := decide_eq_false (by omega)
          clear hx
          go_wp2_with fail
          refine ⟨⟨k + 1, by go_num, by omega, HB.out, HN.out⟩, ?_⟩
          simp [intOf]; omega
      · obtain rfl : k = l.length := by omega
        have HL : Hid (logB l = true) := by
          show _ = _
          have := HA.out
          rw [List.take_length] at this
          unfold logB
          rw [decide_eq_true (by omega), Bool.and_true]
          cases h : l.any fun x => decide (20000 < x.length) with
          | false => rfl
          | true =>
            obtain ⟨x, hx, h2⟩ := List.any_eq_true.1 h
            have h3 := List.all_eq_true.1 this x hx
            rw [h2] at h3; cases h3
        have e1 : decide ((l.length : Int) < (l.length : Int)) = false := by simp
        go_wp2_with fail
        go_ret
        exact ⟨by rw [HL.out]; rfl, HB.out⟩
set_option maxRecDepth 100000 in
set_option maxHeartbeats 2000000 in
theorem rServe_no (items : List (List UInt8)) (hn : items.length ≤ 1000) (hx : ∀ x ∈ items, x.length ≤ 100000) (fr most : Int) (h : serveB items fr most = false) (v : Value) (w : World) (hv : TextsAt w v items) :
    Calls Tryz.prog 15 #[v, .int .i64 fr, .int .i64 most] w (ServeR noPg 1 w) := by
  have CL := fun w' (hb : Below w.heap.size w w') => rLog_any items (by omega) hx v w' (hv.to hb)
  obtain ⟨A, c, rfl, hc⟩ := hv.slice
  have hh : (!logB items || decide (fr < 0) || decide ((items.length : Int) < fr) || decide (most < 1) || decide (50 < most)) = true := by
    unfold serveB at h
    rw [Bool.and_eq_false_iff, Bool.and_eq_false_iff, decide_eq_false_iff_not, decide_eq_false_iff_not] at h
    simp only [Bool.or_eq_true, Bool.not_eq_true', decide_eq_true_eq]
    rcases h with h | h | h
    · exact .inl (.inl (.inl (.inl h)))
    · omega
    · omega
  clear hv h hx
  obtain ⟨b0, c0⟩ : ∃ b, logB items = !b := ⟨!logB items, by simp⟩
  rw [c0, Bool.not_not] at hh
  rw [c0] at CL
  clear c0
  generalize c1 : decide (fr < 0) = b1 at *
  generalize c2 : decide ((items.length : Int) < fr) = b2 at *
  generalize c3 : decide (most < 1) = b3 at *
  generalize c4 : decide (50 < most) = b4 at *
  have fin : ∀ (w2 : World) (tm : Array Value), Below (w.alloc (.cells noCs 25)).heap.size (w.alloc (.cells noCs 25)) w2 → tm[6]? = some (.pointer (some ⟨w.heap.size, 0, none⟩)) → tm[7]? = some (.int .i64 1) →
      bodyPost Tryz.prog Tryz.f15 (ServeR noPg 1 w) .ret { tmps := tm, defers := [] } (((((w2.setCell ⟨w.heap.size, 0, none⟩ (.int .i64 0)).setCell ⟨w.heap.size, 1, none⟩ (.int .i64 0)).setCell ⟨w.heap.size, 2, none⟩ (.string ⟨#[]⟩)).setCell ⟨w.heap.size, 3, none⟩ (.slice none 0 0)).setCell ⟨w.heap.size, 4, none⟩ (.slice none 0 0)) := fun w2 tm hb h6 h7 => by
    have hB : Blk w2 w.heap.size 25 noCs := (Blk.new w _ _).to hb
    have hT := (((((Two.refl w.heap.size w.heap.size w2).set1 0 (.int .i64 0)).set1 1 (.int .i64 0)).set1 2 (.string ⟨#[]⟩)).set1 3 (.slice none 0 0)).set1 4 (.slice none 0 0)
    have hbw := below_to (below_one w _) (Nat.le_refl _) hb
    exact bodyPost_ret (results_page rfl _ _ w.heap.size h6 noCs _ h7 (((((hB.set_ 0 (.int .i64 0)).set_ 1 (.int .i64 0)).set_ 2 (.string ⟨#[]⟩)).set_ 3 (.slice none 0 0)).set_ 4 (.slice none 0 0)) rfl) rfl ⟨_, _, rfl, PgAt.no _ _ _, hbw.trans (hT.below hbw.size (Nat.le_refl _) (Nat.le_refl _))⟩
  have FIN := hide fin
  clear fin
  cases b0
  cases b1
  cases b2
  cases b3
  cases b4
  · cases hh
  all_goals (try simp only [Bool.not_false, Bool.not_true] at CL)
  all_goals
    go_enter Tryz.func15, Tryz.ntmps15
    go_wp2_with ((with_reducible refine (CL _ (below_one _ _)).mono ?_); rintro e w2 ⟨rfl, hb2⟩; have HB := hide hb2; have x := (Blk.new w 25 noCs).to hb2; have x0 := (x.cell 0).trans (show _ = some (Value.int .i64 0) from rfl); have x1 := (x.cell 1).trans (show _ = some (Value.int .i64 0) from rfl); have x2 := (x.cell 2).trans (show _ = some (Value.string ⟨#[]⟩) from rfl); have x3 := (x.cell 3).trans (show _ = some (Value.slice none 0 0) from rfl); have x4 := (x.cell 4).trans (show _ = some (Value.slice none 0 0) from rfl); have f0 := x.frozen 0; have f1 := x.frozen 1; have f2 := x.frozen 2; have f3 := x.frozen 3; have f4 := x.frozen 4; clear x hb2)
    exact FIN.out w2 _ HB.out rfl rfl
structure RSv (w : World) (bp : Nat) (items : List (List UInt8)) (F : Nat) (I : List (List UInt8)) (Q : List (List (List UInt8))) (k : Nat) (RT : List UInt8) (vl vi vp : Value) (pvs : List Value) (W : World) : Prop where
  bel : Below w.heap.size w W
  res : Blk W w.heap.size 25 noCs
  pg : RPg bp (bp + 1) (F : Int) (items.length : Int) RT (I.take k) (Q.take k) vi vp pvs W
  lv : TextsAt W vl (leavesV items)
  lvo : ∀ g, vl.ownBlock = some g → g < bp
theorem rowOr_cases (v : Value) (b : Nat) : rowOr v b = b ∨ v.ownBlock = some (rowOr v b) := by
  unfold rowOr
  cases v.ownBlock with
  | none => exact .inl rfl
  | some g => exact .inr rfl
def RServeR (p : Pg) (k : Int) (w : World) (e : Ending) (w' : World) : Prop := ∃ vi vp, e = .returned (.tuple #[.agg (p.cs vi vp), .int .i64 k]) ∧ TextsAt w' vi p.items ∧ PathsAt w' vp p.paths ∧ Below w.heap.size w w'
set_option maxRecDepth 100000 in
set_option maxHeartbeats 4000000 in
theorem rServe_yes (items : List (List UInt8)) (hn : items.length ≤ 1000) (hx : ∀ x ∈ items, x.length ≤ 100000) (F M : Nat) (h : serveB items F M = true) (v : Value) (w : World) (hv : TextsAt w v items) :
    Calls Tryz.prog 15 #[v, .int .i64 (F : Int), .int .i64 (M : Int)] w (RServeR (pageV items F M) 0 w) := by
  have CL := rLog_any items (by omega) hx v (w.alloc (.cells noCs 25)) (hv.to (below_one _ _))
  have hh : logB items = true ∧ (F ≤ items.length) ∧ 1 ≤ M ∧ M ≤ 50 := by
    unfold serveB at h
    simp only [Bool.and_eq_true, decide_eq_true_eq] at h
    exact ⟨h.1, by omega, by omega, by omega⟩
  obtain ⟨h1, hF, hM1, hM2⟩ := hh
  rw [h1] at CL
  have HV := hide hv
  have CLV := fun (w' : World) (hb : Below w.heap.size w w') => rLeaves_any items (by omega) hx v w' (hv.to hb)
  obtain ⟨A, c, rfl, hc⟩ := hv.slice
  have q1 : decide ((F : Int) < 0) = false := decide_eq_false (by omega)
  have q2 : decide ((items.length : Int) < (F : Int)) = false := decide_eq_false (by omega)
  have q2' : decide (items.length < F) = false := decide_eq_false (by omega)
  have q3 : decide ((M : Int) < 1) = false := decide_eq_false (by omega)
  have q4 : decide (50 < (M : Int)) = false := decide_eq_false (by omega)
  have HLS : Hid (∀ x ∈ leavesV items, x.length ≤ 1000000) := fun x h => by
    obtain ⟨y, _, rfl⟩ := List.mem_map.1 h
    rw [isD_len (leaf_isD y)]; decide
  have HLL := hide (leaves_len items)
  have hrv : rootV (leavesV items) = totalT (leavesV items) ∧ rootE (leavesV items) = 0 := by unfold rootV rootE; rw [(leaves_ok items).1]; exact ⟨rfl, rfl⟩
  have CRT := fun (w' : World) (vl : Value) (hl : TextsAt w' vl (leavesV items)) => rRoot_any (leavesV items) (by rw [HLL.out]; omega) (fun x h => Nat.le_trans (HLS.out x h) (by decide)) vl w' hl
  rw [hrv.1, hrv.2] at CRT
  clear hv h h1 hx hrv
  unfold noCs at CL
  unfold LvR at CLV
  obtain ⟨RT, hRT⟩ : ∃ RT, totalT (leavesV items) = RT := ⟨_, rfl⟩
  have HRT := hide hRT
  rw [hRT] at CRT
  clear hRT
  go_enter Tryz.func15, Tryz.ntmps15
  go_wp2_with fail
  refine CL.mono ?_
  rintro e w2 ⟨rfl, hb⟩
  have HB2 := hide (below_to (below_one w (.cells noCs 25)) (Nat.le_refl _) hb)
  have HR2 := hide ((Blk.new w 25 noCs).to hb)
  clear hb CL
  have CLV := CLV w2 HB2.out
  go_wp2_with fail
  refine CLV.mono ?_
  rintro e w3 ⟨vl, rfl, ho, hb⟩
  have HB3 := hide (below_to HB2.out (Nat.le_refl _) hb)
  have HR3 := hide (HR2.out.to hb)
  have HL3 := hide ho
  clear hb CLV ho HB2 HR2
  have CRT := CRT w3 vl (TextsAt.of_own HL3.out)
  go_wp2_with fail
  refine CRT.mono ?_
  rintro e w4 ⟨rfl, hb⟩
  have HB4 := hide (below_to HB3.out (Nat.le_refl _) hb)
  have HR4 := hide (HR3.out.to hb)
  have HL4 := hide (own_to4 HL3.out hb)
  have hgl := HR4.out.lt
  clear hb CRT HL3 HB3 HR3
  go_wp2_with fail
  obtain ⟨bp, hbp⟩ : ∃ bp, bp = w4.heap.size := ⟨_, rfl⟩
  obtain ⟨I, hI⟩ : ∃ I, I = (items.drop F).take M := ⟨_, rfl⟩
  obtain ⟨Q, hQ⟩ : ∃ Q, Q = (List.range I.length).map fun i => pathV (leavesV items) (F + i) := ⟨_, rfl⟩
  have HIE := hide hI
  have HQE := hide hQ
  have HQL : Hid (Q.length = I.length) := by show _ = _; rw [hQ]; simp
  have hIl : I.length = min M (items.length - F) := by rw [hI, List.length_take, List.length_drop]
  have HIL := hide hIl
  have hwr : IntKind.i64.wrap ((F : Int) + (M : Int)) = (F : Int) + (M : Int) := IntWalk.i64_in _ (by omega)
  have HS0 : Hid (RSv w bp items F I Q 0 RT vl (.slice none 0 0) (.slice none 0 0) [] (w4.alloc (.cells #[.int .i64 (F : Int), .int .i64 (items.length : Int), .string (bs RT), .slice none 0 0, .slice none 0 0] 25))) := by
    refine ⟨below_alloc HB4.out (Nat.le_refl _) _, HR4.out.alloc _, ⟨?_, World.ownsRow_nil _ _ _ _, World.ownsRow_nil _ _ _ _, fun j q h => by simp at h⟩, (TextsAt.of_own HL4.out).to (below_one _ _), fun g e => by rw [hbp]; exact (own_blk_lt HL4.out g e).2⟩
    rw [hbp]; exact Blk.new _ _ _
  rw [← hbp]
  have hwb : w.heap.size < bp := by omega
  clear hI hQ HB4 HR4 HL4 hbp hgl
  go_loopw [12] (fun i wr => ∃ (ix k : Nat) (vi vp : Value) (pvs : List Value), i = .int .i64 (ix : Int) ∧ ix = F + k ∧ k ≤ I.length ∧ Aside (RSv w bp items F I Q k RT vl vi vp pvs wr)) (fun i _ => F + I.length - (intOf i).toNat)
  case atStart => exact ⟨F, 0, _, _, _, rfl, by omega, Nat.zero_le _, HS0.out⟩
  case round =>
    clear HS0
    obtain ⟨ix, k, vi, vp, pvs, rfl, hak, hkI, hI⟩ := hrel
    have HI : Hid (RSv w bp items F I Q k RT vl vi vp pvs wr) := hI
    clear hI
    by_cases hkl : k < I.length
    · have e3 : decide ((ix : Int) < (items.length : Int)) = true := decide_eq_true (by omega)
      have e4 : decide ((ix : Int) < (F : Int) + (M : Int)) = true := decide_eq_true (by omega)
      obtain ⟨x, hx⟩ : ∃ x, items[ix]? = some x := ⟨_, List.getElem?_eq_getElem (by omega)⟩
      have HIS : Hid (I.take k ++ [x] = I.take (k + 1)) := by
        show _ = _
        rw [List.take_add_one, HIE.out, List.getElem?_take_of_lt (by omega), List.getElem?_drop, ← hak, hx]; rfl
      have HQS : Hid (Q.take k ++ [pathV (leavesV items) ix] = Q.take (k + 1)) := by
        show _ = _
        rw [List.take_add_one, HQE.out, List.getElem?_map, List.getElem?_range hkl, hak]; rfl
      obtain ⟨ai, rfl, l0, c0⟩ := (HV.out.to HI.out.bel).at_ hx
      have i0 : (0 : Int) ≤ (ix : Int) := by omega
      have i1 : (ix : Int) < (items.length : Int) := by omega
      have CP := rPath_any (leavesV items) (by rw [HLL.out]; omega) HLS.out (leaves_ok items).1 ix (by rw [HLL.out]; omega) vl wr HI.out.lv
      have HAK := hide hak
      clear hx hak hIl
      go_wp2_with fail
      refine CP.mono ?_
      rintro e w6 ⟨pv, rfl, hpo, hb⟩
      have HPO := hide hpo
      have HPT := hide (TextsAt.of_own hpo)
      have HP6 := hide (HI.out.pg.to hb)
      have HB6 := hide (below_to HI.out.bel (Nat.le_refl _) hb)
      have HRS6 := hide (HI.out.res.to hb)
      have HLV6 := hide (HI.out.lv.to hb)
      have c6 := (hb.cell (p := ai.add ix) (by rw [block_of_add]; exact l0)).trans c0
      have l6 := Nat.lt_of_lt_of_le l0 hb.size
      have hbw := HI.out.pg.p.lt
      have hsz := hb.size
      have HPN : Hid (∀ g, pv.ownBlock = some g → vi.ownBlock ≠ some g) := fun g e e2 => by have h1 := (World.ownsRow.lt HI.out.pg.oi g e2).2; have h2 := (own_blk_lt hpo g e).1; omega
      have HPN2 : Hid (∀ g, pv.ownBlock = some g → vp.ownBlock ≠ some g) := fun g e e2 => by have h1 := (World.ownsRow.lt HI.out.pg.op g e2).2; have h2 := (own_blk_lt hpo g e).1; omega
      obtain ⟨N, hN⟩ : ∃ N, N = k := ⟨k, rfl⟩
      have HNI : Hid ((I.take k).length = N) := by show _ = _; rw [List.length_take]; omega
      have HNQ : Hid ((Q.take k).length = N) := by show _ = _; rw [List.length_take, HQL.out]; omega
      have HNK := hide hN
      have hNb : N ≤ 1000 := by have := HIL.out; omega
      clear hN
      have HO6 : Hid (World.ownsRow w6 (bp + 1) 9 1 vi N (flatS (I.take k))) := by
        have := HP6.out.oi
        rwa [HNI.out] at this
      have hlt : ∀ g, vi.ownBlock = some g → bp + 1 ≤ g ∧ g < w6.heap.size := World.ownsRow.lt HO6.out
      clear hpo hb CP c0
      go_wp2_with fail
      apply wp_region_lo3 (C := fun W => Two bp (rowOr (vi) bp) w6 W) (V := [some _, some _, some _, some _, some _, some _, none, none, some _, none]) (Fs := [(6, fun a W => ∃ g, a.tmps[75]? = some (.slice (some ⟨g, 0, none⟩) 1 1) ∧ Blk W g 9 #[.string (bs x)] ∧ w6.heap.size ≤ g), (7, fun a W => ∃ v2, a.tmps[76]? = some v2 ∧ World.ownsRow W (bp + 1) 9 1 v2 (N + 1) ((flatS (I.take k)) ++ [.string (bs x)]) ∧ (v2.ownBlock = Value.ownBlock (vi) ∨ ∃ g, v2.ownBlock = some g ∧ w6.heap.size ≤ g)), (9, fun a W => ∃ v2, a.tmps[76]? = some v2 ∧ Blk W bp 25 #[.int .i64 (F : Int), .int .i64 (items.length : Int), .string (bs RT), v2, vp])]) (Ns := [(1, fun (_ : Act) W => Blk W bp 25 #[.int .i64 (F : Int), .int .i64 (items.length : Int), .string (bs RT), vi, vp]), (5, fun (_ : Act) W => W.cell? (ai.add ix) = some (.string (bs x)) ∧ ai.block < W.heap.size), (7, fun (_ : Act) W => World.ownsRow W (bp + 1) 9 1 (vi) N (flatS (I.take k)) ∧ w6.heap.size ≤ W.heap.size), (9, fun (_ : Act) W => Blk W bp 25 #[.int .i64 (F : Int), .int .i64 (items.length : Int), .string (bs RT), vi, vp])]) (Rel := fun i a0_ a1_ x x' => if i = 7 then (fun b0 b1 x x' => World.grownBy x x' (Value.ownBlock (vi))) a0_ a1_ x x' else if i = 9 then (fun b0 b1 x x' => ∃ u, x' = World.setCell x ⟨bp, 3, none⟩ u) a0_ a1_ x x' else Below x.heap.size x x')
      case hm => kernel_rfl
      case hB => kernel_rfl
      case hCw => exact ((Two.refl bp (rowOr (vi) bp) w6).drewN 1)
      case hC =>
        intro i a a' w_ w' hw hr
        by_cases e7 : i = 7
        · subst e7
          have hr' : (fun b0 b1 x x' => World.grownBy x x' (Value.ownBlock (vi))) a a' w_ w' := hr
          exact Two.trans hw (Two.grown hr')
        by_cases e9 : i = 9
        · subst e9
          have hr' : (fun b0 b1 x x' => ∃ u, x' = World.setCell x ⟨bp, 3, none⟩ u) a a' w_ w' := hr
          obtain ⟨u, rfl⟩ := hr'
          exact Two.set1 hw _ u
        have hr' : Below w_.heap.size w_ w' := by simpa [e7, e9] using hr
        exact Two.to hw hr'
      case hst =>
        refine keeps3_cons (fun i a a' w_ w' hne hwt hs hput hr h => by
          by_cases e7 : i = 7
          · subst e7
            have hr' : (fun b0 b1 x x' => World.grownBy x x' (Value.ownBlock (vi))) a a' w_ w' := hr
            obtain ⟨g, h1, h2, h3⟩ := h
            exact ⟨g, (hs 75 (by kernel_rfl)).trans h1, (hr'.block g h2.lt (fun e => by have := (hlt g e.symm).2; omega)).trans h2, h3⟩
          by_cases e9 : i = 9
          · subst e9
            have hr' : (fun b0 b1 x x' => ∃ u, x' = World.setCell x ⟨bp, 3, none⟩ u) a a' w_ w' := hr
            obtain ⟨g, h1, h2, h3⟩ := h
            obtain ⟨u, rfl⟩ := hr'
            exact ⟨g, (hs 75 (by kernel_rfl)).trans h1, h2.far (p := ⟨bp, 3, none⟩) (by show g ≠ bp; omega) u, h3⟩
          have hr' : Below w_.heap.size w_ w' := by simpa [e7, e9] using hr
          obtain ⟨g, h1, h2, h3⟩ := h
          exact ⟨g, (hs 75 (by kernel_rfl)).trans h1, h2.to hr', h3⟩) ?_
        refine keeps3_cons (fun i a a' w_ w' hne hwt hs hput hr h => by
          by_cases e7 : i = 7
          · exact absurd e7 hne
          by_cases e9 : i = 9
          · subst e9
            have hr' : (fun b0 b1 x x' => ∃ u, x' = World.setCell x ⟨bp, 3, none⟩ u) a a' w_ w' := hr
            obtain ⟨g, h1, h2, h3⟩ := h
            obtain ⟨u, rfl⟩ := hr'
            exact ⟨g, (hs 76 (by kernel_rfl)).trans h1, ownsRow_set h2 (fun e => by have := (World.ownsRow.lt h2 _ e).1; omega), h3⟩
          have hr' : Below w_.heap.size w_ w' := by simpa [e7, e9] using hr
          obtain ⟨g, h1, h2, h3⟩ := h
          exact ⟨g, (hs 76 (by kernel_rfl)).trans h1, ownsRow_to h2 hr', h3⟩) ?_
        refine keeps3_cons (fun i a a' w_ w' hne hwt hs hput hr h => by
          by_cases e7 : i = 7
          · subst e7
            exact absurd (hwt.symm.trans (show Region.waitsFor .any _ 9 7 = true by kernel_rfl)) (by decide)
          by_cases e9 : i = 9
          · exact absurd e9 hne
          have hr' : Below w_.heap.size w_ w' := by simpa [e7, e9] using hr
          obtain ⟨g, h1, h2⟩ := h
          exact ⟨g, (hs 76 (by kernel_rfl)).trans h1, h2.to hr'⟩) ?_
        exact keeps3_nil
      case hN0 => exact pre0_cons ((show Blk w6.drew bp 25 _ from HP6.out.p)) (pre0_cons (⟨c6, l6⟩) (pre0_cons (⟨HO6.out, Nat.le_refl _⟩) (pre0_cons ((show Blk w6.drew bp 25 _ from HP6.out.p)) (pre0_nil))))
      case hNst =>
        refine prek_cons3 (fun i a a' w_ w' hne hwt hr h hput => by
          by_cases e7 : i = 7
          · subst e7
            exact absurd (hwt.symm.trans (show waitsT .any _ _ 7 1 = true by kernel_rfl)) (by decide)
          by_cases e9 : i = 9
          · subst e9
            exact absurd (hwt.symm.trans (show waitsT .any _ _ 9 1 = true by kernel_rfl)) (by decide)
          have hr' : Below w_.heap.size w_ w' := by simpa [e7, e9] using hr
          exact h.to hr') ?_
        refine prek_cons3 (fun i a a' w_ w' hne hwt hr h hput => by
          by_cases e7 : i = 7
          · subst e7
            exact absurd (hwt.symm.trans (show waitsT .any _ _ 7 5 = true by kernel_rfl)) (by decide)
          by_cases e9 : i = 9
          · subst e9
            exact absurd (hwt.symm.trans (show waitsT .any _ _ 9 5 = true by kernel_rfl)) (by decide)
          have hr' : Below w_.heap.size w_ w' := by simpa [e7, e9] using hr
          exact ⟨(hr'.cell (p := ai.add ix) (by rw [block_of_add]; exact h.2)).trans h.1, Nat.lt_of_lt_of_le h.2 hr'.size⟩) ?_
        refine prek_cons3 (fun i a a' w_ w' hne hwt hr h hput => by
          by_cases e7 : i = 7
          · exact absurd e7 hne
          by_cases e9 : i = 9
          · subst e9
            exact absurd (hwt.symm.trans (show waitsT .any _ _ 9 7 = true by kernel_rfl)) (by decide)
          have hr' : Below w_.heap.size w_ w' := by simpa [e7, e9] using hr
          exact ⟨ownsRow_to h.1 hr', Nat.le_trans h.2 hr'.size⟩) ?_
        refine prek_cons3 (fun i a a' w_ w' hne hwt hr h hput => by
          by_cases e7 : i = 7
          · subst e7
            have hr' : (fun b0 b1 x x' => World.grownBy x x' (Value.ownBlock (vi))) a a' w_ w' := hr
            exact (hr'.block bp h.lt (fun e => by have := (hlt _ e.symm).1; omega)).trans h
          by_cases e9 : i = 9
          · exact absurd e9 hne
          have hr' : Below w_.heap.size w_ w' := by simpa [e7, e9] using hr
          exact h.to hr') ?_
        exact prek_nil3
      case hop =>
        refine ⟨?_, ?_, ?_, ?_, ?_, ?_, ?_, ?_, ?_, ?_, trivial⟩
        · intro a w_ K hw hS hd hN hK
          have s11 := hS.at 11 (by kernel_rfl) rfl
          rw [if_pos (want_free rfl)]
          go_simp
          exact hK _ _ (Below.refl _ _) (vok rfl) (facts_cons (fun h => absurd h (by decide)) (facts_cons (fun h => absurd h (by decide)) (facts_cons (fun h => absurd h (by decide)) facts_nil)))
        · intro a w_ K hw hS hd hN hK
          have s69 := (waits_on hd 0 (by kernel_rfl)).at (d := 69) rfl rfl rfl
          have hBc := hN _ (List.mem_cons_self ..) rfl
          rw [if_pos (want_free rfl)]
          have c0 := (hBc.cell 3).trans (show _ = some (vi) from rfl)
          go_simp
          exact hK _ _ (Below.refl _ _) (vok rfl) (facts_cons (fun h => absurd h (by decide)) (facts_cons (fun h => absurd h (by decide)) (facts_cons (fun h => absurd h (by decide)) facts_nil)))
        · intro a w_ K hw hS hd hN hK
          have s0 := hS.at 0 (by kernel_rfl) rfl
          rw [if_pos (want_free rfl)]
          go_simp
          exact hK _ _ (Below.refl _ _) (vok rfl) (facts_cons (fun h => absurd h (by decide)) (facts_cons (fun h => absurd h (by decide)) (facts_cons (fun h => absurd h (by decide)) facts_nil)))
        · intro a w_ K hw hS hd hN hK
          have s12 := hS.at 12 (by kernel_rfl) rfl
          rw [if_pos (want_free rfl)]
          go_simp
          exact hK _ _ (Below.refl _ _) (vok rfl) (facts_cons (fun h => absurd h (by decide)) (facts_cons (fun h => absurd h (by decide)) (facts_cons (fun h => absurd h (by decide)) facts_nil)))
        · intro a w_ K hw hS hd hN hK
          have s71 := (waits_on hd 2 (by kernel_rfl)).at (d := 71) rfl rfl rfl
          have s72 := (waits_on hd 3 (by kernel_rfl)).at (d := 72) rfl rfl rfl
          rw [if_pos (want_free rfl)]
          go_simp
          exact hK _ _ (Below.refl _ _) (vok rfl) (facts_cons (fun h => absurd h (by decide)) (facts_cons (fun h => absurd h (by decide)) (facts_cons (fun h => absurd h (by decide)) facts_nil)))
        · intro a w_ K hw hS hd hN hK
          have s73 := (waits_on hd 4 (by kernel_rfl)).at (d := 73) rfl rfl rfl
          obtain ⟨hcx, _⟩ := hN _ (List.mem_cons_of_mem _ (List.mem_cons_self ..)) rfl
          rw [if_pos (want_free rfl)]
          go_simp
          exact hK _ _ (Below.refl _ _) (vok rfl) (facts_cons (fun h => absurd h (by decide)) (facts_cons (fun h => absurd h (by decide)) (facts_cons (fun h => absurd h (by decide)) facts_nil)))
        · intro a w_ K hw hS hd hN hK
          have s74 := (waits_on hd 5 (by kernel_rfl)).at (d := 74) rfl rfl rfl
          rw [if_pos (want_free rfl)]
          go_simp
          exact hK _ _ (below_one _ _) (vfree rfl) (facts_cons (fun _ => ⟨_, hS.put_at (by kernel_rfl) _, Blk.new _ _ _, (Two.size hw)⟩) (facts_cons (fun h => absurd h (by decide)) (facts_cons (fun h => absurd h (by decide)) facts_nil)))
        · intro a w_ K hw hS hd hN hK
          have s70 := (waits_on hd 1 (by kernel_rfl)).at (d := 70) rfl rfl rfl
          obtain ⟨b75, s75, r75, l75⟩ := (waits_on hd 6 (by kernel_rfl)).2 _ (List.mem_cons_self ..) rfl
          obtain ⟨hOwn, hSz⟩ := hN _ (List.mem_cons_of_mem _ (List.mem_cons_of_mem _ (List.mem_cons_self ..))) rfl
          rw [if_pos (want_free rfl)]
          obtain ⟨i0, hi0, hz0, hz1, hz2⟩ := info_parts info_str
          refine wp_append_keep w_ (.tmp 70) (.tmp 75) 22 rfl (bp + 1) 9 i0 _ 1 16 Tryz.underlying22 hi0 hz0 hz1 hz2 rfl (by decide) (vi) N _ (eval_at s70) hOwn ⟨b75, 0, none⟩ 1 1 [.string (bs x)] (eval_at s75) rfl (fun j u hj => by
            cases j with
            | zero => simp at hj; subst hj; exact r75.cell 0
            | succ j => simp at hj) (by intro u hu; simp at hu; subst hu; rfl) (by unfold maxLen; omega) (by omega) (by omega) ?_
          intro v2 w' h2 h3 h4 h5
          exact hK v2 w' h3 (vfree rfl) (facts_cons (fun h => absurd h (by decide)) (facts_cons (fun _ => ⟨v2, hS.put_at (by kernel_rfl) _, h2, h5.imp id fun ⟨g, e, hg⟩ => ⟨g, e, Nat.le_trans hSz hg⟩⟩) (facts_cons (fun h => absurd h (by decide)) facts_nil)))
        · intro a w_ K hw hS hd hN hK
          have s11 := hS.at 11 (by kernel_rfl) rfl
          rw [if_pos (want_free rfl)]
          go_simp
          exact hK _ _ (Below.refl _ _) (vok rfl) (facts_cons (fun h => absurd h (by decide)) (facts_cons (fun h => absurd h (by decide)) (facts_cons (fun h => absurd h (by decide)) facts_nil)))
        · intro a w_ K hw hS hd hN hK
          have s77 := (waits_on hd 8 (by kernel_rfl)).at (d := 77) rfl rfl rfl
          obtain ⟨v76, s76, o76, k76⟩ := (waits_on hd 7 (by kernel_rfl)).2 _ (List.mem_cons_of_mem _ (List.mem_cons_self ..)) rfl
          have hBs := hN _ (List.mem_cons_of_mem _ (List.mem_cons_of_mem _ (List.mem_cons_of_mem _ (List.mem_cons_self ..)))) rfl
          rw [if_pos (want_free rfl)]
          obtain ⟨A0, c0', hv0⟩ := own_sl4 (HO6.out)
          have c0 := (hBs.cell 3).trans (show _ = some (vi) from rfl)
          have f0 := hBs.frozen 3
          obtain ⟨A1, c1', rfl⟩ := own_sl4 o76
          try subst hv0
          go_simp
          exact hK undef _ ⟨_, rfl⟩ (vfree rfl) (facts_cons (fun h => absurd h (by decide)) (facts_cons (fun h => absurd h (by decide)) (facts_cons (fun _ => ⟨_, s76, hBs.set_ 3 _⟩) facts_nil)))
      case hfin =>
        intro a w7 hw hS hk
        have s69 := (hk 0 (by decide)).at (d := 69) rfl rfl rfl
        have s70 := (hk 1 (by decide)).at (d := 70) rfl rfl rfl
        have s71 := (hk 2 (by decide)).at (d := 71) rfl rfl rfl
        have s72 := (hk 3 (by decide)).at (d := 72) rfl rfl rfl
        have s73 := (hk 4 (by decide)).at (d := 73) rfl rfl rfl
        have s74 := (hk 5 (by decide)).at (d := 74) rfl rfl rfl
        obtain ⟨b75, s75, r75, l75⟩ := (hk 6 (by decide)).2 _ (List.mem_cons_self ..) rfl
        obtain ⟨v76, s76, o76, k76⟩ := (hk 7 (by decide)).2 _ (List.mem_cons_of_mem _ (List.mem_cons_self ..)) rfl
        have s77 := (hk 8 (by decide)).at (d := 77) rfl rfl rfl
        obtain ⟨z76, zs76, zP⟩ := (hk 9 (by decide)).2 _ (List.mem_cons_of_mem _ (List.mem_cons_of_mem _ (List.mem_cons_self ..))) rfl
        have hlit := hS.lit _ (by kernel_rfl) (lits_cons s69 (lits_cons s70 (lits_cons s71 (lits_cons s72 (lits_cons s73 (lits_cons s74 (lits_cons s75 (lits_cons s76 (lits_cons s77 lits_nil)))))))))
        rw [hlit]
        obtain rfl : v76 = z76 := Option.some.inj (s76.symm.trans zs76)
        clear zs76 r75 l75
        have HP7 := hide (HP6.out.addI (by omega) hw zP (by rw [HNI.out]; exact o76) k76)
        have HT7 := hide hw
        have HPI : Hid (∀ g, pv.ownBlock = some g → v76.ownBlock ≠ some g) := fun g e e2 => by
          rcases k76 with h | ⟨g', h, hg⟩
          · exact HPN.out g e (by rw [← h]; exact e2)
          · have h1 := (own_blk_lt HPO.out g e).2
            have h2 : g' = g := Option.some.inj (h.symm.trans e2)
            omega
        clear hlit hk hS s69 s70 s71 s72 s73 s74 s75 s76 s77 hw zP o76 k76
        simp only [litT, List.setIfInBounds_toArray, List.set_cons_succ, List.set_cons_zero]
        rw [HIS.out] at HP7
        obtain ⟨Aq, cq, rfl⟩ := own_sl4 HPO.out
        have HQ7 : Hid (TextsAt w7 (.slice Aq (pathV (leavesV items) ix).length cq) (pathV (leavesV items) ix)) := HPT.out.two HT7.out (fun e => by have := (HPO.out.lt _ e); omega) (fun e => by
          rcases rowOr_cases vi bp with h | h
          · have := (HPO.out.lt _ e); omega
          · exact HPN.out _ e (h.trans rfl))
        have HLV7 : Hid (TextsAt w7 vl (leavesV items)) := HLV6.out.two HT7.out (fun e => by have := HI.out.lvo _ e; omega) (fun e => by
          have h1 := HI.out.lvo _ e
          rcases rowOr_cases vi bp with h | h
          · omega
          · have := (World.ownsRow.lt HP6.out.oi _ h).1; omega)
        have HRS7 : Hid (Blk w7 w.heap.size 25 noCs) := HT7.out.blk HRS6.out (by omega) (fun e => by
          rcases rowOr_cases vi bp with h | h
          · omega
          · have := (World.ownsRow.lt HP6.out.oi _ h).1; omega)
        have HB7 : Hid (Below w.heap.size w w7) := HB6.out.trans (HT7.out.below HB6.out.size (by omega) (rowOr_le (fun g e => by have := (World.ownsRow.lt HP6.out.oi g e).1; omega) (by omega)))
        clear HPT HLV6 HRS6 HB6
        have x4 := (HP7.out.p.cell 4).trans (show _ = some vp from rfl)
        obtain ⟨i0, hi0, hz0, hz1, hz2⟩ := info_parts info_sl
        have HP8 := hide (HP7.out.to (below_one w7 (.cells #[.slice Aq (pathV (leavesV items) ix).length cq] 22)))
        have hc1 := cells_new4 (W := w7) (xs := [Value.slice Aq (pathV (leavesV items) ix).length cq]) (ty := 22) (b := w7.heap.size) rfl
        have hc2 : ∀ u ∈ [Value.slice Aq (pathV (leavesV items) ix).length cq], u.oneCell' = true := by intro u hu; simp only [List.mem_cons, List.not_mem_nil, or_false] at hu; rcases hu with rfl; rfl
        have hc4 : N + 1 ≤ maxLen := by simp only [maxLen]; omega
        have hc5 : (N + 1) * 24 ≤ 140737488355328 := by omega
        have hc3 : bp + 1 ≤ (w7.alloc (.cells #[.slice Aq (pathV (leavesV items) ix).length cq] 22)).heap.size := by have := HP7.out.p.lt; simp; omega
        have HC1 := hide hc1
        have HOP : Hid (World.ownsRow (w7.alloc (.cells #[.slice Aq (pathV (leavesV items) ix).length cq] 22)) (bp + 1) 22 1 vp N pvs) := by
          have := HP8.out.op
          rwa [HNQ.out] at this
        clear hc1
        go_wp2_with (at_builtin; refine wpList_append_keep _ rfl (.tmp 79) (.tmp 81) _ rfl (bp + 1) 22 i0 (.slice none 0 0) 1 24 Tryz.underlying23 hi0 hz0 hz1 hz2 rfl (by omega) _ N pvs rfl HOP.out ⟨_, 0, none⟩ 1 1 [.slice Aq (pathV (leavesV items) ix).length cq] rfl rfl HC1.out hc2 hc4 hc5 hc3 ?_)
        intro v' w8 ho8 hg8 hk8 hv8
        have hlo : some bp ≠ vp.ownBlock := fun e => by have := (World.ownsRow.lt HOP.out _ e.symm).1; omega
        have hb8 := (hg8.block bp HP8.out.p.lt hlo).trans HP8.out.p
        have y4 := (show Blk w8 bp _ _ from hb8).cell 4 |>.trans (show _ = some vp from rfl)
        have yf := (show Blk w8 bp _ _ from hb8).frozen 4
        have hT9 : Two bp (rowOr vp bp) (w7.alloc (.cells #[.slice Aq (pathV (leavesV items) ix).length cq] 22)) (w8.setCell ⟨bp, 4, none⟩ v') := (Two.grown hg8).set1 4 v'
        have HQ9 := hide (RPg.addP (by omega) HP8.out hT9 (pv := .slice Aq (pathV (leavesV items) ix).length cq) (show Blk _ bp _ _ from Blk.set_ hb8 4 v') (by rw [HNQ.out]; exact ownsRow_set ho8 (fun e => by have := (World.ownsRow.lt ho8 _ e).1; omega)) (hv8.imp id fun ⟨g, e, h⟩ => ⟨g, e, by rw [World.size_alloc]; exact h⟩) (HQ7.out.to (below_one w7 (.cells #[.slice Aq (pathV (leavesV items) ix).length cq] 22))) (fun g e => by
          have h1 := HPO.out.lt g e
          refine ⟨by omega, by rw [World.size_alloc]; have := HT7.out.size; omega, ?_, ?_⟩
          · exact HPI.out g e
          · intro e2; have := HPN2.out g e; exact this e2))
        rw [HQS.out] at HQ9
        have hord := rowOr_le (v := vp) (b := bp) (n := bp) (fun g e => by have := (World.ownsRow.lt HOP.out g e).1; omega) (Nat.le_refl _)
        have HB9 : Hid (Below w.heap.size w (w8.setCell ⟨bp, 4, none⟩ v')) := (HB7.out.trans ((below_one w7 (.cells #[.slice Aq (pathV (leavesV items) ix).length cq] 22)).mono HB7.out.size)).trans (hT9.below (by rw [World.size_alloc]; have := HB7.out.size; omega) (by omega) (by omega))
        have HRS9 : Hid (Blk (w8.setCell ⟨bp, 4, none⟩ v') w.heap.size 25 noCs) := hT9.blk (HRS7.out.alloc _) (by omega) (by omega)
        have HLV9 : Hid (TextsAt (w8.setCell ⟨bp, 4, none⟩ v') vl (leavesV items)) := (HLV7.out.to (below_one w7 (.cells #[.slice Aq (pathV (leavesV items) ix).length cq] 22))).two hT9 (fun e => by have := HI.out.lvo _ e; omega) (fun e => by have := HI.out.lvo _ e; omega)
        obtain ⟨A8, c8, rfl⟩ := own_sl4 ho8
        clear ho8 hg8 hk8 hv8 hlo hb8 hT9 HP8 HOP HC1 x4 HB7 HRS7 HLV7 HQ7
        go_wp2_with fail
        refine ⟨⟨ix + 1, k + 1, _, _, _, by go_num, by have := HAK.out; omega, by omega, HB9.out, HRS9.out, HQ9.out, HLV9.out, HI.out.lvo⟩, ?_⟩
        have := HAK.out
        simp [intOf]; omega
    · obtain rfl : k = I.length := by omega
      have HAK := hide hak
      have HIL2 := hide hIl
      clear hak hIl
      have hIt : I.take I.length = I := List.take_length
      have hQt : Q.take I.length = Q := by rw [← HQL.out]; exact List.take_length
      have hp := HI.out.pg
      rw [hIt, hQt] at hp
      have HP := hide hp
      obtain ⟨Ai, ci, hvi⟩ := own_sl4 hp.oi
      obtain ⟨Ap, cp, hvp⟩ := own_sl4 hp.op
      subst hvi hvp
      have x0 := (HP.out.p.cell 0).trans (show _ = some (Value.int .i64 (F : Int)) from rfl)
      have x1 := (HP.out.p.cell 1).trans (show _ = some (Value.int .i64 (items.length : Int)) from rfl)
      have x2 := (HP.out.p.cell 2).trans (show _ = some (Value.string (bs RT)) from rfl)
      have x3 := (HP.out.p.cell 3).trans (show _ = some (Value.slice Ai I.length ci) from rfl)
      have x4 := (HP.out.p.cell 4).trans (show _ = some (Value.slice Ap Q.length cp) from rfl)
      have y0 := (HI.out.res.cell 0).trans (show _ = some (Value.int .i64 0) from rfl)
      have y1 := (HI.out.res.cell 1).trans (show _ = some (Value.int .i64 0) from rfl)
      have y2 := (HI.out.res.cell 2).trans (show _ = some (Value.string ⟨#[]⟩) from rfl)
      have y3 := (HI.out.res.cell 3).trans (show _ = some (Value.slice none 0 0) from rfl)
      have y4 := (HI.out.res.cell 4).trans (show _ = some (Value.slice none 0 0) from rfl)
      have f0 := HI.out.res.frozen 0
      have f1 := HI.out.res.frozen 1
      have f2 := HI.out.res.frozen 2
      have f3 := HI.out.res.frozen 3
      have f4 := HI.out.res.frozen 4
      clear hp hIt hQt
      have FIN : ∀ tm : Array Value, tm[6]? = some (.pointer (some ⟨w.heap.size, 0, none⟩)) → tm[7]? = some (.int .i64 0) →
          bodyPost Tryz.prog Tryz.f15 (RServeR (pageV items F M) 0 w) .ret { tmps := tm, defers := [] } (((((wr.setCell ⟨w.heap.size, 0, none⟩ (.int .i64 (F : Int))).setCell ⟨w.heap.size, 1, none⟩ (.int .i64 (items.length : Int))).setCell ⟨w.heap.size, 2, none⟩ (.string (bs RT))).setCell ⟨w.heap.size, 3, none⟩ (.slice Ai I.length ci)).setCell ⟨w.heap.size, 4, none⟩ (.slice Ap Q.length cp)) := fun tm h6 h7 => by
        have hT := (((((Two.refl w.heap.size w.heap.size wr).set1 0 (.int .i64 (F : Int))).set1 1 (.int .i64 (items.length : Int))).set1 2 (.string (bs RT))).set1 3 (.slice Ai I.length ci)).set1 4 (.slice Ap Q.length cp)
        have hP := HP.out.far (hT) (by omega) (by omega) (by omega) (by omega)
        have hB : Blk (((((wr.setCell ⟨w.heap.size, 0, none⟩ (.int .i64 (F : Int))).setCell ⟨w.heap.size, 1, none⟩ (.int .i64 (items.length : Int))).setCell ⟨w.heap.size, 2, none⟩ (.string (bs RT))).setCell ⟨w.heap.size, 3, none⟩ (.slice Ai I.length ci)).setCell ⟨w.heap.size, 4, none⟩ (.slice Ap Q.length cp)) w.heap.size 25 #[.int .i64 (F : Int), .int .i64 (items.length : Int), .string (bs RT), .slice Ai I.length ci, .slice Ap Q.length cp] := (((((HI.out.res.set_ 0 (.int .i64 (F : Int))).set_ 1 (.int .i64 (items.length : Int))).set_ 2 (.string (bs RT))).set_ 3 (.slice Ai I.length ci)).set_ 4 (.slice Ap Q.length cp))
        refine bodyPost_ret (results_page rfl _ _ w.heap.size h6 _ _ h7 hB rfl) rfl ⟨.slice Ai I.length ci, .slice Ap Q.length cp, ?_, ?_, ?_, HI.out.bel.trans (hT.below HI.out.bel.size (Nat.le_refl _) (Nat.le_refl _))⟩
        · unfold pageV Pg.cs; rw [HRT.out]
        · have := TextsAt.of_own hP.oi
          unfold pageV; rw [← HIE.out]; exact this
        · have := hP.paths
          unfold pageV; rw [← HIE.out, ← HQE.out]; exact this
      have HFIN := hide FIN
      clear FIN
      by_cases h : ix < items.length
      · have e3 : decide ((ix : Int) < (items.length : Int)) = true := decide_eq_true (by omega)
        have e3' : decide (ix < items.length) = true := decide_eq_true h
        have e4 : decide ((ix : Int) < (F : Int) + (M : Int)) = false := decide_eq_false (by have := HAK.out; have := HIL2.out; omega)
        have e4' : decide (ix < F + M) = false := decide_eq_false (by have := HAK.out; have := HIL2.out; omega)
        clear h
        go_wp2_with fail
        exact HFIN.out _ rfl rfl
      · have e3 : decide ((ix : Int) < (items.length : Int)) = false := decide_eq_false (by omega)
        have e3' : decide (ix < items.length) = false := decide_eq_false h
        clear h
        go_wp2_with fail
        exact HFIN.out _ rfl rfl
theorem rServe_any (items : List (List UInt8)) (hn : items.length ≤ 1000) (hx : ∀ x ∈ items, x.length ≤ 100000) (fr most : Int) (v : Value) (w : World) (hv : TextsAt w v items) :
    Calls Tryz.prog 15 #[v, .int .i64 fr, .int .i64 most] w (RServeR (serveV items fr most) (serveE items fr most) w) := by
  unfold serveV serveE
  cases h : serveB items fr most with
  | false =>
    refine (rServe_no items hn hx fr most h v w hv).mono ?_
    rintro e w' ⟨vi, vp, h1, h2, h3⟩
    exact ⟨vi, vp, h1, h2.ti, h2.tp, h3⟩
  | true =>
    have hh : 0 ≤ fr ∧ 0 ≤ most := by
      unfold serveB at h
      simp only [Bool.and_eq_true, decide_eq_true_eq] at h
      omega
    obtain ⟨F, rfl⟩ : ∃ F : Nat, fr = F := ⟨fr.toNat, by omega⟩
    obtain ⟨M, rfl⟩ : ∃ M : Nat, most = M := ⟨most.toNat, by omega⟩
    exact rServe_yes items hn hx F M h v w hv
end Go.Proofs.YtfhanbiifjiklaaGreatDoor

/- The reference's Text. -/
set_option linter.unusedVariables false
set_option linter.unusedSimpArgs false
namespace Go.Proofs.YtfhanbiifjiklaaGreatDoor
open Go.RowKit Go.Shelf

theorem cat_any (l m : List UInt8) (h : l.length + m.length ≤ 9223372036854775807) (W : World) : (Op.stringOp .add (bs l) (bs m)).run Tryz.prog W = .ok (.string (bs (l ++ m))) W := by
  have := run_string_add_sum (P := Tryz.prog) (w := W) (bs l) (bs m) (by rw [bs_size, bs_size]; exact h)
  rwa [bs_app] at this
theorem rDecB (u : Nat) (hu : u ≤ 9223372036854775807) (w : World) : Calls Tryz.prog 59 #[.int .i64 (u : Int)] w fun e w' => e = .returned (.string (bs (Lib.decDigits u))) ∧ Below w.heap.size w w' :=
  (rDecimal_any u hu w).mono fun e w' ⟨h1, h2⟩ => ⟨h1, by rw [h2]; exact Below.refl _ _⟩
/-- the text of a page up to its item k -/
def textUp (p : Pg) (k : Nat) : List UInt8 := headT p ++ (List.range k).flatMap fun j => lineT (p.items.getD j []) (p.paths.getD j [])
theorem textUp_step (p : Pg) (k : Nat) : textUp p (k + 1) = textUp p k ++ lineT (p.items.getD k []) (p.paths.getD k []) := by
  unfold textUp
  rw [List.range_succ, List.flatMap_append, List.flatMap_singleton, List.append_assoc]
theorem flat_fin {α : Type} (f : Nat → List α) : ∀ n, (List.finRange n).flatMap (fun k => f k.val) = (List.range n).flatMap f := by
  intro n
  rw [List.flatMap_def, List.flatMap_def]
  congr 1
  refine List.ext_getElem (by simp) fun i h1 h2 => ?_
  simp
theorem textUp_all (p : Pg) : textUp p p.items.length = textPg p := by
  unfold textUp textPg
  congr 1
  rw [← flat_fin]
  congr 1
  funext k
  unfold Pg.line
  congr 1
  rw [List.getD_eq_getElem?_getD, List.getElem?_eq_getElem k.isLt]; rfl
theorem dec_20 (n : Nat) (h : n < 10000000000000000000) : (Lib.decDigits n).length ≤ 20 := dec_len 19 n (by omega)
theorem head_dec {p : Pg} (h1 : 0 ≤ p.fr) (h2 : 0 ≤ p.size) : headT p = [112, 97, 103, 101, 32] ++ Lib.decDigits p.fr.toNat ++ [32] ++ Lib.decDigits p.size.toNat ++ [32] ++ p.root ++ [32] ++ Lib.decDigits p.items.length ++ [10] := by
  unfold headT
  rw [itoa_dec h1, itoa_dec h2, itoa_dec (by omega), Lib.join_cons]
  simp [Lib.joinTail]
theorem line_dec (x : List UInt8) (q : List (List UInt8)) : lineT x q = Lib.decDigits x.length ++ Lib.joinTail [32] q ++ [10] ++ x ++ [10] := by
  unfold lineT
  rw [Lib.join_cons, itoa_dec (by omega)]
  simp
theorem getD_at {α : Type} {l : List α} {k : Nat} {x d : α} (h : l[k]? = some x) : l.getD k d = x := by rw [List.getD_eq_getElem?_getD, h]; rfl
theorem textUp_len {p : Pg} (h : formedB p = true) (k : Nat) (hk : k ≤ p.items.length) : (textUp p k).length ≤ 2000000000000 := by
  obtain ⟨⟨hf, hs, hr, hn, hl⟩, _⟩ := formed_spec h
  obtain ⟨h1, h2⟩ := formed_len h
  unfold textUp
  rw [List.length_append]
  have e3 : (headT p).length ≤ 200 := by
    rw [head_dec hf.1 hs.1]
    have a1 := dec_20 p.fr.toNat (by omega)
    have a2 := dec_20 p.size.toNat (by omega)
    have a3 := dec_20 p.items.length (by omega)
    have a4 := isD_len hr
    simp only [List.length_append, List.length_cons, List.length_nil]; omega
  have e1 : ∀ k, k ≤ p.items.length → ((List.range k).flatMap fun j => lineT (p.items.getD j []) (p.paths.getD j [])).length ≤ k * 30000000000 := by
    intro k
    induction k with
    | zero => intro _; simp
    | succ k ih =>
      intro hk
      rw [List.range_succ, List.flatMap_append, List.flatMap_singleton, List.length_append]
      have e4 := ih (by omega)
      have hx : p.items[k]? = some p.items[k] := List.getElem?_eq_getElem (by omega)
      have hq : p.paths[k]? = some p.paths[k] := List.getElem?_eq_getElem (by omega)
      rw [getD_at hx, getD_at hq]
      have e5 := h1 _ (List.mem_of_getElem? hq)
      have e6 := h2 _ (List.mem_of_getElem? hx)
      have e7 := line_len p.items[k] p.paths[k] (by omega) (by omega) (fun y hy => by rw [e5.2 y hy]; decide)
      omega
  have := e1 k hk
  have : k * 30000000000 ≤ 50 * 30000000000 := Nat.mul_le_mul (by omega) (Nat.le_refl _)
  omega
set_option maxRecDepth 100000 in
set_option maxHeartbeats 4000000 in
theorem rText_no (p : Pg) (hp : p.fit) (hf : formedB p = false) (vi vp : Value) (w : World) (hvi : TextsAt w vi p.items) (hvp : PathsAt w vp p.paths) :
    Calls Tryz.prog 17 #[.agg (p.cs vi vp)] w fun e w' => e = .returned (.tuple #[.string (bs []), .int .i64 1]) ∧ Below w.heap.size w w' := by
  obtain ⟨Ai, ci, rfl, _⟩ := hvi.slice
  obtain ⟨Ap, cp, rfl, _⟩ := hvp.slice
  have hb0 := below_one w (.cells #[.int .i64 p.fr, .int .i64 p.size, .string (bs p.root), .slice Ai p.items.length ci, .slice Ap p.paths.length cp] 25)
  have CF : Calls Tryz.prog 58 #[.agg #[.int .i64 p.fr, .int .i64 p.size, .string (bs p.root), .slice Ai p.items.length ci, .slice Ap p.paths.length cp]] (w.alloc (.cells #[.int .i64 p.fr, .int .i64 p.size, .string (bs p.root), .slice Ai p.items.length ci, .slice Ap p.paths.length cp] 25)) fun e w' => e = .returned (.bool (formedB p)) ∧ Below (w.alloc (.cells #[.int .i64 p.fr, .int .i64 p.size, .string (bs p.root), .slice Ai p.items.length ci, .slice Ap p.paths.length cp] 25)).heap.size (w.alloc (.cells #[.int .i64 p.fr, .int .i64 p.size, .string (bs p.root), .slice Ai p.items.length ci, .slice Ap p.paths.length cp] 25)) w' := rFormed_any p hp _ _ _ (hvi.to hb0) (hvp.to hb0)
  rw [hf] at CF
  have HB := hide hb0
  have HX := hide (Blk.new w 25 (p.cs (.slice Ai p.items.length ci) (.slice Ap p.paths.length cp)))
  have HVI := hide hvi
  have HVP := hide hvp
  clear hvi hvp hb0 hf
  unfold Pg.cs
  go_enter Tryz.func17, Tryz.ntmps17
  go_wp2_with fail
  generalize w.alloc (.cells #[.int .i64 p.fr, .int .i64 p.size, .string (bs p.root), .slice Ai p.items.length ci, .slice Ap p.paths.length cp] 25) = w1 at *
  refine CF.mono ?_
  rintro e w2 ⟨rfl, hb⟩
  go_wp2_with fail
  go_ret2
  exact ⟨rfl, below_to HB.out (Nat.le_refl _) hb⟩
set_option maxRecDepth 100000 in
set_option maxHeartbeats 4000000 in
theorem rText_yes (p : Pg) (hp : p.fit) (hf : formedB p = true) (vi vp : Value) (w : World) (hvi : TextsAt w vi p.items) (hvp : PathsAt w vp p.paths) :
    Calls Tryz.prog 17 #[.agg (p.cs vi vp)] w fun e w' => e = .returned (.tuple #[.string (bs (textPg p)), .int .i64 0]) ∧ Below w.heap.size w w' := by
  obtain ⟨⟨hfr, hsz, hrt, hnl, hpl⟩, _⟩ := formed_spec hf
  have HUL := hide (textUp_len hf)
  have HLQ := hide (formed_len hf).1
  have HLI : Hid (∀ x ∈ p.items, x.length ≤ 20000) := (formed_len hf).2
  have HPL := hide hpl
  have HH := hide (head_dec hfr.1 hsz.1)
  obtain ⟨Ai, ci, rfl, _⟩ := hvi.slice
  obtain ⟨Ap, cp, rfl, _⟩ := hvp.slice
  have hb0 := below_one w (.cells #[.int .i64 p.fr, .int .i64 p.size, .string (bs p.root), .slice Ai p.items.length ci, .slice Ap p.paths.length cp] 25)
  have CF : Calls Tryz.prog 58 #[.agg #[.int .i64 p.fr, .int .i64 p.size, .string (bs p.root), .slice Ai p.items.length ci, .slice Ap p.paths.length cp]] (w.alloc (.cells #[.int .i64 p.fr, .int .i64 p.size, .string (bs p.root), .slice Ai p.items.length ci, .slice Ap p.paths.length cp] 25)) fun e w' => e = .returned (.bool (formedB p)) ∧ Below (w.alloc (.cells #[.int .i64 p.fr, .int .i64 p.size, .string (bs p.root), .slice Ai p.items.length ci, .slice Ap p.paths.length cp] 25)).heap.size (w.alloc (.cells #[.int .i64 p.fr, .int .i64 p.size, .string (bs p.root), .slice Ai p.items.length ci, .slice Ap p.paths.length cp] 25)) w' := rFormed_any p hp _ _ _ (hvi.to hb0) (hvp.to hb0)
  rw [hf] at CF
  have HB := hide hb0
  have HX := hide (Blk.new w 25 (p.cs (.slice Ai p.items.length ci) (.slice Ap p.paths.length cp)))
  have HVI := hide hvi
  have HVP := hide hvp
  have CD1 := fun w => by have := rDecB p.fr.toNat (by omega) w; rwa [Int.toNat_of_nonneg hfr.1] at this
  have CD2 := fun w => by have := rDecB p.size.toNat (by omega) w; rwa [Int.toNat_of_nonneg hsz.1] at this
  have CD3 := fun w => rDecB p.items.length (by omega) w
  have l1 := dec_20 p.fr.toNat (by omega)
  have l2 := dec_20 p.size.toNat (by omega)
  have l3 := dec_20 p.items.length (by omega)
  have l4 : p.root.length ≤ 16 := Nat.le_of_eq (isD_len hrt)
  obtain ⟨D1, hD1⟩ : ∃ D, Lib.decDigits p.fr.toNat = D := ⟨_, rfl⟩
  obtain ⟨D2, hD2⟩ : ∃ D, Lib.decDigits p.size.toNat = D := ⟨_, rfl⟩
  obtain ⟨D3, hD3⟩ : ∃ D, Lib.decDigits p.items.length = D := ⟨_, rfl⟩
  rw [hD1, hD2, hD3] at HH
  rw [hD1] at CD1 l1
  rw [hD2] at CD2 l2
  rw [hD3] at CD3 l3
  obtain ⟨S1, hS1⟩ : ∃ S, S = ([112, 97, 103, 101, 32] : List UInt8) ++ D1 := ⟨_, rfl⟩
  have lS1 : S1.length ≤ 30 := by rw [hS1, List.length_append]; first | omega | (simp only [List.length_cons, List.length_nil]; omega)
  have cS1 : ∀ W, (Op.stringOp .add { data := #[112, 97, 103, 101, 32] } (bs D1)).run Tryz.prog W = .ok (.string (bs S1)) W := fun W => by rw [hS1]; exact cat_any ([112, 97, 103, 101, 32] : List UInt8) D1 (by first | omega | (simp only [List.length_cons, List.length_nil]; omega)) W
  have HS1 := hide hS1
  clear hS1
  obtain ⟨S2, hS2⟩ : ∃ S, S = S1 ++ ([32] : List UInt8) := ⟨_, rfl⟩
  have lS2 : S2.length ≤ 40 := by rw [hS2, List.length_append]; first | omega | (simp only [List.length_cons, List.length_nil]; omega)
  have cS2 : ∀ W, (Op.stringOp .add (bs S1) { data := #[32] }).run Tryz.prog W = .ok (.string (bs S2)) W := fun W => by rw [hS2]; exact cat_any S1 ([32] : List UInt8) (by first | omega | (simp only [List.length_cons, List.length_nil]; omega)) W
  have HS2 := hide hS2
  clear hS2
  obtain ⟨S3, hS3⟩ : ∃ S, S = S2 ++ D2 := ⟨_, rfl⟩
  have lS3 : S3.length ≤ 60 := by rw [hS3, List.length_append]; first | omega | (simp only [List.length_cons, List.length_nil]; omega)
  have cS3 : ∀ W, (Op.stringOp .add (bs S2) (bs D2)).run Tryz.prog W = .ok (.string (bs S3)) W := fun W => by rw [hS3]; exact cat_any S2 D2 (by first | omega | (simp only [List.length_cons, List.length_nil]; omega)) W
  have HS3 := hide hS3
  clear hS3
  obtain ⟨S4, hS4⟩ : ∃ S, S = S3 ++ ([32] : List UInt8) := ⟨_, rfl⟩
  have lS4 : S4.length ≤ 70 := by rw [hS4, List.length_append]; first | omega | (simp only [List.length_cons, List.length_nil]; omega)
  have cS4 : ∀ W, (Op.stringOp .add (bs S3) { data := #[32] }).run Tryz.prog W = .ok (.string (bs S4)) W := fun W => by rw [hS4]; exact cat_any S3 ([32] : List UInt8) (by first | omega | (simp only [List.length_cons, List.length_nil]; omega)) W
  have HS4 := hide hS4
  clear hS4
  obtain ⟨S5, hS5⟩ : ∃ S, S = S4 ++ p.root := ⟨_, rfl⟩
  have lS5 : S5.length ≤ 90 := by rw [hS5, List.length_append]; first | omega | (simp only [List.length_cons, List.length_nil]; omega)
  have cS5 : ∀ W, (Op.stringOp .add (bs S4) (bs p.root)).run Tryz.prog W = .ok (.string (bs S5)) W := fun W => by rw [hS5]; exact cat_any S4 p.root (by first | omega | (simp only [List.length_cons, List.length_nil]; omega)) W
  have HS5 := hide hS5
  clear hS5
  obtain ⟨S6, hS6⟩ : ∃ S, S = S5 ++ ([32] : List UInt8) := ⟨_, rfl⟩
  have lS6 : S6.length ≤ 100 := by rw [hS6, List.length_append]; first | omega | (simp only [List.length_cons, List.length_nil]; omega)
  have cS6 : ∀ W, (Op.stringOp .add (bs S5) { data := #[32] }).run Tryz.prog W = .ok (.string (bs S6)) W := fun W => by rw [hS6]; exact cat_any S5 ([32] : List UInt8) (by first | omega | (simp only [List.length_cons, List.length_nil]; omega)) W
  have HS6 := hide hS6
  clear hS6
  obtain ⟨S7, hS7⟩ : ∃ S, S = S6 ++ D3 := ⟨_, rfl⟩
  have lS7 : S7.length ≤ 120 := by rw [hS7, List.length_append]; first | omega | (simp only [List.length_cons, List.length_nil]; omega)
  have cS7 : ∀ W, (Op.stringOp .add (bs S6) (bs D3)).run Tryz.prog W = .ok (.string (bs S7)) W := fun W => by rw [hS7]; exact cat_any S6 D3 (by first | omega | (simp only [List.length_cons, List.length_nil]; omega)) W
  have HS7 := hide hS7
  clear hS7
  obtain ⟨S8, hS8⟩ : ∃ S, S = S7 ++ ([10] : List UInt8) := ⟨_, rfl⟩
  have lS8 : S8.length ≤ 130 := by rw [hS8, List.length_append]; first | omega | (simp only [List.length_cons, List.length_nil]; omega)
  have cS8 : ∀ W, (Op.stringOp .add (bs S7) { data := #[10] }).run Tryz.prog W = .ok (.string (bs S8)) W := fun W => by rw [hS8]; exact cat_any S7 ([10] : List UInt8) (by first | omega | (simp only [List.length_cons, List.length_nil]; omega)) W
  have HS8 := hide hS8
  clear hS8
  have HHE : Hid (S8 = textUp p 0) := by
    show _ = _
    rw [HS8.out, HS7.out, HS6.out, HS5.out, HS4.out, HS3.out, HS2.out, HS1.out]
    unfold textUp
    rw [HH.out]; simp
  clear hvi hvp hb0 hf hD1 hD2 hD3 hrt hpl hfr hsz HH
  unfold Pg.cs at HX ⊢
  go_enter Tryz.func17, Tryz.ntmps17
  go_wp2_with fail
  generalize w.alloc (.cells #[.int .i64 p.fr, .int .i64 p.size, .string (bs p.root), .slice Ai p.items.length ci, .slice Ap p.paths.length cp] 25) = w1 at *
  refine CF.mono ?_
  rintro e w2 ⟨rfl, hb⟩
  have HB2 := hide hb
  clear hb CF
  go_wp2_with fail
  obtain ⟨U, hU, g, u0, e7, hgu, hi⟩ := cls w2
  subst e7
  have X0 := blk_all hgu (HX.out.to HB2.out) 0 rfl
  have X1 := blk_all hgu (HX.out.to HB2.out) 1 rfl
  have X2 := blk_all hgu (HX.out.to HB2.out) 2 rfl
  have X3 := blk_all hgu (HX.out.to HB2.out) 3 rfl
  have CC1 := cls_call hgu hi (fun w hb => CD1 w)
  have CC2 := cls_call hgu hi (fun w hb => CD2 w)
  have CC3 := cls_call hgu hi (fun w hb => CD3 w)
  have HGU := hide hgu
  have HHI := hide hi
  clear hgu hi CD1 CD2 CD3
  refine wp_region_class g (by kernel_rfl) (by kernel_rfl) (HHI.out _ (HGU.out _).drew) ?_
  repeat (go_big_quiet_step (first | with_reducible exact CC1 _ | with_reducible exact CC2 _ | with_reducible exact CC3 _))
  refine wpQuiet_nil ?_
  intro w5 hw5
  obtain ⟨u, rfl⟩ := hw5
  have HB5 := hide (below_to HB2.out (Nat.le_refl _) (HGU.out u))
  clear X0 X1 X2 X3 CC1 CC2 CC3
  go_wp2_with fail
  generalize g u = w6 at *
  go_loopw [4, 5] (fun o i wr => ∃ (k : Nat) (O : List UInt8), i = .int .i64 (k : Int) ∧ o = .string (bs O) ∧ k ≤ p.items.length ∧ Aside (O = textUp p k) ∧ Aside (Below w1.heap.size w1 wr)) (fun _ i _ => p.items.length - (intOf i).toNat)
  case atStart => exact ⟨0, S8, rfl, rfl, by omega, HHE.out, HB5.out⟩
  case round =>
    clear HHE HB5 cS1 cS2 cS3 cS4 cS5 cS6 cS7 cS8
    obtain ⟨k, O, rfl, rfl, hk, hO, hB⟩ := hrel
    have HOK : Hid (O = textUp p k) := hO
    have HBr : Hid (Below w1.heap.size w1 wr) := hB
    have hOl : O.length ≤ 2000000000000 := by rw [HOK.out]; exact HUL.out k hk
    clear hO hB
    obtain ⟨x0, x1, x2, x3, x4⟩ := page_cells (HX.out.to HBr.out)
    by_cases hlt : k < p.items.length
    · have e1 : decide ((k : Int) < (p.items.length : Int)) = true := decide_eq_true (by omega)
      obtain ⟨x, hx⟩ : ∃ x, p.items[k]? = some x := ⟨_, List.getElem?_eq_getElem hlt⟩
      obtain ⟨q, hq⟩ : ∃ q, p.paths[k]? = some q := ⟨_, List.getElem?_eq_getElem (by have := HPL.out; omega)⟩
      have HXI := hide hx
      have HQI := hide hq
      have hxl := HLI.out x (List.mem_of_getElem? hx)
      have hql := HLQ.out q (List.mem_of_getElem? hq)
      obtain ⟨ai, e9, ha, c0⟩ := (HVI.out.to (below_to HB.out (Nat.le_refl _) HBr.out)).at_ hx
      obtain ⟨aq, vq, e8, hb0, d0, htq⟩ := (HVP.out.to (below_to HB.out (Nat.le_refl _) HBr.out)).at_ hq
      subst e9 e8
      have i0 : (0 : Int) ≤ (k : Int) := by omega
      have i1 : (k : Int) < (p.items.length : Int) := by omega
      have i2 : (k : Int) < (p.paths.length : Int) := by have := HPL.out; omega
      have hxz : (bs x).size = x.length := bs_size x
      have CD := fun w => rDecimal_any x.length (by omega) w
      have hdl := dec_20 x.length (by omega)
      obtain ⟨D, hD⟩ : ∃ D, Lib.decDigits x.length = D := ⟨_, rfl⟩
      rw [hD] at CD hdl
      have HD := hide hD
      clear hx hq hD htq
      obtain ⟨B, hB⟩ : ∃ S, S = O ++ D := ⟨_, rfl⟩
      have lB : B.length ≤ 2000000000100 := by rw [hB, List.length_append]; first | omega | (simp only [List.length_cons, List.length_nil]; omega)
      have cB : ∀ W, (Op.stringOp .add (bs O) (bs D)).run Tryz.prog W = .ok (.string (bs B)) W := fun W => by rw [hB]; exact cat_any O D (by first | omega | (simp only [List.length_cons, List.length_nil]; omega)) W
      have HB0x := hide hB
      clear hB
      have HBB : Hid (B = O ++ Lib.decDigits x.length) := by show _ = _; rw [HD.out]; exact HB0x.out
      go_wp2_with ((with_reducible refine (CD _).mono ?_); rintro e w' ⟨rfl, e9⟩; have e9 := e9.symm; subst e9)
      go_loopw [4, 6] (fun o i wr => ∃ (j : Nat) (O' : List UInt8), i = .int .i64 (j : Int) ∧ o = .string (bs O') ∧ j ≤ q.length ∧ Aside (O' = B ++ Lib.joinTail [32] (q.take j)) ∧ Aside (Below w1.heap.size w1 wr)) (fun _ i _ => q.length - (intOf i).toNat)
      case atStart => exact ⟨0, B, rfl, rfl, by omega, (by show B = _; simp [Lib.joinTail]), HBr.out⟩
      case round =>
        clear x0 x1 x2 x3 x4 c0 d0 ha
        obtain ⟨j, O, rfl, rfl, hj, hO, hB⟩ := hrel
        have HO : Hid (O = B ++ Lib.joinTail [32] (q.take j)) := hO
        have HBi : Hid (Below w1.heap.size w1 wr) := hB
        have hOl : O.length ≤ 3000000000000 := by
          rw [HO.out, List.length_append]
          have h1 := tail_len 16 (q.take j) (fun y hy => by rw [hql.2 y (List.mem_of_mem_take hy)]; exact Nat.le_refl _)
          have h2 : (q.take j).length * (16 + 1) ≤ 20 * 17 := Nat.mul_le_mul (by rw [List.length_take]; omega) (Nat.le_refl _)
          omega
        clear hO hB
        obtain ⟨ab, vq, e8, hb0, d0, htq⟩ := (HVP.out.to (below_to HB.out (Nat.le_refl _) HBi.out)).at_ HQI.out
        have e8' : ab = aq := (Option.some.inj e8).symm
        subst e8'
        clear e8
        obtain ⟨Aq, cq, rfl, _⟩ := htq.slice
        obtain ⟨x0, x1, x2, x3, x4⟩ := page_cells (HX.out.to HBi.out)
        by_cases hlj : j < q.length
        · have e3 : decide ((j : Int) < (q.length : Int)) = true := decide_eq_true (by omega)
          obtain ⟨y, hy⟩ : ∃ y, q[j]? = some y := ⟨_, List.getElem?_eq_getElem hlj⟩
          have hyl := hql.2 y (List.mem_of_getElem? hy)
          have HY := hide (Lib.joinTail_take_succ [32] q j y hy)
          obtain ⟨ay, rfl, ha, y0⟩ := htq.at_ hy
          have j0 : (0 : Int) ≤ (j : Int) := by omega
          have j1 : (j : Int) < (q.length : Int) := by omega
          have hyl2 : y.length ≤ 16 := by omega
          clear hy hyl htq
          obtain ⟨T1, hT1⟩ : ∃ S, S = O ++ ([32] : List UInt8) := ⟨_, rfl⟩
          have lT1 : T1.length ≤ 3000000000100 := by rw [hT1, List.length_append]; first | omega | (simp only [List.length_cons, List.length_nil]; omega)
          have cT1 : ∀ W, (Op.stringOp .add (bs O) { data := #[32] }).run Tryz.prog W = .ok (.string (bs T1)) W := fun W => by rw [hT1]; exact cat_any O ([32] : List UInt8) (by first | omega | (simp only [List.length_cons, List.length_nil]; omega)) W
          have HT1 := hide hT1
          clear hT1
          obtain ⟨T2, hT2⟩ : ∃ S, S = T1 ++ y := ⟨_, rfl⟩
          have lT2 : T2.length ≤ 3000000000200 := by rw [hT2, List.length_append]; first | omega | (simp only [List.length_cons, List.length_nil]; omega)
          have cT2 : ∀ W, (Op.stringOp .add (bs T1) (bs y)).run Tryz.prog W = .ok (.string (bs T2)) W := fun W => by rw [hT2]; exact cat_any T1 y (by first | omega | (simp only [List.length_cons, List.length_nil]; omega)) W
          have HT2 := hide hT2
          clear hT2
          go_wp2_with fail
          refine ⟨⟨j + 1, T2, by go_num, rfl, by omega, ?_, HBi.out⟩, by simp [intOf]; omega⟩
          show _ = _
          rw [HY.out, HT2.out, HT1.out, HO.out]; simp
        · obtain rfl : j = q.length := by omega
          have e3 : decide ((q.length : Int) < (q.length : Int)) = false := by simp
          have HOE : Hid (O = B ++ Lib.joinTail [32] q) := by have := HO.out; rwa [List.take_length] at this
          obtain ⟨ai2, e9, ha, c1⟩ := (HVI.out.to (below_to HB.out (Nat.le_refl _) HBi.out)).at_ HXI.out
          have e9' : ai2 = ai := (Option.some.inj e9).symm
          subst e9'
          clear e9 htq
          obtain ⟨T1, hT1⟩ : ∃ S, S = O ++ ([10] : List UInt8) := ⟨_, rfl⟩
          have lT1 : T1.length ≤ 3000000000100 := by rw [hT1, List.length_append]; first | omega | (simp only [List.length_cons, List.length_nil]; omega)
          have cT1 : ∀ W, (Op.stringOp .add (bs O) { data := #[10] }).run Tryz.prog W = .ok (.string (bs T1)) W := fun W => by rw [hT1]; exact cat_any O ([10] : List UInt8) (by first | omega | (simp only [List.length_cons, List.length_nil]; omega)) W
          have HT1 := hide hT1
          clear hT1
          obtain ⟨T2, hT2⟩ : ∃ S, S = T1 ++ x := ⟨_, rfl⟩
          have lT2 : T2.length ≤ 3000000100200 := by rw [hT2, List.length_append]; first | omega | (simp only [List.length_cons, List.length_nil]; omega)
          have cT2 : ∀ W, (Op.stringOp .add (bs T1) (bs x)).run Tryz.prog W = .ok (.string (bs T2)) W := fun W => by rw [hT2]; exact cat_any T1 x (by first | omega | (simp only [List.length_cons, List.length_nil]; omega)) W
          have HT2 := hide hT2
          clear hT2
          obtain ⟨T3, hT3⟩ : ∃ S, S = T2 ++ ([10] : List UInt8) := ⟨_, rfl⟩
          have lT3 : T3.length ≤ 3000000200200 := by rw [hT3, List.length_append]; first | omega | (simp only [List.length_cons, List.length_nil]; omega)
          have cT3 : ∀ W, (Op.stringOp .add (bs T2) { data := #[10] }).run Tryz.prog W = .ok (.string (bs T3)) W := fun W => by rw [hT3]; exact cat_any T2 ([10] : List UInt8) (by first | omega | (simp only [List.length_cons, List.length_nil]; omega)) W
          have HT3 := hide hT3
          clear hT3
          go_wp2_with fail
          refine ⟨⟨k + 1, T3, by go_num, rfl, by omega, ?_, HBi.out⟩, by simp [intOf]; omega⟩
          show _ = _
          rw [textUp_step, getD_at HXI.out, getD_at HQI.out, line_dec, HT3.out, HT2.out, HT1.out, HOE.out, HBB.out, HOK.out]
          simp
    · obtain rfl : k = p.items.length := by omega
      have e1 : decide ((p.items.length : Int) < (p.items.length : Int)) = false := by simp
      go_wp2_with fail
      go_ret2
      exact ⟨by rw [← textUp_all, ← HOK.out]; rfl, below_to HB.out (Nat.le_refl _) HBr.out⟩
set_option maxRecDepth 100000 in
set_option maxHeartbeats 4000000 in
theorem rText_long (p : Pg) (hr : p.root.length ≤ 100000) (hl : ¬ p.items.length ≤ 50) (vi vp : Value) (w : World) (hvi : TextsAt w vi p.items) (hvp : PathsAt w vp p.paths) :
    Calls Tryz.prog 17 #[.agg (p.cs vi vp)] w fun e w' => e = .returned (.tuple #[.string (bs []), .int .i64 1]) ∧ Below w.heap.size w w' := by
  have hhd : headB p = false := by unfold headB; rw [decide_eq_false (p := p.items.length ≤ 50) hl]; simp
  obtain ⟨Ai, ci, rfl, _⟩ := hvi.slice
  obtain ⟨Ap, cp, rfl, _⟩ := hvp.slice
  have hb0 := below_one w (.cells #[.int .i64 p.fr, .int .i64 p.size, .string (bs p.root), .slice Ai p.items.length ci, .slice Ap p.paths.length cp] 25)
  have CF : Calls Tryz.prog 58 #[.agg #[.int .i64 p.fr, .int .i64 p.size, .string (bs p.root), .slice Ai p.items.length ci, .slice Ap p.paths.length cp]] (w.alloc (.cells #[.int .i64 p.fr, .int .i64 p.size, .string (bs p.root), .slice Ai p.items.length ci, .slice Ap p.paths.length cp] 25)) fun e w' => e = .returned (.bool false) ∧ Below (w.alloc (.cells #[.int .i64 p.fr, .int .i64 p.size, .string (bs p.root), .slice Ai p.items.length ci, .slice Ap p.paths.length cp] 25)).heap.size (w.alloc (.cells #[.int .i64 p.fr, .int .i64 p.size, .string (bs p.root), .slice Ai p.items.length ci, .slice Ap p.paths.length cp] 25)) w' := rFormed_no p hr hhd _ _ _ (hvi.to hb0) (hvp.to hb0)
  have HB := hide hb0
  have HX := hide (Blk.new w 25 (p.cs (.slice Ai p.items.length ci) (.slice Ap p.paths.length cp)))
  have HVI := hide hvi
  have HVP := hide hvp
  clear hvi hvp hb0 hhd hl
  unfold Pg.cs
  go_enter Tryz.func17, Tryz.ntmps17
  go_wp2_with fail
  generalize w.alloc (.cells #[.int .i64 p.fr, .int .i64 p.size, .string (bs p.root), .slice Ai p.items.length ci, .slice Ap p.paths.length cp] 25) = w1 at *
  refine CF.mono ?_
  rintro e w2 ⟨rfl, hb⟩
  go_wp2_with fail
  go_ret2
  exact ⟨rfl, below_to HB.out (Nat.le_refl _) hb⟩
theorem rText_any (p : Pg) (hp : p.fit) (vi vp : Value) (w : World) (hvi : TextsAt w vi p.items) (hvp : PathsAt w vp p.paths) :
    Calls Tryz.prog 17 #[.agg (p.cs vi vp)] w fun e w' => e = .returned (.tuple #[.string (bs (textV p)), .int .i64 (textE p)]) ∧ Below w.heap.size w w' := by
  unfold textV textE
  cases hf : formedB p with
  | false => exact rText_no p hp hf vi vp w hvi hvp
  | true => exact rText_yes p hp hf vi vp w hvi hvp
theorem rText_any2 (p : Pg) (hr : p.root.length ≤ 100000) (hp : p.items.length ≤ 50 → p.fit) (vi vp : Value) (w : World) (hvi : TextsAt w vi p.items) (hvp : PathsAt w vp p.paths) :
    Calls Tryz.prog 17 #[.agg (p.cs vi vp)] w fun e w' => e = .returned (.tuple #[.string (bs (textV p)), .int .i64 (textE p)]) ∧ Below w.heap.size w w' := by
  by_cases hl : p.items.length ≤ 50
  · exact rText_any p (hp hl) vi vp w hvi hvp
  · have hf : formedB p = false := by unfold formedB headB; rw [decide_eq_false (p := p.items.length ≤ 50) hl]; simp
    unfold textV textE
    rw [hf]
    exact rText_long p hr hl vi vp w hvi hvp
end Go.Proofs.YtfhanbiifjiklaaGreatDoor

/- The reference's reader: take, sees, bytes, number. -/
set_option linter.unusedVariables false
set_option linter.unusedSimpArgs false
namespace Go.Proofs.YtfhanbiifjiklaaGreatDoor
open Go.RowKit

theorem drewN_below (w : World) (n : Nat) : Below w.heap.size w (w.drewN n) := below_drewN (Below.refl _ _) n
/-- a reader in memory: its text, its place, whether there was an error -/
structure RdAt (b : Nat) (T : List UInt8) (a : Nat) (z : Bool) (W : World) : Prop where
  blk : Blk W b 89 #[.string (bs T), .int .i64 (a : Int), .bool z]
  le : a ≤ T.length
theorem RdAt.to {b : Nat} {T : List UInt8} {a : Nat} {z : Bool} {W W' : World} (h : RdAt b T a z W) (hb : Below W.heap.size W W') : RdAt b T a z W' := ⟨h.blk.to hb, h.le⟩
theorem RdAt.far {b : Nat} {T : List UInt8} {a : Nat} {z : Bool} {W W' : World} {p q : Nat} (h : RdAt b T a z W) (hT : Two p q W W') (h1 : b ≠ p) (h2 : b ≠ q) : RdAt b T a z W' := ⟨hT.blk h.blk h1 h2, h.le⟩
def hitB (T : List UInt8) (m a : Nat) : Bool := decide ((T[a]?).map UInt8.toNat = some m)
def tkA (T : List UInt8) (m a : Nat) : Nat := if hitB T m a then a + 1 else a
def tkZ (T : List UInt8) (m a : Nat) (z : Bool) : Bool := if hitB T m a then z else true
theorem hit_at {T : List UInt8} {m a : Nat} {c : UInt8} (h : T[a]? = some c) : hitB T m a = decide (c.toNat = m) := by unfold hitB; rw [h]; simp
theorem hit_end {T : List UInt8} {m a : Nat} (h : T.length ≤ a) : hitB T m a = false := by unfold hitB; rw [List.getElem?_eq_none h]; simp
theorem hit_lt {T : List UInt8} {m a : Nat} (h : hitB T m a = true) : a < T.length := by
  rcases Nat.lt_or_ge a T.length with h1 | h1
  · exact h1
  · rw [hit_end h1] at h; cases h
theorem tkA_le {T : List UInt8} {m a : Nat} (h : a ≤ T.length) : a ≤ tkA T m a ∧ tkA T m a ≤ T.length := by
  unfold tkA
  split
  · rename_i h1; have := hit_lt h1; omega
  · omega
set_option maxRecDepth 100000 in
set_option maxHeartbeats 2000000 in
theorem rdSees_any (b : Nat) (T : List UInt8) (hT : T.length ≤ 1000000) (a : Nat) (z : Bool) (m : Nat) (hm : m < 256) (w : World) (h : RdAt b T a z w) :
    Calls Tryz.prog 66 #[.pointer (some ⟨b, 0, none⟩), .int .u8 (m : Int)] w fun e w' => e = .returned (.bool (hitB T m a)) ∧ Below w.heap.size w w' := by
  have x0 := (h.blk.cell 0).trans (show _ = some (Value.string (bs T)) from rfl)
  have x1 := (h.blk.cell 1).trans (show _ = some (Value.int .i64 (a : Int)) from rfl)
  have hsz : (bs T).size = T.length := bs_size T
  have hle := h.le
  by_cases hlt : a < T.length
  · obtain ⟨c, hc⟩ : ∃ c, T[a]? = some c := ⟨_, List.getElem?_eq_getElem hlt⟩
    have ci := index_bs T a c hc
    have HV := hide (hit_at (m := m) hc)
    have hu := c.toNat_lt
    have e1 : decide ((a : Int) < (T.length : Int)) = true := decide_eq_true (by omega)
    have e1' : decide (a < T.length) = true := decide_eq_true hlt
    have hcm : ((c.toNat : Int) == (m : Int)) = decide (c.toNat = m) := by rw [Bool.eq_iff_iff, beq_iff_eq, decide_eq_true_eq]; omega
    clear hc h
    generalize hd : decide (c.toNat = m) = d at *
    clear hd
    go_enter Tryz.func66, Tryz.ntmps66
    go_wp2_with fail
    go_quiet (fail)
    go_wp2_with fail
    go_ret
    exact ⟨ret_bool (by rw [HV.out]), drewN_below _ _⟩
  · have HV := hide (hit_end (T := T) (m := m) (a := a) (by omega))
    have e1 : decide ((a : Int) < (T.length : Int)) = false := decide_eq_false (by omega)
    have e1' : decide (a < T.length) = false := decide_eq_false hlt
    clear h
    go_enter Tryz.func66, Tryz.ntmps66
    go_wp2_with fail
    go_quiet (fail)
    go_wp2_with fail
    go_ret
    exact ⟨ret_bool (by rw [HV.out]), drewN_below _ _⟩
theorem RdAt.bad {b : Nat} {T : List UInt8} {a : Nat} {z : Bool} {W : World} (h : RdAt b T a z W) (z' : Bool) : RdAt b T a z' (W.setCell ⟨b, 2, none⟩ (.bool z')) := ⟨h.blk.set_ 2 _, h.le⟩
theorem RdAt.move {b : Nat} {T : List UInt8} {a : Nat} {z : Bool} {W : World} (h : RdAt b T a z W) {a' : Nat} (ha : a' ≤ T.length) : RdAt b T a' z (W.setCell ⟨b, 1, none⟩ (.int .i64 (a' : Int))) := ⟨h.blk.set_ 1 _, ha⟩
set_option maxRecDepth 100000 in
set_option maxHeartbeats 2000000 in
theorem rdTake_any (b : Nat) (T : List UInt8) (hT : T.length ≤ 1000000) (a : Nat) (z : Bool) (m : Nat) (hm : m < 256) (w : World) (h : RdAt b T a z w) :
    Calls Tryz.prog 65 #[.pointer (some ⟨b, 0, none⟩), .int .u8 (m : Int)] w fun e w' => e = .returned (.tuple #[]) ∧ RdAt b T (tkA T m a) (tkZ T m a z) w' ∧ Two b b w w' := by
  have x0 := (h.blk.cell 0).trans (show _ = some (Value.string (bs T)) from rfl)
  have x1 := (h.blk.cell 1).trans (show _ = some (Value.int .i64 (a : Int)) from rfl)
  have x2 := (h.blk.cell 2).trans (show _ = some (Value.bool z) from rfl)
  have f1 := h.blk.frozen 1
  have f2 := h.blk.frozen 2
  have hsz : (bs T).size = T.length := bs_size T
  have hle := h.le
  have HR := hide h
  by_cases hlt : a < T.length
  · obtain ⟨c, hc⟩ : ∃ c, T[a]? = some c := ⟨_, List.getElem?_eq_getElem hlt⟩
    have ci := index_bs T a c hc
    have HV := hide (hit_at (m := m) hc)
    have hu := c.toNat_lt
    have e1 : decide ((T.length : Int) ≤ (a : Int)) = false := decide_eq_false (by omega)
    have e1' : decide (T.length ≤ a) = false := decide_eq_false (by omega)
    by_cases hcm : c.toNat = m
    · have e2 : ((c.toNat : Int) != (m : Int)) = false := by rw [hcm]; simp
      have HA : Hid (tkA T m a = a + 1 ∧ tkZ T m a z = z) := by
        have h2 := HV.out
        rw [decide_eq_true hcm] at h2
        unfold tkA tkZ; rw [h2]; exact ⟨rfl, rfl⟩
      clear hc h hcm
      go_enter Tryz.func65, Tryz.ntmps65
      go_wp2_with fail
      go_quiet (fail)
      go_wp2_with fail
      first | go_end0 | ((try simp only [Exit.inBlock, Exit.then]); refine bodyPost_ret (results_none rfl _ _ _) rfl ?_)
      refine ⟨rfl, ?_, ?_⟩
      · rw [HA.out.1, HA.out.2]
        have := (HR.out.to (drewN_below w nq)).move (a' := a + 1) (by omega)
        exact this
      · exact (Two.of (drewN_below w nq)).set1 1 _
    · have e2 : ((c.toNat : Int) != (m : Int)) = true := by rw [bne_iff_ne]; omega
      have HA : Hid (tkA T m a = a ∧ tkZ T m a z = true) := by
        have h2 := HV.out
        rw [decide_eq_false hcm] at h2
        unfold tkA tkZ; rw [h2]; exact ⟨rfl, rfl⟩
      clear hc h hcm
      go_enter Tryz.func65, Tryz.ntmps65
      go_wp2_with fail
      go_quiet (fail)
      go_wp2_with fail
      first | go_end0 | ((try simp only [Exit.inBlock, Exit.then]); refine bodyPost_ret (results_none rfl _ _ _) rfl ?_)
      refine ⟨rfl, ?_, ?_⟩
      · rw [HA.out.1, HA.out.2]
        exact (HR.out.to (drewN_below w nq)).bad true
      · exact (Two.of (drewN_below w nq)).set1 2 _
  · have HV := hide (hit_end (T := T) (m := m) (a := a) (by omega))
    have e1 : decide ((T.length : Int) ≤ (a : Int)) = true := decide_eq_true (by omega)
    have e1' : decide (T.length ≤ a) = true := decide_eq_true (by omega)
    have HA : Hid (tkA T m a = a ∧ tkZ T m a z = true) := by
      have h2 := HV.out
      unfold tkA tkZ; rw [h2]; exact ⟨rfl, rfl⟩
    clear h
    go_enter Tryz.func65, Tryz.ntmps65
    go_wp2_with fail
    go_quiet (fail)
    go_wp2_with fail
    first | go_end0 | ((try simp only [Exit.inBlock, Exit.then]); refine bodyPost_ret (results_none rfl _ _ _) rfl ?_)
    refine ⟨rfl, ?_, ?_⟩
    · rw [HA.out.1, HA.out.2]
      exact (HR.out.to (drewN_below w nq)).bad true
    · exact (Two.of (drewN_below w nq)).set1 2 _
def byL (T : List UInt8) (n a : Nat) : Bool := decide (T.length - a < n)
def byS (T : List UInt8) (n a : Nat) : List UInt8 := if byL T n a then [] else (T.drop a).take n
def byA (T : List UInt8) (n a : Nat) : Nat := if byL T n a then a else a + n
def byZ (T : List UInt8) (n a : Nat) (z : Bool) : Bool := if byL T n a then true else z
set_option maxRecDepth 100000 in
set_option maxHeartbeats 2000000 in
theorem rdBytes_any (b : Nat) (T : List UInt8) (hT : T.length ≤ 1000000) (a : Nat) (z : Bool) (n : Nat) (hn : n ≤ 1000000000000000000) (w : World) (h : RdAt b T a z w) :
    Calls Tryz.prog 63 #[.pointer (some ⟨b, 0, none⟩), .int .i64 (n : Int)] w fun e w' => e = .returned (.string (bs (byS T n a))) ∧ RdAt b T (byA T n a) (byZ T n a z) w' ∧ Two b b w w' := by
  have x0 := (h.blk.cell 0).trans (show _ = some (Value.string (bs T)) from rfl)
  have x1 := (h.blk.cell 1).trans (show _ = some (Value.int .i64 (a : Int)) from rfl)
  have x2 := (h.blk.cell 2).trans (show _ = some (Value.bool z) from rfl)
  have f1 := h.blk.frozen 1
  have f2 := h.blk.frozen 2
  have hsz : (bs T).size = T.length := bs_size T
  have hle := h.le
  have HR := hide h
  have hwr : IntKind.i64.wrap ((T.length : Int) - (a : Int)) = (T.length : Int) - (a : Int) := IntWalk.i64_in _ (by omega)
  by_cases hlt : T.length - a < n
  · have HA : Hid (byS T n a = [] ∧ byA T n a = a ∧ byZ T n a z = true) := by
      unfold byS byA byZ byL; rw [decide_eq_true hlt]; exact ⟨rfl, rfl, rfl⟩
    have e1 : decide ((T.length : Int) - (a : Int) < (n : Int)) = true := decide_eq_true (by omega)
    clear h hlt
    go_enter Tryz.func63, Tryz.ntmps63
    go_wp2_with fail
    go_quiet (fail)
    go_wp2_with fail
    go_ret
    refine ⟨by rw [HA.out.1]; rfl, ?_, ?_⟩
    · rw [HA.out.2.1, HA.out.2.2]
      exact (HR.out.to (drewN_below w nq)).bad true
    · exact (Two.of (drewN_below w nq)).set1 2 _
  · have HA : Hid (byS T n a = (T.drop a).take n ∧ byA T n a = a + n ∧ byZ T n a z = z) := by
      unfold byS byA byZ byL; rw [decide_eq_false hlt]; exact ⟨rfl, rfl, rfl⟩
    have e1 : decide ((T.length : Int) - (a : Int) < (n : Int)) = false := decide_eq_false (by omega)
    have hw2 : IntKind.i64.wrap ((a : Int) + (n : Int)) = ((a + n : Nat) : Int) := by rw [IntWalk.i64_in _ (by omega)]; push_cast; rfl
    have hw3 : IntKind.i64.wrap (((a + n : Nat) : Int) - (n : Int)) = (a : Int) := by rw [IntWalk.i64_in _ (by omega)]; omega
    have h1 : a + n ≤ T.length := by omega
    have HC : Hid ((bs T).extract a (a + n) = bs ((T.drop a).take n)) := by show _ = _; rw [bs_cut]; congr 2; omega
    clear h hlt
    go_enter Tryz.func63, Tryz.ntmps63
    go_wp2_with fail
    go_quiet (fail)
    go_wp2_with fail
    have HR2 := hide ((HR.out.to (drewN_below w nq)).move (a' := a + n) h1)
    have hae : (a : Int) + (n : Int) = ((a + n : Nat) : Int) := by push_cast; rfl
    have HT2 := hide ((Two.of (p := b) (q := b) (drewN_below w nq)).set1 1 (.int .i64 ((a + n : Nat) : Int)))
    simp only [hae] at *
    clear hae
    generalize (w.drewN nq).setCell ⟨b, 1, none⟩ (.int .i64 ((a + n : Nat) : Int)) = W at *
    have x0 := (HR2.out.blk.cell 0).trans (show _ = some (Value.string (bs T)) from rfl)
    have x1 := (HR2.out.blk.cell 1).trans (show _ = some (Value.int .i64 ((a + n : Nat) : Int)) from rfl)
    have h2 : (a : Int) ≤ ((a + n : Nat) : Int) := by omega
    have h3 : ((a + n : Nat) : Int) ≤ (T.length : Int) := by omega
    clear hle
    obtain ⟨m, hm⟩ : ∃ m, a + n = m := ⟨_, rfl⟩
    rw [hm] at hw3 h1 x1 h2 h3 HC HR2
    go_quiet (fail)
    go_wp2_with fail
    go_ret
    refine ⟨by rw [HA.out.1, ← HC.out]; rfl, ?_, HT2.out.to (drewN_below W _)⟩
    rw [HA.out.2.1, HA.out.2.2, hm]
    exact HR2.out.to (drewN_below W _)
def isDgB (c : UInt8) : Bool := decide (48 ≤ c.toNat) && decide (c.toNat ≤ 57)
def dgN (T : List UInt8) (a : Nat) : Nat := (((T.drop a).take 18).takeWhile isDgB).length
def nuV (T : List UInt8) (a : Nat) : Nat := valD 0 ((T.drop a).take (dgN T a))
def nuZ (T : List UInt8) (a : Nat) (z : Bool) : Bool := z || decide (dgN T a = 0)
theorem tw_at {α : Type} (p : α → Bool) : ∀ (l : List α) (k : Nat), k < (l.takeWhile p).length → ∃ c, l[k]? = some c ∧ p c = true
  | [], k, h => by simp at h
  | x :: l, k, h => by
    rw [List.takeWhile_cons] at h
    split at h
    · rename_i hx
      cases k with
      | zero => exact ⟨x, rfl, hx⟩
      | succ k => exact tw_at p l k (by simpa using h)
    · simp at h
theorem tw_end {α : Type} (p : α → Bool) : ∀ (l : List α) (c : α), l[(l.takeWhile p).length]? = some c → p c = false
  | [], c, h => by simp at h
  | x :: l, c, h => by
    rw [List.takeWhile_cons] at h
    split at h
    · exact tw_end p l c (by simpa using h)
    · rename_i hx
      simp at h; subst h; simpa using hx
theorem dg_le (T : List UInt8) (a : Nat) : dgN T a ≤ 18 ∧ dgN T a ≤ T.length - a := by
  have h1 : dgN T a ≤ ((T.drop a).take 18).length := (List.takeWhile_sublist _).length_le
  rw [List.length_take, List.length_drop] at h1
  omega
theorem dg_at {T : List UInt8} {a k : Nat} (h : k < dgN T a) : ∃ c, T[a + k]? = some c ∧ 48 ≤ c.toNat ∧ c.toNat ≤ 57 := by
  obtain ⟨c, h1, h2⟩ := tw_at isDgB _ k h
  have h18 := (dg_le T a).1
  rw [List.getElem?_take_of_lt (by omega), List.getElem?_drop] at h1
  unfold isDgB at h2
  simp only [Bool.and_eq_true, decide_eq_true_eq] at h2
  exact ⟨c, h1, h2⟩
theorem dg_end {T : List UInt8} {a : Nat} (h18 : dgN T a < 18) {c : UInt8} (h : T[a + dgN T a]? = some c) : ¬ (48 ≤ c.toNat ∧ c.toNat ≤ 57) := by
  have := tw_end isDgB ((T.drop a).take 18) c (by
    show ((T.drop a).take 18)[dgN T a]? = _
    rw [List.getElem?_take_of_lt h18, List.getElem?_drop]; exact h)
  unfold isDgB at this
  intro ⟨h1, h2⟩
  rw [decide_eq_true h1, decide_eq_true h2] at this; cases this
theorem valD_lt : ∀ (l : List UInt8) (acc : Nat), (∀ c ∈ l, c.toNat ≤ 57) → valD acc l < (acc + 1) * 10 ^ l.length
  | [], acc, _ => by simp [valD]
  | c :: l, acc, h => by
    have h1 := h c (List.mem_cons_self ..)
    have h2 := valD_lt l (acc * 10 + (c.toNat - 48)) (fun d hd => h d (List.mem_cons_of_mem _ hd))
    show valD (acc * 10 + (c.toNat - 48)) l < _
    rw [List.length_cons, Nat.pow_succ]
    have h3 : (acc * 10 + (c.toNat - 48) + 1) * 10 ^ l.length ≤ ((acc + 1) * 10) * 10 ^ l.length := Nat.mul_le_mul_right _ (by omega)
    rw [show (acc + 1) * (10 ^ l.length * 10) = ((acc + 1) * 10) * 10 ^ l.length by rw [Nat.mul_assoc, Nat.mul_comm (10 ^ l.length) 10, ← Nat.mul_assoc]]
    omega
theorem dg_val {T : List UInt8} {a k : Nat} (h : k ≤ dgN T a) : valD 0 ((T.drop a).take k) < 10 ^ k := by
  have hl := (dg_le T a).2
  have := valD_lt ((T.drop a).take k) 0 (fun c hc => by
    obtain ⟨i, hi, rfl⟩ := List.getElem_of_mem hc
    rw [List.length_take, List.length_drop] at hi
    obtain ⟨d, h1, h2⟩ := dg_at (T := T) (a := a) (k := i) (by omega)
    have h3 : ((T.drop a).take k)[i]? = some d := by rw [List.getElem?_take_of_lt (by omega), List.getElem?_drop]; exact h1
    rw [List.getElem?_eq_getElem (by rw [List.length_take, List.length_drop]; exact hi)] at h3
    rw [Option.some.inj h3]; exact h2.2)
  rw [List.length_take, List.length_drop] at this
  rw [Nat.zero_add, Nat.one_mul, Nat.min_eq_left (by omega)] at this
  exact this
theorem dg_step {T : List UInt8} {a k : Nat} {c : UInt8} (h : T[a + k]? = some c) : valD 0 ((T.drop a).take (k + 1)) = valD 0 ((T.drop a).take k) * 10 + (c.toNat - 48) := by
  rw [List.take_add_one, List.getElem?_drop, h]
  exact valD_snoc 0 _ c
/-- the place of a reader in memory -/
def rdPos (b : Nat) (w : World) : Nat := match w.cell? ⟨b, 1, none⟩ with | some (.int _ k) => k.toNat | _ => 0
theorem RdAt.pos {b : Nat} {T : List UInt8} {a : Nat} {z : Bool} {W : World} (h : RdAt b T a z W) : rdPos b W = a := by
  unfold rdPos
  rw [(h.blk.cell 1).trans (show _ = some (Value.int .i64 (a : Int)) from rfl)]
  simp
set_option maxRecDepth 100000 in
set_option maxHeartbeats 4000000 in
theorem rdNumber_any (b : Nat) (T : List UInt8) (hT : T.length ≤ 1000000) (a : Nat) (z : Bool) (w : World) (h : RdAt b T a z w) :
    Calls Tryz.prog 64 #[.pointer (some ⟨b, 0, none⟩)] w fun e w' => e = .returned (.int .i64 ((nuV T a : Nat) : Int)) ∧ RdAt b T (a + dgN T a) (nuZ T a z) w' ∧ Two b b w w' := by
  have x1 := (h.blk.cell 1).trans (show _ = some (Value.int .i64 (a : Int)) from rfl)
  have hsz : (bs T).size = T.length := bs_size T
  have hle := h.le
  have HR := hide h
  have HDL := hide (dg_le T a)
  have HN : Hid (nuV T a = valD 0 ((T.drop a).take (dgN T a))) := rfl
  have HZ : Hid (nuZ T a z = (z || decide (dgN T a = 0))) := rfl
  obtain ⟨G, hG⟩ : ∃ G, dgN T a = G := ⟨_, rfl⟩
  have HG := hide hG
  have hG18 : G ≤ 18 := by rw [← hG]; exact (dg_le T a).1
  have hGT : a + G ≤ T.length := by rw [← hG]; have := (dg_le T a).2; omega
  have HAT : Hid (∀ k, k < G → ∃ c : UInt8, T[a + k]? = some c ∧ 48 ≤ c.toNat ∧ c.toNat ≤ 57) := fun k hk => dg_at (by rw [hG]; exact hk)
  have HEN : Hid (G < 18 → ∀ c : UInt8, T[a + G]? = some c → ¬ (48 ≤ c.toNat ∧ c.toNat ≤ 57)) := fun h c hc => by rw [← hG] at h hc; exact dg_end h hc
  have HVL : Hid (∀ k, k ≤ G → valD 0 ((T.drop a).take k) < 10 ^ k) := fun k hk => dg_val (by rw [hG]; exact hk)
  rw [hG] at HN HZ ⊢
  clear h hG
  go_enter Tryz.func64, Tryz.ntmps64
  go_wp2_with fail
  clear x1
  go_loopw [3] (fun n wr => ∃ (k V : Nat), n = .int .i64 (V : Int) ∧ k ≤ G ∧ Aside (V = valD 0 ((T.drop a).take k)) ∧ Aside (RdAt b T (a + k) z wr) ∧ Aside (Two b b w wr)) (fun _ wr => T.length - rdPos b wr)
  case atStart => exact ⟨0, 0, rfl, by omega, (by show 0 = _; rfl), HR.out, Two.refl _ _ _⟩
  case round =>
    obtain ⟨k, V, rfl, hk, hV, hR, hT2⟩ := hrel
    have HV : Hid (V = valD 0 ((T.drop a).take k)) := hV
    have HRr : Hid (RdAt b T (a + k) z wr) := hR
    have HTr : Hid (Two b b w wr) := hT2
    clear hV hR hT2
    have HVB : Hid (∀ n, k ≤ n → V < 10 ^ n) := fun n hn => by
      rw [HV.out]
      exact Nat.lt_of_lt_of_le (HVL.out k hk) (Nat.pow_le_pow_right (by decide) hn)
    obtain ⟨p, hp⟩ : ∃ p, a + k = p := ⟨_, rfl⟩
    have HP := hide hp
    rw [hp] at HRr
    have x0 := (HRr.out.blk.cell 0).trans (show _ = some (Value.string (bs T)) from rfl)
    have x1 := (HRr.out.blk.cell 1).trans (show _ = some (Value.int .i64 (p : Int)) from rfl)
    have x2 := (HRr.out.blk.cell 2).trans (show _ = some (Value.bool z) from rfl)
    have f1 := HRr.out.blk.frozen 1
    have f2 := HRr.out.blk.frozen 2
    have hw18 : IntKind.i64.wrap ((a : Int) + 18) = (a : Int) + 18 := IntWalk.i64_in _ (by omega)
    by_cases hlt : k < G
    · have hVb : V < 100000000000000000 := HVB.out 17 (by omega)
      obtain ⟨c, hc, hc1, hc2⟩ := HAT.out k hlt
      have HS := hide (dg_step (a := a) hc)
      rw [hp] at hc
      have hu := c.toNat_lt
      have ci := index_bs T p c hc
      have hpl : p + 1 ≤ T.length := by omega
      have e1 : decide ((p : Int) < (T.length : Int)) = true := decide_eq_true (by omega)
      have e1' : decide (p < T.length) = true := decide_eq_true (by omega)
      have e2 : decide ((p : Int) < (a : Int) + 18) = true := decide_eq_true (by omega)
      clear hc hp
      obtain ⟨m, hm⟩ : ∃ m, c.toNat = m := ⟨_, rfl⟩
      rw [hm] at HS ci hc1 hc2 hu
      clear hm
      have e3 : decide ((48 : Int) ≤ (m : Int)) = true := decide_eq_true (by omega)
      have e3' : decide (48 ≤ m) = true := decide_eq_true (by omega)
      have e4 : decide ((m : Int) ≤ 57) = true := decide_eq_true (by omega)
      have e4' : decide (m ≤ 57) = true := decide_eq_true (by omega)
      obtain ⟨q, hq⟩ : ∃ q, m = q + 48 := ⟨m - 48, by omega⟩
      have w1 : IntKind.u8.wrap ((m : Int) - 48) = (q : Int) := by
        have : ((m : Int) - 48) % 256 = (q : Int) := by omega
        simp [IntKind.wrap, IntKind.signed, IntKind.bits, this]
      have w2 : IntKind.i64.wrap (10 * (V : Int)) = 10 * (V : Int) := IntWalk.i64_in _ (by omega)
      have w3 : IntKind.i64.wrap (10 * (V : Int) + (q : Int)) = ((V * 10 + q : Nat) : Int) := by rw [IntWalk.i64_in _ (by omega)]; push_cast; omega
      have w4 : IntKind.i64.wrap (q : Int) = (q : Int) := IntWalk.i64_in _ (by omega)
      have HQ := hide hq
      have hk2 : k + 1 ≤ G := hlt
      clear hq hlt
      go_wp2_with fail
      go_quiet (fail)
      rename Nat => nq1
      go_wp2_with fail
      go_quiet (fail)
      go_wp2_with fail
      have hmv := (HRr.out.to (drewN_below wr (nq1 + nq))).move (a' := p + 1) hpl
      have HMV := hide hmv
      have hk1 : a + (k + 1) = p + 1 := by have := HP.out; omega
      refine ⟨⟨k + 1, V * 10 + q, by go_num, by omega, ?_, ?_, ?_⟩, ?_⟩
      · show _ = _
        rw [HS.out, ← HV.out, HQ.out]; omega
      · show RdAt _ _ _ _ _
        rw [hk1]; exact HMV.out
      · exact (HTr.out.trans (Two.of (drewN_below wr (nq1 + nq)))).set1 1 _
      · have h1 := HMV.out.pos
        have h2 := HRr.out.pos
        have h3 : rdPos b ((wr.drewN (nq1 + nq)).setCell ⟨b, 1, none⟩ (.int .i64 ((p : Int) + 1))) = p + 1 := h1
        rw [h3, h2]; omega
    · obtain rfl : k = G := by omega
      have hVb : V < 1000000000000000000 := HVB.out 18 (by omega)
      have e5 : ((p : Int) == (a : Int)) = decide (k = 0) := by rw [Bool.eq_iff_iff, beq_iff_eq, decide_eq_true_eq]; omega
      have HEN2 : Hid (k < 18 → ∀ c : UInt8, T[p]? = some c → ¬ (48 ≤ c.toNat ∧ c.toNat ≤ 57)) := by rw [hp] at HEN; exact HEN
      obtain ⟨y, hy⟩ : ∃ y, decide (k = 0) = y := ⟨_, rfl⟩
      have HY := hide hy
      rw [hy] at e5 HZ
      have hnp : a ≤ p := by omega
      have h18 : k < 18 ∨ ¬ p < a + 18 := by omega
      clear hp hy hlt hk hG18 hGT
      by_cases hpt : p < T.length
      · obtain ⟨c, hc⟩ : ∃ c, T[p]? = some c := ⟨_, List.getElem?_eq_getElem hpt⟩
        have hu := c.toNat_lt
        have ci := index_bs T p c hc
        have e1 : decide ((p : Int) < (T.length : Int)) = true := decide_eq_true (by omega)
        have e1' : decide (p < T.length) = true := decide_eq_true (by omega)
        have HC := hide hc
        clear hc
        by_cases hp18 : p < a + 18
        · have e2 : decide ((p : Int) < (a : Int) + 18) = true := decide_eq_true (by omega)
          have hcd := HEN2.out (by omega) c HC.out
          obtain ⟨m, hm⟩ : ∃ m, c.toNat = m := ⟨_, rfl⟩
          rw [hm] at ci hcd hu
          clear hm HC
          by_cases h48 : 48 ≤ m
          · have e3 : decide ((48 : Int) ≤ (m : Int)) = true := decide_eq_true (by omega)
            have e3' : decide (48 ≤ m) = true := decide_eq_true (by omega)
            have e4 : decide ((m : Int) ≤ 57) = false := decide_eq_false (by omega)
            have e4' : decide (m ≤ 57) = false := decide_eq_false (by omega)
            clear hcd h48 hp18
            go_wp2_with fail
            go_quiet (fail)
            cases z
            · cases y
              all_goals
                go_wp2_with fail
                go_ret
                refine ⟨by rw [HN.out, ← HV.out]; rfl, ?_, (HTr.out.trans (Two.of (drewN_below wr nq))).set1 2 _⟩
                rw [HP.out, HZ.out]
                exact (HRr.out.to (drewN_below wr nq)).bad _
            · go_wp2_with fail
              go_ret
              refine ⟨by rw [HN.out, ← HV.out]; rfl, ?_, (HTr.out.trans (Two.of (drewN_below wr nq))).set1 2 _⟩
              rw [HP.out, HZ.out]
              exact (HRr.out.to (drewN_below wr nq)).bad true
          · have e3 : decide ((48 : Int) ≤ (m : Int)) = false := decide_eq_false (by omega)
            have e3' : decide (48 ≤ m) = false := decide_eq_false (by omega)
            clear hcd h48 hp18
            go_wp2_with fail
            go_quiet (fail)
            cases z
            · cases y
              all_goals
                go_wp2_with fail
                go_ret
                refine ⟨by rw [HN.out, ← HV.out]; rfl, ?_, (HTr.out.trans (Two.of (drewN_below wr nq))).set1 2 _⟩
                rw [HP.out, HZ.out]
                exact (HRr.out.to (drewN_below wr nq)).bad _
            · go_wp2_with fail
              go_ret
              refine ⟨by rw [HN.out, ← HV.out]; rfl, ?_, (HTr.out.trans (Two.of (drewN_below wr nq))).set1 2 _⟩
              rw [HP.out, HZ.out]
              exact (HRr.out.to (drewN_below wr nq)).bad true
        · have e2 : decide ((p : Int) < (a : Int) + 18) = false := decide_eq_false (by omega)
          clear hp18 HC
          go_wp2_with fail
          go_quiet (fail)
          cases z
          · cases y
            all_goals
              go_wp2_with fail
              go_ret
              refine ⟨by rw [HN.out, ← HV.out]; rfl, ?_, (HTr.out.trans (Two.of (drewN_below wr nq))).set1 2 _⟩
              rw [HP.out, HZ.out]
              exact (HRr.out.to (drewN_below wr nq)).bad _
          · go_wp2_with fail
            go_ret
            refine ⟨by rw [HN.out, ← HV.out]; rfl, ?_, (HTr.out.trans (Two.of (drewN_below wr nq))).set1 2 _⟩
            rw [HP.out, HZ.out]
            exact (HRr.out.to (drewN_below wr nq)).bad true
      · have e1 : decide ((p : Int) < (T.length : Int)) = false := decide_eq_false (by omega)
        have e1' : decide (p < T.length) = false := decide_eq_false (by omega)
        clear hpt
        go_wp2_with fail
        go_quiet (fail)
        cases z
        · cases y
          all_goals
            go_wp2_with fail
            go_ret
            refine ⟨by rw [HN.out, ← HV.out]; rfl, ?_, (HTr.out.trans (Two.of (drewN_below wr nq))).set1 2 _⟩
            rw [HP.out, HZ.out]
            exact (HRr.out.to (drewN_below wr nq)).bad _
        · go_wp2_with fail
          go_ret
          refine ⟨by rw [HN.out, ← HV.out]; rfl, ?_, (HTr.out.trans (Two.of (drewN_below wr nq))).set1 2 _⟩
          rw [HP.out, HZ.out]
          exact (HRr.out.to (drewN_below wr nq)).bad true
end Go.Proofs.YtfhanbiifjiklaaGreatDoor

/- Plain laws: the reference's reader on the text of a page. -/
set_option linter.unusedVariables false
set_option linter.unusedSimpArgs false
namespace Go.Proofs.YtfhanbiifjiklaaGreatDoor
open Go.RowKit

theorem at_mid {A B : List UInt8} {c : UInt8} : (A ++ c :: B)[A.length]? = some c := by rw [List.getElem?_append_right (Nat.le_refl _)]; simp
theorem hit_yes {T A B : List UInt8} {c : UInt8} (h : T = A ++ c :: B) : hitB T c.toNat A.length = true := by
  rw [hit_at (c := c) (by rw [h]; exact at_mid), decide_eq_true rfl]
theorem hit_no {T A B : List UInt8} {c : UInt8} {m : Nat} (h : T = A ++ c :: B) (hm : c.toNat ≠ m) : hitB T m A.length = false := by
  rw [hit_at (c := c) (by rw [h]; exact at_mid), decide_eq_false hm]
theorem tk_yes {T A B : List UInt8} {c : UInt8} (h : T = A ++ c :: B) (z : Bool) : tkA T c.toNat A.length = (A ++ [c]).length ∧ tkZ T c.toNat A.length z = z := by
  unfold tkA tkZ
  rw [hit_yes h]; simp
theorem by_yes {T A X B : List UInt8} (h : T = A ++ (X ++ B)) (z : Bool) : byS T X.length A.length = X ∧ byA T X.length A.length = (A ++ X).length ∧ byZ T X.length A.length z = z := by
  have hl : byL T X.length A.length = false := by
    unfold byL; rw [h]; simp
  unfold byS byA byZ
  rw [hl]
  refine ⟨?_, by simp, rfl⟩
  rw [h]; simp
theorem tw_app {α : Type} (p : α → Bool) : ∀ (l m : List α), (∀ x ∈ l, p x = true) → (∀ c, m.head? = some c → p c = false) → (l ++ m).takeWhile p = l
  | [], m, _, h => by
    cases m with
    | nil => rfl
    | cons c m => rw [List.nil_append, List.takeWhile_cons, h c rfl]; rfl
  | x :: l, m, h1, h2 => by
    rw [List.cons_append, List.takeWhile_cons, h1 x (List.mem_cons_self ..), if_pos rfl, tw_app p l m (fun y hy => h1 y (List.mem_cons_of_mem _ hy)) h2]
theorem dec_18 {n : Nat} (h : n < 1000000000000000000) : (Lib.decDigits n).length ≤ 18 := dec_len 17 n h
theorem num_yes {T A B : List UInt8} {n : Nat} (hn : n < 1000000000000000000) (h : T = A ++ (Lib.decDigits n ++ B)) (hB : ∀ c, B.head? = some c → ¬ (48 ≤ c.toNat ∧ c.toNat ≤ 57)) (z : Bool) :
    nuV T A.length = n ∧ A.length + dgN T A.length = (A ++ Lib.decDigits n).length ∧ nuZ T A.length z = z := by
  have hd : T.drop A.length = Lib.decDigits n ++ B := by rw [h]; simp
  have h18 := dec_18 hn
  have hdg : ∀ c ∈ Lib.decDigits n, isDgB c = true := fun c hc => by
    have := dec_dg n c hc
    unfold isDg at this
    unfold isDgB
    rw [decide_eq_true this.1, decide_eq_true this.2]; rfl
  have hl : dgN T A.length = (Lib.decDigits n).length := by
    unfold dgN
    rw [hd, List.take_append, List.take_of_length_le h18, tw_app isDgB _ _ hdg (fun c hc => ?_)]
    have hb : B.head? = some c := by
      cases B with
      | nil => simp at hc
      | cons b B =>
        cases hk : 18 - (Lib.decDigits n).length with
        | zero => rw [hk] at hc; simp at hc
        | succ k => rw [hk] at hc; simpa using hc
    have := hB c hb
    unfold isDgB
    rcases Nat.lt_or_ge c.toNat 48 with h1 | h1
    · rw [decide_eq_false (by omega)]; rfl
    · rw [decide_eq_false (p := c.toNat ≤ 57) (by omega), Bool.and_false]
  have hne := dec_ne' n
  have hpos : 0 < (Lib.decDigits n).length := List.length_pos_iff.2 hne
  refine ⟨?_, by rw [hl, List.length_append], ?_⟩
  · unfold nuV
    rw [hl, hd, List.take_left' rfl]
    exact valD_dec n
  · unfold nuZ
    rw [hl, decide_eq_false (by omega), Bool.or_false]
/-- a text that a formed page has begins with its items up to k -/
theorem textUp_pre (p : Pg) : ∀ (m k : Nat), k ≤ m → ∃ B, textUp p m = textUp p k ++ B
  | 0, k, h => ⟨[], by obtain rfl : k = 0 := (by omega); simp⟩
  | m + 1, k, h => by
    rcases Nat.lt_or_ge k (m + 1) with hk | hk
    · obtain ⟨B, hB⟩ := textUp_pre p m k (by omega)
      exact ⟨B ++ lineT (p.items.getD m []) (p.paths.getD m []), by rw [textUp_step, hB, List.append_assoc]⟩
    · obtain rfl : k = m + 1 := (by omega)
      exact ⟨[], by simp⟩
/-- the parts of a page's text at its item k -/
theorem text_line {T : List UInt8} {p : Pg} (hT : textPg p = T) {k : Nat} {x : List UInt8} {q : List (List UInt8)} (hx : p.items[k]? = some x) (hq : p.paths[k]? = some q) :
    ∃ B, T = textUp p k ++ (Lib.decDigits x.length ++ (Lib.joinTail [32] q ++ (10 :: (x ++ (10 :: B))))) ∧ textUp p (k + 1) = textUp p k ++ Lib.decDigits x.length ++ Lib.joinTail [32] q ++ [10] ++ x ++ [10] := by
  have hk := (List.getElem?_eq_some_iff.1 hx).1
  have hs := textUp_step p k
  rw [getD_at hx, getD_at hq, line_dec] at hs
  obtain ⟨B, hB⟩ := textUp_pre p p.items.length (k + 1) hk
  refine ⟨B, ?_, by rw [hs]; simp⟩
  rw [← hT, ← textUp_all, hB, hs]; simp
theorem head0 (p : Pg) : textUp p 0 = headT p := by unfold textUp; simp
/-- the parts of a page's text: its head -/
theorem text_head {T : List UInt8} {p : Pg} (hf : formedB p = true) (hT : textPg p = T) :
    ∃ B, T = [112, 97, 103, 101, 32] ++ (Lib.decDigits p.fr.toNat ++ (32 :: (Lib.decDigits p.size.toNat ++ (32 :: (p.root ++ (32 :: (Lib.decDigits p.items.length ++ (10 :: B)))))))) ∧
      textUp p 0 = [112, 97, 103, 101, 32] ++ Lib.decDigits p.fr.toNat ++ [32] ++ Lib.decDigits p.size.toNat ++ [32] ++ p.root ++ [32] ++ Lib.decDigits p.items.length ++ [10] := by
  obtain ⟨⟨h1, h2, _⟩, _⟩ := formed_spec hf
  obtain ⟨B, hB⟩ := textUp_pre p p.items.length 0 (Nat.zero_le _)
  have hh := head_dec h1.1 h2.1
  rw [head0]
  refine ⟨B, ?_, hh⟩
  rw [← hT, ← textUp_all, hB, head0, hh]; simp
/-- one of the elements of a path, as it stands -/
theorem tail_split (q : List (List UInt8)) {j : Nat} {y : List UInt8} (h : q[j]? = some y) : ∃ B, Lib.joinTail [32] q = Lib.joinTail [32] (q.take j) ++ (32 :: (y ++ B)) := by
  refine ⟨Lib.joinTail [32] (q.drop (j + 1)), ?_⟩
  have hj := (List.getElem?_eq_some_iff.1 h).1
  have e : q = q.take j ++ y :: q.drop (j + 1) := by
    have : q.drop j = y :: q.drop (j + 1) := by
      rw [List.drop_eq_getElem_cons hj]
      rw [List.getElem?_eq_getElem hj] at h
      rw [Option.some.inj h]
    rw [← this, List.take_append_drop]
  conv => lhs; rw [e]
  unfold Lib.joinTail
  simp
theorem parse_no' {T : List UInt8} {p : Pg} (hn : parseP T = none) (hf : formedB p = true) : textPg p ≠ T := fun h => by
  have := parse_text hf
  rw [h, hn] at this; cases this
end Go.Proofs.YtfhanbiifjiklaaGreatDoor

/- The reference's Parse. -/
set_option linter.unusedVariables false
set_option linter.unusedSimpArgs false
namespace Go.Proofs.YtfhanbiifjiklaaGreatDoor
open Go.RowKit Go.Shelf
attribute [local go_sem] Oper.semAt_some

/-- all is as it was but for the blocks p, q and r -/
structure Thr (p q r : Nat) (w w' : World) : Prop where
  os : w'.os = w.os
  tape : w'.tape = w.tape
  output : w'.output = w.output
  size : w.heap.size ≤ w'.heap.size
  block : ∀ k, k < w.heap.size → k ≠ p → k ≠ q → k ≠ r → w'.heap[k]? = w.heap[k]?
section
variable {p q r : Nat} {a b c w w' : World}
theorem Thr.refl (p q r : Nat) (w : World) : Thr p q r w w := ⟨rfl, rfl, rfl, Nat.le_refl _, fun _ _ _ _ _ => rfl⟩
theorem Thr.trans (h : Thr p q r a b) (k : Thr p q r b c) : Thr p q r a c := ⟨k.os.trans h.os, k.tape.trans h.tape, k.output.trans h.output, Nat.le_trans h.size k.size, fun i hi h1 h2 h3 => (k.block i (Nat.lt_of_lt_of_le hi h.size) h1 h2 h3).trans (h.block i hi h1 h2 h3)⟩
theorem Thr.of (h : Below w.heap.size w w') : Thr p q r w w' := ⟨h.os, h.tape, h.output, h.size, fun k hk _ _ _ => h.block k hk⟩
theorem Thr.of12 (h : Two p q w w') : Thr p q r w w' := ⟨h.os, h.tape, h.output, h.size, fun k hk h1 h2 _ => h.block k hk h1 h2⟩
theorem Thr.of3 (h : Two r r w w') : Thr p q r w w' := ⟨h.os, h.tape, h.output, h.size, fun k hk _ _ h3 => h.block k hk h3 h3⟩
theorem Thr.blk {g : Nat} {t : TypeId} {cs : Array Value} (h : Thr p q r w w') (H : Blk w g t cs) (h1 : g ≠ p) (h2 : g ≠ q) (h3 : g ≠ r) : Blk w' g t cs := (h.block g H.lt h1 h2 h3).trans H
/-- the change at the third block first -/
theorem Thr.split (h : Thr p q r w w') (hr : r < w.heap.size) : ∃ W1, Two r r w W1 ∧ Two p q W1 w' ∧ W1.heap.size = w.heap.size := by
  have hr' : r < w'.heap.size := Nat.lt_of_lt_of_le hr h.size
  refine ⟨w.putObj r w'.heap[r], ⟨rfl, rfl, rfl, by simp [World.putObj], fun k hk h1 _ => ?_⟩, ⟨h.os, h.tape, h.output, by simp only [World.putObj, Array.size_setIfInBounds]; exact h.size, fun k hk h1 h2 => ?_⟩, by simp [World.putObj]⟩
  · simp only [World.putObj]
    rw [Array.getElem?_setIfInBounds_ne (fun e => h1 e.symm)]
  · simp only [World.putObj, Array.size_setIfInBounds] at hk ⊢
    by_cases hk2 : k = r
    · subst hk2
      rw [Array.getElem?_setIfInBounds_self_of_lt hr, Array.getElem?_eq_getElem hr']
    · rw [Array.getElem?_setIfInBounds_ne (fun e => hk2 e.symm)]
      exact h.block k hk h1 h2 hk2
end
theorem ownsRow_thr {p q r : Nat} {w w' : World} {B : Nat} {e : TypeId} {s n : Nat} {v : Value} {xs : List Value} (h : w.ownsRow B e s v n xs) (hb : Thr p q r w w') (h1 : v.ownBlock ≠ some p) (h2 : v.ownBlock ≠ some q) (h3 : v.ownBlock ≠ some r) : w'.ownsRow B e s v n xs := by
  refine ⟨h.1, ?_⟩
  rcases h.2 with hn | ⟨g, cap, cur, rfl, hb', hgg, rest⟩
  · exact .inl hn
  · refine .inr ⟨g, cap, cur, rfl, hb', ?_, rest⟩
    rw [hb.block g (Array.getElem?_eq_some_iff.1 hgg).1 (fun e => h1 (by rw [← e]; rfl)) (fun e => h2 (by rw [← e]; rfl)) (fun e => h3 (by rw [← e]; rfl))]
    exact hgg
/-- while a page is read -/
structure PI (w : World) (rb bp : Nat) (T : List UInt8) (f s : Int) (R : List UInt8) (I : List (List UInt8)) (Q : List (List (List UInt8))) (vi vp : Value) (pvs : List Value) (a : Nat) (z : Bool) (W : World) : Prop where
  bel : Below w.heap.size w W
  res : Blk W w.heap.size 25 noCs
  rd : RdAt rb T a z W
  pg : RPg bp (bp + 1) f s R I Q vi vp pvs W
  ord : w.heap.size < rb ∧ rb < bp
section
variable {w W W' : World} {rb bp : Nat} {T : List UInt8} {f s : Int} {R : List UInt8} {I : List (List UInt8)} {Q : List (List (List UInt8))} {vi vp : Value} {pvs : List Value} {a a' : Nat} {z z' : Bool}
theorem PI.to (h : PI w rb bp T f s R I Q vi vp pvs a z W) (hb : Below W.heap.size W W') : PI w rb bp T f s R I Q vi vp pvs a z W' := ⟨below_to h.bel (Nat.le_refl _) hb, h.res.to hb, h.rd.to hb, h.pg.to hb, h.ord⟩
theorem PI.step (h : PI w rb bp T f s R I Q vi vp pvs a z W) (hT : Two rb rb W W') (hR : RdAt rb T a' z' W') : PI w rb bp T f s R I Q vi vp pvs a' z' W' := by
  have ho := h.ord
  exact ⟨h.bel.trans (hT.below h.bel.size (by omega) (by omega)), hT.blk h.res (by omega) (by omega), hR, h.pg.far hT (by omega) (by omega) (by omega) (by omega), h.ord⟩
theorem PI.set_ (h : PI w rb bp T f s R [] [] (.slice none 0 0) (.slice none 0 0) [] a z W) (i : Nat) (u : Value) {f' s' : Int} {R' : List UInt8} (hc : (#[Value.int .i64 f, .int .i64 s, .string (bs R), .slice none 0 0, .slice none 0 0]).setIfInBounds i u = #[.int .i64 f', .int .i64 s', .string (bs R'), .slice none 0 0, .slice none 0 0]) :
    PI w rb bp T f' s' R' [] [] (.slice none 0 0) (.slice none 0 0) [] a z (W.setCell ⟨bp, i, none⟩ u) := by
  have ho := h.ord
  have hs := h.bel.size
  refine ⟨h.bel.setCell (p := ⟨bp, i, none⟩) (by show _ ≤ bp; omega) u, h.res.far (p := ⟨bp, i, none⟩) (by show w.heap.size ≠ bp; omega) u, ⟨h.rd.blk.far (p := ⟨bp, i, none⟩) (by show rb ≠ bp; omega) u, h.rd.le⟩, ⟨?_, World.ownsRow_nil _ _ _ _, World.ownsRow_nil _ _ _ _, fun j q hq => by simp at hq⟩, h.ord⟩
  have := h.pg.p.set_ i u
  rwa [hc] at this
end
/-- what is known of a text that a formed page has -/
def Str (T : List UInt8) (f s : Int) (R : List UInt8) (N : Nat) (I : List (List UInt8)) (Q : List (List (List UInt8))) (a : Nat) (z : Bool) (k : Nat) : Prop :=
  ∀ p, formedB p = true → textPg p = T → z = false ∧ a = (textUp p k).length ∧ N = p.items.length ∧ f = p.fr ∧ s = p.size ∧ R = p.root ∧ I = p.items.take k ∧ Q = p.paths.take k ∧ k ≤ p.items.length
theorem dg_head {c : UInt8} {B : List UInt8} (h : c.toNat < 48) : ∀ d, (c :: B).head? = some d → ¬ (48 ≤ d.toNat ∧ d.toNat ≤ 57) := fun d hd => by
  simp at hd; subst hd; omega
theorem head_str {T : List UInt8} {a1 a2 a3 a4 a5 a6 a7 a8 a9 n1 n2 N : Nat} {z1 z2 z3 z4 z5 z6 z7 z8 z9 : Bool} {S R : List UInt8}
    (e1 : S = byS T 5 0 ∧ a1 = byA T 5 0 ∧ z1 = byZ T 5 0 false) (e2 : n1 = nuV T a1 ∧ a2 = a1 + dgN T a1 ∧ z2 = nuZ T a1 z1) (e3 : a3 = tkA T 32 a2 ∧ z3 = tkZ T 32 a2 z2)
    (e4 : n2 = nuV T a3 ∧ a4 = a3 + dgN T a3 ∧ z4 = nuZ T a3 z3) (e5 : a5 = tkA T 32 a4 ∧ z5 = tkZ T 32 a4 z4) (e6 : R = byS T 16 a5 ∧ a6 = byA T 16 a5 ∧ z6 = byZ T 16 a5 z5)
    (e7 : a7 = tkA T 32 a6 ∧ z7 = tkZ T 32 a6 z6) (e8 : N = nuV T a7 ∧ a8 = a7 + dgN T a7 ∧ z8 = nuZ T a7 z7) (e9 : a9 = tkA T 10 a8 ∧ z9 = tkZ T 10 a8 z8) :
    Str T (n1 : Int) (n2 : Int) R N [] [] a9 z9 0 ∧ ∀ p, formedB p = true → textPg p = T → S = [112, 97, 103, 101, 32] := by
  have key : ∀ p, formedB p = true → textPg p = T → S = [112, 97, 103, 101, 32] ∧ z9 = false ∧ a9 = (textUp p 0).length ∧ N = p.items.length ∧ (n1 : Int) = p.fr ∧ (n2 : Int) = p.size ∧ R = p.root := by
    intro p hf hT
    obtain ⟨⟨hfr, hsz, hrt, hnl, hpl⟩, _⟩ := formed_spec hf
    have hrl := isD_len hrt
    obtain ⟨B, hB, hU⟩ := text_head hf hT
    have t1 := by_yes (A := []) (X := [112, 97, 103, 101, 32]) hB false
    obtain ⟨r1, r2, r3⟩ := e1
    rw [show ([112, 97, 103, 101, 32] : List UInt8).length = 5 from rfl, show ([] : List UInt8).length = 0 from rfl] at t1
    rw [t1.1] at r1; rw [t1.2.1] at r2; rw [t1.2.2] at r3
    subst r2 r3
    have t2 := num_yes (A := [] ++ [112, 97, 103, 101, 32]) (n := p.fr.toNat) (by omega) hB (dg_head (by decide)) false
    obtain ⟨q1, r2, r3⟩ := e2
    rw [t2.1] at q1; rw [t2.2.1] at r2; rw [t2.2.2] at r3
    subst r2 r3
    have h3 : T = ([] ++ [112, 97, 103, 101, 32] ++ Lib.decDigits p.fr.toNat) ++ 32 :: (Lib.decDigits p.size.toNat ++ (32 :: (p.root ++ (32 :: (Lib.decDigits p.items.length ++ (10 :: B)))))) := by rw [hB]; simp
    have t3 := tk_yes h3 false
    rw [show (32 : UInt8).toNat = 32 from rfl] at t3
    obtain ⟨r2, r3⟩ := e3
    rw [t3.1] at r2; rw [t3.2] at r3
    subst r2 r3
    have h4 : T = ([] ++ [112, 97, 103, 101, 32] ++ Lib.decDigits p.fr.toNat ++ [32]) ++ (Lib.decDigits p.size.toNat ++ (32 :: (p.root ++ (32 :: (Lib.decDigits p.items.length ++ (10 :: B)))))) := by rw [hB]; simp
    have t4 := num_yes (n := p.size.toNat) (by omega) h4 (dg_head (by decide)) false
    obtain ⟨q2, r2, r3⟩ := e4
    rw [t4.1] at q2; rw [t4.2.1] at r2; rw [t4.2.2] at r3
    subst r2 r3
    have h5 : T = ([] ++ [112, 97, 103, 101, 32] ++ Lib.decDigits p.fr.toNat ++ [32] ++ Lib.decDigits p.size.toNat) ++ 32 :: (p.root ++ (32 :: (Lib.decDigits p.items.length ++ (10 :: B)))) := by rw [hB]; simp
    have t5 := tk_yes h5 false
    rw [show (32 : UInt8).toNat = 32 from rfl] at t5
    obtain ⟨r2, r3⟩ := e5
    rw [t5.1] at r2; rw [t5.2] at r3
    subst r2 r3
    have h6 : T = ([] ++ [112, 97, 103, 101, 32] ++ Lib.decDigits p.fr.toNat ++ [32] ++ Lib.decDigits p.size.toNat ++ [32]) ++ (p.root ++ (32 :: (Lib.decDigits p.items.length ++ (10 :: B)))) := by rw [hB]; simp
    have t6 := by_yes h6 false
    rw [hrl] at t6
    obtain ⟨q3, r2, r3⟩ := e6
    rw [t6.1] at q3; rw [t6.2.1] at r2; rw [t6.2.2] at r3
    subst r2 r3
    have h7 : T = ([] ++ [112, 97, 103, 101, 32] ++ Lib.decDigits p.fr.toNat ++ [32] ++ Lib.decDigits p.size.toNat ++ [32] ++ p.root) ++ 32 :: (Lib.decDigits p.items.length ++ (10 :: B)) := by rw [hB]; simp
    have t7 := tk_yes h7 false
    rw [show (32 : UInt8).toNat = 32 from rfl] at t7
    obtain ⟨r2, r3⟩ := e7
    rw [t7.1] at r2; rw [t7.2] at r3
    subst r2 r3
    have h8 : T = ([] ++ [112, 97, 103, 101, 32] ++ Lib.decDigits p.fr.toNat ++ [32] ++ Lib.decDigits p.size.toNat ++ [32] ++ p.root ++ [32]) ++ (Lib.decDigits p.items.length ++ (10 :: B)) := by rw [hB]; simp
    have t8 := num_yes (n := p.items.length) (by omega) h8 (dg_head (by decide)) false
    obtain ⟨q4, r2, r3⟩ := e8
    rw [t8.1] at q4; rw [t8.2.1] at r2; rw [t8.2.2] at r3
    subst r2 r3
    have h9 : T = ([] ++ [112, 97, 103, 101, 32] ++ Lib.decDigits p.fr.toNat ++ [32] ++ Lib.decDigits p.size.toNat ++ [32] ++ p.root ++ [32] ++ Lib.decDigits p.items.length) ++ 10 :: B := by rw [hB]; simp
    have t9 := tk_yes h9 false
    rw [show (10 : UInt8).toNat = 10 from rfl] at t9
    obtain ⟨r2, r3⟩ := e9
    rw [t9.1] at r2; rw [t9.2] at r3
    refine ⟨r1, r3, by rw [r2, hU]; simp, q4, by rw [q1]; omega, by rw [q2]; omega, q3⟩
  refine ⟨fun p hf hT => ?_, fun p hf hT => (key p hf hT).1⟩
  obtain ⟨_, k1, k2, k3, k4, k5, k6⟩ := key p hf hT
  exact ⟨k1, k2, k3, k4, k5, k6, by simp, by simp, Nat.zero_le _⟩
/-- the state within the path of item k -/
def StrQ (T : List UInt8) (X : Nat) (qa : List (List UInt8)) (a : Nat) (z : Bool) (k : Nat) : Prop :=
  ∀ p, formedB p = true → textPg p = T → ∀ x q, p.items[k]? = some x → p.paths[k]? = some q → z = false ∧ a = (textUp p k ++ Lib.decDigits x.length ++ Lib.joinTail [32] (q.take qa.length)).length ∧ qa = q.take qa.length ∧ qa.length ≤ q.length ∧ X = x.length
theorem tail_head (q : List (List UInt8)) (B : List UInt8) : ∀ d, (Lib.joinTail [32] q ++ (10 :: B)).head? = some d → ¬ (48 ≤ d.toNat ∧ d.toNat ≤ 57) := by
  cases q with
  | nil => exact dg_head (by decide)
  | cons y q =>
    have : Lib.joinTail [32] (y :: q) ++ (10 :: B) = 32 :: (y ++ Lib.joinTail [32] q ++ (10 :: B)) := by simp [Lib.joinTail]
    rw [this]
    exact dg_head (by decide)
theorem str_number {T : List UInt8} {f s : Int} {R : List UInt8} {N : Nat} {I : List (List UInt8)} {Q : List (List (List UInt8))} {a a1 X k : Nat} {z z1 : Bool} (h : Str T f s R N I Q a z k) (e : X = nuV T a ∧ a1 = a + dgN T a ∧ z1 = nuZ T a z) : StrQ T X [] a1 z1 k := by
  intro p hf hT x q hx hq
  obtain ⟨k1, k2, _⟩ := h p hf hT
  obtain ⟨B, hB, _⟩ := text_line hT hx hq
  have hxl := (formed_len hf).2 x (List.mem_of_getElem? hx)
  have t := num_yes (n := x.length) (by omega) hB (tail_head q _) z
  rw [← k2] at t
  obtain ⟨r1, r2, r3⟩ := e
  rw [t.1] at r1; rw [t.2.1] at r2; rw [t.2.2] at r3
  exact ⟨by rw [r3, k1], by rw [r2]; simp [Lib.joinTail], by simp, by simp, r1⟩
/-- whether a further element stands there -/
theorem strQ_sees {T : List UInt8} {X : Nat} {qa : List (List UInt8)} {a : Nat} {z : Bool} {k : Nat} (h : StrQ T X qa a z k) {p : Pg} (hf : formedB p = true) (hT : textPg p = T) {x : List UInt8} {q : List (List UInt8)} (hx : p.items[k]? = some x) (hq : p.paths[k]? = some q) : hitB T 32 a = decide (qa.length < q.length) := by
  obtain ⟨k1, k2, k3, k4, _⟩ := h p hf hT x q hx hq
  obtain ⟨B, hB, _⟩ := text_line hT hx hq
  by_cases hl : qa.length < q.length
  · rw [decide_eq_true hl]
    obtain ⟨C, hC⟩ := tail_split q (List.getElem?_eq_getElem hl)
    have := hit_yes (T := T) (A := textUp p k ++ Lib.decDigits x.length ++ Lib.joinTail [32] (q.take qa.length)) (c := 32) (B := q[qa.length] ++ C ++ (10 :: (x ++ (10 :: B)))) (by rw [hB, hC]; simp)
    rw [k2]; exact this
  · rw [decide_eq_false hl]
    have hq' : q.take qa.length = q := List.take_of_length_le (by omega)
    rw [hq'] at k2
    have := hit_no (T := T) (m := 32) (A := textUp p k ++ Lib.decDigits x.length ++ Lib.joinTail [32] q) (c := 10) (B := x ++ (10 :: B)) (by rw [hB]; simp) (by decide)
    rw [k2]; exact this
theorem strQ_step {T : List UInt8} {X : Nat} {qa : List (List UInt8)} {S : List UInt8} {a a1 a2 : Nat} {z z1 z2 : Bool} {k : Nat} (h : StrQ T X qa a z k) (hit : hitB T 32 a = true) (e1 : a1 = tkA T 32 a ∧ z1 = tkZ T 32 a z) (e2 : S = byS T 16 a1 ∧ a2 = byA T 16 a1 ∧ z2 = byZ T 16 a1 z1) : StrQ T X (qa ++ [S]) a2 z2 k := by
  intro p hf hT x q hx hq
  have hs := strQ_sees h hf hT hx hq
  rw [hit] at hs
  have hl : qa.length < q.length := by simpa using hs.symm
  obtain ⟨k1, k2, k3, k4, k5⟩ := h p hf hT x q hx hq
  obtain ⟨B, hB, _⟩ := text_line hT hx hq
  have hy : q[qa.length]? = some q[qa.length] := List.getElem?_eq_getElem hl
  have hyl : q[qa.length].length = 16 := ((formed_len hf).1 q (List.mem_of_getElem? hq)).2 _ (List.mem_of_getElem? hy)
  obtain ⟨C, hC⟩ := tail_split q hy
  have hj := Lib.joinTail_take_succ [32] q qa.length _ hy
  generalize q[qa.length] = y at *
  have t1 := tk_yes (T := T) (A := textUp p k ++ Lib.decDigits x.length ++ Lib.joinTail [32] (q.take qa.length)) (c := 32) (B := y ++ C ++ (10 :: (x ++ (10 :: B)))) (by rw [hB, hC]; simp) z
  rw [show (32 : UInt8).toNat = 32 from rfl, ← k2] at t1
  obtain ⟨r1, r2⟩ := e1
  rw [t1.1] at r1; rw [t1.2] at r2
  have t2 := by_yes (T := T) (A := textUp p k ++ Lib.decDigits x.length ++ Lib.joinTail [32] (q.take qa.length) ++ [32]) (X := y) (B := C ++ (10 :: (x ++ (10 :: B)))) (by rw [hB, hC]; simp) z1
  rw [hyl, ← r1] at t2
  obtain ⟨r3, r4, r5⟩ := e2
  rw [t2.1] at r3; rw [t2.2.1] at r4; rw [t2.2.2] at r5
  subst r3
  refine ⟨by rw [r5, r2, k1], ?_, ?_, by rw [List.length_append]; simp; omega, k5⟩
  · rw [r4, show (qa ++ [S]).length = qa.length + 1 by simp, hj]; simp
  · rw [List.length_append, List.length_singleton, List.take_add_one, hy, ← k3]; rfl
theorem strQ_end {T : List UInt8} {f s : Int} {R : List UInt8} {N : Nat} {I : List (List UInt8)} {Q : List (List (List UInt8))} {X : Nat} {qa : List (List UInt8)} {xs : List UInt8} {a0 a a1 a2 a3 : Nat} {z0 z z1 z2 z3 : Bool} {k : Nat} (h0 : Str T f s R N I Q a0 z0 k) (hkN : k < N) (h : StrQ T X qa a z k) (hend : hitB T 32 a = false ∨ z = true)
    (e1 : a1 = tkA T 10 a ∧ z1 = tkZ T 10 a z) (e2 : xs = byS T X a1 ∧ a2 = byA T X a1 ∧ z2 = byZ T X a1 z1) (e3 : a3 = tkA T 10 a2 ∧ z3 = tkZ T 10 a2 z2) : Str T f s R N (I ++ [xs]) (Q ++ [qa]) a3 z3 (k + 1) := by
  intro p hf hT
  obtain ⟨j1, j2, j3, j4, j5, j6, j7, j8, j9⟩ := h0 p hf hT
  have hpl := (formed_spec hf).1.2.2.2.2
  have hk : k < p.items.length := by omega
  have hx : p.items[k]? = some p.items[k] := List.getElem?_eq_getElem hk
  have hq : p.paths[k]? = some p.paths[k] := List.getElem?_eq_getElem (by omega)
  generalize p.items[k] = x at *
  generalize p.paths[k] = q at *
  have hs := strQ_sees h hf hT hx hq
  obtain ⟨k1, k2, k3, k4, k5⟩ := h p hf hT x q hx hq
  obtain ⟨B, hB, hU⟩ := text_line hT hx hq
  have hl : q.length ≤ qa.length := by
    rcases hend with he | he
    · rw [he] at hs
      have := of_decide_eq_false hs.symm
      omega
    · rw [k1] at he; cases he
  have hq' : q.take qa.length = q := List.take_of_length_le hl
  rw [hq'] at k2 k3
  subst k3
  have t1 := tk_yes (T := T) (A := textUp p k ++ Lib.decDigits x.length ++ Lib.joinTail [32] qa) (c := 10) (B := x ++ (10 :: B)) (by rw [hB]; simp) z
  rw [show (10 : UInt8).toNat = 10 from rfl, ← k2] at t1
  obtain ⟨r1, r2⟩ := e1
  rw [t1.1] at r1; rw [t1.2] at r2
  have t2 := by_yes (T := T) (A := textUp p k ++ Lib.decDigits x.length ++ Lib.joinTail [32] qa ++ [10]) (X := x) (B := 10 :: B) (by rw [hB]; simp) z1
  subst k5
  rw [← r1] at t2
  obtain ⟨r3, r4, r5⟩ := e2
  rw [t2.1] at r3; rw [t2.2.1] at r4; rw [t2.2.2] at r5
  subst r3
  have t3 := tk_yes (T := T) (A := textUp p k ++ Lib.decDigits xs.length ++ Lib.joinTail [32] qa ++ [10] ++ xs) (c := 10) (B := B) (by rw [hB]; simp) z2
  rw [show (10 : UInt8).toNat = 10 from rfl, ← r4] at t3
  obtain ⟨r6, r7⟩ := e3
  rw [t3.1] at r6; rw [t3.2] at r7
  refine ⟨by rw [r7, r5, r2, k1], by rw [r6, hU], j3, j4, j5, j6, ?_, ?_, by omega⟩
  · rw [List.take_add_one, hx, ← j7]; rfl
  · rw [List.take_add_one, hq, ← j8]; rfl
theorem tkZ_true (T : List UInt8) (m a : Nat) : tkZ T m a true = true := by unfold tkZ; split <;> rfl
theorem byZ_true (T : List UInt8) (n a : Nat) : byZ T n a true = true := by unfold byZ; split <;> rfl
theorem byA_ge (T : List UInt8) (n a : Nat) : a ≤ byA T n a := by unfold byA; split <;> omega
theorem byS_len (T : List UInt8) (n a : Nat) : (byS T n a).length ≤ n ∧ (byS T n a).length ≤ T.length := by
  unfold byS; split
  · simp
  · rw [List.length_take, List.length_drop]; omega
theorem nuV_lt (T : List UInt8) (a : Nat) : nuV T a < 1000000000000000000 := by
  have h1 := dg_val (T := T) (a := a) (k := dgN T a) (Nat.le_refl _)
  exact Nat.lt_of_lt_of_le h1 (Nat.pow_le_pow_right (by decide) (dg_le T a).1)
theorem fin_no {T : List UInt8} (hno : parseP T = none) (w W : World) (hb : Below w.heap.size w W) (hr : Blk W w.heap.size 25 noCs) (tm : Array Value) (h6 : tm[2]? = some (.pointer (some ⟨w.heap.size, 0, none⟩))) (h7 : tm[3]? = some (.int .i64 5)) :
    bodyPost Tryz.prog Tryz.f19 (ParseR T w) .ret { tmps := tm, defers := [] } (((((W.setCell ⟨w.heap.size, 0, none⟩ (.int .i64 0)).setCell ⟨w.heap.size, 1, none⟩ (.int .i64 0)).setCell ⟨w.heap.size, 2, none⟩ (.string ⟨#[]⟩)).setCell ⟨w.heap.size, 3, none⟩ (.slice none 0 0)).setCell ⟨w.heap.size, 4, none⟩ (.slice none 0 0)) := by
  have hT := (((((Two.refl w.heap.size w.heap.size W).set1 0 (.int .i64 0)).set1 1 (.int .i64 0)).set1 2 (.string ⟨#[]⟩)).set1 3 (.slice none 0 0)).set1 4 (.slice none 0 0)
  refine bodyPost_ret (results_page rfl _ _ w.heap.size h6 noCs _ h7 (((((hr.set_ 0 (.int .i64 0)).set_ 1 (.int .i64 0)).set_ 2 (.string ⟨#[]⟩)).set_ 3 (.slice none 0 0)).set_ 4 (.slice none 0 0)) rfl) rfl ⟨.slice none 0 0, .slice none 0 0, ?_, ?_, ?_, hb.trans (hT.below hb.size (Nat.le_refl _) (Nat.le_refl _))⟩
  · unfold parseV parseE; rw [hno]; rfl
  · unfold parseV; rw [hno]; exact TextsAt.nil _
  · unfold parseV; rw [hno]; exact PathsAt.nil _
theorem fin_yes {T : List UInt8} {f s : Int} {R : List UInt8} {I : List (List UInt8)} {Q : List (List (List UInt8))} {vi vp : Value} {pvs : List Value} {rb bp a : Nat} {z : Bool} {w W : World} (hyes : parseP T = some ⟨f, s, R, I, Q⟩) (h : PI w rb bp T f s R I Q vi vp pvs a z W) (tm : Array Value) (h6 : tm[2]? = some (.pointer (some ⟨w.heap.size, 0, none⟩))) (h7 : tm[3]? = some (.int .i64 0)) :
    bodyPost Tryz.prog Tryz.f19 (ParseR T w) .ret { tmps := tm, defers := [] } (((((W.setCell ⟨w.heap.size, 0, none⟩ (.int .i64 f)).setCell ⟨w.heap.size, 1, none⟩ (.int .i64 s)).setCell ⟨w.heap.size, 2, none⟩ (.string (bs R))).setCell ⟨w.heap.size, 3, none⟩ vi).setCell ⟨w.heap.size, 4, none⟩ vp) := by
  have ho := h.ord
  have hT := (((((Two.refl w.heap.size w.heap.size W).set1 0 (.int .i64 f)).set1 1 (.int .i64 s)).set1 2 (.string (bs R))).set1 3 vi).set1 4 vp
  have hP := h.pg.far hT (by omega) (by omega) (by omega) (by omega)
  have hB : Blk (((((W.setCell ⟨w.heap.size, 0, none⟩ (.int .i64 f)).setCell ⟨w.heap.size, 1, none⟩ (.int .i64 s)).setCell ⟨w.heap.size, 2, none⟩ (.string (bs R))).setCell ⟨w.heap.size, 3, none⟩ vi).setCell ⟨w.heap.size, 4, none⟩ vp) w.heap.size 25 #[.int .i64 f, .int .i64 s, .string (bs R), vi, vp] := (((((h.res.set_ 0 (.int .i64 f)).set_ 1 (.int .i64 s)).set_ 2 (.string (bs R))).set_ 3 vi).set_ 4 vp)
  refine bodyPost_ret (results_page rfl _ _ w.heap.size h6 _ _ h7 hB rfl) rfl ⟨vi, vp, ?_, ?_, ?_, h.bel.trans (hT.below h.bel.size (Nat.le_refl _) (Nat.le_refl _))⟩
  · unfold parseV parseE; rw [hyes]; rfl
  · unfold parseV; rw [hyes]; exact TextsAt.of_own hP.oi
  · unfold parseV; rw [hyes]; exact hP.paths
end Go.Proofs.YtfhanbiifjiklaaGreatDoor
