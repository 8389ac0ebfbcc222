/- Several texts as one, in build order. -/
import Derived.Test.YtfhanbiifjiklaaGreatDoorMD
import Derived.BigQuiet
import Derived.Test.YtfhanbiifjiklaaGreatDoorMA
import Derived.Test.YtfhanbiifjiklaaGreatDoorMC
/- Walks of the reference: Holds, Checked, at a page that holds. -/
set_option linter.unusedVariables false
set_option linter.unusedSimpArgs false
namespace Go.Proofs.YtfhanbiifjiklaaGreatDoor
open Go.RowKit

theorem held_at {p : Pg} (hh : heldB p p.root p.size = true) {k : Nat} {x : List UInt8} {q : List (List UInt8)} (hx : p.items[k]? = some x) (hq : p.paths[k]? = some q) : checkV p.root p.size (p.fr + (k : Int)) (leafD x) q = true := by
  unfold heldB at hh
  rw [Bool.and_eq_true] at hh
  have hk := (List.getElem?_eq_some_iff.1 hx).1
  have h := List.all_eq_true.1 hh.2 ⟨k, hk⟩ (List.mem_finRange _)
  unfold Pg.checkAt at h
  rw [List.getElem?_eq_getElem hk] at hx
  have e : p.items[(⟨k, hk⟩ : Fin p.items.length)] = x := Option.some.inj hx
  rw [e, List.getD_eq_getElem?_getD, hq] at h
  exact h
theorem held_same {p : Pg} (hh : heldB p p.root p.size = true) : p.fr ≤ p.size - p.items.length := by
  unfold heldB sameB at hh
  simp only [Bool.and_eq_true, decide_eq_true_eq] at hh
  exact hh.1.2.2
theorem held_len {p : Pg} {N I k : Nat} {x : List UInt8} {q : List (List UInt8)} (h : checkV p.root p.size (p.fr + (k : Int)) (leafD x) q = true) (hN : p.size = N) (hI : p.fr + (k : Int) = I) : I < N ∧ N ≤ 1000000 ∧ q.length = lenF N N I ∧ properT q = true := by
  rw [hN, hI] at h
  have hb : (N : Int) ≤ 1000000 ∧ (I : Int) < (N : Int) := by
    unfold checkV at h
    split at h
    · rename_i hc; exact ⟨hc.1, hc.2.2.1⟩
    · cases h
  rw [checkV_ref _ _ _ _ _ (by omega) (by omega)] at h
  simp only [Bool.and_eq_true, decide_eq_true_eq] at h
  exact ⟨by omega, by omega, h.1, h.2.1⟩
def itemJ (p : Pg) (j : Nat) : List (List UInt8) := leafJ (p.items.getD j []) :: ptxF (leafD (p.items.getD j [])) p.size.toNat p.size.toNat (p.fr.toNat + j) (p.paths.getD j []).reverse
/-- what is digested to check the first k items of a page -/
def chkUp (p : Pg) (k : Nat) : List (List UInt8) := (List.range k).flatMap (itemJ p)
def checkedV (p : Pg) : List (List UInt8) := chkUp p p.items.length
theorem chk_step (p : Pg) (k : Nat) : chkUp p (k + 1) = chkUp p k ++ itemJ p k := by unfold chkUp; rw [List.range_succ, List.flatMap_append, List.flatMap_singleton]
theorem chk_at {p : Pg} {k : Nat} {x : List UInt8} {q : List (List UInt8)} (hx : p.items[k]? = some x) (hq : p.paths[k]? = some q) : itemJ p k = leafJ x :: ptxF (leafD x) p.size.toNat p.size.toNat (p.fr.toNat + k) q.reverse := by
  unfold itemJ; rw [List.getD_eq_getElem?_getD, List.getD_eq_getElem?_getD, hx, hq]; rfl
theorem chk_len (p : Pg) : ∀ k, (chkUp p k).length ≤ k * (p.size.toNat + 1)
  | 0 => by simp [chkUp]
  | k + 1 => by
    have := chk_len p k
    rw [chk_step, List.length_append, Nat.add_mul]
    have h2 : (itemJ p k).length ≤ p.size.toNat + 1 := by unfold itemJ; rw [List.length_cons]; exact Nat.succ_le_succ (ptx_len _ _ _ _ _)
    omega
/-- texts that lie behind a row are not touched when it grows -/
theorem sep_texts {w5 : World} {v5 : Value} {PX L : List (List UInt8)} {B : Nat} (h5 : OwnT w5 B v5 L) : ∀ (x x' : World) (v : Value), World.grownBy x x' v5.ownBlock → TextsAt x v PX → (∀ g, v.ownBlock = some g → w5.heap.size ≤ g) → TextsAt x' v PX := fun x x' v hg ht hl => by
  cases e : v5.ownBlock with
  | none =>
    rw [e] at hg
    exact ht.to ⟨hg.os, hg.tape, hg.output, hg.size, fun k hk => hg.block k hk (by simp)⟩
  | some r =>
    have hr := (own_blk_lt h5 r e).2
    have hne : v.ownBlock ≠ some r := fun e0 => by have := hl r e0; omega
    rw [e] at hg
    exact ht.two (p := r) (q := r) ⟨hg.os, hg.tape, hg.output, hg.size, fun k hk h1 _ => hg.block k hk (fun e0 => h1 (Option.some.inj e0))⟩ hne hne
set_option maxRecDepth 100000 in
set_option maxHeartbeats 4000000 in
theorem Holds_yes (p : Pg) (hp : p.fit) (hf : formedB p = true) (hh : heldB p p.root p.size = true) (vi vp : Value) (w : World) (hvi : TextsAt w vi p.items) (hvp : PathsAt w vp p.paths) :
    Calls Tryz.prog 27 #[.agg (p.cs vi vp)] w fun e w' => e = .returned (.bool true) ∧ Below w.heap.size w w' := by
  have HH := hide hh
  have HI := hide hp.li
  have HQ := hide (formed_len hf).1
  have hfs := (formed_spec hf).1
  have HPL : Hid (p.paths.length = p.items.length) := hfs.2.2.2.2
  have hfr := hfs.1
  have hsz := hfs.2.1
  have hil := hfs.2.2.2.1
  have HSM := hide (held_same hh)
  obtain ⟨Ai, ci, rfl, hci⟩ := hvi.slice
  obtain ⟨Ap, cp, rfl, hcp⟩ := hvp.slice
  have hb0 := below_one w (.cells #[.int .i64 p.fr, .int .i64 p.size, .string (bs p.root), .slice Ai p.items.length ci, .slice Ap p.paths.length cp] 25)
  have CF : Calls Tryz.prog 58 #[.agg #[.int .i64 p.fr, .int .i64 p.size, .string (bs p.root), .slice Ai p.items.length ci, .slice Ap p.paths.length cp]] (w.alloc (.cells #[.int .i64 p.fr, .int .i64 p.size, .string (bs p.root), .slice Ai p.items.length ci, .slice Ap p.paths.length cp] 25)) fun e w' => e = .returned (.bool true) ∧ Below (w.alloc (.cells #[.int .i64 p.fr, .int .i64 p.size, .string (bs p.root), .slice Ai p.items.length ci, .slice Ap p.paths.length cp] 25)).heap.size (w.alloc (.cells #[.int .i64 p.fr, .int .i64 p.size, .string (bs p.root), .slice Ai p.items.length ci, .slice Ap p.paths.length cp] 25)) w' := by
    have := rFormed_any p hp _ _ _ (hvi.to hb0) (hvp.to hb0)
    rw [hf] at this
    exact this
  have HVI := hide (hvi.to hb0)
  have HVP := hide (hvp.to hb0)
  have HB := hide hb0
  have HX := hide (Blk.new w 25 (p.cs (.slice Ai p.items.length ci) (.slice Ap p.paths.length cp)))
  have hsm := HSM.out
  have c1 : decide (p.size < p.fr) = false := decide_eq_false (by omega)
  have c2 : decide (p.size < p.fr + (p.items.length : Int)) = false := decide_eq_false (by omega)
  clear hvi hvp hb0 hf hh hfs
  unfold Pg.cs at HX ⊢
  go_enter Tryz.func27, Tryz.ntmps27
  go_wp2_with fail
  generalize w.alloc (.cells #[.int .i64 p.fr, .int .i64 p.size, .string (bs p.root), .slice Ai p.items.length ci, .slice Ap p.paths.length cp] 25) = w1 at *
  refine CF.mono ?_
  rintro e w2 ⟨rfl, hb⟩
  obtain ⟨x0, x1, x2, x3, x4⟩ := page_cells (HX.out.to hb)
  have HB2 := hide hb
  clear hb CF
  go_wp2_with fail
  clear x0 x1 x2 x3 x4
  go_loopw [3] (fun i wr => ∃ k : Nat, i = .int .i64 (k : Int) ∧ k ≤ p.items.length ∧ Aside (Below w1.heap.size w1 wr)) (fun i _ => p.items.length - (intOf i).toNat)
  case atStart => exact ⟨0, rfl, by omega, HB2.out⟩
  case round =>
    clear HB2
    obtain ⟨k, rfl, hk, hB⟩ := hrel
    have HBr : Hid (Below w1.heap.size w1 wr) := hB
    clear hB
    by_cases hlt : k < p.items.length
    · have e1 : decide ((k : Int) < (p.items.length : Int)) = true := decide_eq_true (by omega)
      obtain ⟨x, hx⟩ : ∃ x, p.items[k]? = some x := ⟨_, List.getElem?_eq_getElem hlt⟩
      obtain ⟨q, hq⟩ : ∃ q, p.paths[k]? = some q := ⟨_, List.getElem?_eq_getElem (by have := HPL.out; omega)⟩
      have hxl := HI.out x (List.mem_of_getElem? hx)
      have hql := HQ.out q (List.mem_of_getElem? hq)
      have HCK := hide (held_at HH.out hx hq)
      have i0 : (0 : Int) ≤ (k : Int) := by omega
      have i1 : (k : Int) < (p.items.length : Int) := by omega
      have i2 : (k : Int) < (p.paths.length : Int) := by have := HPL.out; omega
      have hwr : IntKind.i64.wrap (p.fr + (k : Int)) = p.fr + (k : Int) := IntWalk.i64_in _ (by omega)
      obtain ⟨a, e9, ha, c0⟩ := (HVI.out.to HBr.out).at_ hx
      obtain ⟨b, vq, e8, hb, d0, htq⟩ := (HVP.out.to HBr.out).at_ hq
      subst e9 e8
      obtain ⟨U, hU, g, u0, e7, hgu, hi⟩ := cls wr
      subst e7
      have CL := cls_call hgu hi (fun w hb => rLeaf_any x (by omega) w)
      have CC := cls_call hgu hi (fun w hb => rCheck_any p.root p.size (p.fr + (k : Int)) (leafD x) q (by rw [isD_len (leaf_isD x)]; decide) (by omega) (fun y hy => by rw [hql.2 y hy]; decide) vq w (htq.to hb))
      rw [HCK.out] at CC
      have X0 := blk_all hgu (HX.out.to HBr.out) 0 rfl
      have X1 := blk_all hgu (HX.out.to HBr.out) 1 rfl
      have X2 := blk_all hgu (HX.out.to HBr.out) 2 rfl
      have X3 := blk_all hgu (HX.out.to HBr.out) 3 rfl
      have X4 := blk_all hgu (HX.out.to HBr.out) 4 rfl
      have Y0 : ∀ u, (g u).cell? (a.add k) = some (.string (bs x)) := fun u => ((hgu u).cell (p := a.add k) (by rw [block_of_add]; exact ha)).trans c0
      have Y1 : ∀ u, (g u).cell? (b.add k) = some vq := fun u => ((hgu u).cell (p := b.add k) (by rw [block_of_add]; exact hb)).trans d0
      have HGU := hide hgu
      have HHI := hide hi
      clear hx hq hgu hi c0 d0 htq
      generalize leafD x = lx at *
      go_wp2_with fail
      refine wp_region_class g (by kernel_rfl) (by kernel_rfl) (HHI.out _ (HGU.out _).drew) ?_
      repeat (go_big_quiet_step (first | with_reducible exact CL _ | with_reducible exact CC _))
      refine wpQuiet_nil ?_
      intro w5 hw5
      obtain ⟨u, rfl⟩ := hw5
      go_wp2_with fail
      refine ⟨⟨k + 1, by go_num, by omega, below_to HBr.out (Nat.le_refl _) (HGU.out u)⟩, ?_⟩
      simp [intOf]; omega
    · obtain rfl : k = p.items.length := by omega
      have e1 : decide ((p.items.length : Int) < (p.items.length : Int)) = false := by simp
      obtain ⟨x0, x1, x2, x3, x4⟩ := page_cells (HX.out.to HBr.out)
      go_wp2_with fail
      go_ret
      exact ⟨rfl, below_to HB.out (Nat.le_refl _) HBr.out⟩
set_option maxRecDepth 100000 in
set_option maxHeartbeats 2000000 in
theorem Checked_any (p : Pg) (hp : p.fit) (hf : formedB p = true) (hh : heldB p p.root p.size = true) (vi vp : Value) (w : World) (hvi : TextsAt w vi p.items) (hvp : PathsAt w vp p.paths) :
    Calls Tryz.prog 31 #[.agg (p.cs vi vp)] w (LvR (checkedV p) w) := by
  have HH := hide hh
  have HI := hide hp.li
  have HQ := hide (formed_len hf).1
  have hfs := (formed_spec hf).1
  have HPL : Hid (p.paths.length = p.items.length) := hfs.2.2.2.2
  have hfr := hfs.1
  have hsz := hfs.2.1
  have hil := hfs.2.2.2.1
  have HSM := hide (held_same hh)
  obtain ⟨Ai, ci, rfl, hci⟩ := hvi.slice
  obtain ⟨Ap, cp, rfl, hcp⟩ := hvp.slice
  have hb0 := below_one w (.cells #[.int .i64 p.fr, .int .i64 p.size, .string (bs p.root), .slice Ai p.items.length ci, .slice Ap p.paths.length cp] 25)
  have HVI := hide (hvi.to hb0)
  have HVP := hide (hvp.to hb0)
  have HB := hide hb0
  have HX := hide (Blk.new w 25 (p.cs (.slice Ai p.items.length ci) (.slice Ap p.paths.length cp)))
  have hsm := HSM.out
  have HCL := hide (chk_len p)
  obtain ⟨N, hN⟩ : ∃ N : Nat, p.size = N := ⟨p.size.toNat, by omega⟩
  obtain ⟨F, hF⟩ : ∃ F : Nat, p.fr = F := ⟨p.fr.toNat, by omega⟩
  have hN1 : p.size.toNat = N := by omega
  have hF1 : p.fr.toNat = F := by omega
  have HN := hide hN
  have HF := hide hF
  have HN1 := hide hN1
  have HF1 := hide hF1
  have hNb : N ≤ 10000 := by omega
  clear hvi hvp hb0 hf hh hfs hN hF hN1 hF1
  unfold Pg.cs at HX ⊢
  go_enter Tryz.func31, Tryz.ntmps31
  go_wp2_with fail
  generalize w.alloc (.cells #[.int .i64 p.fr, .int .i64 p.size, .string (bs p.root), .slice Ai p.items.length ci, .slice Ap p.paths.length cp] 25) = w1 at *
  go_loopw [3, 4] (fun o i wr => ∃ k : Nat, i = .int .i64 (k : Int) ∧ k ≤ p.items.length ∧ Aside (OwnT wr w1.heap.size o (chkUp p k)) ∧ Aside (Below w1.heap.size w1 wr)) (fun _ i _ => p.items.length - (intOf i).toNat)
  case atStart => exact ⟨0, rfl, by omega, World.ownsRow_nil _ _ _ _, Below.refl _ _⟩
  case round =>
    obtain ⟨k, rfl, hk, hO, hB⟩ := hrel
    have HBr : Hid (Below w1.heap.size w1 wr) := hB
    have HO : Hid (OwnT wr w1.heap.size _ (chkUp p k)) := hO
    have hcl := HCL.out k
    rw [HN1.out] at hcl
    have hcl2 : (chkUp p k).length ≤ 50 * 10001 := Nat.le_trans hcl (Nat.mul_le_mul (by omega) (by omega))
    obtain ⟨Ao, co, rfl⟩ := own_sl4 hO
    clear hB hO hcl
    obtain ⟨x0, x1, x2, x3, x4⟩ := page_cells (HX.out.to HBr.out)
    by_cases hlt : k < p.items.length
    · have e1 : decide ((k : Int) < (p.items.length : Int)) = true := decide_eq_true (by omega)
      obtain ⟨x, hx⟩ : ∃ x, p.items[k]? = some x := ⟨_, List.getElem?_eq_getElem hlt⟩
      obtain ⟨q, hq⟩ : ∃ q, p.paths[k]? = some q := ⟨_, List.getElem?_eq_getElem (by have := HPL.out; omega)⟩
      have hxl := HI.out x (List.mem_of_getElem? hx)
      have hql := HQ.out q (List.mem_of_getElem? hq)
      have HCK := hide (held_at HH.out hx hq)
      have i0 : (0 : Int) ≤ (k : Int) := by omega
      have i1 : (k : Int) < (p.items.length : Int) := by omega
      have i2 : (k : Int) < (p.paths.length : Int) := by have := HPL.out; omega
      have hwr : IntKind.i64.wrap (p.fr + (k : Int)) = p.fr + (k : Int) := IntWalk.i64_in _ (by omega)
      have HCS := hide (chk_step p k)
      rw [chk_at hx hq, HN1.out, HF1.out] at HCS
      obtain ⟨hI1, hI2, hI3, hI4⟩ := held_len (I := F + k) HCK.out HN.out (by have := HF.out; omega)
      have hqx : ∀ y ∈ q, y.length ≤ 1000000 := fun y hy => by rw [hql.2 y hy]; decide
      have hlx : (leafD x).length ≤ 1000000 := by rw [isD_len (leaf_isD x)]; decide
      obtain ⟨a, e9, ha1, c01⟩ := HVI.out.at_ hx
      obtain ⟨b, vq, e8, hb1, d01, htq⟩ := HVP.out.at_ hq
      subst e9 e8
      have HC1 := hide (fun (W : World) (h : Below w1.heap.size w1 W) => (h.cell (p := a.add k) (by rw [block_of_add]; exact ha1)).trans c01)
      have HD1 := hide (fun (W : World) (h : Below w1.heap.size w1 W) => (h.cell (p := b.add k) (by rw [block_of_add]; exact hb1)).trans d01)
      have c0 := HC1.out wr HBr.out
      have d0 := HD1.out wr HBr.out
      have ha := Nat.lt_of_lt_of_le ha1 HBr.out.size
      have hb := Nat.lt_of_lt_of_le hb1 HBr.out.size
      have HTQ := hide htq
      have CJ := fun (w' : World) (g : Nat) => join_leafB (x := x) hxl w' g
      have CJ := CJ (wr.alloc (.cells #[.string ⟨#[108, 101, 97, 102]⟩, .string (bs x)] 9)) wr.heap.size (Blk.new _ _ _)
      have hpx := ptx_len (leafD x) N N (F + k) q.reverse
      have HP : Hid (∀ w', TextsAt w' vq q → Calls Tryz.prog 74 #[.int .i64 p.size, .int .i64 (p.fr + (k : Int)), .string (bs (leafD x)), vq] w' (LvR (ptxF (leafD x) N N (F + k) q.reverse) w')) := fun w' ht => by
        have := rpt_any N N (F + k) (leafD x) q vq w' (by omega) (Nat.le_refl _) hI1 (by omega) hI3 hlx hqx ht
        rwa [show ((N : Nat) : Int) = p.size by have := HN.out; omega, show ((F + k : Nat) : Int) = p.fr + (k : Int) by have := HF.out; omega] at this
      have HLf := hide (fun w : World => rLeaf_any x (by omega) w)
      clear hx hq htq hI3 hI4 hqx hlx c01 d01 ha1 hb1
      generalize leafJ x = J at *
      generalize leafD x = lx at *
      generalize ptxF lx N N (F + k) q.reverse = PX at *
      generalize chkUp p k = L at *
      go_wp2_with fail
      refine CJ.mono ?_
      rintro e w4 ⟨rfl, hb4⟩
      have hb4' := below_to (below_one wr (.cells #[.string ⟨#[108, 101, 97, 102]⟩, .string (bs x)] 9)) (Nat.le_refl _) hb4
      have HO4 := hide (own_to4 HO.out hb4')
      have HB4 := hide (below_to HBr.out (Nat.le_refl _) hb4')
      have y0 := (hb4'.cell (p := a.add k) (by rw [block_of_add]; exact ha)).trans c0
      have y1 := (hb4'.cell (p := b.add k) (by rw [block_of_add]; exact hb)).trans d0
      have ha4 := Nat.lt_of_lt_of_le ha hb4'.size
      have hbb4 := Nat.lt_of_lt_of_le hb hb4'.size
      clear hb4 hb4' CJ HO c0 d0 ha hb x0 x1 x2 x3 x4
      go_wp2_with (at_builtin; refine wpList_append_texts rfl (.tmp 12) (.tmp 20) rfl w1.heap.size _ L rfl (own_to4 HO4.out (below_one w4 (.cells #[.string (bs J)] 9))) (.slice (some ⟨w4.heap.size, 0, none⟩) 1 1) [J] rfl (TextsAt.of_blk (ls := [J]) (Blk.new w4 9 #[.string (bs J)]) rfl) (by simp; omega) (by have := HB4.out.size; simp; omega) ?_)
      intro v5 w5 ho5 hg5 _
      obtain ⟨A5, c5, rfl⟩ := own_sl4 ho5
      have HB5 := hide ((below_alloc HB4.out (Nat.le_refl _) (.cells #[.string (bs J)] 9)).trans (below_grown hg5 (by have := HB4.out.size; simp; omega) (fun g e => (own_blk_lt HO4.out g e).1)))
      have HO5 := hide ho5
      have hl5 : (L ++ [J]).length ≤ 50 * 10001 + 1 := by simp; omega
      generalize hL5 : L ++ [J] = L5 at *
      clear ho5 hg5 HO4 HB4 y0 y1 ha4 hbb4
      have HSEP := hide (sep_texts (w5 := w5) (v5 := .slice A5 L5.length c5) (PX := PX) (B := w1.heap.size) HO5.out)
      go_wp2_with fail
      apply wp_region_lo3 (C := fun W => Below w1.heap.size w1 W) (V := [some _, some _, some _, some _, some _, some _, some _, some _, some _, some _, some _, some _, some _, some _, some _, some _, some _, some _, none, none, none]) (Fs := [(18, fun a W => ∃ v, a.tmps[40]? = some v ∧ TextsAt W v PX ∧ ∀ g, v.ownBlock = some g → w5.heap.size ≤ g), (19, fun a W => ∃ v, a.tmps[41]? = some v ∧ OwnT W w1.heap.size v (L5 ++ PX)), (20, fun a W => ∃ v, a.tmps[41]? = some v ∧ a.tmps[3]? = some v ∧ OwnT W w1.heap.size v (L5 ++ PX))]) (Ns := [(0, fun a (_ : World) => a.tmps[3]? = some (.slice A5 L5.length c5)), (18, fun (_ : Act) W => w5.heap.size ≤ W.heap.size), (19, fun (_ : Act) W => OwnT W w1.heap.size (.slice A5 L5.length c5) L5)]) (Rel := fun i b b' x x' => if i = 19 then (fun _ _ x x' => World.grownBy x x' (Value.ownBlock (.slice A5 L5.length c5))) b b' x x' else if i = 20 then (fun _ _ x x' => Below x.heap.size x x') b b' x x' else Below x.heap.size x x')
      case hm => kernel_rfl
      case hB => kernel_rfl
      case hCw => exact HB5.out.drew
      case hC =>
        intro i a a' w_ w' hw hr
        by_cases e19 : i = 19
        · subst e19
          have hr' : (fun _ _ x x' => World.grownBy x x' (Value.ownBlock (.slice A5 L5.length c5))) a a' w_ w' := hr
          exact hw.trans (below_grown hr' hw.size (fun g e => (own_blk_lt HO5.out g e).1))
        by_cases e20 : i = 20
        · subst e20
          have hr' : (fun _ _ x x' => Below x.heap.size x x') a a' w_ w' := hr
          exact below_to hw (Nat.le_refl _) hr'
        have hr' : Below w_.heap.size w_ w' := by simpa [e19, e20] using hr
        exact below_to hw (Nat.le_refl _) hr'
      case hst =>
        refine keeps3_cons (fun i a a' w_ w' hne hwt hs hput hr h => by
          by_cases e19 : i = 19
          · subst e19
            have hr' : (fun _ _ x x' => World.grownBy x x' (Value.ownBlock (.slice A5 L5.length c5))) a a' w_ w' := hr
            obtain ⟨v, h1, h2, h3⟩ := h
            exact ⟨v, (hs 40 (by kernel_rfl)).trans h1, HSEP.out _ _ v hr' h2 h3, h3⟩
          by_cases e20 : i = 20
          · subst e20
            have hr' : (fun _ _ x x' => Below x.heap.size x x') a a' w_ w' := hr
            obtain ⟨v, h1, h2, h3⟩ := h
            exact ⟨v, (hs 40 (by kernel_rfl)).trans h1, h2.to hr', h3⟩
          have hr' : Below w_.heap.size w_ w' := by simpa [e19, e20] using hr
          obtain ⟨v, h1, h2, h3⟩ := h
          exact ⟨v, (hs 40 (by kernel_rfl)).trans h1, h2.to hr', h3⟩) ?_
        refine keeps3_cons (fun i a a' w_ w' hne hwt hs hput hr h => by
          by_cases e19 : i = 19
          · exact absurd e19 hne
          by_cases e20 : i = 20
          · subst e20
            have hr' : (fun _ _ x x' => Below x.heap.size x x') a a' w_ w' := hr
            obtain ⟨v, h1, h2⟩ := h
            exact ⟨v, (hs 41 (by kernel_rfl)).trans h1, own_to4 h2 hr'⟩
          have hr' : Below w_.heap.size w_ w' := by simpa [e19, e20] using hr
          obtain ⟨v, h1, h2⟩ := h
          exact ⟨v, (hs 41 (by kernel_rfl)).trans h1, own_to4 h2 hr'⟩) ?_
        refine keeps3_cons (fun i a a' w_ w' hne hwt hs hput hr h => by
          by_cases e19 : i = 19
          · subst e19
            exact absurd (hwt.symm.trans (show Region.waitsFor .any _ 20 19 = true by kernel_rfl)) (by decide)
          by_cases e20 : i = 20
          · exact absurd e20 hne
          have hr' : Below w_.heap.size w_ w' := by simpa [e19, e20] using hr
          obtain ⟨v, h1, h3, h2⟩ := h
          exact ⟨v, (hs 41 (by kernel_rfl)).trans h1, (hs 3 (by kernel_rfl)).trans h3, own_to4 h2 hr'⟩) ?_
        exact keeps3_nil
      case hN0 => exact pre0_cons (rfl) (pre0_cons (Nat.le_refl _) (pre0_cons (HO5.out) (pre0_nil)))
      case hNst =>
        refine prek_cons3 (fun i a a' w_ w' hne hwt hr h hput => by
          by_cases e19 : i = 19
          · subst e19
            have hr' : (fun _ _ x x' => World.grownBy x x' (Value.ownBlock (.slice A5 L5.length c5))) a a' w_ w' := hr
            exact (other_slot (d := 3) (k := 20) (by kernel_rfl) hput (by decide)).trans h
          by_cases e20 : i = 20
          · subst e20
            exact absurd (hwt.symm.trans (show waitsT .any _ _ 20 0 = true by kernel_rfl)) (by decide)
          have hr' : Below w_.heap.size w_ w' := by simpa [e19, e20] using hr
          exact (other_slot (d := 3) (k := 20) (by kernel_rfl) hput e20).trans h) ?_
        refine prek_cons3 (fun i a a' w_ w' hne hwt hr h hput => by
          by_cases e19 : i = 19
          · subst e19
            have hr' : (fun _ _ x x' => World.grownBy x x' (Value.ownBlock (.slice A5 L5.length c5))) a a' w_ w' := hr
            exact Nat.le_trans h hr'.size
          by_cases e20 : i = 20
          · subst e20
            have hr' : (fun _ _ x x' => Below x.heap.size x x') a a' w_ w' := hr
            exact Nat.le_trans h hr'.size
          have hr' : Below w_.heap.size w_ w' := by simpa [e19, e20] using hr
          exact Nat.le_trans h hr'.size) ?_
        refine prek_cons3 (fun i a a' w_ w' hne hwt hr h hput => by
          by_cases e19 : i = 19
          · exact absurd e19 hne
          by_cases e20 : i = 20
          · subst e20
            exact absurd (hwt.symm.trans (show waitsT .any _ _ 20 19 = true by kernel_rfl)) (by decide)
          have hr' : Below w_.heap.size w_ w' := by simpa [e19, e20] using hr
          exact own_to4 h hr') ?_
        exact prek_nil3
      case hop =>
        refine ⟨?_, ?_, ?_, ?_, ?_, ?_, ?_, ?_, ?_, ?_, ?_, ?_, ?_, ?_, ?_, ?_, ?_, ?_, ?_, ?_, ?_, trivial⟩
        · intro a w_ K hw hS hd hN hK
          have s3 := hN _ (List.mem_cons_self ..) rfl
          rw [if_pos (want_free rfl)]
          have s3 : a.tmps[3]? = some (.slice A5 L5.length c5) := s3
          go_simp
          exact hK _ _ (Below.refl _ _) (vok rfl) (facts_cons (fun h => absurd h (by decide)) (facts_cons (fun h => absurd h (by decide)) (facts_cons (fun h => absurd h (by decide)) facts_nil)))
        · intro a w_ K hw hS hd hN hK
          have s1 := hS.at 1 (by kernel_rfl) rfl
          rw [if_pos (want_free rfl)]
          go_simp
          exact hK _ _ (Below.refl _ _) (vok rfl) (facts_cons (fun h => absurd h (by decide)) (facts_cons (fun h => absurd h (by decide)) (facts_cons (fun h => absurd h (by decide)) facts_nil)))
        · intro a w_ K hw hS hd hN hK
          have s23 := (waits_on hd 1 (by kernel_rfl)).at (d := 23) rfl rfl rfl
          rw [if_pos (want_free rfl)]
          obtain ⟨x0, x1, x2, x3, x4⟩ := page_cells (HX.out.to hw)
          go_simp
          exact hK _ _ (Below.refl _ _) (vok rfl) (facts_cons (fun h => absurd h (by decide)) (facts_cons (fun h => absurd h (by decide)) (facts_cons (fun h => absurd h (by decide)) facts_nil)))
        · intro a w_ K hw hS hd hN hK
          have s1 := hS.at 1 (by kernel_rfl) rfl
          rw [if_pos (want_free rfl)]
          go_simp
          exact hK _ _ (Below.refl _ _) (vok rfl) (facts_cons (fun h => absurd h (by decide)) (facts_cons (fun h => absurd h (by decide)) (facts_cons (fun h => absurd h (by decide)) facts_nil)))
        · intro a w_ K hw hS hd hN hK
          have s25 := (waits_on hd 3 (by kernel_rfl)).at (d := 25) rfl rfl rfl
          rw [if_pos (want_free rfl)]
          obtain ⟨x0, x1, x2, x3, x4⟩ := page_cells (HX.out.to hw)
          go_simp
          exact hK _ _ (Below.refl _ _) (vok rfl) (facts_cons (fun h => absurd h (by decide)) (facts_cons (fun h => absurd h (by decide)) (facts_cons (fun h => absurd h (by decide)) facts_nil)))
        · intro a w_ K hw hS hd hN hK
          have s4 := hS.at 4 (by kernel_rfl) rfl
          rw [if_pos (want_free rfl)]
          go_simp
          exact hK _ _ (Below.refl _ _) (vok rfl) (facts_cons (fun h => absurd h (by decide)) (facts_cons (fun h => absurd h (by decide)) (facts_cons (fun h => absurd h (by decide)) facts_nil)))
        · intro a w_ K hw hS hd hN hK
          have s26 := (waits_on hd 4 (by kernel_rfl)).at (d := 26) rfl rfl rfl
          have s27 := (waits_on hd 5 (by kernel_rfl)).at (d := 27) rfl rfl rfl
          rw [if_pos (want_free rfl)]
          go_simp
          exact hK _ _ (Below.refl _ _) (vok rfl) (facts_cons (fun h => absurd h (by decide)) (facts_cons (fun h => absurd h (by decide)) (facts_cons (fun h => absurd h (by decide)) facts_nil)))
        · intro a w_ K hw hS hd hN hK
          have s1 := hS.at 1 (by kernel_rfl) rfl
          rw [if_pos (want_free rfl)]
          go_simp
          exact hK _ _ (Below.refl _ _) (vok rfl) (facts_cons (fun h => absurd h (by decide)) (facts_cons (fun h => absurd h (by decide)) (facts_cons (fun h => absurd h (by decide)) facts_nil)))
        · intro a w_ K hw hS hd hN hK
          have s29 := (waits_on hd 7 (by kernel_rfl)).at (d := 29) rfl rfl rfl
          rw [if_pos (want_free rfl)]
          obtain ⟨x0, x1, x2, x3, x4⟩ := page_cells (HX.out.to hw)
          go_simp
          exact hK _ _ (Below.refl _ _) (vok rfl) (facts_cons (fun h => absurd h (by decide)) (facts_cons (fun h => absurd h (by decide)) (facts_cons (fun h => absurd h (by decide)) facts_nil)))
        · intro a w_ K hw hS hd hN hK
          have s4 := hS.at 4 (by kernel_rfl) rfl
          rw [if_pos (want_free rfl)]
          go_simp
          exact hK _ _ (Below.refl _ _) (vok rfl) (facts_cons (fun h => absurd h (by decide)) (facts_cons (fun h => absurd h (by decide)) (facts_cons (fun h => absurd h (by decide)) facts_nil)))
        · intro a w_ K hw hS hd hN hK
          have s30 := (waits_on hd 8 (by kernel_rfl)).at (d := 30) rfl rfl rfl
          have s31 := (waits_on hd 9 (by kernel_rfl)).at (d := 31) rfl rfl rfl
          rw [if_pos (want_free rfl)]
          go_simp
          exact hK _ _ (Below.refl _ _) (vok rfl) (facts_cons (fun h => absurd h (by decide)) (facts_cons (fun h => absurd h (by decide)) (facts_cons (fun h => absurd h (by decide)) facts_nil)))
        · intro a w_ K hw hS hd hN hK
          have s32 := (waits_on hd 10 (by kernel_rfl)).at (d := 32) rfl rfl rfl
          rw [if_pos (want_free rfl)]
          have c0 := HC1.out w_ hw
          go_simp
          exact hK _ _ (Below.refl _ _) (vok rfl) (facts_cons (fun h => absurd h (by decide)) (facts_cons (fun h => absurd h (by decide)) (facts_cons (fun h => absurd h (by decide)) facts_nil)))
        · intro a w_ K hw hS hd hN hK
          have s33 := (waits_on hd 11 (by kernel_rfl)).at (d := 33) rfl rfl rfl
          rw [if_pos (want_free rfl)]
          go_simp
          with_reducible refine (HLf.out w_).mono ?_
          rintro e w' ⟨rfl, hb⟩
          exact hK _ _ hb (vok rfl) (facts_cons (fun h => absurd h (by decide)) (facts_cons (fun h => absurd h (by decide)) (facts_cons (fun h => absurd h (by decide)) facts_nil)))
        · intro a w_ K hw hS hd hN hK
          have s1 := hS.at 1 (by kernel_rfl) rfl
          rw [if_pos (want_free rfl)]
          go_simp
          exact hK _ _ (Below.refl _ _) (vok rfl) (facts_cons (fun h => absurd h (by decide)) (facts_cons (fun h => absurd h (by decide)) (facts_cons (fun h => absurd h (by decide)) facts_nil)))
        · intro a w_ K hw hS hd hN hK
          have s35 := (waits_on hd 13 (by kernel_rfl)).at (d := 35) rfl rfl rfl
          rw [if_pos (want_free rfl)]
          obtain ⟨x0, x1, x2, x3, x4⟩ := page_cells (HX.out.to hw)
          go_simp
          exact hK _ _ (Below.refl _ _) (vok rfl) (facts_cons (fun h => absurd h (by decide)) (facts_cons (fun h => absurd h (by decide)) (facts_cons (fun h => absurd h (by decide)) facts_nil)))
        · intro a w_ K hw hS hd hN hK
          have s4 := hS.at 4 (by kernel_rfl) rfl
          rw [if_pos (want_free rfl)]
          go_simp
          exact hK _ _ (Below.refl _ _) (vok rfl) (facts_cons (fun h => absurd h (by decide)) (facts_cons (fun h => absurd h (by decide)) (facts_cons (fun h => absurd h (by decide)) facts_nil)))
        · intro a w_ K hw hS hd hN hK
          have s36 := (waits_on hd 14 (by kernel_rfl)).at (d := 36) rfl rfl rfl
          have s37 := (waits_on hd 15 (by kernel_rfl)).at (d := 37) rfl rfl rfl
          rw [if_pos (want_free rfl)]
          go_simp
          exact hK _ _ (Below.refl _ _) (vok rfl) (facts_cons (fun h => absurd h (by decide)) (facts_cons (fun h => absurd h (by decide)) (facts_cons (fun h => absurd h (by decide)) facts_nil)))
        · intro a w_ K hw hS hd hN hK
          have s38 := (waits_on hd 16 (by kernel_rfl)).at (d := 38) rfl rfl rfl
          rw [if_pos (want_free rfl)]
          have d0 := HD1.out w_ hw
          go_simp
          exact hK _ _ (Below.refl _ _) (vok rfl) (facts_cons (fun h => absurd h (by decide)) (facts_cons (fun h => absurd h (by decide)) (facts_cons (fun h => absurd h (by decide)) facts_nil)))
        · intro a w_ K hw hS hd hN hK
          have s24 := (waits_on hd 2 (by kernel_rfl)).at (d := 24) rfl rfl rfl
          have s28 := (waits_on hd 6 (by kernel_rfl)).at (d := 28) rfl rfl rfl
          have s34 := (waits_on hd 12 (by kernel_rfl)).at (d := 34) rfl rfl rfl
          have s39 := (waits_on hd 17 (by kernel_rfl)).at (d := 39) rfl rfl rfl
          have hw5 := hN _ (List.mem_cons_of_mem _ (List.mem_cons_self ..)) rfl
          rw [if_pos (want_free rfl)]
          go_simp
          with_reducible refine (HP.out w_ (HTQ.out.to hw)).mono ?_
          rintro e w' ⟨v7, rfl, ho7, hb7⟩
          exact hK _ _ hb7 (vfree rfl) (facts_cons (fun _ => ⟨v7, hS.put_at (by kernel_rfl) _, TextsAt.of_own ho7, fun g e => Nat.le_trans hw5 (own_blk_lt ho7 g e).1⟩) (facts_cons (fun h => absurd h (by decide)) (facts_cons (fun h => absurd h (by decide)) facts_nil)))
        · intro a w_ K hw hS hd hN hK
          have s22 := (waits_on hd 0 (by kernel_rfl)).at (d := 22) rfl rfl rfl
          obtain ⟨v40, s40, t40, l40⟩ := (waits_on hd 18 (by kernel_rfl)).2 _ (List.mem_cons_self ..) rfl
          have hOwn := hN _ (List.mem_cons_of_mem _ (List.mem_cons_of_mem _ (List.mem_cons_self ..))) rfl
          rw [if_pos (want_free rfl)]
          refine wp_append_texts (.tmp 22) (.tmp 40) rfl w1.heap.size (.slice A5 L5.length c5) L5 (eval_at s22) hOwn v40 PX (eval_at s40) t40 (by omega) hw.size ?_
          intro v8 w' ho hg hne
          exact hK v8 w' hg (vfree rfl) (facts_cons (fun h => absurd h (by decide)) (facts_cons (fun _ => ⟨v8, hS.put_at (by kernel_rfl) _, ho⟩) (facts_cons (fun h => absurd h (by decide)) facts_nil)))
        · intro a w_ K hw hS hd hN hK
          obtain ⟨v41, s41, o41⟩ := (waits_on hd 19 (by kernel_rfl)).2 _ (List.mem_cons_of_mem _ (List.mem_cons_self ..)) rfl
          rw [if_pos (want_free rfl)]
          go_simp
          exact hK _ _ (Below.refl _ _) (vfree rfl) (facts_cons (fun h => absurd h (by decide)) (facts_cons (fun h => absurd h (by decide)) (facts_cons (fun _ => ⟨v41, (put_far (by decide)).trans s41, hS.put_at (by kernel_rfl) _, o41⟩) facts_nil)))
      case hfin =>
        intro a w8 hw hS hk
        have s22 := (hk 0 (by decide)).at (d := 22) rfl rfl rfl
        have s23 := (hk 1 (by decide)).at (d := 23) rfl rfl rfl
        have s24 := (hk 2 (by decide)).at (d := 24) rfl rfl rfl
        have s25 := (hk 3 (by decide)).at (d := 25) rfl rfl rfl
        have s26 := (hk 4 (by decide)).at (d := 26) rfl rfl rfl
        have s27 := (hk 5 (by decide)).at (d := 27) rfl rfl rfl
        have s28 := (hk 6 (by decide)).at (d := 28) rfl rfl rfl
        have s29 := (hk 7 (by decide)).at (d := 29) rfl rfl rfl
        have s30 := (hk 8 (by decide)).at (d := 30) rfl rfl rfl
        have s31 := (hk 9 (by decide)).at (d := 31) rfl rfl rfl
        have s32 := (hk 10 (by decide)).at (d := 32) rfl rfl rfl
        have s33 := (hk 11 (by decide)).at (d := 33) rfl rfl rfl
        have s34 := (hk 12 (by decide)).at (d := 34) rfl rfl rfl
        have s35 := (hk 13 (by decide)).at (d := 35) rfl rfl rfl
        have s36 := (hk 14 (by decide)).at (d := 36) rfl rfl rfl
        have s37 := (hk 15 (by decide)).at (d := 37) rfl rfl rfl
        have s38 := (hk 16 (by decide)).at (d := 38) rfl rfl rfl
        have s39 := (hk 17 (by decide)).at (d := 39) rfl rfl rfl
        obtain ⟨v40, s40, t40, l40⟩ := (hk 18 (by decide)).2 _ (List.mem_cons_self ..) rfl
        obtain ⟨v41, s41, o41⟩ := (hk 19 (by decide)).2 _ (List.mem_cons_of_mem _ (List.mem_cons_self ..)) rfl
        obtain ⟨v3, s41', s3, o3⟩ := (hk 20 (by decide)).2 _ (List.mem_cons_of_mem _ (List.mem_cons_of_mem _ (List.mem_cons_self ..))) rfl
        have hlit := hS.lit _ (by kernel_rfl) (lits_cons s22 (lits_cons s23 (lits_cons s24 (lits_cons s25 (lits_cons s26 (lits_cons s27 (lits_cons s28 (lits_cons s29 (lits_cons s30 (lits_cons s31 (lits_cons s32 (lits_cons s33 (lits_cons s34 (lits_cons s35 (lits_cons s36 (lits_cons s37 (lits_cons s38 (lits_cons s39 (lits_cons s40 (lits_cons s41 (lits_cons s3 lits_nil)))))))))))))))))))))
        rw [hlit]
        clear hlit hk hS t40 l40 o41 s41'
        have HB8 := hide hw
        have HO8 : Hid (OwnT w8 w1.heap.size v3 (chkUp p (k + 1))) := by
          rw [HCS.out]
          have := o3
          rw [← hL5, List.append_assoc, List.singleton_append] at this
          exact this
        clear o3 hw
        simp only [litT, List.setIfInBounds_toArray, List.set_cons_succ, List.set_cons_zero]
        go_wp2_with fail
        refine ⟨⟨k + 1, by go_num, by omega, HO8.out, HB8.out⟩, ?_⟩
        simp [intOf]; omega
    · obtain rfl : k = p.items.length := by omega
      have e1 : decide ((p.items.length : Int) < (p.items.length : Int)) = false := by simp
      go_wp2_with fail
      go_ret
      exact ⟨_, rfl, own_less HO.out HB.out.size, below_to HB.out (Nat.le_refl _) HBr.out⟩
end Go.Proofs.YtfhanbiifjiklaaGreatDoor

/- The reference's page: Holds at every page. -/
set_option linter.unusedVariables false
set_option linter.unusedSimpArgs false
namespace Go.Proofs.YtfhanbiifjiklaaGreatDoor
open Go.RowKit

/-- the first k items are held -/
def chkK (p : Pg) (k : Nat) : Prop := ∀ j, j < k → ∀ x q, p.items[j]? = some x → p.paths[j]? = some q → checkV p.root p.size (p.fr + (j : Int)) (leafD x) q = true
theorem held_all {p : Pg} (hs : p.fr ≤ p.size - p.items.length) (hl : p.paths.length = p.items.length) (h : chkK p p.items.length) : heldB p p.root p.size = true := by
  unfold heldB sameB
  rw [decide_eq_true rfl, decide_eq_true rfl, decide_eq_true hs, Bool.true_and, Bool.true_and, Bool.true_and, List.all_eq_true]
  intro k _
  unfold Pg.checkAt
  have hq : p.paths[k.val]? = some (p.paths.getD k []) := by
    rw [List.getD_eq_getElem?_getD, List.getElem?_eq_getElem (by rw [hl]; exact k.isLt)]; rfl
  exact h k.val k.isLt _ _ (List.getElem?_eq_getElem k.isLt) hq
theorem held_no {p : Pg} {k : Nat} {x : List UInt8} {q : List (List UInt8)} (hx : p.items[k]? = some x) (hq : p.paths[k]? = some q) (hc : checkV p.root p.size (p.fr + (k : Int)) (leafD x) q = false) : heldB p p.root p.size = false := by
  cases h : heldB p p.root p.size with
  | false => rfl
  | true => rw [held_at h hx hq] at hc; cases hc
theorem held_far {p : Pg} (hs : ¬ p.fr ≤ p.size - p.items.length) : heldB p p.root p.size = false := by
  unfold heldB sameB
  rw [decide_eq_false hs, Bool.and_false, Bool.and_false, Bool.false_and]
def holdsV (p : Pg) : Bool := formedB p && heldB p p.root p.size
set_option maxRecDepth 100000 in
set_option maxHeartbeats 4000000 in
theorem rHolds_no (p : Pg) (hp : p.fit) (hf : formedB p = false) (vi vp : Value) (w : World) (hvi : TextsAt w vi p.items) (hvp : PathsAt w vp p.paths) :
    Calls Tryz.prog 27 #[.agg (p.cs vi vp)] w fun e w' => e = .returned (.bool false) ∧ Below w.heap.size w w' := by
  obtain ⟨Ai, ci, rfl, hci⟩ := hvi.slice
  obtain ⟨Ap, cp, rfl, hcp⟩ := hvp.slice
  have hb0 := below_one w (.cells #[.int .i64 p.fr, .int .i64 p.size, .string (bs p.root), .slice Ai p.items.length ci, .slice Ap p.paths.length cp] 25)
  have CF : Calls Tryz.prog 58 #[.agg #[.int .i64 p.fr, .int .i64 p.size, .string (bs p.root), .slice Ai p.items.length ci, .slice Ap p.paths.length cp]] (w.alloc (.cells #[.int .i64 p.fr, .int .i64 p.size, .string (bs p.root), .slice Ai p.items.length ci, .slice Ap p.paths.length cp] 25)) fun e w' => e = .returned (.bool false) ∧ Below (w.alloc (.cells #[.int .i64 p.fr, .int .i64 p.size, .string (bs p.root), .slice Ai p.items.length ci, .slice Ap p.paths.length cp] 25)).heap.size (w.alloc (.cells #[.int .i64 p.fr, .int .i64 p.size, .string (bs p.root), .slice Ai p.items.length ci, .slice Ap p.paths.length cp] 25)) w' := by
    have := rFormed_any p hp _ _ _ (hvi.to hb0) (hvp.to hb0)
    rw [hf] at this
    exact this
  have HB := hide hb0
  clear hvi hvp hb0 hf
  unfold Pg.cs
  go_enter Tryz.func27, Tryz.ntmps27
  go_wp2_with fail
  generalize w.alloc (.cells #[.int .i64 p.fr, .int .i64 p.size, .string (bs p.root), .slice Ai p.items.length ci, .slice Ap p.paths.length cp] 25) = w1 at *
  refine CF.mono ?_
  rintro e w2 ⟨rfl, hb⟩
  go_wp2_with fail
  go_ret
  exact ⟨rfl, below_to HB.out (Nat.le_refl _) hb⟩
set_option maxRecDepth 100000 in
set_option maxHeartbeats 4000000 in
theorem rHolds_far (p : Pg) (hp : p.fit) (hf : formedB p = true) (hs : ¬ p.fr ≤ p.size - p.items.length) (vi vp : Value) (w : World) (hvi : TextsAt w vi p.items) (hvp : PathsAt w vp p.paths) :
    Calls Tryz.prog 27 #[.agg (p.cs vi vp)] w fun e w' => e = .returned (.bool false) ∧ Below w.heap.size w w' := by
  have hfs := (formed_spec hf).1
  have hfr := hfs.1
  have hsz := hfs.2.1
  have hil := hfs.2.2.2.1
  obtain ⟨Ai, ci, rfl, hci⟩ := hvi.slice
  obtain ⟨Ap, cp, rfl, hcp⟩ := hvp.slice
  have hb0 := below_one w (.cells #[.int .i64 p.fr, .int .i64 p.size, .string (bs p.root), .slice Ai p.items.length ci, .slice Ap p.paths.length cp] 25)
  have CF : Calls Tryz.prog 58 #[.agg #[.int .i64 p.fr, .int .i64 p.size, .string (bs p.root), .slice Ai p.items.length ci, .slice Ap p.paths.length cp]] (w.alloc (.cells #[.int .i64 p.fr, .int .i64 p.size, .string (bs p.root), .slice Ai p.items.length ci, .slice Ap p.paths.length cp] 25)) fun e w' => e = .returned (.bool true) ∧ Below (w.alloc (.cells #[.int .i64 p.fr, .int .i64 p.size, .string (bs p.root), .slice Ai p.items.length ci, .slice Ap p.paths.length cp] 25)).heap.size (w.alloc (.cells #[.int .i64 p.fr, .int .i64 p.size, .string (bs p.root), .slice Ai p.items.length ci, .slice Ap p.paths.length cp] 25)) w' := by
    have := rFormed_any p hp _ _ _ (hvi.to hb0) (hvp.to hb0)
    rw [hf] at this
    exact this
  have HB := hide hb0
  have HX := hide (Blk.new w 25 (p.cs (.slice Ai p.items.length ci) (.slice Ap p.paths.length cp)))
  have c2 : decide (p.size < p.fr + (p.items.length : Int)) = true := decide_eq_true (by omega)
  have hwr : IntKind.i64.wrap (p.fr + (p.items.length : Int)) = p.fr + (p.items.length : Int) := IntWalk.i64_in _ (by omega)
  clear hvi hvp hb0 hf hfs hs
  unfold Pg.cs at HX ⊢
  by_cases hlt : p.size < p.fr
  · have c1 : decide (p.size < p.fr) = true := decide_eq_true hlt
    go_enter Tryz.func27, Tryz.ntmps27
    go_wp2_with fail
    generalize w.alloc (.cells #[.int .i64 p.fr, .int .i64 p.size, .string (bs p.root), .slice Ai p.items.length ci, .slice Ap p.paths.length cp] 25) = w1 at *
    refine CF.mono ?_
    rintro e w2 ⟨rfl, hb⟩
    obtain ⟨x0, x1, x2, x3, x4⟩ := page_cells (HX.out.to hb)
    go_wp2_with fail
    go_ret
    exact ⟨rfl, below_to HB.out (Nat.le_refl _) hb⟩
  · have c1 : decide (p.size < p.fr) = false := decide_eq_false hlt
    go_enter Tryz.func27, Tryz.ntmps27
    go_wp2_with fail
    generalize w.alloc (.cells #[.int .i64 p.fr, .int .i64 p.size, .string (bs p.root), .slice Ai p.items.length ci, .slice Ap p.paths.length cp] 25) = w1 at *
    refine CF.mono ?_
    rintro e w2 ⟨rfl, hb⟩
    obtain ⟨x0, x1, x2, x3, x4⟩ := page_cells (HX.out.to hb)
    go_wp2_with fail
    go_ret
    exact ⟨rfl, below_to HB.out (Nat.le_refl _) hb⟩
set_option maxRecDepth 100000 in
set_option maxHeartbeats 4000000 in
theorem rHolds_in (p : Pg) (hp : p.fit) (hf : formedB p = true) (hsm : p.fr ≤ p.size - p.items.length) (vi vp : Value) (w : World) (hvi : TextsAt w vi p.items) (hvp : PathsAt w vp p.paths) :
    Calls Tryz.prog 27 #[.agg (p.cs vi vp)] w fun e w' => e = .returned (.bool (heldB p p.root p.size)) ∧ Below w.heap.size w w' := by
  have HI := hide hp.li
  have HQ := hide (formed_len hf).1
  have hfs := (formed_spec hf).1
  have HPL : Hid (p.paths.length = p.items.length) := hfs.2.2.2.2
  have hfr := hfs.1
  have hsz := hfs.2.1
  have hil := hfs.2.2.2.1
  obtain ⟨Ai, ci, rfl, hci⟩ := hvi.slice
  obtain ⟨Ap, cp, rfl, hcp⟩ := hvp.slice
  have hb0 := below_one w (.cells #[.int .i64 p.fr, .int .i64 p.size, .string (bs p.root), .slice Ai p.items.length ci, .slice Ap p.paths.length cp] 25)
  have CF : Calls Tryz.prog 58 #[.agg #[.int .i64 p.fr, .int .i64 p.size, .string (bs p.root), .slice Ai p.items.length ci, .slice Ap p.paths.length cp]] (w.alloc (.cells #[.int .i64 p.fr, .int .i64 p.size, .string (bs p.root), .slice Ai p.items.length ci, .slice Ap p.paths.length cp] 25)) fun e w' => e = .returned (.bool true) ∧ Below (w.alloc (.cells #[.int .i64 p.fr, .int .i64 p.size, .string (bs p.root), .slice Ai p.items.length ci, .slice Ap p.paths.length cp] 25)).heap.size (w.alloc (.cells #[.int .i64 p.fr, .int .i64 p.size, .string (bs p.root), .slice Ai p.items.length ci, .slice Ap p.paths.length cp] 25)) w' := by
    have := rFormed_any p hp _ _ _ (hvi.to hb0) (hvp.to hb0)
    rw [hf] at this
    exact this
  have HVI := hide (hvi.to hb0)
  have HVP := hide (hvp.to hb0)
  have HB := hide hb0
  have HX := hide (Blk.new w 25 (p.cs (.slice Ai p.items.length ci) (.slice Ap p.paths.length cp)))
  have HSM := hide hsm
  have c1 : decide (p.size < p.fr) = false := decide_eq_false (by omega)
  have c2 : decide (p.size < p.fr + (p.items.length : Int)) = false := decide_eq_false (by omega)
  clear hvi hvp hb0 hf hfs hsm
  unfold Pg.cs at HX ⊢
  go_enter Tryz.func27, Tryz.ntmps27
  go_wp2_with fail
  generalize w.alloc (.cells #[.int .i64 p.fr, .int .i64 p.size, .string (bs p.root), .slice Ai p.items.length ci, .slice Ap p.paths.length cp] 25) = w1 at *
  refine CF.mono ?_
  rintro e w2 ⟨rfl, hb⟩
  obtain ⟨x0, x1, x2, x3, x4⟩ := page_cells (HX.out.to hb)
  have HB2 := hide hb
  clear hb CF
  go_wp2_with fail
  clear x0 x1 x2 x3 x4
  go_loopw [3] (fun i wr => ∃ k : Nat, i = .int .i64 (k : Int) ∧ k ≤ p.items.length ∧ Hid (chkK p k) ∧ Aside (Below w1.heap.size w1 wr)) (fun i _ => p.items.length - (intOf i).toNat)
  case atStart => exact ⟨0, rfl, by omega, (fun j h => absurd h (by omega)), HB2.out⟩
  case round =>
    clear HB2
    obtain ⟨k, rfl, hk, HK, hB⟩ := hrel
    have HBr : Hid (Below w1.heap.size w1 wr) := hB
    clear hB
    by_cases hlt : k < p.items.length
    · have e1 : decide ((k : Int) < (p.items.length : Int)) = true := decide_eq_true (by omega)
      obtain ⟨x, hx⟩ : ∃ x, p.items[k]? = some x := ⟨_, List.getElem?_eq_getElem hlt⟩
      obtain ⟨q, hq⟩ : ∃ q, p.paths[k]? = some q := ⟨_, List.getElem?_eq_getElem (by have := HPL.out; omega)⟩
      have hxl := HI.out x (List.mem_of_getElem? hx)
      have hql := HQ.out q (List.mem_of_getElem? hq)
      have i0 : (0 : Int) ≤ (k : Int) := by omega
      have i1 : (k : Int) < (p.items.length : Int) := by omega
      have i2 : (k : Int) < (p.paths.length : Int) := by have := HPL.out; omega
      have hwr : IntKind.i64.wrap (p.fr + (k : Int)) = p.fr + (k : Int) := IntWalk.i64_in _ (by omega)
      obtain ⟨a, e9, ha, c0⟩ := (HVI.out.to HBr.out).at_ hx
      obtain ⟨b, vq, e8, hb, d0, htq⟩ := (HVP.out.to HBr.out).at_ hq
      subst e9 e8
      obtain ⟨U, hU, g, u0, e7, hgu, hi⟩ := cls wr
      subst e7
      have CL := cls_call hgu hi (fun w hb => rLeaf_any x (by omega) w)
      have CC := cls_call hgu hi (fun w hb => rCheck_any p.root p.size (p.fr + (k : Int)) (leafD x) q (by rw [isD_len (leaf_isD x)]; decide) (by omega) (fun y hy => by rw [hql.2 y hy]; decide) vq w (htq.to hb))
      obtain ⟨r, hr⟩ : ∃ r, checkV p.root p.size (p.fr + (k : Int)) (leafD x) q = r := ⟨_, rfl⟩
      rw [hr] at CC
      have HR := hide hr
      have HXI := hide hx
      have HQI := hide hq
      clear hr
      have X0 := blk_all hgu (HX.out.to HBr.out) 0 rfl
      have X1 := blk_all hgu (HX.out.to HBr.out) 1 rfl
      have X2 := blk_all hgu (HX.out.to HBr.out) 2 rfl
      have X3 := blk_all hgu (HX.out.to HBr.out) 3 rfl
      have X4 := blk_all hgu (HX.out.to HBr.out) 4 rfl
      have Y0 : ∀ u, (g u).cell? (a.add k) = some (.string (bs x)) := fun u => ((hgu u).cell (p := a.add k) (by rw [block_of_add]; exact ha)).trans c0
      have Y1 : ∀ u, (g u).cell? (b.add k) = some vq := fun u => ((hgu u).cell (p := b.add k) (by rw [block_of_add]; exact hb)).trans d0
      have HGU := hide hgu
      have HHI := hide hi
      clear hx hq hgu hi c0 d0 htq
      obtain ⟨lx, hlx⟩ : ∃ lx, leafD x = lx := ⟨_, rfl⟩
      have HLX := hide hlx
      rw [hlx] at CL CC
      rw [hlx] at HR
      clear hlx
      cases r with
      | true =>
        go_wp2_with fail
        refine wp_region_class g (by kernel_rfl) (by kernel_rfl) (HHI.out _ (HGU.out _).drew) ?_
        repeat (go_big_quiet_step (first | with_reducible exact CL _ | with_reducible exact CC _))
        refine wpQuiet_nil ?_
        intro w5 hw5
        obtain ⟨u, rfl⟩ := hw5
        go_wp2_with fail
        refine ⟨⟨k + 1, by go_num, by omega, fun j hj x' q' h1 h2 => ?_, below_to HBr.out (Nat.le_refl _) (HGU.out u)⟩, ?_⟩
        · by_cases hjk : j < k
          · exact HK.out j hjk x' q' h1 h2
          · obtain rfl : j = k := by omega
            rw [HXI.out] at h1; rw [HQI.out] at h2
            cases h1; cases h2
            rw [HLX.out]; exact HR.out
        · simp [intOf]; omega
      | false =>
        go_wp2_with fail
        refine wp_region_class g (by kernel_rfl) (by kernel_rfl) (HHI.out _ (HGU.out _).drew) ?_
        repeat (go_big_quiet_step (first | with_reducible exact CL _ | with_reducible exact CC _))
        refine wpQuiet_nil ?_
        intro w5 hw5
        obtain ⟨u, rfl⟩ := hw5
        go_wp2_with fail
        go_ret
        exact ⟨by rw [held_no HXI.out HQI.out (by rw [HLX.out]; exact HR.out)]; rfl, below_to HB.out (Nat.le_refl _) (below_to HBr.out (Nat.le_refl _) (HGU.out u))⟩
    · obtain rfl : k = p.items.length := by omega
      have e1 : decide ((p.items.length : Int) < (p.items.length : Int)) = false := by simp
      obtain ⟨x0, x1, x2, x3, x4⟩ := page_cells (HX.out.to HBr.out)
      go_wp2_with fail
      go_ret
      exact ⟨by rw [held_all HSM.out HPL.out HK.out]; rfl, below_to HB.out (Nat.le_refl _) HBr.out⟩
theorem rHolds_any (p : Pg) (hp : p.fit) (vi vp : Value) (w : World) (hvi : TextsAt w vi p.items) (hvp : PathsAt w vp p.paths) :
    Calls Tryz.prog 27 #[.agg (p.cs vi vp)] w fun e w' => e = .returned (.bool (holdsV p)) ∧ Below w.heap.size w w' := by
  unfold holdsV
  cases hf : formedB p with
  | false => rw [Bool.false_and]; exact rHolds_no p hp hf vi vp w hvi hvp
  | true =>
    rw [Bool.true_and]
    by_cases hs : p.fr ≤ p.size - p.items.length
    · exact rHolds_in p hp hf hs vi vp w hvi hvp
    · rw [held_far hs]; exact rHolds_far p hp hf hs vi vp w hvi hvp
end Go.Proofs.YtfhanbiifjiklaaGreatDoor

/- Walks of package tree: what a link's digests make (the closure of Extends). -/
set_option linter.unusedVariables false
set_option linter.unusedSimpArgs false
namespace Go.Proofs.YtfhanbiifjiklaaGreatDoor
open Go.RowKit

theorem bothG_len {old : List UInt8} (ho : old.length ≤ 100000000000) : ∀ (f n m : Nat) (wh : Bool) (st : List (List UInt8)) (sh : Bool), (∀ d ∈ st, d.length ≤ 100000000000) → (bothG old f n m wh st sh).1.1.length ≤ 100000000000 ∧ (bothG old f n m wh st sh).1.2.length ≤ 100000000000
  | 0, n, m, wh, st, sh, hd => ⟨ho, ho⟩
  | f + 1, n, m, wh, st, sh, hd => by
    have ht : ∀ d ∈ st.tail, d.length ≤ 100000000000 := fun d h => hd d (List.mem_of_mem_tail h)
    by_cases hn : m = n
    · subst hn
      rw [bothG_eq]
      cases wh
      · exact ⟨head_le hd, head_le hd⟩
      · exact ⟨ho, ho⟩
    · by_cases hm : m ≤ halfN n
      · rw [bothG_le old hn hm]
        exact ⟨(bothG_len ho f _ _ _ _ _ ht).1, by show (nodeD _ _).length ≤ _; rw [nodeD_len]; decide⟩
      · rw [bothG_gt old hn hm]
        exact ⟨by show (nodeD _ _).length ≤ _; rw [nodeD_len]; decide, by show (nodeD _ _).length ≤ _; rw [nodeD_len]; decide⟩
structure BoS (bl bpf bp bup bold : Nat) (old : List UInt8) (st : List (List UInt8)) (sh : Bool) (w : World) : Prop where
  ps : PS bl bpf st sh w
  p : Blk w bp 116 #[.pointer (some ⟨bpf, 0, none⟩)]
  up : Blk w bup 125 #[.func (.func 110) #[] #[.pointer (some ⟨bold, 0, none⟩), .pointer (some ⟨bp, 0, none⟩), .pointer (some ⟨bup, 0, none⟩)]]
  lf : Blk w bold 9 #[.string (bs old)]
  n1 : bp ≠ bl ∧ bp ≠ bpf ∧ bup ≠ bl ∧ bup ≠ bpf ∧ bold ≠ bl ∧ bold ≠ bpf
  gl : Tryz.prog.globals.size ≤ bl ∧ Tryz.prog.globals.size ≤ bpf
theorem BoS.to {bl bpf bp bup bold : Nat} {old : List UInt8} {st : List (List UInt8)} {sh : Bool} {w w' : World} (h : BoS bl bpf bp bup bold old st sh w) (hb : Below w.heap.size w w') : BoS bl bpf bp bup bold old st sh w' := ⟨h.ps.to hb, h.p.to hb, h.up.to hb, h.lf.to hb, h.n1, h.gl⟩
theorem BoS.two {bl bpf bp bup bold : Nat} {old : List UInt8} {st st' : List (List UInt8)} {sh sh' : Bool} {w w' : World} (h : BoS bl bpf bp bup bold old st sh w) (hb : Two bl bpf w w') (h' : PS bl bpf st' sh' w') : BoS bl bpf bp bup bold old st' sh' w' :=
  ⟨h', Two.blk h.p hb h.n1.1 h.n1.2.1, Two.blk h.up hb h.n1.2.2.1 h.n1.2.2.2.1, Two.blk h.lf hb h.n1.2.2.2.2.1 h.n1.2.2.2.2.2, h.n1, h.gl⟩
theorem ent_both : ∀ args w, (callFunc 110 args).run Tryz.prog w = .ok (.enter 110 args) w := enters_fn Tryz.func110 (by kernel_rfl) rfl
def BothOk (bl bpf bp bup bold : Nat) (old : List UInt8) (f : Nat) : Prop := ∀ (n m : Nat) (wh : Bool) (st : List (List UInt8)) (sh : Bool) (w : World), 1 ≤ m → m ≤ n → n ≤ f → n ≤ 1000000 → st.length ≤ 1000000000 → (∀ d ∈ st, d.length ≤ 100000000000) →
  BoS bl bpf bp bup bold old st sh w → Glob w → Calls Tryz.prog 110 #[.int .i64 (n : Int), .int .i64 (m : Int), .bool wh, .pointer (some ⟨bold, 0, none⟩), .pointer (some ⟨bp, 0, none⟩), .pointer (some ⟨bup, 0, none⟩)] w
    fun e w' => e = .returned (.tuple #[.string (bs (bothG old f n m wh st sh).1.1), .string (bs (bothG old f n m wh st sh).1.2)]) ∧ BoS bl bpf bp bup bold old (bothG old f n m wh st sh).2.1 (bothG old f n m wh st sh).2.2 w' ∧ Two bl bpf w w'
set_option maxRecDepth 100000 in
set_option maxHeartbeats 2000000 in
theorem both_step (bl bpf bp bup bold : Nat) (old : List UInt8) (hold : old.length ≤ 100000000000) (f : Nat) (ih : BothOk bl bpf bp bup bold old f) : BothOk bl bpf bp bup bold old (f + 1) := by
  intro n m wh st sh w h1 hm hf hn hst hd hS hg
  have hE := ent_both
  have HS := hide hS
  have l0 := (hS.lf.cell 0).trans rfl
  have p0 := (hS.p.cell 0).trans rfl
  clear hS
  by_cases hmn : m = n
  · subst hmn
    have HV := hide (bothG_eq old f m wh st sh)
    have e1 : ((m : Int) == (m : Int)) = true := by simp
    cases wh with
    | true =>
      clear p0 ih hE
      go_enter Tryz.func110, Tryz.ntmps110
      go_wp2_with fail
      go_quiet (fail)
      go_wp2_with fail
      go_ret2
      have hb := below_drewN (Below.refl w.heap.size w) nq
      exact ⟨by rw [HV.out]; rfl, by rw [HV.out]; exact HS.out.to hb, Two.of hb⟩
    | false =>
      have CX := pnext_any bl bpf st hst sh w HS.out.ps
      clear l0 ih hE
      generalize hh : st.headD [] = d at *
      go_enter Tryz.func110, Tryz.ntmps110
      go_wp2_with fail
      refine CX.mono ?_
      rintro e w4 ⟨rfl, hps, htw⟩
      have HS4 := hide (HS.out.two htw hps)
      have HT4 := hide htw
      clear hps htw CX
      go_wp2_with fail
      go_ret2
      exact ⟨by rw [HV.out]; rfl, by rw [HV.out]; exact HS4.out, HT4.out⟩
  · have e1 : ((m : Int) == (n : Int)) = false := by rw [beq_eq_false_iff_ne]; omega
    have e1' : (m == n) = false := by rw [beq_eq_false_iff_ne]; exact hmn
    have hh := half_lt (n := n) (by omega)
    have CH := fun w => half_any n (by omega) w
    have CX := fun w h => pnext_any bl bpf st hst sh w h
    have HVL := fun h : m ≤ halfN n => bothG_le old (f := f) hmn h wh st sh
    have HVG := fun h : ¬ m ≤ halfN n => bothG_gt old (f := f) hmn h wh st sh
    have hd' : ∀ d ∈ st.tail, d.length ≤ 100000000000 := fun d h => hd d (List.mem_of_mem_tail h)
    have hst' : st.tail.length ≤ 1000000000 := by rw [List.length_tail]; omega
    have hhd := head_le hd
    have HG := hide hg
    generalize hk : halfN n = k at *
    generalize st.headD [] = d at *
    generalize st.tail = st' at *
    generalize nextS st sh = sh' at *
    clear hk
    obtain ⟨U, hU, g, u0, rfl, hgu, hi'⟩ := cls w
    have HGU := hide hgu
    have HHI := hide hi'
    have CHg : ∀ u, Calls Tryz.prog 83 #[.int .i64 (n : Int)] (g u) fun e w' => e = .returned (.int .i64 (k : Int)) ∧ ∃ u', w' = g u' := fun u => (CH (g u)).mono fun e w' ⟨he, hw⟩ => ⟨he, u, hw⟩
    have p1 : ∀ u, (g u).cell? ⟨bp, 0, none⟩ = some (.pointer (some ⟨bpf, 0, none⟩)) := fun u => ((HS.out.to (hgu u)).p.cell 0).trans rfl
    have z1 : IntKind.i64.wrap ((n : Int) - (k : Int)) = (n : Int) - (k : Int) := IntWalk.i64_in _ (by omega)
    clear hgu hi' CH p0 l0 hg
    go_enter Tryz.func110, Tryz.ntmps110
    go_wp2_with fail
    refine wp_region_class_tail g 3 (by kernel_rfl) (by kernel_rfl) (HHI.out _ (HGU.out _).drew) ?_
    simp only [List.take_succ_cons, List.take_zero, List.drop_succ_cons, List.drop_zero]
    repeat (go_big_quiet_step (with_reducible exact CHg _))
    refine wpQuiet_nil ?_
    intro w5 hw5
    obtain ⟨u, rfl⟩ := hw5
    go_wp2_with fail
    refine (CX (g u) (HS.out.to (HGU.out u)).ps).mono ?_
    rintro e w4 ⟨rfl, hps, htw⟩
    have HTW : Hid (Two bl bpf (g u0) w4) := (Two.of (HGU.out u)).trans htw
    have HS4 := hide (HS.out.two HTW.out hps)
    have HG4 : Hid (Glob w4) := HG.out.two HTW.out HS.out.gl.1 HS.out.gl.2
    clear hps htw CX CHg p1
    by_cases hmk : m ≤ k
    · have e2 : decide ((m : Int) ≤ (k : Int)) = true := decide_eq_true (by omega)
      have e2' : decide (m ≤ k) = true := decide_eq_true hmk
      have HV := hide (HVL hmk)
      have CU := ih k m wh st' sh' w4 h1 hmk (by omega) (by omega) hst' hd' HS4.out HG4.out
      have hrl := bothG_len hold f k m wh st' sh' hd'
      have u0' := (HS4.out.up.cell 0).trans rfl
      clear ih HVL HVG
      generalize bothG old f k m wh st' sh' = R at *
      go_wp2_with fail
      refine CU.mono ?_
      rintro e w6 ⟨rfl, hus, htw⟩
      have HTW6 : Hid (Two bl bpf (g u0) w6) := HTW.out.trans htw
      have HS6 := hide hus
      have CN := node_any R.1.2 d hrl.2 hhd w6 (HG.out.two HTW6.out HS.out.gl.1 HS.out.gl.2)
      clear hus htw CU
      go_wp2_with ((with_reducible refine CN.mono ?_); rintro e w7 ⟨rfl, hb7⟩)
      go_ret2
      exact ⟨by rw [HV.out]; rfl, by rw [HV.out]; exact HS6.out.to (by assumption), HTW6.out.to (by assumption)⟩
    · have e2 : decide ((m : Int) ≤ (k : Int)) = false := decide_eq_false (by omega)
      have e2' : decide (m ≤ k) = false := decide_eq_false hmk
      have z2 : IntKind.i64.wrap ((m : Int) - (k : Int)) = (m : Int) - (k : Int) := IntWalk.i64_in _ (by omega)
      have HV := hide (HVG hmk)
      have CU0 := ih (n - k) (m - k) false st' sh' w4 (by omega) (by omega) (by omega) (by omega) hst' hd' HS4.out HG4.out
      rw [show ((n - k : Nat) : Int) = (n : Int) - (k : Int) by omega, show ((m - k : Nat) : Int) = (m : Int) - (k : Int) by omega] at CU0
      have hrl := bothG_len hold f (n - k) (m - k) false st' sh' hd'
      have u0' := (HS4.out.up.cell 0).trans rfl
      clear ih HVL HVG
      generalize bothG old f (n - k) (m - k) false st' sh' = R at *
      go_wp2_with fail
      refine CU0.mono ?_
      rintro e w6 ⟨rfl, hus, htw⟩
      have HTW6 : Hid (Two bl bpf (g u0) w6) := HTW.out.trans htw
      have HS6 := hide hus
      have HG6 : Hid (Glob w6) := HG.out.two HTW6.out HS.out.gl.1 HS.out.gl.2
      have CN := node_any d R.1.1 hhd hrl.1 w6 HG6.out
      have CN2 := fun (w7 : World) (hb : Below w6.heap.size w6 w7) => node_any d R.1.2 hhd hrl.2 w7 (HG6.out.to hb)
      clear hus htw CU0
      go_wp2_with (first | ((with_reducible refine CN.mono ?_); rintro e w7 ⟨rfl, hb7⟩; have CN2 := CN2 w7 hb7; clear CN) | ((with_reducible refine CN2.mono ?_); rintro e w8 ⟨rfl, hb8⟩; have HB8 := hide (below_to hb7 (Nat.le_refl _) hb8); clear hb8))
      go_ret2
      exact ⟨by rw [HV.out]; rfl, by rw [HV.out]; exact HS6.out.to HB8.out, HTW6.out.to HB8.out⟩
theorem both_any (bl bpf bp bup bold : Nat) (old : List UInt8) (hold : old.length ≤ 100000000000) : ∀ f, BothOk bl bpf bp bup bold old f
  | 0 => fun n m wh st sh w h1 h2 h3 => by omega
  | f + 1 => both_step bl bpf bp bup bold old hold f (both_any bl bpf bp bup bold old hold f)
end Go.Proofs.YtfhanbiifjiklaaGreatDoor

/- Walks of package tree: Extends. -/
set_option linter.unusedVariables false
set_option linter.unusedSimpArgs false
namespace Go.Proofs.YtfhanbiifjiklaaGreatDoor
open Go.RowKit

def boV (old : List UInt8) (m n : Nat) (root : List UInt8) (link : List (List UInt8)) : Bool := decide ((bothG old n n m true link.reverse false).1.1 = old) && (decide ((bothG old n n m true link.reverse false).1.2 = root) && (!(bothG old n n m true link.reverse false).2.2 && (bothG old n n m true link.reverse false).2.1.isEmpty))
def extV (old : List UInt8) (m : Int) (root : List UInt8) (n : Int) (link : List (List UInt8)) : Bool :=
  if 0 ≤ m ∧ m ≤ n ∧ n ≤ 1000000 ∧ properT link = true ∧ properT [old, root] = true then (if m = 0 then decide (link.length = 0) && (decide (old = totalT []) && (decide (0 < n) || decide (root = old))) else boV old m.toNat n.toNat root link) else false
set_option maxRecDepth 100000 in
set_option maxHeartbeats 4000000 in
theorem Extends_any (old : List UInt8) (m : Int) (root : List UInt8) (n : Int) (link : List (List UInt8)) (ho : old.length ≤ 100000) (hr : root.length ≤ 100000) (hp : link.length ≤ 1000000000) (hx : ∀ x ∈ link, x.length ≤ 100000000000) (v : Value) (w : World) (hv : TextsAt w v link) (hg : Glob w) :
    Calls Tryz.prog 77 #[.string (bs old), .int .i64 m, .string (bs root), .int .i64 n, v] w fun e w' => e = .returned (.bool (extV old m root n link)) ∧ Below w.heap.size w w' := by
  have HX := hide hx
  have HB0 := hide (below_one w (.cells #[.string (bs old)] 9))
  have KL0 := hide (Blk.new w 9 #[.string (bs old)])
  have KG0 := hide (hg.alloc (.cells #[.string (bs old)] 9))
  have hgt := hg.top
  have CC := Clone_any link hp v (w.alloc (.cells #[.string (bs old)] 9)) (RowsAt.to hv HB0.out)
  unfold CloneR at CC
  have hE := ent_both
  obtain ⟨Av, cv, rfl, hcv⟩ := hv.slice
  clear hv hg hx
  go_enter Tryz.func77, Tryz.ntmps77
  go_wp2_with fail
  have C1 := CC
  refine C1.mono ?_
  rintro e w1 ⟨v1, rfl, hKO, hb⟩
  have HB1 := hide (below_to HB0.out (Nat.le_refl _) hb)
  have KL1 := hide (KL0.out.to hb)
  have KG1 := hide (KG0.out.to hb)
  have KO1 := hide hKO
  clear hb C1 HB0 KL0 KG0 hKO
  have KR1 : Hid (TextsAt w1 v1 link) := TextsAt.of_own KO1.out
  obtain ⟨A1, k1, rfl, _⟩ := KR1.out.slice
  have KS : Hid (∀ a, A1 = some a → w.heap.size + 1 ≤ a.block ∧ a.block < w1.heap.size) := fun a h => by
    have h' := KO1.out.lt a.block (by rw [h]; rfl)
    have h'' : (w.alloc (.cells #[.string (bs old)] 9)).heap.size = w.heap.size + 1 := by simp
    rw [h''] at h'
    exact h'
  clear KO1
  have HLW : Hid (w.heap.size < w1.heap.size) := KL1.out.lt
  have KD2 := hide (Blk.new w1 103 #[.slice A1 link.length k1])
  have HB2 := hide (below_alloc HB1.out (Nat.le_refl _) (.cells #[.slice A1 link.length k1] 103))
  have KL2 := hide (KL1.out.to (below_one w1 (.cells #[.slice A1 link.length k1] 103)))
  have KG2 := hide (KG1.out.to (below_one w1 (.cells #[.slice A1 link.length k1] 103)))
  have KR2 := hide (KR1.out.to (below_one w1 (.cells #[.slice A1 link.length k1] 103)))
  clear HB1 KL1 KG1 KR1
  by_cases c1 : 0 ≤ m
  · have e1 : decide (m < 0) = false := decide_eq_false (by omega)
    by_cases c2 : m ≤ n
    · have e2 : decide (n < m) = false := decide_eq_false (by omega)
      by_cases c3 : n ≤ 1000000
      · have e3 : decide (1000000 < n) = false := decide_eq_false (by omega)
        obtain ⟨N, rfl⟩ : ∃ N : Nat, n = N := ⟨n.toNat, by omega⟩
        obtain ⟨M, rfl⟩ : ∃ M : Nat, m = M := ⟨m.toNat, by omega⟩
        have d0 := (KD2.out.cell 0).trans rfl
        have CP := tproper_any link (by omega) HX.out _ (w1.alloc (.cells #[.slice A1 link.length k1] 103)) KR2.out
        have e4 : decide ((N : Int) < (M : Int)) = false := decide_eq_false (by omega)
        have e5 : decide ((M : Int) < 0) = false := decide_eq_false (by omega)
        have e6 : decide ((1000000 : Int) < (N : Int)) = false := decide_eq_false (by omega)
        have e7 : decide (N < M) = false := decide_eq_false (by omega)
        have e8 : decide (1000000 < N) = false := decide_eq_false (by omega)
        clear e1 e2 e3
        go_wp2_with fail
        cases hpr : properT link with
        | false =>
          rw [hpr] at CP
          have C3 := CP
          refine C3.mono ?_
          rintro e w3 ⟨rfl, hb⟩
          have HB3 := hide (below_to HB2.out (Nat.le_refl _) hb)
          have KL3 := hide (KL2.out.to hb)
          have KG3 := hide (KG2.out.to hb)
          have KR3 := hide (KR2.out.to hb)
          have KD3 := hide (KD2.out.to hb)
          clear hb C3 HB2 KL2 KG2 KR2 KD2
          go_wp2_with fail
          go_ret
          exact ⟨ret_bool (by unfold extV; rw [if_neg (fun h => by rw [hpr] at h; exact absurd h.2.2.2.1 (by simp))]), HB3.out⟩
        | true =>
          rw [hpr] at CP
          have C3 := CP
          refine C3.mono ?_
          rintro e w3 ⟨rfl, hb⟩
          have HB3 := hide (below_to HB2.out (Nat.le_refl _) hb)
          have KL3 := hide (KL2.out.to hb)
          have KG3 := hide (KG2.out.to hb)
          have KR3 := hide (KR2.out.to hb)
          have KD3 := hide (KD2.out.to hb)
          clear hb C3 HB2 KL2 KG2 KR2 KD2
          have l0 := (KL3.out.cell 0).trans rfl
          have CI := tproper_any [old, root] (by simp) (fun x h => by simp only [List.mem_cons, List.not_mem_nil, or_false] at h; rcases h with rfl | rfl <;> omega) (.slice (some ⟨w3.heap.size, 0, none⟩) 2 2) (w3.alloc (.cells #[.string (bs old), .string (bs root)] 9)) (TextsAt.of_blk (ls := [old, root]) (Blk.new w3 9 #[.string (bs old), .string (bs root)]) rfl)
          go_wp2_with fail
          have HB4 := hide (below_alloc HB3.out (Nat.le_refl _) (.cells #[.string (bs old), .string (bs root)] 9))
          have KL4 := hide (KL3.out.to (below_one w3 (.cells #[.string (bs old), .string (bs root)] 9)))
          have KG4 := hide (KG3.out.to (below_one w3 (.cells #[.string (bs old), .string (bs root)] 9)))
          have KR4 := hide (KR3.out.to (below_one w3 (.cells #[.string (bs old), .string (bs root)] 9)))
          have KD4 := hide (KD3.out.to (below_one w3 (.cells #[.string (bs old), .string (bs root)] 9)))
          clear HB3 KL3 KG3 KR3 KD3
          clear l0
          cases hld : properT [old, root] with
          | false =>
            rw [hld] at CI
            have C5 := CI
            refine C5.mono ?_
            rintro e w5 ⟨rfl, hb⟩
            have HB5 := hide (below_to HB4.out (Nat.le_refl _) hb)
            have KL5 := hide (KL4.out.to hb)
            have KG5 := hide (KG4.out.to hb)
            have KR5 := hide (KR4.out.to hb)
            have KD5 := hide (KD4.out.to hb)
            clear hb C5 HB4 KL4 KG4 KR4 KD4
            go_wp2_with fail
            go_ret
            exact ⟨ret_bool (by unfold extV; rw [if_neg (fun h => by rw [hld] at h; exact absurd h.2.2.2.2 (by simp))]), HB5.out⟩
          | true =>
            rw [hld] at CI
            have C5 := CI
            refine C5.mono ?_
            rintro e w5 ⟨rfl, hb⟩
            have HB5 := hide (below_to HB4.out (Nat.le_refl _) hb)
            have KL5 := hide (KL4.out.to hb)
            have KG5 := hide (KG4.out.to hb)
            have KR5 := hide (KR4.out.to hb)
            have KD5 := hide (KD4.out.to hb)
            clear hb C5 HB4 KL4 KG4 KR4 KD4
            have HC := hide (show 0 ≤ (M : Int) ∧ (M : Int) ≤ (N : Int) ∧ (N : Int) ≤ 1000000 ∧ properT link = true ∧ properT [old, root] = true from ⟨c1, c2, c3, hpr, hld⟩)
            have hMN : M ≤ N := by omega
            have hN6 : N ≤ 1000000 := by omega
            clear hpr hld c1 c2 c3
            by_cases hm0 : M = 0
            · subst hm0
              have HV : Hid (extV old ((0 : Nat) : Int) root (N : Int) link = (decide (link.length = 0) && (decide (old = totalT []) && (decide (0 < (N : Int)) || decide (root = old))))) := by
                show _ = _
                unfold extV
                rw [if_pos HC.out, if_pos (show ((0 : Nat) : Int) = 0 from rfl)]
              have CT := fun (w' : World) (hg : Glob w') => total_any [] (by decide) (by simp) (.slice none 0 0) w' (RowsAt.nil w' 1) hg
              generalize hE0 : totalT [] = E at *
              have HE0 := hide hE0
              obtain ⟨U, hU, g, u0, e9, hgu, hi⟩ := cls w5
              subst e9
              have CT := cls_call hgu hi (fun w hw => CT w (KG5.out.to hw))
              have L0 := blk_all hgu KL5.out 0 rfl
              have t1 : ((link.length : Int) == 0) = decide (link.length = 0) := by rw [Bool.eq_iff_iff]; simp
              have t1' : (link.length == 0) = decide (link.length = 0) := by rw [Bool.eq_iff_iff]; simp
              have t2 : ((bs old).toList == (bs E).toList) = decide (old = E) := by rw [bs_toList, bs_toList, Bool.eq_iff_iff]; simp
              have t4 : ((bs root).toList == (bs old).toList) = decide (root = old) := by rw [bs_toList, bs_toList, Bool.eq_iff_iff]; simp
              have t3 : decide (0 < N) = decide (0 < (N : Int)) := decide_eq_decide.2 (by omega)
              have z0 : (((0 : Nat) : Int) == 0) = true := rfl
              have HGU := hide hgu
              have HHI := hide hi
              clear hE0 hgu hi HC CP CC
              generalize decide (link.length = 0) = b1 at *
              generalize decide (old = E) = b2 at *
              generalize decide (0 < (N : Int)) = b3 at *
              generalize decide (root = old) = b4 at *
              cases b1
              rotate_left
              cases b2
              rotate_left
              cases b3
              cases b4
              rotate_left
              all_goals
                go_wp2_with fail
                refine wp_region_class g (by kernel_rfl) (by kernel_rfl) (HHI.out _ (HGU.out _).drew) ?_
                repeat (go_big_quiet_step (with_reducible exact CT _))
                refine wpQuiet_nil ?_
                intro w6 hw6
                obtain ⟨u, rfl⟩ := hw6
                go_wp2_with fail
                go_ret
                exact ⟨ret_bool (by rw [HV.out]; rfl), below_to HB5.out (Nat.le_refl _) (HGU.out u)⟩
            · have HV : Hid (extV old (M : Int) root (N : Int) link = boV old M N root link) := by
                show _ = _
                unfold extV
                rw [if_pos HC.out, if_neg (by omega), Int.toNat_natCast, Int.toNat_natCast]
              have z0 : ((M : Int) == 0) = false := by rw [beq_eq_false_iff_ne]; omega
              have z1 : (M == 0) = false := by rw [beq_eq_false_iff_ne]; omega
              clear HC
              go_wp2_with fail
              have s1 : (w5.alloc (.cells #[.pointer (some ⟨w1.heap.size, 0, none⟩), .bool false] 119)).heap.size = w5.heap.size + 1 := by simp
              have s2 : ((w5.alloc (.cells #[.pointer (some ⟨w1.heap.size, 0, none⟩), .bool false] 119)).alloc (.cells #[.pointer (some ⟨w5.heap.size, 0, none⟩)] 116)).heap.size = w5.heap.size + 1 + 1 := by simp
              have HBW : Hid (Below w5.heap.size w5 (((w5.alloc (.cells #[.pointer (some ⟨w1.heap.size, 0, none⟩), .bool false] 119)).alloc (.cells #[.pointer (some ⟨w5.heap.size, 0, none⟩)] 116)).alloc (.cells #[.func (.func 110) #[] #[.pointer (some ⟨w.heap.size, 0, none⟩), .pointer (some ⟨w5.heap.size + 1, 0, none⟩), .pointer (some ⟨w5.heap.size + 1 + 1, 0, none⟩)]] 125))) := below_alloc (below_two _ _ _) (Nat.le_refl _) _
              have HLT : Hid (w1.heap.size < w5.heap.size) := KD5.out.lt
              have HGT : Hid (Tryz.prog.globals.size ≤ w.heap.size) := hgt
              have HUS : Hid (BoS w1.heap.size w5.heap.size (w5.heap.size + 1) (w5.heap.size + 1 + 1) w.heap.size old link.reverse false (((w5.alloc (.cells #[.pointer (some ⟨w1.heap.size, 0, none⟩), .bool false] 119)).alloc (.cells #[.pointer (some ⟨w5.heap.size, 0, none⟩)] 116)).alloc (.cells #[.func (.func 110) #[] #[.pointer (some ⟨w.heap.size, 0, none⟩), .pointer (some ⟨w5.heap.size + 1, 0, none⟩), .pointer (some ⟨w5.heap.size + 1 + 1, 0, none⟩)]] 125))) := by
                have a1 := HLT.out
                have a2 := HLW.out
                refine ⟨⟨⟨A1, link.length, k1, KD5.out.to HBW.out, by rw [List.reverse_reverse]; exact RowsAt.to KR5.out HBW.out, fun a h => ?_⟩, ((Blk.new w5 _ _).alloc _).alloc _, Nat.ne_of_lt a1⟩, ?_, ?_, KL5.out.to HBW.out, ⟨by omega, by omega, by omega, by omega, by omega, by omega⟩, ⟨by omega, by omega⟩⟩
                · have := KS.out a h
                  exact ⟨by omega, by omega⟩
                · have := Blk.new (w5.alloc (.cells #[.pointer (some ⟨w1.heap.size, 0, none⟩), .bool false] 119)) 116 #[.pointer (some ⟨w5.heap.size, 0, none⟩)]
                  rw [s1] at this
                  exact this.alloc _
                · have := Blk.new ((w5.alloc (.cells #[.pointer (some ⟨w1.heap.size, 0, none⟩), .bool false] 119)).alloc (.cells #[.pointer (some ⟨w5.heap.size, 0, none⟩)] 116)) 125 #[.func (.func 110) #[] #[.pointer (some ⟨w.heap.size, 0, none⟩), .pointer (some ⟨w5.heap.size + 1, 0, none⟩), .pointer (some ⟨w5.heap.size + 1 + 1, 0, none⟩)]]
                  rw [s2] at this
                  exact this
              have CU := both_any w1.heap.size w5.heap.size (w5.heap.size + 1) (w5.heap.size + 1 + 1) w.heap.size old (by omega) N N M true link.reverse false (((w5.alloc (.cells #[.pointer (some ⟨w1.heap.size, 0, none⟩), .bool false] 119)).alloc (.cells #[.pointer (some ⟨w5.heap.size, 0, none⟩)] 116)).alloc (.cells #[.func (.func 110) #[] #[.pointer (some ⟨w.heap.size, 0, none⟩), .pointer (some ⟨w5.heap.size + 1, 0, none⟩), .pointer (some ⟨w5.heap.size + 1 + 1, 0, none⟩)]] 125)) (by omega) hMN (Nat.le_refl _) hN6 (by rw [List.length_reverse]; exact hp) (fun d h => HX.out d (by simpa using h)) HUS.out (KG5.out.to HBW.out)
              have HUV : Hid (boV old M N root link = (decide ((bothG old N N M true link.reverse false).1.1 = old) && (decide ((bothG old N N M true link.reverse false).1.2 = root) && (!(bothG old N N M true link.reverse false).2.2 && (bothG old N N M true link.reverse false).2.1.isEmpty)))) := rfl
              have HBS : Hid (w.heap.size ≤ (((w5.alloc (.cells #[.pointer (some ⟨w1.heap.size, 0, none⟩), .bool false] 119)).alloc (.cells #[.pointer (some ⟨w5.heap.size, 0, none⟩)] 116)).alloc (.cells #[.func (.func 110) #[] #[.pointer (some ⟨w.heap.size, 0, none⟩), .pointer (some ⟨w5.heap.size + 1, 0, none⟩), .pointer (some ⟨w5.heap.size + 1 + 1, 0, none⟩)]] 125)).heap.size) := Nat.le_trans HB5.out.size HBW.out.size
              have HBB := hide (HB5.out.trans (HBW.out.mono HB5.out.size))
              clear s1 s2 HUS HBW KL5 KG5 KR5 KD5 HB5 d0 CP CI CC
              generalize bothG old N N M true link.reverse false = r at *
              generalize ((w5.alloc (.cells #[.pointer (some ⟨w1.heap.size, 0, none⟩), .bool false] 119)).alloc (.cells #[.pointer (some ⟨w5.heap.size, 0, none⟩)] 116)).alloc (.cells #[.func (.func 110) #[] #[.pointer (some ⟨w.heap.size, 0, none⟩), .pointer (some ⟨w5.heap.size + 1, 0, none⟩), .pointer (some ⟨w5.heap.size + 1 + 1, 0, none⟩)]] 125) = w9 at *
              refine CU.mono ?_
              rintro e w10 ⟨rfl, hus, htw⟩
              have HB10 : Hid (Below w.heap.size w w10) := HBB.out.trans (htw.below HBS.out (Nat.le_of_lt HLW.out) (Nat.le_of_lt (Nat.lt_trans HLW.out HLT.out)))
              have pp := (hus.p.cell 0).trans rfl
              have l0 := (hus.lf.cell 0).trans rfl
              have CD := pdone_any w1.heap.size w5.heap.size r.2.1 r.2.2 w10 hus.ps
              have er : ((bs r.1.1).toList == (bs old).toList) = decide (r.1.1 = old) := by rw [bs_toList, bs_toList, Bool.eq_iff_iff]; simp
              have er2 : ((bs r.1.2).toList == (bs root).toList) = decide (r.1.2 = root) := by rw [bs_toList, bs_toList, Bool.eq_iff_iff]; simp
              clear hus htw CU HBB
              generalize decide (r.1.1 = old) = b1 at *
              generalize decide (r.1.2 = root) = b2 at *
              generalize (!r.2.2 && r.2.1.isEmpty) = b at *
              cases b1
              rotate_left
              cases b2
              rotate_left
              all_goals
                go_wp2_with ((with_reducible refine CD.mono ?_); rintro e w' ⟨rfl, rfl⟩)
                go_ret
                exact ⟨ret_bool (by rw [HV.out, HUV.out]; rfl), HB10.out⟩
      · have e3 : decide (1000000 < n) = true := decide_eq_true (by omega)
        clear KS HLW
        go_wp2_with fail
        go_ret
        exact ⟨ret_bool (by unfold extV; rw [if_neg (fun h => by have := h.2.2.1; omega)]), HB2.out⟩
    · have e2 : decide (n < m) = true := decide_eq_true (by omega)
      clear KS HLW
      go_wp2_with fail
      go_ret
      exact ⟨ret_bool (by unfold extV; rw [if_neg (fun h => by have := h.2.1; omega)]), HB2.out⟩
  · have e1 : decide (m < 0) = true := decide_eq_true (by omega)
    clear KS HLW
    go_wp2_with fail
    go_ret
    exact ⟨ret_bool (by unfold extV; rw [if_neg (fun h => by have := h.1; omega)]), HB2.out⟩
end Go.Proofs.YtfhanbiifjiklaaGreatDoor

/- Walks of the reference of layer 2: links. -/
set_option linter.unusedVariables false
set_option linter.unusedSimpArgs false
namespace Go.Proofs.YtfhanbiifjiklaaGreatDoor
open Go.RowKit

/-- a link's length -/
def lonF : Nat → Nat → Nat → Bool → Nat
  | 0, _, _, _ => 0
  | f + 1, n, m, wh => if m = n then (if wh then 0 else 1) else if m ≤ halfN n then lonF f (halfN n) m wh + 1 else lonF f (n - halfN n) (m - halfN n) false + 1
theorem lonF_eq (f n : Nat) (wh : Bool) : lonF (f + 1) n n wh = if wh then 0 else 1 := by unfold lonF; rw [if_pos rfl]
theorem lonF_le {f n m : Nat} {wh : Bool} (h : m ≠ n) (hm : m ≤ halfN n) : lonF (f + 1) n m wh = lonF f (halfN n) m wh + 1 := by
  show (if m = n then (if wh then 0 else 1) else if m ≤ halfN n then lonF f (halfN n) m wh + 1 else lonF f (n - halfN n) (m - halfN n) false + 1) = _
  rw [if_neg h, if_pos hm]
theorem lonF_gt {f n m : Nat} {wh : Bool} (h : m ≠ n) (hm : ¬ m ≤ halfN n) : lonF (f + 1) n m wh = lonF f (n - halfN n) (m - halfN n) false + 1 := by
  show (if m = n then (if wh then 0 else 1) else if m ≤ halfN n then lonF f (halfN n) m wh + 1 else lonF f (n - halfN n) (m - halfN n) false + 1) = _
  rw [if_neg h, if_neg hm]
theorem lonF_top : ∀ (f n m : Nat) (wh : Bool), lonF f n m wh ≤ f
  | 0, n, m, wh => Nat.le_refl _
  | f + 1, n, m, wh => by
    unfold lonF
    split
    · split <;> omega
    · split
      · have := lonF_top f (halfN n) m wh; omega
      · have := lonF_top f (n - halfN n) (m - halfN n) false; omega
theorem bothG_rest (old : List UInt8) : ∀ (f n m : Nat) (wh : Bool) (st : List (List UInt8)) (sh : Bool), 1 ≤ m → m ≤ n → n ≤ f → (∀ d ∈ st, d ≠ []) → (bothG old f n m wh st sh).2 = (st.drop (lonF f n m wh), sh || decide (st.length < lonF f n m wh)) := by
  intro f
  induction f with
  | zero => intro n m wh st sh h1 h2 h3; omega
  | succ f ih =>
    intro n m wh st sh h1 h2 h3 hd
    have tl : ∀ d ∈ st.tail, d ≠ [] := fun d h => hd d (List.mem_of_mem_tail h)
    have fin : ∀ L, (st.tail.drop L, nextS st sh || decide (st.tail.length < L)) = (st.drop (L + 1), sh || decide (st.length < L + 1)) := fun L => by
      match st, hd with
      | [], _ => simp [nextS]
      | x :: st, hd =>
        have hx : x ≠ [] := hd x (by simp)
        cases x with
        | nil => exact absurd rfl hx
        | cons y x =>
          refine Prod.ext rfl ?_
          show (sh || false || decide (st.length < L)) = (sh || decide (st.length + 1 < L + 1))
          rw [Bool.or_false]
          congr 1
          exact decide_eq_decide.2 (by omega)
    by_cases hn : m = n
    · subst hn
      rw [bothG_eq, lonF_eq]
      cases wh
      · have := fin 0
        simp only [List.drop_zero, Nat.not_lt_zero, decide_false, Bool.or_false, Nat.zero_add] at this
        exact this
      · simp
    · obtain ⟨a, b⟩ := half_lt (n := n) (by omega)
      by_cases hm : m ≤ halfN n
      · rw [bothG_le old hn hm, lonF_le hn hm]
        show (bothG old f (halfN n) m wh st.tail (nextS st sh)).2 = _
        rw [ih _ _ _ _ _ h1 hm (by omega) tl]
        exact fin _
      · rw [bothG_gt old hn hm, lonF_gt hn hm]
        show (bothG old f (n - halfN n) (m - halfN n) false st.tail (nextS st sh)).2 = _
        rw [ih _ _ _ _ _ (by omega) (by omega) (by omega) tl]
        exact fin _
theorem bothG_small {old : List UInt8} (ho : old.length ≤ 1000000) : ∀ (f n m : Nat) (wh : Bool) (st : List (List UInt8)) (sh : Bool), (∀ d ∈ st, d.length ≤ 1000000) → (bothG old f n m wh st sh).1.1.length ≤ 1000000 ∧ (bothG old f n m wh st sh).1.2.length ≤ 1000000
  | 0, n, m, wh, st, sh, hd => ⟨ho, ho⟩
  | f + 1, n, m, wh, st, sh, hd => by
    have ht : ∀ d ∈ st.tail, d.length ≤ 1000000 := fun d h => hd d (List.mem_of_mem_tail h)
    have hh : (st.headD []).length ≤ 1000000 := by cases st with
      | nil => simp
      | cons x l => exact hd x (by simp)
    by_cases hn : m = n
    · subst hn
      rw [bothG_eq]
      cases wh
      · exact ⟨hh, hh⟩
      · exact ⟨ho, ho⟩
    · by_cases hm : m ≤ halfN n
      · rw [bothG_le old hn hm]
        exact ⟨(bothG_small ho f _ _ _ _ _ ht).1, by show (nodeD _ _).length ≤ _; rw [nodeD_len]; decide⟩
      · rw [bothG_gt old hn hm]
        exact ⟨by show (nodeD _ _).length ≤ _; rw [nodeD_len]; decide, by show (nodeD _ _).length ≤ _; rw [nodeD_len]; decide⟩
def RLonOk (f : Nat) : Prop := ∀ (n m : Nat) (wh : Bool) (w : World), 1 ≤ m → m ≤ n → n ≤ f → f ≤ 1000000000 → Calls Tryz.prog 79 #[.int .i64 (n : Int), .int .i64 (m : Int), .bool wh] w fun e w' => e = .returned (.int .i64 ((lonF f n m wh : Nat) : Int)) ∧ w' = w
set_option maxRecDepth 100000 in
set_option maxHeartbeats 1000000 in
theorem rlon_step (f : Nat) (ih : RLonOk f) : RLonOk (f + 1) := by
  intro n m wh w h1 h2 h3 h4
  by_cases hn : m = n
  · subst hn
    rw [lonF_eq]
    have e0 : ((m : Int) == (m : Int)) = true := by simp
    clear ih
    cases wh
    all_goals
      go_enter Tryz.func79, Tryz.ntmps79
      go_wp2_with fail
      go_ret
      exact ⟨rfl, rfl⟩
  · obtain ⟨a, b⟩ := half_lt (n := n) (by omega)
    have CH := fun w => rHalf_any n (by omega) w
    have e0 : ((m : Int) == (n : Int)) = false := by rw [beq_eq_false_iff_ne]; omega
    have e0' : (m == n) = false := by rw [beq_eq_false_iff_ne]; exact hn
    by_cases hm : m ≤ halfN n
    · have HV := hide (lonF_le (f := f) (wh := wh) hn hm)
      have CR := ih (halfN n) m wh w h1 hm (by omega) (by omega)
      have hb := lonF_top f (halfN n) m wh
      generalize lonF f (halfN n) m wh = L at *
      generalize halfN n = k at *
      have e1 : decide ((m : Int) ≤ (k : Int)) = true := decide_eq_true (by omega)
      have e2 : decide (m ≤ k) = true := decide_eq_true (by omega)
      clear ih
      go_enter Tryz.func79, Tryz.ntmps79
      go_wp2_with (first | ((with_reducible refine (CH _).mono ?_); rintro e w' ⟨rfl, rfl⟩) | ((with_reducible refine CR.mono ?_); rintro e w' ⟨rfl, rfl⟩))
      go_ret
      exact ⟨by rw [HV.out]; simp [Int.add_comm], rfl⟩
    · have HV := hide (lonF_gt (f := f) (wh := wh) hn hm)
      have CR := ih (n - halfN n) (m - halfN n) false w (by omega) (by omega) (by omega) (by omega)
      have hb := lonF_top f (n - halfN n) (m - halfN n) false
      rw [show ((n - halfN n : Nat) : Int) = (n : Int) - (halfN n : Int) by omega, show ((m - halfN n : Nat) : Int) = (m : Int) - (halfN n : Int) by omega] at CR
      generalize lonF f (n - halfN n) (m - halfN n) false = L at *
      generalize halfN n = k at *
      have e1 : decide ((m : Int) ≤ (k : Int)) = false := decide_eq_false (by omega)
      have e2 : decide (m ≤ k) = false := decide_eq_false (by omega)
      clear ih
      go_enter Tryz.func79, Tryz.ntmps79
      go_wp2_with (first | ((with_reducible refine (CH _).mono ?_); rintro e w' ⟨rfl, rfl⟩) | ((with_reducible refine CR.mono ?_); rintro e w' ⟨rfl, rfl⟩))
      go_ret
      exact ⟨by rw [HV.out]; simp [Int.add_comm], rfl⟩
theorem rlon_any : ∀ f, RLonOk f
  | 0 => fun n m wh w h1 h2 h3 => by omega
  | f + 1 => rlon_step f (rlon_any f)
def RBoOk (f : Nat) : Prop := ∀ (n m : Nat) (wh : Bool) (d : List UInt8) (p : List (List UInt8)) (v : Value) (w : World), 1 ≤ m → m ≤ n → n ≤ f → f ≤ 1000000000 → p.length = lonF f n m wh → d.length ≤ 1000000 → (∀ x ∈ p, x.length ≤ 1000000) → TextsAt w v p →
  Calls Tryz.prog 80 #[.int .i64 (n : Int), .int .i64 (m : Int), .bool wh, .string (bs d), v] w fun e w' => e = .returned (.tuple #[.string (bs (bothG d f n m wh p.reverse false).1.1), .string (bs (bothG d f n m wh p.reverse false).1.2)]) ∧ Below w.heap.size w w'
set_option maxRecDepth 100000 in
set_option maxHeartbeats 2000000 in
theorem rbo_step (f : Nat) (ih : RBoOk f) : RBoOk (f + 1) := by
  intro n m wh d p v w h1 h2 h3 h4 hp hd hx hv
  by_cases hn : m = n
  · subst hn
    rw [lonF_eq] at hp
    have HV := hide (bothG_eq d f m wh p.reverse false)
    have e0 : ((m : Int) == (m : Int)) = true := by simp
    obtain ⟨A, c, rfl, hc⟩ := hv.slice
    cases wh with
    | true =>
      clear ih hv hx hp
      go_enter Tryz.func80, Tryz.ntmps80
      go_wp2_with fail
      go_ret2
      exact ⟨by rw [HV.out]; rfl, Below.refl _ _⟩
    | false =>
      obtain ⟨x, rfl⟩ : ∃ x, p = [x] := by
        match p, hp with
        | [x], _ => exact ⟨x, rfl⟩
      obtain ⟨ad, rfl, ha, c0⟩ := hv.at_ (k := 0) (x := x) rfl
      rw [show ad.add 0 = ad from rfl] at c0
      clear ih hv hx hp
      go_enter Tryz.func80, Tryz.ntmps80
      go_wp2_with fail
      go_quiet (fail)
      go_wp2_with fail
      go_ret2
      exact ⟨by rw [HV.out]; rfl, below_drewN (Below.refl _ _) _⟩
  · obtain ⟨a, b⟩ := half_lt (n := n) (by omega)
    have CH := fun w => rHalf_any n (by omega) w
    have e0 : ((m : Int) == (n : Int)) = false := by rw [beq_eq_false_iff_ne]; omega
    have e0' : (m == n) = false := by rw [beq_eq_false_iff_ne]; exact hn
    by_cases hm : m ≤ halfN n
    · rw [lonF_le hn hm] at hp
      obtain ⟨q, x, rfl, hq⟩ := last_of hp
      have hql : q.length ≤ f := by have := lonF_top f (halfN n) m wh; omega
      rw [List.reverse_append, List.reverse_singleton, List.singleton_append]
      have HV := hide (congrArg Prod.fst (bothG_le d (f := f) hn hm wh (x :: q.reverse) false))
      simp only [List.tail_cons, List.headD_cons] at HV
      rw [bothG_fst d f (halfN n) m wh q.reverse _ false] at HV
      obtain ⟨A, c, rfl, hc⟩ := hv.slice
      have HT : TextsAt w (.slice A q.length c) q := by have := hv.take (k := q.length) (by simp) c (by simp at hc; omega); rwa [List.take_left' rfl] at this
      obtain ⟨ad, rfl, ha, c0⟩ := hv.at_ (k := q.length) (x := x) (by simp)
      have CR := ih (halfN n) m wh d q _ w h1 hm (by omega) (by omega) (by omega) hd (fun y hy => hx y (by simp [hy])) HT
      have hub := bothG_small hd f (halfN n) m wh q.reverse false (fun y hy => hx y (by simp at hy; simp [hy]))
      have hxl := hx x (by simp)
      generalize (bothG d f (halfN n) m wh q.reverse false).1 = R at *
      have CN := fun w' => rnode_any R.2 x (by omega) (by omega) w'
      generalize halfN n = k at *
      have e1 : decide ((m : Int) ≤ (k : Int)) = true := decide_eq_true (by omega)
      have e2 : decide (m ≤ k) = true := decide_eq_true (by omega)
      have i0 : (0 : Int) ≤ (q.length : Int) := by omega
      have i1 : (q.length : Int) ≤ (c : Int) := by simp at hc; omega
      have hlen : (q ++ [x]).length = q.length + 1 := by simp
      rw [hlen] at *
      clear ih hv HT hx hp hq
      go_enter Tryz.func80, Tryz.ntmps80
      go_wp2_with (first | ((with_reducible refine (CH _).mono ?_); rintro e w' ⟨rfl, rfl⟩) | ((with_reducible refine CR.mono ?_); rintro e w2 ⟨rfl, hb2⟩; have HB2 := hide hb2; clear hb2) | ((with_reducible refine (CN _).mono ?_); rintro e w3 ⟨rfl, hb3⟩; have HB3 := hide (below_to HB2.out (Nat.le_refl _) hb3); clear hb3 HB2))
      go_ret2
      exact ⟨by rw [HV.out]; rfl, HB3.out⟩
    · rw [lonF_gt hn hm] at hp
      obtain ⟨q, x, rfl, hq⟩ := last_of hp
      have hql : q.length ≤ f := by have := lonF_top f (n - halfN n) (m - halfN n) false; omega
      rw [List.reverse_append, List.reverse_singleton, List.singleton_append]
      have HV := hide (congrArg Prod.fst (bothG_gt d (f := f) hn hm wh (x :: q.reverse) false))
      simp only [List.tail_cons, List.headD_cons] at HV
      rw [bothG_fst d f (n - halfN n) (m - halfN n) false q.reverse _ false] at HV
      obtain ⟨A, c, rfl, hc⟩ := hv.slice
      have HT : TextsAt w (.slice A q.length c) q := by have := hv.take (k := q.length) (by simp) c (by simp at hc; omega); rwa [List.take_left' rfl] at this
      obtain ⟨ad, rfl, ha, c0⟩ := hv.at_ (k := q.length) (x := x) (by simp)
      have CR := ih (n - halfN n) (m - halfN n) false d q _ w (by omega) (by omega) (by omega) (by omega) (by omega) hd (fun y hy => hx y (by simp [hy])) HT
      have hub := bothG_small hd f (n - halfN n) (m - halfN n) false q.reverse false (fun y hy => hx y (by simp at hy; simp [hy]))
      have hxl := hx x (by simp)
      rw [show ((n - halfN n : Nat) : Int) = (n : Int) - (halfN n : Int) by omega, show ((m - halfN n : Nat) : Int) = (m : Int) - (halfN n : Int) by omega] at CR
      generalize (bothG d f (n - halfN n) (m - halfN n) false q.reverse false).1 = R at *
      have CN := fun w' => rnode_any x R.1 (by omega) (by omega) w'
      have CM := fun w' => rnode_any x R.2 (by omega) (by omega) w'
      generalize halfN n = k at *
      have e1 : decide ((m : Int) ≤ (k : Int)) = false := decide_eq_false (by omega)
      have e2 : decide (m ≤ k) = false := decide_eq_false (by omega)
      have i0 : (0 : Int) ≤ (q.length : Int) := by omega
      have i1 : (q.length : Int) ≤ (c : Int) := by simp at hc; omega
      have hlen : (q ++ [x]).length = q.length + 1 := by simp
      rw [hlen] at *
      clear ih hv HT hx hp hq
      go_enter Tryz.func80, Tryz.ntmps80
      go_wp2_with (first | ((with_reducible refine (CH _).mono ?_); rintro e w' ⟨rfl, rfl⟩) | ((with_reducible refine CR.mono ?_); rintro e w2 ⟨rfl, hb2⟩; have HB2 := hide hb2; clear hb2) | ((with_reducible refine (CN _).mono ?_); rintro e w3 ⟨rfl, hb3⟩; have HB3 := hide (below_to HB2.out (Nat.le_refl _) hb3); clear hb3 HB2) | ((with_reducible refine (CM _).mono ?_); rintro e w4 ⟨rfl, hb4⟩; have HB4 := hide (below_to HB3.out (Nat.le_refl _) hb4); clear hb4))
      go_ret2
      exact ⟨by rw [HV.out]; rfl, HB4.out⟩
theorem rbo_any : ∀ f, RBoOk f
  | 0 => fun n m wh d p v w h1 h2 h3 => by omega
  | f + 1 => rbo_step f (rbo_any f)
theorem boV_ref {old root : List UInt8} {M N : Nat} {link : List (List UInt8)} (h1 : 1 ≤ M) (h2 : M ≤ N) (hp : properT link = true) : boV old M N root link = (decide (link.length = lonF N N M true) && (decide ((bothG old N N M true link.reverse false).1.1 = old) && decide ((bothG old N N M true link.reverse false).1.2 = root))) := by
  unfold boV
  have hr := bothG_rest old N N M true link.reverse false h1 h2 (Nat.le_refl _) (fun d hd => proper_ne hp d (by simpa using hd))
  rw [hr]
  simp only [Bool.false_or, List.length_reverse]
  have : (!decide (link.length < lonF N N M true) && (link.reverse.drop (lonF N N M true)).isEmpty) = decide (link.length = lonF N N M true) := by
    rw [Bool.eq_iff_iff]
    simp only [Bool.and_eq_true, Bool.not_eq_true', decide_eq_false_iff_not, List.isEmpty_iff, List.drop_eq_nil_iff, List.length_reverse, decide_eq_true_eq]
    omega
  rw [this]
  cases decide ((bothG old N N M true link.reverse false).1.1 = old) <;> cases decide ((bothG old N N M true link.reverse false).1.2 = root) <;> simp
set_option maxRecDepth 100000 in
set_option maxHeartbeats 4000000 in
theorem rExtends_any (old : List UInt8) (m : Int) (root : List UInt8) (n : Int) (link : List (List UInt8)) (ho : old.length ≤ 100000) (hr : root.length ≤ 100000) (hp : link.length ≤ 1000000000) (hx : ∀ x ∈ link, x.length ≤ 1000000) (v : Value) (w : World) (hv : TextsAt w v link) :
    Calls Tryz.prog 39 #[.string (bs old), .int .i64 m, .string (bs root), .int .i64 n, v] w fun e w' => e = .returned (.bool (extV old m root n link)) ∧ Below w.heap.size w w' := by
  obtain ⟨A, c, rfl, hc⟩ := hv.slice
  have RWB := below_one w (.cells #[.string (bs old), .string (bs root)] 9)
  by_cases hA : 0 ≤ m ∧ m ≤ n ∧ n ≤ 1000000
  · obtain ⟨N, rfl⟩ : ∃ N : Nat, n = N := ⟨n.toNat, by omega⟩
    obtain ⟨M, rfl⟩ : ∃ M : Nat, m = M := ⟨m.toNat, by omega⟩
    obtain ⟨a1, a2, a3⟩ := hA
    have CD := rdigests_any [old, root] (by simp) (fun x h => by simp only [List.mem_cons, List.not_mem_nil, or_false] at h; rcases h with rfl | rfl <;> omega) (.slice (some ⟨w.heap.size, 0, none⟩) 2 2) (w.alloc (.cells #[.string (bs old), .string (bs root)] 9)) (TextsAt.of_blk (ls := [old, root]) (Blk.new w 9 #[.string (bs old), .string (bs root)]) rfl)
    have CE := fun (w' : World) (hb : Below w.heap.size w w') => rdigests_any link (by omega) (fun x h => Nat.le_trans (hx x h) (by decide)) _ w' (hv.to hb)
    have CE := CE _ RWB
    have e1 : decide ((M : Int) < 0) = false := decide_eq_false (by omega)
    have e2 : decide ((N : Int) < (M : Int)) = false := decide_eq_false (by omega)
    have e2' : decide (N < M) = false := decide_eq_false (by omega)
    have e3 : decide ((1000000 : Int) < (N : Int)) = false := decide_eq_false (by omega)
    have e3' : decide (1000000 < N) = false := decide_eq_false (by omega)
    by_cases hd : properT [old, root] = true ∧ properT link = true
    · obtain ⟨d1, d2⟩ := hd
      rw [d1] at CD
      rw [d2] at CE
      have HC := hide (show 0 ≤ (M : Int) ∧ (M : Int) ≤ (N : Int) ∧ (N : Int) ≤ 1000000 ∧ properT link = true ∧ properT [old, root] = true from ⟨a1, a2, a3, d2, d1⟩)
      by_cases hm0 : M = 0
      · subst hm0
        have HV : Hid (extV old ((0 : Nat) : Int) root (N : Int) link = (decide (link.length = 0) && (decide (old = totalT []) && (decide (0 < (N : Int)) || decide (root = old))))) := by
          show _ = _
          unfold extV
          rw [if_pos HC.out, if_pos (show ((0 : Nat) : Int) = 0 from rfl)]
        have CT := fun w' : World => rEmpty_any w'
        have hE0 : totalT [] = listD [emptyT] := rfl
        rw [hE0] at HV
        have t1 : ((link.length : Int) == 0) = decide (link.length = 0) := by rw [Bool.eq_iff_iff]; simp
        have t1' : (link.length == 0) = decide (link.length = 0) := by rw [Bool.eq_iff_iff]; simp
        have t2 : ((bs old).toList == (bs (listD [emptyT])).toList) = decide (old = listD [emptyT]) := by rw [bs_toList, bs_toList, Bool.eq_iff_iff]; simp
        have t4 : ((bs root).toList == (bs old).toList) = decide (root = old) := by rw [bs_toList, bs_toList, Bool.eq_iff_iff]; simp
        have t3 : decide (0 < N) = decide (0 < (N : Int)) := decide_eq_decide.2 (by omega)
        have z0 : (((0 : Nat) : Int) == 0) = true := rfl
        clear hE0 HC hv hx d1 d2 a1 a2 a3
        generalize listD [emptyT] = E at *
        generalize decide (link.length = 0) = b1 at *
        generalize decide (old = E) = b2 at *
        generalize decide (0 < (N : Int)) = b3 at *
        generalize decide (root = old) = b4 at *
        cases b1
        rotate_left
        cases b2
        rotate_left
        cases b3
        cases b4
        rotate_left
        all_goals
          go_enter Tryz.func39, Tryz.ntmps39
          go_wp2_with (first | ((with_reducible refine CD.mono ?_); rintro e w3 ⟨rfl, e9⟩; subst e9) | ((with_reducible refine CE.mono ?_); rintro e w3 ⟨rfl, e9⟩; subst e9) | ((with_reducible refine (CT _).mono ?_); rintro e w4 ⟨rfl, hb4⟩))
          go_ret
          first
            | exact ⟨ret_bool (by rw [HV.out]; rfl), RWB⟩
            | exact ⟨ret_bool (by rw [HV.out]; rfl), below_to RWB (Nat.le_refl _) hb4⟩
      · have HV : Hid (extV old (M : Int) root (N : Int) link = boV old M N root link) := by
          show _ = _
          unfold extV
          rw [if_pos HC.out, if_neg (by omega), Int.toNat_natCast, Int.toNat_natCast]
        have HR := hide (boV_ref (old := old) (root := root) (M := M) (N := N) (by omega) (by omega) d2)
        have z0 : ((M : Int) == 0) = false := by rw [beq_eq_false_iff_ne]; omega
        have z1 : (M == 0) = false := by rw [beq_eq_false_iff_ne]; omega
        by_cases hmn : M = N
        · subst hmn
          have y0 : ((M : Int) == (M : Int)) = true := by simp
          have HR2 : Hid (boV old M M root link = (decide (link.length = 0) && decide (old = root))) := by
            show _ = _
            rw [HR.out]
            obtain ⟨f, rfl⟩ : ∃ f, M = f + 1 := ⟨M - 1, by omega⟩
            rw [lonF_eq, bothG_eq]
            simp
          have t1 : ((link.length : Int) == 0) = decide (link.length = 0) := by rw [Bool.eq_iff_iff]; simp
          have t1' : (link.length == 0) = decide (link.length = 0) := by rw [Bool.eq_iff_iff]; simp
          have t2 : ((bs old).toList == (bs root).toList) = decide (old = root) := by rw [bs_toList, bs_toList, Bool.eq_iff_iff]; simp
          clear HC hv hx d1 d2 a1 a2 a3 HR hm0
          generalize decide (link.length = 0) = b1 at *
          generalize decide (old = root) = b2 at *
          cases b1
          rotate_left
          cases b2
          rotate_left
          all_goals
            go_enter Tryz.func39, Tryz.ntmps39
            go_wp2_with (first | ((with_reducible refine CD.mono ?_); rintro e w3 ⟨rfl, e9⟩; subst e9) | ((with_reducible refine CE.mono ?_); rintro e w3 ⟨rfl, e9⟩; subst e9))
            go_ret
            exact ⟨ret_bool (by rw [HV.out, HR2.out]; rfl), RWB⟩
        · have y0 : ((M : Int) == (N : Int)) = false := by rw [beq_eq_false_iff_ne]; omega
          have y1 : (M == N) = false := by rw [beq_eq_false_iff_ne]; exact hmn
          have CL := fun w => rlon_any N N M true w (by omega) (by omega) (Nat.le_refl _) (by omega)
          have hll := lonF_top N N M true
          by_cases hlen : link.length = lonF N N M true
          · have CU := fun (w' : World) (hb : Below w.heap.size w w') => rbo_any N N M true old link _ w' (by omega) (by omega) (Nat.le_refl _) (by omega) hlen (by omega) hx (hv.to hb)
            have CU := CU _ RWB
            rw [decide_eq_true hlen, Bool.true_and] at HR
            have c4 : ((link.length : Int) != ((lonF N N M true : Nat) : Int)) = false := by rw [hlen]; simp
            have c4' : (link.length != lonF N N M true) = false := by rw [hlen]; simp
            generalize (bothG old N N M true link.reverse false).1 = r at *
            have er : ((bs r.1).toList == (bs old).toList) = decide (r.1 = old) := by rw [bs_toList, bs_toList, Bool.eq_iff_iff]; simp
            have er2 : ((bs r.2).toList == (bs root).toList) = decide (r.2 = root) := by rw [bs_toList, bs_toList, Bool.eq_iff_iff]; simp
            clear HC hv hx d1 d2 a1 a2 a3 hm0 hmn hlen
            generalize lonF N N M true = L at *
            generalize decide (r.1 = old) = b1 at *
            generalize decide (r.2 = root) = b2 at *
            cases b1
            rotate_left
            cases b2
            rotate_left
            all_goals
              go_enter Tryz.func39, Tryz.ntmps39
              go_wp2_with (first | ((with_reducible refine CD.mono ?_); rintro e w3 ⟨rfl, e9⟩; subst e9) | ((with_reducible refine CE.mono ?_); rintro e w3 ⟨rfl, e9⟩; subst e9) | ((with_reducible refine (CL _).mono ?_); rintro e w3 ⟨rfl, e9⟩; subst e9) | ((with_reducible refine CU.mono ?_); rintro e w4 ⟨rfl, hb4⟩))
              go_ret
              exact ⟨ret_bool (by rw [HV.out, HR.out]; rfl), below_to RWB (Nat.le_refl _) hb4⟩
          · rw [decide_eq_false hlen, Bool.false_and] at HR
            have c4 : ((link.length : Int) != ((lonF N N M true : Nat) : Int)) = true := by rw [bne_iff_ne]; omega
            have c4' : (link.length != lonF N N M true) = true := by rw [bne_iff_ne]; omega
            clear HC hv hx d1 d2 a1 a2 a3 hm0 hmn hlen
            generalize lonF N N M true = L at *
            go_enter Tryz.func39, Tryz.ntmps39
            go_wp2_with (first | ((with_reducible refine CD.mono ?_); rintro e w3 ⟨rfl, e9⟩; subst e9) | ((with_reducible refine CE.mono ?_); rintro e w3 ⟨rfl, e9⟩; subst e9) | ((with_reducible refine (CL _).mono ?_); rintro e w3 ⟨rfl, e9⟩; subst e9))
            go_ret
            exact ⟨ret_bool (by rw [HV.out, HR.out]), RWB⟩
    · have HV : Hid (extV old (M : Int) root (N : Int) link = false) := by
        show _ = _
        unfold extV
        rw [if_neg (fun h => hd ⟨h.2.2.2.2, h.2.2.2.1⟩)]
      have hh : (!properT [old, root] || !properT link) = true := by
        cases h1 : properT [old, root] <;> cases h2 : properT link <;> simp_all
      clear hd hv hx a1 a2 a3
      generalize properT [old, root] = b1 at *
      generalize properT link = b2 at *
      cases b1 <;> cases b2 <;> (try cases hh)
      all_goals
        go_enter Tryz.func39, Tryz.ntmps39
        go_wp2_with (first | ((with_reducible refine CD.mono ?_); rintro e w3 ⟨rfl, e9⟩; subst e9) | ((with_reducible refine CE.mono ?_); rintro e w3 ⟨rfl, e9⟩; subst e9))
        go_ret
        exact ⟨ret_bool (by rw [HV.out]), RWB⟩
  · have HV : Hid (extV old m root n link = false) := by
      show _ = _
      unfold extV
      rw [if_neg (fun h => hA ⟨h.1, h.2.1, h.2.2.1⟩)]
    have hh : (decide (m < 0) || (decide (n < m) || decide (1000000 < n))) = true := by simp only [Bool.or_eq_true, decide_eq_true_eq]; omega
    clear hA hv hx
    generalize c1 : decide (m < 0) = b1 at *
    generalize c2 : decide (n < m) = b2 at *
    generalize c3 : decide (1000000 < n) = b3 at *
    cases b1 <;> cases b2 <;> cases b3 <;> (try cases hh)
    all_goals
      go_enter Tryz.func39, Tryz.ntmps39
      go_wp2_with fail
      go_ret
      exact ⟨ret_bool (by rw [HV.out]), Below.refl _ _⟩
end Go.Proofs.YtfhanbiifjiklaaGreatDoor

/- A client: Grow. -/
set_option linter.unusedVariables false
set_option linter.unusedSimpArgs false
namespace Go.Proofs.YtfhanbiifjiklaaGreatDoor
open Go.RowKit

def growOk (root0 : List UInt8) (size0 : Int) (root : List UInt8) (size : Int) : Bool := isD root && (decide (size0 ≤ size) && decide (size ≤ 10000))
def growE (root0 : List UInt8) (size0 : Int) (root : List UInt8) (size : Int) (link : List (List UInt8)) : Int := if growOk root0 size0 root size then (if extV root0 size0 root size link then 0 else 17) else 1
def GrowR (b : Nat) (root0 : List UInt8) (size0 : Int) (root : List UInt8) (size : Int) (link its : List (List UInt8)) (v : Value) (w : World) (e : Ending) (w' : World) : Prop :=
  e = .returned (.int .i64 (growE root0 size0 root size link)) ∧ (if growE root0 size0 root size link = 0 then CliAt b root size its v w' else CliAt b root0 size0 its v w') ∧ Two b b w w'
theorem CliAt.grow {b : Nat} {root0 root : List UInt8} {size0 size : Int} {its : List (List UInt8)} {v : Value} {W : World} (h : CliAt b root0 size0 its v W) : CliAt b root size its v ((W.setCell ⟨b, 0, none⟩ (.string (bs root))).setCell ⟨b, 1, none⟩ (.int .i64 size)) := by
  have hne : v.ownBlock ≠ some b := fun e => by have := (h.lt b e).1; omega
  refine ⟨((h.blk.set_ 0 _).set_ 1 _), ownsRow_set (ownsRow_set h.own hne) hne⟩
set_option maxRecDepth 100000 in
set_option maxHeartbeats 4000000 in
theorem Grow_any (b : Nat) (root0 : List UInt8) (size0 : Int) (its : List (List UInt8)) (v : Value) (root : List UInt8) (size : Int) (link : List (List UInt8)) (h0 : root0.length ≤ 100000) (hr : root.length ≤ 100000) (hp : link.length ≤ 1000000000) (hx : ∀ x ∈ link, x.length ≤ 100000000000) (vl : Value) (w : World) (hg : Glob w) (hcl : CliAt b root0 size0 its v w) (hvl : TextsAt w vl link) :
    Calls Tryz.prog 34 #[cliP b, .string (bs root), .int .i64 size, vl] w (GrowR b root0 size0 root size link its v w) := by
  have HC := hide hcl
  obtain ⟨U, hU, g, u0, e9, hgu, hi⟩ := cls w
  subst e9
  have CE := cls_call hgu hi (fun w hw => Extends_any root0 size0 root size link h0 hr hp hx vl w (hvl.to hw) (hg.to hw))
  have CI := cls_call hgu hi (fun w hw => Is_any root (by omega) w)
  have X0 := blk_all hgu hcl.blk 0 rfl
  have X1 := blk_all hgu hcl.blk 1 rfl
  have X2 := blk_all hgu hcl.blk 2 rfl
  have F0 : ∀ u, (g u).frozen? ⟨b, 0, none⟩ = false := fun u => (hcl.blk.to (hgu u)).frozen 0
  have F1 : ∀ u, (g u).frozen? ⟨b, 1, none⟩ = false := fun u => (hcl.blk.to (hgu u)).frozen 1
  have HGU := hide hgu
  have HHI := hide hi
  unfold cliP
  by_cases hok : growOk root0 size0 root size = true
  · have hk := hok
    unfold growOk at hk
    simp only [Bool.and_eq_true, decide_eq_true_eq] at hk
    obtain ⟨k1, k2, k3⟩ := hk
    rw [k1] at CI
    have e1 : decide (size < size0) = false := decide_eq_false (by omega)
    have e2 : decide (10000 < size) = false := decide_eq_false (by omega)
    obtain ⟨x, hxe⟩ : ∃ x, extV root0 size0 root size link = x := ⟨_, rfl⟩
    have HE : Hid (growE root0 size0 root size link = if x then 0 else 17) := by show _ = _; unfold growE; rw [hok, if_pos rfl, hxe]
    rw [hxe] at CE
    clear hxe hok k1 k2 k3 hgu hi hcl hvl hg
    cases x with
    | true =>
      go_enter Tryz.func34, Tryz.ntmps34
      go_wp2_with ((with_reducible refine (CI _).mono ?_); rintro e w' ⟨rfl, u, rfl⟩)
      refine wp_region_class g (by kernel_rfl) (by kernel_rfl) (HHI.out _ (HGU.out _).drew) ?_
      repeat (go_big_quiet_step (with_reducible exact CE _))
      refine wpQuiet_nil ?_
      intro w6 hw6
      obtain ⟨u2, rfl⟩ := hw6
      go_wp2_with fail
      go_ret
      refine ⟨by rw [HE.out]; rfl, ?_, ?_⟩
      · rw [HE.out, if_pos (by rfl)]
        exact (HC.out.to (HGU.out u2)).grow
      · exact ((Two.of (HGU.out u2)).set1 0 _).set1 1 _
    | false =>
      go_enter Tryz.func34, Tryz.ntmps34
      go_wp2_with ((with_reducible refine (CI _).mono ?_); rintro e w' ⟨rfl, u, rfl⟩)
      refine wp_region_class g (by kernel_rfl) (by kernel_rfl) (HHI.out _ (HGU.out _).drew) ?_
      repeat (go_big_quiet_step (with_reducible exact CE _))
      refine wpQuiet_nil ?_
      intro w6 hw6
      obtain ⟨u2, rfl⟩ := hw6
      go_wp2_with fail
      go_ret
      refine ⟨by rw [HE.out]; rfl, ?_, Two.of (HGU.out u2)⟩
      rw [HE.out, if_neg (by decide)]
      exact HC.out.to (HGU.out u2)
  · have HE : Hid (growE root0 size0 root size link = 1) := by show _ = _; unfold growE; rw [if_neg hok]
    have hh : (!isD root || (decide (size < size0) || decide (10000 < size))) = true := by
      unfold growOk at hok
      simp only [Bool.and_eq_true, decide_eq_true_eq] at hok
      simp only [Bool.or_eq_true, Bool.not_eq_true', decide_eq_true_eq]
      by_cases a1 : isD root = true
      · by_cases a2 : size0 ≤ size
        · by_cases a3 : size ≤ 10000
          · exact absurd ⟨a1, a2, a3⟩ hok
          · right; right; omega
        · right; left; omega
      · left; simpa using a1
    clear hok hgu hi hcl hvl hg CE
    obtain ⟨b0, c0⟩ : ∃ b, isD root = !b := ⟨!isD root, by simp⟩
    rw [c0] at CI
    rw [c0, Bool.not_not] at hh
    clear c0
    generalize c1 : decide (size < size0) = b1 at *
    generalize c2 : decide (10000 < size) = b2 at *
    cases b0 <;> cases b1 <;> cases b2 <;> (try cases hh) <;> (try simp only [Bool.not_false, Bool.not_true] at CI)
    all_goals
      go_enter Tryz.func34, Tryz.ntmps34
      go_wp2_with ((with_reducible refine (CI _).mono ?_); rintro e w' ⟨rfl, u, rfl⟩)
      go_ret
      refine ⟨by rw [HE.out]; rfl, ?_, Two.of (HGU.out _)⟩
      rw [HE.out, if_neg (by decide)]
      exact HC.out.to (HGU.out _)
end Go.Proofs.YtfhanbiifjiklaaGreatDoor

/- The reference's client: New, Items, Next, Grow, Accept. -/
set_option linter.unusedVariables false
set_option linter.unusedSimpArgs false
namespace Go.Proofs.YtfhanbiifjiklaaGreatDoor
open Go.RowKit Go.Shelf
attribute [local go_sem] Oper.semAt_some

/-- a reference's client in memory -/
structure RCliAt (b : Nat) (root : List UInt8) (size : Int) (its : List (List UInt8)) (v : Value) (W : World) : Prop where
  blk : Blk W b 98 #[.string (bs root), .int .i64 size, v]
  own : W.ownsRow (b + 1) 9 1 v its.length (flatS its)
theorem RCliAt.to {b : Nat} {root : List UInt8} {size : Int} {its : List (List UInt8)} {v : Value} {W W' : World} (h : RCliAt b root size its v W) (hb : Below W.heap.size W W') : RCliAt b root size its v W' := ⟨h.blk.to hb, ownsRow_to h.own hb⟩
theorem RCliAt.texts {b : Nat} {root : List UInt8} {size : Int} {its : List (List UInt8)} {v : Value} {W : World} (h : RCliAt b root size its v W) : TextsAt W v its := TextsAt.of_own h.own
theorem RCliAt.lt {b : Nat} {root : List UInt8} {size : Int} {its : List (List UInt8)} {v : Value} {W : World} (h : RCliAt b root size its v W) : ∀ g, v.ownBlock = some g → b + 1 ≤ g ∧ g < W.heap.size := World.ownsRow.lt h.own
theorem RCliAt.far {b : Nat} {root : List UInt8} {size : Int} {its : List (List UInt8)} {v : Value} {W W' : World} {p q : Nat} (h : RCliAt b root size its v W) (hT : Two p q W W') (h1 : b ≠ p) (h2 : b ≠ q) (h3 : v.ownBlock ≠ some p) (h4 : v.ownBlock ≠ some q) : RCliAt b root size its v W' := ⟨hT.blk h.blk h1 h2, ownsRow_two h.own hT h3 h4⟩
theorem CliAt.far {b : Nat} {root : List UInt8} {size : Int} {its : List (List UInt8)} {v : Value} {W W' : World} {p q : Nat} (h : CliAt b root size its v W) (hT : Two p q W W') (h1 : b ≠ p) (h2 : b ≠ q) (h3 : v.ownBlock ≠ some p) (h4 : v.ownBlock ≠ some q) : CliAt b root size its v W' := ⟨hT.blk h.blk h1 h2, ownsRow_two h.own hT h3 h4⟩
def RNewR (root : List UInt8) (size : Int) (w : World) (e : Ending) (w' : World) : Prop :=
  (if newB root size then ∃ b, e = .returned (.tuple #[cliP b, .int .i64 0]) ∧ w.heap.size ≤ b ∧ RCliAt b root size [] (.slice none 0 0) w' else e = .returned (.tuple #[.pointer none, .int .i64 1])) ∧ Below w.heap.size w w'
set_option maxRecDepth 100000 in
set_option maxHeartbeats 2000000 in
theorem rNew_any (root : List UInt8) (hr : root.length ≤ 100000) (size : Int) (w : World) :
    Calls Tryz.prog 33 #[.string (bs root), .int .i64 size] w (RNewR root size w) := by
  have CR := fun w : World => rEmpty_any w
  have CI := fun w' : World => rIs_any root (by omega) w'
  unfold RNewR
  have hnb : newB root size = !(!isD root || (decide (size < 0) || (decide (10000 < size) || (decide (size = 0) && !decide (root = emptyR))))) := by
    unfold newB
    generalize isD root = x
    generalize decide (root = emptyR) = y
    rw [show decide (0 ≤ size) = !decide (size < 0) by rw [← decide_not]; exact decide_eq_decide.2 (by omega), show decide (size ≤ 10000) = !decide (10000 < size) by rw [← decide_not]; exact decide_eq_decide.2 (by omega)]
    cases x <;> cases y <;> simp
  rw [hnb]
  clear hnb
  have h0 : (size == 0) = decide (size = 0) := rfl
  obtain ⟨b0, c0⟩ : ∃ b, isD root = !b := ⟨!isD root, by simp⟩
  rw [c0] at CI
  rw [c0, Bool.not_not]
  clear c0
  generalize c1 : decide (size < 0) = b1 at *
  generalize c2 : decide (10000 < size) = b2 at *
  generalize c3 : decide (size = 0) = b3 at *
  have hE : listD [emptyT] = emptyR := rfl
  rw [hE] at CR
  clear hE
  obtain ⟨b4, c4⟩ : ∃ b, ((bs root).toList == (bs emptyR).toList) = !b := ⟨!((bs root).toList == (bs emptyR).toList), by simp⟩
  have c5 : (!decide (root = emptyR)) = b4 := by
    rw [bs_toList, bs_toList] at c4
    rw [← Bool.not_not b4, ← c4]
    congr 1
    rw [Bool.eq_iff_iff]; simp
  rw [c5]
  generalize emptyR = ER at *
  clear c5
  cases b0
  cases b1
  cases b2
  cases b3
  rotate_left
  cases b4
  all_goals (try simp only [Bool.not_false, Bool.not_true] at CI c4)
  all_goals
    go_enter Tryz.func33, Tryz.ntmps33
    go_wp2_with (first | ((with_reducible refine (CI _).mono ?_); rintro e w3 ⟨rfl, e9⟩; have e9 := e9.symm; subst e9) | ((with_reducible refine (CR _).mono ?_); rintro e w4 ⟨rfl, hb⟩; have HB := hide hb; clear hb))
    go_ret2
    first
      | exact ⟨rfl, Below.refl _ _⟩
      | exact ⟨rfl, HB.out⟩
      | exact ⟨⟨w.heap.size, rfl, Nat.le_refl _, Blk.new _ _ _, World.ownsRow_nil _ _ _ _⟩, below_one _ _⟩
      | exact ⟨⟨w4.heap.size, rfl, HB.out.size, Blk.new _ _ _, World.ownsRow_nil _ _ _ _⟩, below_alloc HB.out (Nat.le_refl _) _⟩
theorem own_none {w : World} {B : Nat} (hB : B ≤ w.heap.size) : OwnT (w.alloc (.cells #[] 9)) B (.slice (some ⟨w.heap.size, 0, none⟩) 0 0) [] :=
  ⟨rfl, .inr ⟨w.heap.size, 0, #[], rfl, hB, Blk.new _ _ _, Nat.le_refl _, by decide, rfl, rfl⟩⟩
set_option maxRecDepth 100000 in
set_option maxHeartbeats 1000000 in
theorem rItems_any (b : Nat) (root : List UInt8) (size : Int) (its : List (List UInt8)) (hl : its.length ≤ 1000000000) (v : Value) (w : World) (h : RCliAt b root size its v w) :
    Calls Tryz.prog 38 #[cliP b] w (ItemsR its w) := by
  obtain ⟨A, c, rfl⟩ := own_sl4 h.own
  have HC := hide h
  have x2 := (((HC.out.to (below_one w (.cells #[] 9))).blk).cell 2).trans (show _ = some (Value.slice A its.length c) from rfl)
  unfold cliP
  clear h
  go_enter Tryz.func38, Tryz.ntmps38
  go_wp2_with (at_builtin; refine wpList_append_texts rfl (.tmp 5) (.tmp 9) rfl w.heap.size _ [] rfl (own_none (Nat.le_refl _)) (.slice A its.length c) its rfl ((HC.out.texts).to (below_one w (.cells #[] 9))) (by simp; omega) (by simp) ?_)
  intro v10 w10 ho hg10 _
  go_wp2_with fail
  go_ret
  exact ⟨_, rfl, ho, (below_one w (.cells #[] 9)).trans (below_grown hg10 (by simp) (fun g e => by have : w.heap.size = g := Option.some.inj e; omega))⟩
set_option maxRecDepth 100000 in
set_option maxHeartbeats 1000000 in
theorem rNext_any (b : Nat) (root : List UInt8) (size : Int) (its : List (List UInt8)) (v : Value) (w : World) (h : RCliAt b root size its v w) :
    Calls Tryz.prog 37 #[cliP b] w fun e w' => e = .returned (.int .i64 (its.length : Int)) ∧ w' = w := by
  obtain ⟨A, c, rfl⟩ := own_sl4 h.own
  have x2 := (h.blk.cell 2).trans (show _ = some (Value.slice A its.length c) from rfl)
  unfold cliP
  clear h
  go_enter Tryz.func37, Tryz.ntmps37
  go_wp2_with fail
  go_ret
  exact ⟨rfl, rfl⟩
theorem RCliAt.grow {b : Nat} {root0 root : List UInt8} {size0 size : Int} {its : List (List UInt8)} {v : Value} {W : World} (h : RCliAt b root0 size0 its v W) : RCliAt b root size its v ((W.setCell ⟨b, 0, none⟩ (.string (bs root))).setCell ⟨b, 1, none⟩ (.int .i64 size)) := by
  have hne : v.ownBlock ≠ some b := fun e => by have := (h.lt b e).1; omega
  refine ⟨((h.blk.set_ 0 _).set_ 1 _), ownsRow_set (ownsRow_set h.own hne) hne⟩
def RGrowR (b : Nat) (root0 : List UInt8) (size0 : Int) (root : List UInt8) (size : Int) (link its : List (List UInt8)) (v : Value) (w : World) (e : Ending) (w' : World) : Prop :=
  e = .returned (.int .i64 (growE root0 size0 root size link)) ∧ (if growE root0 size0 root size link = 0 then RCliAt b root size its v w' else RCliAt b root0 size0 its v w') ∧ Two b b w w'
set_option maxRecDepth 100000 in
set_option maxHeartbeats 4000000 in
theorem rGrow_any (b : Nat) (root0 : List UInt8) (size0 : Int) (its : List (List UInt8)) (v : Value) (root : List UInt8) (size : Int) (link : List (List UInt8)) (h0 : root0.length ≤ 100000) (hr : root.length ≤ 100000) (hp : link.length ≤ 1000000000) (hx : ∀ x ∈ link, x.length ≤ 1000000) (vl : Value) (w : World) (hcl : RCliAt b root0 size0 its v w) (hvl : TextsAt w vl link) :
    Calls Tryz.prog 35 #[cliP b, .string (bs root), .int .i64 size, vl] w (RGrowR b root0 size0 root size link its v w) := by
  have HC := hide hcl
  obtain ⟨U, hU, g, u0, e9, hgu, hi⟩ := cls w
  subst e9
  have CE := cls_call hgu hi (fun w hw => rExtends_any root0 size0 root size link h0 hr hp hx vl w (hvl.to hw))
  have CI := fun w => rIs_any root (by omega) w
  have X0 := blk_all hgu hcl.blk 0 rfl
  have X1 := blk_all hgu hcl.blk 1 rfl
  have X2 := blk_all hgu hcl.blk 2 rfl
  have F0 : ∀ u, (g u).frozen? ⟨b, 0, none⟩ = false := fun u => (hcl.blk.to (hgu u)).frozen 0
  have F1 : ∀ u, (g u).frozen? ⟨b, 1, none⟩ = false := fun u => (hcl.blk.to (hgu u)).frozen 1
  have HGU := hide hgu
  have HHI := hide hi
  unfold cliP
  by_cases hok : growOk root0 size0 root size = true
  · have hk := hok
    unfold growOk at hk
    simp only [Bool.and_eq_true, decide_eq_true_eq] at hk
    obtain ⟨k1, k2, k3⟩ := hk
    rw [k1] at CI
    have e1 : decide (size < size0) = false := decide_eq_false (by omega)
    have e2 : decide (10000 < size) = false := decide_eq_false (by omega)
    obtain ⟨x, hxe⟩ : ∃ x, extV root0 size0 root size link = x := ⟨_, rfl⟩
    have HE : Hid (growE root0 size0 root size link = if x then 0 else 17) := by show _ = _; unfold growE; rw [hok, if_pos rfl, hxe]
    rw [hxe] at CE
    clear hxe hok k1 k2 k3 hgu hi hcl hvl
    cases x with
    | true =>
      go_enter Tryz.func35, Tryz.ntmps35
      go_wp2_with ((with_reducible refine (CI _).mono ?_); rintro e w' ⟨rfl, rfl⟩)
      refine wp_region_class g (by kernel_rfl) (by kernel_rfl) (HHI.out _ (HGU.out _).drew) ?_
      repeat (go_big_quiet_step (with_reducible exact CE _))
      refine wpQuiet_nil ?_
      intro w6 hw6
      obtain ⟨u2, rfl⟩ := hw6
      go_wp2_with fail
      go_ret
      refine ⟨by rw [HE.out]; rfl, ?_, ?_⟩
      · rw [HE.out, if_pos (by rfl)]
        exact (HC.out.to (HGU.out u2)).grow
      · exact ((Two.of (HGU.out u2)).set1 0 _).set1 1 _
    | false =>
      go_enter Tryz.func35, Tryz.ntmps35
      go_wp2_with ((with_reducible refine (CI _).mono ?_); rintro e w' ⟨rfl, rfl⟩)
      refine wp_region_class g (by kernel_rfl) (by kernel_rfl) (HHI.out _ (HGU.out _).drew) ?_
      repeat (go_big_quiet_step (with_reducible exact CE _))
      refine wpQuiet_nil ?_
      intro w6 hw6
      obtain ⟨u2, rfl⟩ := hw6
      go_wp2_with fail
      go_ret
      refine ⟨by rw [HE.out]; rfl, ?_, Two.of (HGU.out u2)⟩
      rw [HE.out, if_neg (by decide)]
      exact HC.out.to (HGU.out u2)
  · have HE : Hid (growE root0 size0 root size link = 1) := by show _ = _; unfold growE; rw [if_neg hok]
    have hh : (!isD root || (decide (size < size0) || decide (10000 < size))) = true := by
      unfold growOk at hok
      simp only [Bool.and_eq_true, decide_eq_true_eq] at hok
      simp only [Bool.or_eq_true, Bool.not_eq_true', decide_eq_true_eq]
      by_cases a1 : isD root = true
      · by_cases a2 : size0 ≤ size
        · by_cases a3 : size ≤ 10000
          · exact absurd ⟨a1, a2, a3⟩ hok
          · right; right; omega
        · right; left; omega
      · left; simpa using a1
    clear hok hgu hi hcl hvl CE
    obtain ⟨b0, c0⟩ : ∃ b, isD root = !b := ⟨!isD root, by simp⟩
    rw [c0] at CI
    rw [c0, Bool.not_not] at hh
    clear c0
    generalize c1 : decide (size < size0) = b1 at *
    generalize c2 : decide (10000 < size) = b2 at *
    cases b0 <;> cases b1 <;> cases b2 <;> (try cases hh) <;> (try simp only [Bool.not_false, Bool.not_true] at CI)
    all_goals
      go_enter Tryz.func35, Tryz.ntmps35
      go_wp2_with ((with_reducible refine (CI _).mono ?_); rintro e w' ⟨rfl, rfl⟩)
      go_ret
      refine ⟨by rw [HE.out]; rfl, ?_, Two.of (HGU.out _)⟩
      rw [HE.out, if_neg (by decide)]
      exact HC.out.to (HGU.out _)
theorem accV_none {p : Pg} {r : List UInt8} {s : Int} {its : List (List UInt8)} (h : accE p r s its ≠ 0) : accV p r s its = its := by unfold accV; rw [if_neg h]
structure RAccI (w : World) (b : Nat) (root : List UInt8) (size : Int) (its : List (List UInt8)) (v : Value) (p : Pg) (vi vp : Value) (k : Nat) (v' : Value) (W : World) : Prop where
  two : Two b (rowOr v b) w W
  cli : RCliAt b root size (its ++ (p.items.take k).drop (its.length - p.fr.toNat)) v' W
  own : v'.ownBlock = v.ownBlock ∨ ∃ g, v'.ownBlock = some g ∧ w.heap.size ≤ g
  nbx : v'.ownBlock ≠ some w.heap.size
  box : Blk W w.heap.size 25 (p.cs vi vp)
theorem rowOr_cases (v : Value) (b : Nat) : rowOr v b = b ∨ v.ownBlock = some (rowOr v b) := by
  unfold rowOr
  cases v.ownBlock with
  | none => exact .inl rfl
  | some g => exact .inr rfl
theorem two_chain {b r r' : Nat} {w W W' : World} (h : Two b r w W) (k : Two b r' W W') (hr : r' = r ∨ r' = b ∨ w.heap.size ≤ r') : Two b r w W' :=
  ⟨k.os.trans h.os, k.tape.trans h.tape, k.output.trans h.output, Nat.le_trans h.size k.size, fun i hi h1 h2 => (k.block i (Nat.lt_of_lt_of_le hi h.size) h1 (by rcases hr with rfl | rfl | hr <;> omega)).trans (h.block i hi h1 h2)⟩
theorem accK_no {its l : List (List UInt8)} {F k : Nat} (hF : F ≤ its.length) (h : F + k ≠ (its ++ (l.take k).drop (its.length - F)).length) (hk : k < l.length) : (l.take (k + 1)).drop (its.length - F) = (l.take k).drop (its.length - F) := by
  rw [List.length_append, List.length_drop, List.length_take, Nat.min_eq_left (by omega)] at h
  rw [List.drop_eq_nil_of_le (by rw [List.length_take]; omega), List.drop_eq_nil_of_le (by rw [List.length_take]; omega)]
theorem accK_yes {its l : List (List UInt8)} {F k : Nat} {x : List UInt8} (hF : F ≤ its.length) (h : F + k = (its ++ (l.take k).drop (its.length - F)).length) (hx : l[k]? = some x) : its ++ (l.take (k + 1)).drop (its.length - F) = (its ++ (l.take k).drop (its.length - F)) ++ [x] := by
  have hk := (List.getElem?_eq_some_iff.1 hx).1
  rw [List.length_append, List.length_drop, List.length_take, Nat.min_eq_left (by omega)] at h
  rw [List.append_assoc, List.take_add_one, hx]
  congr 1
  show List.drop _ (_ ++ [x]) = _
  rw [List.drop_append_of_le_length (by rw [List.length_take, Nat.min_eq_left (by omega)]; omega)]
theorem RAccI.to {w W W' : World} {b : Nat} {root : List UInt8} {size : Int} {its : List (List UInt8)} {v : Value} {p : Pg} {vi vp : Value} {k : Nat} {v' : Value} (h : RAccI w b root size its v p vi vp k v' W) (hb : Below W.heap.size W W') : RAccI w b root size its v p vi vp k v' W' := ⟨h.two.to hb, h.cli.to hb, h.own, h.nbx, h.box.to hb⟩
set_option maxRecDepth 100000 in
set_option maxHeartbeats 4000000 in
theorem rAccept_any (b : Nat) (root : List UInt8) (size : Int) (its : List (List UInt8)) (hil : its.length ≤ 1000000) (v : Value) (p : Pg) (hp : p.fit) (vi vp : Value) (w : World) (hcl : RCliAt b root size its v w) (hvi : TextsAt w vi p.items) (hvp : PathsAt w vp p.paths) (hvb : p.items ≠ [] → vi.ownBlock ≠ some b) (hvr : ∀ g, v.ownBlock = some g → p.items ≠ [] → vi.ownBlock ≠ some g) :
    Calls Tryz.prog 36 #[cliP b, .agg (p.cs vi vp)] w fun e w' => ∃ v', e = .returned (.int .i64 (accE p root size its)) ∧ RCliAt b root size (accV p root size its) v' w' ∧ Two b (rowOr v b) w w' ∧ (v'.ownBlock = v.ownBlock ∨ ∃ g, v'.ownBlock = some g ∧ w.heap.size ≤ g) := by
  have HV1 := hide hvb
  have HV2 : Hid (p.items ≠ [] → vi.ownBlock ≠ some (rowOr v b)) := fun hne => by
    unfold rowOr
    cases e : v.ownBlock with
    | none => exact hvb hne
    | some g => exact hvr g e hne
  have HNB : Hid (v.ownBlock ≠ some w.heap.size) := fun e => by have := (hcl.lt _ e).2; omega
  have hbl := hcl.blk.lt
  have HC := hide hcl
  have HVI := hide hvi
  have HVP := hide hvp
  obtain ⟨Ai, ci, rfl, _⟩ := hvi.slice
  obtain ⟨Ap, cp, rfl, _⟩ := hvp.slice
  have hb0 := below_one w (.cells #[.int .i64 p.fr, .int .i64 p.size, .string (bs p.root), .slice Ai p.items.length ci, .slice Ap p.paths.length cp] 25)
  have CF : Calls Tryz.prog 58 #[.agg #[.int .i64 p.fr, .int .i64 p.size, .string (bs p.root), .slice Ai p.items.length ci, .slice Ap p.paths.length cp]] (w.alloc (.cells #[.int .i64 p.fr, .int .i64 p.size, .string (bs p.root), .slice Ai p.items.length ci, .slice Ap p.paths.length cp] 25)) fun e w' => e = .returned (.bool (formedB p)) ∧ Below (w.alloc (.cells #[.int .i64 p.fr, .int .i64 p.size, .string (bs p.root), .slice Ai p.items.length ci, .slice Ap p.paths.length cp] 25)).heap.size (w.alloc (.cells #[.int .i64 p.fr, .int .i64 p.size, .string (bs p.root), .slice Ai p.items.length ci, .slice Ap p.paths.length cp] 25)) w' := rFormed_any p hp _ _ _ (hvi.to hb0) (hvp.to hb0)
  have HHO : Hid (∀ W, Below w.heap.size w W → Calls Tryz.prog 27 #[.agg #[.int .i64 p.fr, .int .i64 p.size, .string (bs p.root), .slice Ai p.items.length ci, .slice Ap p.paths.length cp]] W fun e w' => e = .returned (.bool (holdsV p)) ∧ Below W.heap.size W w') := fun W h => rHolds_any p hp _ _ W (hvi.to h) (hvp.to h)
  have HB := hide hb0
  have HX := hide (Blk.new w 25 (p.cs (.slice Ai p.items.length ci) (.slice Ap p.paths.length cp)))
  clear hvi hvp hb0 hcl hvb hvr
  unfold Pg.cs at HX ⊢
  unfold cliP
  cases hf : formedB p with
  | false =>
    rw [hf] at CF
    have HAE : Hid (accE p root size its = 1) := by show _ = _; unfold accE; rw [hf]; rfl
    have HAV : Hid (accV p root size its = its) := accV_none (by rw [HAE.out]; decide)
    clear hf HHO
    go_enter Tryz.func36, Tryz.ntmps36
    go_wp2_with fail
    generalize w.alloc (.cells #[.int .i64 p.fr, .int .i64 p.size, .string (bs p.root), .slice Ai p.items.length ci, .slice Ap p.paths.length cp] 25) = w1 at *
    refine CF.mono ?_
    rintro e w2 ⟨rfl, hb⟩
    have HB2 := hide (below_to HB.out (Nat.le_refl _) hb)
    have HX2 := hide (HX.out.to hb)
    have HC2 := hide (HC.out.to HB2.out)
    clear hb CF HX
    go_wp2_with fail
    go_ret
    exact ⟨_, by rw [HAE.out]; rfl, by rw [HAV.out]; exact HC2.out, Two.of HB2.out, .inl rfl⟩
  | true =>
    rw [hf] at CF
    have hfs := (formed_spec hf).1
    have hfr := hfs.1
    have hni := hfs.2.2.2.1
    have hHV : holdsV p = heldB p p.root p.size := by unfold holdsV; rw [hf, Bool.true_and]
    clear hfs
    rw [hHV] at HHO
    clear hHV
    by_cases hok : p.root = root ∧ p.size = size ∧ heldB p p.root p.size = true
    · obtain ⟨k1, k2, k3⟩ := hok
      have e1 : ((bs p.root).toList == (bs root).toList) = true := by rw [beq_iff_eq, bs_toList, bs_toList]; exact k1
      have e2 : (p.size == size) = true := by rw [beq_iff_eq]; exact k2
      have e3 : (p.size != size) = false := by rw [bne, e2]; rfl
      have HE : Hid (accE p root size its = if (its.length : Int) < p.fr then 13 else 0) := by show _ = _; unfold accE; rw [hf, ← k1, ← k2, k3]; rfl
      rw [k3] at HHO
      clear hf k1 k2 k3
      by_cases hfa : (its.length : Int) < p.fr
      · have HAE : Hid (accE p root size its = 13) := by rw [HE.out, if_pos hfa]; exact rfl
        have HAV : Hid (accV p root size its = its) := accV_none (by rw [HAE.out]; decide)
        have e4 : decide ((its.length : Int) < p.fr) = true := decide_eq_true hfa
        obtain ⟨Av, cv, rfl⟩ := own_sl4 HC.out.own
        clear HE
        go_enter Tryz.func36, Tryz.ntmps36
        go_wp2_with fail
        generalize w.alloc (.cells #[.int .i64 p.fr, .int .i64 p.size, .string (bs p.root), .slice Ai p.items.length ci, .slice Ap p.paths.length cp] 25) = w1 at *
        refine CF.mono ?_
        rintro e w2 ⟨rfl, hb⟩
        have HB2 := hide (below_to HB.out (Nat.le_refl _) hb)
        have HX2 := hide (HX.out.to hb)
        have HC2 := hide (HC.out.to HB2.out)
        clear hb CF HX
        obtain ⟨U, hU, g, u0, e9, hgu, hi⟩ := cls w2
        subst e9
        have X0 := blk_all hgu HX2.out 0 rfl
        have X1 := blk_all hgu HX2.out 1 rfl
        have X2 := blk_all hgu HX2.out 2 rfl
        have X3 := blk_all hgu HX2.out 3 rfl
        have X4 := blk_all hgu HX2.out 4 rfl
        have Z0 := blk_all hgu HC2.out.blk 0 rfl
        have Z1 := blk_all hgu HC2.out.blk 1 rfl
        have CH := cls_call hgu hi (fun w hw => HHO.out w (below_to HB2.out (Nat.le_refl _) hw))
        have HGU := hide hgu
        have HHI := hide hi
        clear hgu hi
        go_wp2_with fail
        refine wp_region_class g (by kernel_rfl) (by kernel_rfl) (HHI.out _ (HGU.out _).drew) ?_
        repeat (go_big_quiet_step (with_reducible exact CH _))
        refine wpQuiet_nil ?_
        intro w4 hw4
        obtain ⟨u, rfl⟩ := hw4
        have Z2 := (HC2.out.to (HGU.out u)).blk.cell 2
        go_wp2_with fail
        have Z2 := blk_all HGU.out HC2.out.blk 2 rfl
        go_quiet (fail)
        go_wp2_with fail
        go_ret
        exact ⟨_, by rw [HAE.out]; rfl, by rw [HAV.out]; exact (HC2.out.to (HGU.out u)).to (below_drewN (Below.refl _ _) _), ((Two.of HB2.out).to (HGU.out u)).to (below_drewN (Below.refl _ _) _), .inl rfl⟩
      · have HAE : Hid (accE p root size its = 0) := by rw [HE.out, if_neg hfa]; exact rfl
        have HAV : Hid (accV p root size its = its ++ p.items.drop (its.length - p.fr.toNat)) := by show _ = _; unfold accV; rw [HAE.out]; rfl
        have e4 : decide ((its.length : Int) < p.fr) = false := decide_eq_false hfa
        have HFR : Hid (p.fr.toNat ≤ its.length) := by show _ ≤ _; omega
        obtain ⟨Av, cv, hav⟩ := own_sl4 HC.out.own
        clear HE
        go_enter Tryz.func36, Tryz.ntmps36
        go_wp2_with fail
        generalize w.alloc (.cells #[.int .i64 p.fr, .int .i64 p.size, .string (bs p.root), .slice Ai p.items.length ci, .slice Ap p.paths.length cp] 25) = w1 at *
        refine CF.mono ?_
        rintro e w2 ⟨rfl, hb⟩
        have HB2 := hide (below_to HB.out (Nat.le_refl _) hb)
        have HX2 := hide (HX.out.to hb)
        have HC2 := hide (HC.out.to HB2.out)
        clear hb CF HX
        obtain ⟨U, hU, g, u0, e9, hgu, hi⟩ := cls w2
        subst e9
        have X0 := blk_all hgu HX2.out 0 rfl
        have X1 := blk_all hgu HX2.out 1 rfl
        have X2 := blk_all hgu HX2.out 2 rfl
        have X3 := blk_all hgu HX2.out 3 rfl
        have X4 := blk_all hgu HX2.out 4 rfl
        have Z0 := blk_all hgu HC2.out.blk 0 rfl
        have Z1 := blk_all hgu HC2.out.blk 1 rfl
        have CH := cls_call hgu hi (fun w hw => HHO.out w (below_to HB2.out (Nat.le_refl _) hw))
        have HGU := hide hgu
        have HHI := hide hi
        clear hgu hi
        go_wp2_with fail
        refine wp_region_class g (by kernel_rfl) (by kernel_rfl) (HHI.out _ (HGU.out _).drew) ?_
        repeat (go_big_quiet_step (with_reducible exact CH _))
        refine wpQuiet_nil ?_
        intro w4 hw4
        obtain ⟨u, rfl⟩ := hw4
        go_wp2_with fail
        have Z2 := blk_all HGU.out HC2.out.blk 2 rfl
        rw [hav] at Z2
        go_quiet (fail)
        have HI3 : Hid (RAccI w b root size its v p (.slice Ai p.items.length ci) (.slice Ap p.paths.length cp) 0 v ((g u).drewN nq)) := RAccI.to ⟨(Two.of HB2.out).to (HGU.out u), by simpa using HC2.out.to (HGU.out u), .inl rfl, HNB.out, HX2.out.to (HGU.out u)⟩ (below_drewN (Below.refl _ _) nq)
        clear X0 X1 X2 X3 X4 Z0 Z1 Z2
        go_wp2_with fail
        go_loopw [5] (fun i wr => ∃ (k : Nat) (v' : Value), i = .int .i64 (k : Int) ∧ k ≤ p.items.length ∧ Aside (RAccI w b root size its v p (.slice Ai p.items.length ci) (.slice Ap p.paths.length cp) k v' wr)) (fun i _ => p.items.length - (intOf i).toNat)
        case atStart => exact ⟨0, v, rfl, by omega, HI3.out⟩
        case round =>
          obtain ⟨k, v', rfl, hk, hI⟩ := hrel
          have HI : Hid (RAccI w b root size its v p (.slice Ai p.items.length ci) (.slice Ap p.paths.length cp) k v' wr) := hI
          clear hI
          obtain ⟨N, hN⟩ : ∃ N, (its ++ (p.items.take k).drop (its.length - p.fr.toNat)).length = N := ⟨_, rfl⟩
          have HNN := hide hN
          have hNl : N ≤ 1000100 := by rw [← hN, List.length_append, List.length_drop, List.length_take]; omega
          obtain ⟨x0, x1, x2, x3, x4⟩ := page_cells HI.out.box
          obtain ⟨Av, cv, rfl⟩ : ∃ A c, v' = .slice A N c := by obtain ⟨A, c, e⟩ := own_sl4 HI.out.cli.own; exact ⟨A, c, by rw [e, hN]⟩
          have z2 := (HI.out.cli.blk.cell 2).trans (show _ = some (Value.slice Av N cv) from rfl)
          clear hN
          by_cases hlt : k < p.items.length
          · have e1 : decide ((k : Int) < (p.items.length : Int)) = true := decide_eq_true (by omega)
            obtain ⟨x, hx⟩ : ∃ x, p.items[k]? = some x := ⟨_, List.getElem?_eq_getElem hlt⟩
            have HXI := hide hx
            have hwr : IntKind.i64.wrap (p.fr + (k : Int)) = p.fr + (k : Int) := IntWalk.i64_in _ (by omega)
            have HTI : Hid (TextsAt wr (.slice Ai p.items.length ci) p.items) := HVI.out.two HI.out.two (HV1.out (List.ne_nil_of_length_pos (by omega))) (HV2.out (List.ne_nil_of_length_pos (by omega)))
            obtain ⟨ai, e9, l6, c6⟩ := HTI.out.at_ hx
            subst e9
            have i0 : (0 : Int) ≤ (k : Int) := by omega
            have i1 : (k : Int) < (p.items.length : Int) := by omega
            clear hx
            by_cases heq : p.fr.toNat + k = N
            · have e2 : (p.fr + (k : Int) == (N : Int)) = true := by rw [beq_iff_eq]; omega
              go_wp2_with fail
              go_quiet (fail)
              generalize hw6 : wr.drewN nq = w6
              have hdr : Below wr.heap.size wr w6 := by rw [← hw6]; exact below_drewN (Below.refl wr.heap.size wr) nq
              have HI6 := hide (HI.out.to hdr)
              have c6 := (hdr.cell (p := ai.add k) (by rw [block_of_add]; exact l6)).trans c6
              have l6 := Nat.lt_of_lt_of_le l6 hdr.size
              clear hdr hw6 x0 x1 x2 x3 x4 z2
              have HXX := hide (accK_yes (its := its) (l := p.items) (F := p.fr.toNat) HFR.out (heq.trans HNN.out.symm) HXI.out)
              obtain ⟨CUR, hCUR⟩ : ∃ CUR, its ++ (p.items.take k).drop (its.length - p.fr.toNat) = CUR := ⟨_, rfl⟩
              rw [hCUR] at HXX HNN
              have HO6 : Hid (World.ownsRow w6 (b + 1) 9 1 (.slice Av N cv) N (flatS CUR)) := by
                have := HI6.out.cli.own
                rw [hCUR, HNN.out] at this
                exact this
              clear hCUR
              go_wp2_with fail
              obtain ⟨v', hv'⟩ : ∃ v', Value.slice Av N cv = v' := ⟨_, rfl⟩
              rw [hv'] at HI6 HO6
              have hbW := HI6.out.cli.blk.lt
              apply wp_region_lo3 (C := fun W => Two b (rowOr v' b) w6 W) (V := [some _, some _, some _, some _, some _, some _, some _, some _, some _, some _, none, none, some _, some _, none]) (Fs := [(10, fun a W => ∃ g, a.tmps[69]? = some (.slice (some ⟨g, 0, none⟩) 1 1) ∧ Blk W g 9 #[.string (bs x)] ∧ w6.heap.size ≤ g), (11, fun a W => ∃ v2, a.tmps[70]? = some v2 ∧ World.ownsRow W (b + 1) 9 1 v2 (N + 1) (flatS CUR ++ [.string (bs x)]) ∧ (v2.ownBlock = v'.ownBlock ∨ ∃ g, v2.ownBlock = some g ∧ w6.heap.size ≤ g)), (14, fun a W => ∃ v2, a.tmps[70]? = some v2 ∧ Blk W b 98 #[.string (bs root), .int .i64 size, v2])]) (Ns := [(4, fun (_ : Act) W => Blk W b 98 #[.string (bs root), .int .i64 size, v']), (6, fun (_ : Act) W => Blk W w.heap.size 25 #[.int .i64 p.fr, .int .i64 p.size, .string (bs p.root), .slice (some ai) p.items.length ci, .slice Ap p.paths.length cp]), (9, fun (_ : Act) W => W.cell? (ai.add k) = some (.string (bs x)) ∧ ai.block < W.heap.size), (11, fun (_ : Act) W => World.ownsRow W (b + 1) 9 1 v' N (flatS CUR) ∧ w6.heap.size ≤ W.heap.size), (14, fun (_ : Act) W => Blk W b 98 #[.string (bs root), .int .i64 size, v'])]) (Rel := fun i a0_ a1_ x x' => if i = 11 then (fun b0 b1 x x' => World.grownBy x x' v'.ownBlock) a0_ a1_ x x' else if i = 14 then (fun b0 b1 x x' => ∃ u, x' = World.setCell x ⟨b, 2, none⟩ u) a0_ a1_ x x' else Below x.heap.size x x')
              case hm => kernel_rfl
              case hB => kernel_rfl
              case hCw => exact ((Two.refl b (rowOr v' b) w6).drewN 1)
              case hC =>
                intro i a a' w_ w' hw hr
                by_cases e11 : i = 11
                · subst e11
                  have hr' : (fun b0 b1 x x' => World.grownBy x x' v'.ownBlock) a a' w_ w' := hr
                  exact Two.trans hw (Two.grown hr')
                by_cases e14 : i = 14
                · subst e14
                  have hr' : (fun b0 b1 x x' => ∃ u, x' = World.setCell x ⟨b, 2, none⟩ u) a a' w_ w' := hr
                  obtain ⟨u, rfl⟩ := hr'
                  exact Two.set1 hw _ u
                have hr' : Below w_.heap.size w_ w' := by simpa [e11, e14] using hr
                exact Two.to hw hr'
              case hst =>
                refine keeps3_cons (fun i a a' w_ w' hne hwt hs hput hr h => by
                  by_cases e11 : i = 11
                  · subst e11
                    have hr' : (fun b0 b1 x x' => World.grownBy x x' v'.ownBlock) a a' w_ w' := hr
                    obtain ⟨g, h1, h2, h3⟩ := h
                    exact ⟨g, (hs 69 (by kernel_rfl)).trans h1, (hr'.block g h2.lt (fun e => by have := (HI6.out.cli.lt g e.symm).2; omega)).trans h2, h3⟩
                  by_cases e14 : i = 14
                  · subst e14
                    have hr' : (fun b0 b1 x x' => ∃ u, x' = World.setCell x ⟨b, 2, none⟩ u) a a' w_ w' := hr
                    obtain ⟨g, h1, h2, h3⟩ := h
                    obtain ⟨u, rfl⟩ := hr'
                    exact ⟨g, (hs 69 (by kernel_rfl)).trans h1, h2.far (p := ⟨b, 2, none⟩) (by show g ≠ b; have := HI6.out.cli.blk.lt; omega) u, h3⟩
                  have hr' : Below w_.heap.size w_ w' := by simpa [e11, e14] using hr
                  obtain ⟨g, h1, h2, h3⟩ := h
                  exact ⟨g, (hs 69 (by kernel_rfl)).trans h1, h2.to hr', h3⟩) ?_
                refine keeps3_cons (fun i a a' w_ w' hne hwt hs hput hr h => by
                  by_cases e11 : i = 11
                  · exact absurd e11 hne
                  by_cases e14 : i = 14
                  · subst e14
                    have hr' : (fun b0 b1 x x' => ∃ u, x' = World.setCell x ⟨b, 2, none⟩ u) a a' w_ w' := hr
                    obtain ⟨g, h1, h2, h3⟩ := h
                    obtain ⟨u, rfl⟩ := hr'
                    exact ⟨g, (hs 70 (by kernel_rfl)).trans h1, ownsRow_set h2 (fun e => by have := (World.ownsRow.lt h2 _ e).1; omega), h3⟩
                  have hr' : Below w_.heap.size w_ w' := by simpa [e11, e14] using hr
                  obtain ⟨g, h1, h2, h3⟩ := h
                  exact ⟨g, (hs 70 (by kernel_rfl)).trans h1, ownsRow_to h2 hr', h3⟩) ?_
                refine keeps3_cons (fun i a a' w_ w' hne hwt hs hput hr h => by
                  by_cases e11 : i = 11
                  · subst e11
                    exact absurd (hwt.symm.trans (show Region.waitsFor .any _ 14 11 = true by kernel_rfl)) (by decide)
                  by_cases e14 : i = 14
                  · exact absurd e14 hne
                  have hr' : Below w_.heap.size w_ w' := by simpa [e11, e14] using hr
                  obtain ⟨g, h1, h2⟩ := h
                  exact ⟨g, (hs 70 (by kernel_rfl)).trans h1, h2.to hr'⟩) ?_
                exact keeps3_nil
              case hN0 => exact pre0_cons (HI6.out.cli.blk) (pre0_cons (HI6.out.box) (pre0_cons (⟨c6, l6⟩) (pre0_cons (⟨HO6.out, Nat.le_refl _⟩) (pre0_cons (HI6.out.cli.blk) (pre0_nil)))))
              case hNst =>
                refine prek_cons3 (fun i a a' w_ w' hne hwt hr h hput => by
                  by_cases e11 : i = 11
                  · subst e11
                    exact absurd (hwt.symm.trans (show waitsT .any _ _ 11 4 = true by kernel_rfl)) (by decide)
                  by_cases e14 : i = 14
                  · subst e14
                    exact absurd (hwt.symm.trans (show waitsT .any _ _ 14 4 = true by kernel_rfl)) (by decide)
                  have hr' : Below w_.heap.size w_ w' := by simpa [e11, e14] using hr
                  exact h.to hr') ?_
                refine prek_cons3 (fun i a a' w_ w' hne hwt hr h hput => by
                  by_cases e11 : i = 11
                  · subst e11
                    exact absurd (hwt.symm.trans (show waitsT .any _ _ 11 6 = true by kernel_rfl)) (by decide)
                  by_cases e14 : i = 14
                  · subst e14
                    exact absurd (hwt.symm.trans (show waitsT .any _ _ 14 6 = true by kernel_rfl)) (by decide)
                  have hr' : Below w_.heap.size w_ w' := by simpa [e11, e14] using hr
                  exact h.to hr') ?_
                refine prek_cons3 (fun i a a' w_ w' hne hwt hr h hput => by
                  by_cases e11 : i = 11
                  · subst e11
                    exact absurd (hwt.symm.trans (show waitsT .any _ _ 11 9 = true by kernel_rfl)) (by decide)
                  by_cases e14 : i = 14
                  · subst e14
                    exact absurd (hwt.symm.trans (show waitsT .any _ _ 14 9 = true by kernel_rfl)) (by decide)
                  have hr' : Below w_.heap.size w_ w' := by simpa [e11, e14] using hr
                  exact ⟨(hr'.cell (p := ai.add k) (by rw [block_of_add]; exact h.2)).trans h.1, Nat.lt_of_lt_of_le h.2 hr'.size⟩) ?_
                refine prek_cons3 (fun i a a' w_ w' hne hwt hr h hput => by
                  by_cases e11 : i = 11
                  · exact absurd e11 hne
                  by_cases e14 : i = 14
                  · subst e14
                    exact absurd (hwt.symm.trans (show waitsT .any _ _ 14 11 = true by kernel_rfl)) (by decide)
                  have hr' : Below w_.heap.size w_ w' := by simpa [e11, e14] using hr
                  exact ⟨ownsRow_to h.1 hr', Nat.le_trans h.2 hr'.size⟩) ?_
                refine prek_cons3 (fun i a a' w_ w' hne hwt hr h hput => by
                  by_cases e11 : i = 11
                  · subst e11
                    have hr' : (fun b0 b1 x x' => World.grownBy x x' v'.ownBlock) a a' w_ w' := hr
                    exact (hr'.block b h.lt (fun e => by have := (HI6.out.cli.lt b e.symm).1; omega)).trans h
                  by_cases e14 : i = 14
                  · exact absurd e14 hne
                  have hr' : Below w_.heap.size w_ w' := by simpa [e11, e14] using hr
                  exact h.to hr') ?_
                exact prek_nil3
              case hop =>
                refine ⟨?_, ?_, ?_, ?_, ?_, ?_, ?_, ?_, ?_, ?_, ?_, ?_, ?_, ?_, ?_, trivial⟩
                · intro a w_ K hw hS hd hN hK
                  have s0 := hS.at 0 (by kernel_rfl) rfl
                  rw [if_pos (want_free rfl)]
                  go_simp
                  exact hK _ _ (Below.refl _ _) (vok rfl) (facts_cons (fun h => absurd h (by decide)) (facts_cons (fun h => absurd h (by decide)) (facts_cons (fun h => absurd h (by decide)) facts_nil)))
                · intro a w_ K hw hS hd hN hK
                  have s0 := hS.at 0 (by kernel_rfl) rfl
                  rw [if_pos (want_free rfl)]
                  go_simp
                  exact hK _ _ (Below.refl _ _) (vok rfl) (facts_cons (fun h => absurd h (by decide)) (facts_cons (fun h => absurd h (by decide)) (facts_cons (fun h => absurd h (by decide)) facts_nil)))
                · intro a w_ K hw hS hd hN hK
                  have s60 := (waits_on hd 1 (by kernel_rfl)).at (d := 60) rfl rfl rfl
                  rw [if_pos (want_free rfl)]
                  go_simp
                  exact hK _ _ (Below.refl _ _) (vok rfl) (facts_cons (fun h => absurd h (by decide)) (facts_cons (fun h => absurd h (by decide)) (facts_cons (fun h => absurd h (by decide)) facts_nil)))
                · intro a w_ K hw hS hd hN hK
                  have s61 := (waits_on hd 2 (by kernel_rfl)).at (d := 61) rfl rfl rfl
                  rw [if_pos (want_free rfl)]
                  go_simp
                  exact hK _ _ (Below.refl _ _) (vok rfl) (facts_cons (fun h => absurd h (by decide)) (facts_cons (fun h => absurd h (by decide)) (facts_cons (fun h => absurd h (by decide)) facts_nil)))
                · intro a w_ K hw hS hd hN hK
                  have s62 := (waits_on hd 3 (by kernel_rfl)).at (d := 62) rfl rfl rfl
                  have hBc := hN _ (List.mem_cons_self ..) rfl
                  rw [if_pos (want_free rfl)]
                  have c0 := (hBc.cell 2).trans (show _ = some v' from rfl)
                  go_simp
                  exact hK _ _ (Below.refl _ _) (vok rfl) (facts_cons (fun h => absurd h (by decide)) (facts_cons (fun h => absurd h (by decide)) (facts_cons (fun h => absurd h (by decide)) facts_nil)))
                · intro a w_ K hw hS hd hN hK
                  have s3 := hS.at 3 (by kernel_rfl) rfl
                  rw [if_pos (want_free rfl)]
                  go_simp
                  exact hK _ _ (Below.refl _ _) (vok rfl) (facts_cons (fun h => absurd h (by decide)) (facts_cons (fun h => absurd h (by decide)) (facts_cons (fun h => absurd h (by decide)) facts_nil)))
                · intro a w_ K hw hS hd hN hK
                  have s64 := (waits_on hd 5 (by kernel_rfl)).at (d := 64) rfl rfl rfl
                  have hBx := hN _ (List.mem_cons_of_mem _ (List.mem_cons_self ..)) rfl
                  rw [if_pos (want_free rfl)]
                  obtain ⟨x0, x1, x2, x3, x4⟩ := page_cells (p := p) hBx
                  go_simp
                  exact hK _ _ (Below.refl _ _) (vok rfl) (facts_cons (fun h => absurd h (by decide)) (facts_cons (fun h => absurd h (by decide)) (facts_cons (fun h => absurd h (by decide)) facts_nil)))
                · intro a w_ K hw hS hd hN hK
                  have s5 := hS.at 5 (by kernel_rfl) rfl
                  rw [if_pos (want_free rfl)]
                  go_simp
                  exact hK _ _ (Below.refl _ _) (vok rfl) (facts_cons (fun h => absurd h (by decide)) (facts_cons (fun h => absurd h (by decide)) (facts_cons (fun h => absurd h (by decide)) facts_nil)))
                · intro a w_ K hw hS hd hN hK
                  have s65 := (waits_on hd 6 (by kernel_rfl)).at (d := 65) rfl rfl rfl
                  have s66 := (waits_on hd 7 (by kernel_rfl)).at (d := 66) rfl rfl rfl
                  rw [if_pos (want_free rfl)]
                  go_simp
                  exact hK _ _ (Below.refl _ _) (vok rfl) (facts_cons (fun h => absurd h (by decide)) (facts_cons (fun h => absurd h (by decide)) (facts_cons (fun h => absurd h (by decide)) facts_nil)))
                · intro a w_ K hw hS hd hN hK
                  have s67 := (waits_on hd 8 (by kernel_rfl)).at (d := 67) rfl rfl rfl
                  obtain ⟨hcx, _⟩ := hN _ (List.mem_cons_of_mem _ (List.mem_cons_of_mem _ (List.mem_cons_self ..))) rfl
                  rw [if_pos (want_free rfl)]
                  go_simp
                  exact hK _ _ (Below.refl _ _) (vok rfl) (facts_cons (fun h => absurd h (by decide)) (facts_cons (fun h => absurd h (by decide)) (facts_cons (fun h => absurd h (by decide)) facts_nil)))
                · intro a w_ K hw hS hd hN hK
                  have s68 := (waits_on hd 9 (by kernel_rfl)).at (d := 68) rfl rfl rfl
                  rw [if_pos (want_free rfl)]
                  go_simp
                  exact hK _ _ (below_one _ _) (vfree rfl) (facts_cons (fun _ => ⟨_, hS.put_at (by kernel_rfl) _, Blk.new _ _ _, (Two.size hw)⟩) (facts_cons (fun h => absurd h (by decide)) (facts_cons (fun h => absurd h (by decide)) facts_nil)))
                · intro a w_ K hw hS hd hN hK
                  have s63 := (waits_on hd 4 (by kernel_rfl)).at (d := 63) rfl rfl rfl
                  obtain ⟨b69, s69, r69, l69⟩ := (waits_on hd 10 (by kernel_rfl)).2 _ (List.mem_cons_self ..) rfl
                  obtain ⟨hOwn, hSz⟩ := hN _ (List.mem_cons_of_mem _ (List.mem_cons_of_mem _ (List.mem_cons_of_mem _ (List.mem_cons_self ..)))) rfl
                  rw [if_pos (want_free rfl)]
                  obtain ⟨i0, hi0, hz0, hz1, hz2⟩ := info_parts info_str
                  refine wp_append_keep w_ (.tmp 63) (.tmp 69) 22 rfl (b + 1) 9 i0 _ 1 16 Tryz.underlying22 hi0 hz0 hz1 hz2 rfl (by decide) v' N _ (eval_at s63) hOwn ⟨b69, 0, none⟩ 1 1 [.string (bs x)] (eval_at s69) rfl (fun j u hj => by
                    cases j with
                    | zero => simp at hj; subst hj; exact r69.cell 0
                    | succ j => simp at hj) (by intro u hu; simp at hu; subst hu; rfl) (by unfold maxLen; omega) (by omega) (by omega) ?_
                  intro v2 w' h2 h3 h4 h5
                  exact hK v2 w' h3 (vfree rfl) (facts_cons (fun h => absurd h (by decide)) (facts_cons (fun _ => ⟨v2, hS.put_at (by kernel_rfl) _, h2, h5.imp id fun ⟨g, e, hg⟩ => ⟨g, e, Nat.le_trans hSz hg⟩⟩) (facts_cons (fun h => absurd h (by decide)) facts_nil)))
                · intro a w_ K hw hS hd hN hK
                  have s59 := (waits_on hd 0 (by kernel_rfl)).at (d := 59) rfl rfl rfl
                  rw [if_pos (want_free rfl)]
                  go_simp
                  exact hK _ _ (Below.refl _ _) (vok rfl) (facts_cons (fun h => absurd h (by decide)) (facts_cons (fun h => absurd h (by decide)) (facts_cons (fun h => absurd h (by decide)) facts_nil)))
                · intro a w_ K hw hS hd hN hK
                  have s71 := (waits_on hd 12 (by kernel_rfl)).at (d := 71) rfl rfl rfl
                  rw [if_pos (want_free rfl)]
                  go_simp
                  exact hK _ _ (Below.refl _ _) (vok rfl) (facts_cons (fun h => absurd h (by decide)) (facts_cons (fun h => absurd h (by decide)) (facts_cons (fun h => absurd h (by decide)) facts_nil)))
                · intro a w_ K hw hS hd hN hK
                  have s72 := (waits_on hd 13 (by kernel_rfl)).at (d := 72) rfl rfl rfl
                  obtain ⟨v70, s70, o70, k70⟩ := (waits_on hd 11 (by kernel_rfl)).2 _ (List.mem_cons_of_mem _ (List.mem_cons_self ..)) rfl
                  have hBs := hN _ (List.mem_cons_of_mem _ (List.mem_cons_of_mem _ (List.mem_cons_of_mem _ (List.mem_cons_of_mem _ (List.mem_cons_self ..))))) rfl
                  rw [if_pos (want_free rfl)]
                  obtain ⟨A0, c0, hv0⟩ := own_sl4 HO6.out
                  have c0 := (hBs.cell 2).trans (show _ = some v' from rfl)
                  have f0 := hBs.frozen 2
                  obtain ⟨A1, c1, rfl⟩ := own_sl4 o70
                  subst hv0
                  go_simp
                  exact hK undef _ ⟨_, rfl⟩ (vfree rfl) (facts_cons (fun h => absurd h (by decide)) (facts_cons (fun h => absurd h (by decide)) (facts_cons (fun _ => ⟨_, s70, hBs.set_ 2 _⟩) facts_nil)))
              case hfin =>
                intro a w7 hw hS hk
                have s59 := (hk 0 (by decide)).at (d := 59) rfl rfl rfl
                have s60 := (hk 1 (by decide)).at (d := 60) rfl rfl rfl
                have s61 := (hk 2 (by decide)).at (d := 61) rfl rfl rfl
                have s62 := (hk 3 (by decide)).at (d := 62) rfl rfl rfl
                have s63 := (hk 4 (by decide)).at (d := 63) rfl rfl rfl
                have s64 := (hk 5 (by decide)).at (d := 64) rfl rfl rfl
                have s65 := (hk 6 (by decide)).at (d := 65) rfl rfl rfl
                have s66 := (hk 7 (by decide)).at (d := 66) rfl rfl rfl
                have s67 := (hk 8 (by decide)).at (d := 67) rfl rfl rfl
                have s68 := (hk 9 (by decide)).at (d := 68) rfl rfl rfl
                obtain ⟨b69, s69, r69, l69⟩ := (hk 10 (by decide)).2 _ (List.mem_cons_self ..) rfl
                obtain ⟨v70, s70, o70, k70⟩ := (hk 11 (by decide)).2 _ (List.mem_cons_of_mem _ (List.mem_cons_self ..)) rfl
                have s71 := (hk 12 (by decide)).at (d := 71) rfl rfl rfl
                have s72 := (hk 13 (by decide)).at (d := 72) rfl rfl rfl
                obtain ⟨z70, zs70, zP⟩ := (hk 14 (by decide)).2 _ (List.mem_cons_of_mem _ (List.mem_cons_of_mem _ (List.mem_cons_self ..))) rfl
                have hlit := hS.lit _ (by kernel_rfl) (lits_cons s59 (lits_cons s60 (lits_cons s61 (lits_cons s62 (lits_cons s63 (lits_cons s64 (lits_cons s65 (lits_cons s66 (lits_cons s67 (lits_cons s68 (lits_cons s69 (lits_cons s70 (lits_cons s71 (lits_cons s72 lits_nil))))))))))))))
                rw [hlit]
                obtain rfl : v70 = z70 := Option.some.inj (s70.symm.trans zs70)
                clear hlit hk hS s59 s60 s61 s62 s63 s64 s65 s66 s67 s68 s71 s72 zs70 r69
                have HB7 := hide hw
                have ho2 := o70
                obtain ⟨A7, c7, rfl⟩ := own_sl4 o70
                simp only [litT, List.setIfInBounds_toArray, List.set_cons_succ, List.set_cons_zero]
                clear hw
                go_wp2_with fail
                refine ⟨⟨k + 1, .slice A7 (N + 1) c7, by go_num, by omega, ?_⟩, by simp [intOf]; omega⟩
                have hws := HI6.out.two.size
                have hbx : w.heap.size < w6.heap.size := HI6.out.box.lt
                refine ⟨?_, ?_, ?_, ?_, ?_⟩
                · refine two_chain HI6.out.two HB7.out ?_
                  rcases HI6.out.own with h | ⟨g, h, hg⟩
                  · exact .inl (by unfold rowOr; rw [h])
                  · exact .inr (.inr (by unfold rowOr; rw [h]; exact hg))
                · rw [HXX.out]
                  refine ⟨zP, ?_⟩
                  rw [flatS_snoc, List.length_append, HNN.out]
                  exact ho2
                · rcases k70 with h | ⟨g, h, hg⟩
                  · rw [h]; exact HI6.out.own
                  · exact .inr ⟨g, h, by omega⟩
                · rcases k70 with h | ⟨g, h, hg⟩
                  · rw [h]; exact HI6.out.nbx
                  · rw [h]; intro e; have : g = w.heap.size := Option.some.inj e; omega
                · refine HB7.out.blk HI6.out.box (by omega) (fun e => ?_)
                  rcases rowOr_cases v' b with h | h
                  · omega
                  · exact HI6.out.nbx (by rw [h, ← e])
            · have e2 : (p.fr + (k : Int) == (N : Int)) = false := by rw [beq_eq_false_iff_ne]; omega
              go_wp2_with fail
              go_quiet (fail)
              have hdr := below_drewN (Below.refl wr.heap.size wr) nq
              go_wp2_with fail
              refine ⟨⟨k + 1, .slice Av N cv, by go_num, by omega, ?_⟩, by simp [intOf]; omega⟩
              have hI := HI.out.to hdr
              exact ⟨hI.two, by rw [accK_no HFR.out (by rw [HNN.out]; exact heq) hlt]; exact hI.cli, hI.own, hI.nbx, hI.box⟩
          · obtain rfl : k = p.items.length := by omega
            have e1 : decide ((p.items.length : Int) < (p.items.length : Int)) = false := by simp
            go_wp2_with fail
            go_ret
            refine ⟨_, by rw [HAE.out]; rfl, ?_, HI.out.two, HI.out.own⟩
            rw [HAV.out]
            have := HI.out.cli
            rwa [List.take_length] at this
    · have HAE : Hid (accE p root size its = 17) := by
        show _ = _
        unfold accE
        rw [hf, if_pos rfl, if_neg (fun hh => hok ?_)]
        have h2 := hh
        unfold heldB sameB at h2
        simp only [Bool.and_eq_true, decide_eq_true_eq] at h2
        obtain ⟨⟨h3, h4, _⟩, _⟩ := h2
        exact ⟨h3, h4, by rw [h3, h4]; exact hh⟩
      have HAV : Hid (accV p root size its = its) := accV_none (by rw [HAE.out]; decide)
      by_cases k1 : p.root = root
      · have e1 : ((bs p.root).toList == (bs root).toList) = true := by rw [beq_iff_eq, bs_toList, bs_toList]; exact k1
        by_cases k2 : p.size = size
        · have e2 : (p.size == size) = true := by rw [beq_iff_eq]; exact k2
          have e3 : (p.size != size) = false := by rw [bne, e2]; rfl
          have k3 : heldB p p.root p.size = false := by
            cases h : heldB p p.root p.size with
            | false => rfl
            | true => exact absurd ⟨k1, k2, h⟩ hok
          rw [k3] at HHO
          clear hf hok k1 k2 k3
          go_enter Tryz.func36, Tryz.ntmps36
          go_wp2_with fail
          generalize w.alloc (.cells #[.int .i64 p.fr, .int .i64 p.size, .string (bs p.root), .slice Ai p.items.length ci, .slice Ap p.paths.length cp] 25) = w1 at *
          refine CF.mono ?_
          rintro e w2 ⟨rfl, hb⟩
          have HB2 := hide (below_to HB.out (Nat.le_refl _) hb)
          have HX2 := hide (HX.out.to hb)
          have HC2 := hide (HC.out.to HB2.out)
          clear hb CF HX
          obtain ⟨U, hU, g, u0, e9, hgu, hi⟩ := cls w2
          subst e9
          have X0 := blk_all hgu HX2.out 0 rfl
          have X1 := blk_all hgu HX2.out 1 rfl
          have X2 := blk_all hgu HX2.out 2 rfl
          have X3 := blk_all hgu HX2.out 3 rfl
          have X4 := blk_all hgu HX2.out 4 rfl
          have Z0 := blk_all hgu HC2.out.blk 0 rfl
          have Z1 := blk_all hgu HC2.out.blk 1 rfl
          have CH := cls_call hgu hi (fun w hw => HHO.out w (below_to HB2.out (Nat.le_refl _) hw))
          have HGU := hide hgu
          have HHI := hide hi
          clear hgu hi
          go_wp2_with fail
          refine wp_region_class g (by kernel_rfl) (by kernel_rfl) (HHI.out _ (HGU.out _).drew) ?_
          repeat (go_big_quiet_step (with_reducible exact CH _))
          refine wpQuiet_nil ?_
          intro w4 hw4
          obtain ⟨u, rfl⟩ := hw4
          go_wp2_with fail
          go_ret
          refine ⟨_, by rw [HAE.out]; rfl, by rw [HAV.out]; exact HC2.out.to (HGU.out u), (Two.of HB2.out).to (HGU.out u), .inl rfl⟩
        · have e2 : (p.size == size) = false := by rw [beq_eq_false_iff_ne]; exact k2
          have e3 : (p.size != size) = true := by rw [bne, e2]; rfl
          clear hf hok k1 k2
          go_enter Tryz.func36, Tryz.ntmps36
          go_wp2_with fail
          generalize w.alloc (.cells #[.int .i64 p.fr, .int .i64 p.size, .string (bs p.root), .slice Ai p.items.length ci, .slice Ap p.paths.length cp] 25) = w1 at *
          refine CF.mono ?_
          rintro e w2 ⟨rfl, hb⟩
          have HB2 := hide (below_to HB.out (Nat.le_refl _) hb)
          have HX2 := hide (HX.out.to hb)
          have HC2 := hide (HC.out.to HB2.out)
          clear hb CF HX
          obtain ⟨U, hU, g, u0, e9, hgu, hi⟩ := cls w2
          subst e9
          have X0 := blk_all hgu HX2.out 0 rfl
          have X1 := blk_all hgu HX2.out 1 rfl
          have X2 := blk_all hgu HX2.out 2 rfl
          have X3 := blk_all hgu HX2.out 3 rfl
          have X4 := blk_all hgu HX2.out 4 rfl
          have Z0 := blk_all hgu HC2.out.blk 0 rfl
          have Z1 := blk_all hgu HC2.out.blk 1 rfl
          have CH := cls_call hgu hi (fun w hw => HHO.out w (below_to HB2.out (Nat.le_refl _) hw))
          have HGU := hide hgu
          have HHI := hide hi
          clear hgu hi
          go_wp2_with fail
          refine wp_region_class g (by kernel_rfl) (by kernel_rfl) (HHI.out _ (HGU.out _).drew) ?_
          repeat (go_big_quiet_step (with_reducible exact CH _))
          refine wpQuiet_nil ?_
          intro w4 hw4
          obtain ⟨u, rfl⟩ := hw4
          go_wp2_with fail
          go_ret
          refine ⟨_, by rw [HAE.out]; rfl, by rw [HAV.out]; exact HC2.out.to (HGU.out u), (Two.of HB2.out).to (HGU.out u), .inl rfl⟩
      · have e1 : ((bs p.root).toList == (bs root).toList) = false := by rw [beq_eq_false_iff_ne, bs_toList, bs_toList]; exact k1
        clear hf hok k1
        go_enter Tryz.func36, Tryz.ntmps36
        go_wp2_with fail
        generalize w.alloc (.cells #[.int .i64 p.fr, .int .i64 p.size, .string (bs p.root), .slice Ai p.items.length ci, .slice Ap p.paths.length cp] 25) = w1 at *
        refine CF.mono ?_
        rintro e w2 ⟨rfl, hb⟩
        have HB2 := hide (below_to HB.out (Nat.le_refl _) hb)
        have HX2 := hide (HX.out.to hb)
        have HC2 := hide (HC.out.to HB2.out)
        clear hb CF HX
        obtain ⟨U, hU, g, u0, e9, hgu, hi⟩ := cls w2
        subst e9
        have X0 := blk_all hgu HX2.out 0 rfl
        have X1 := blk_all hgu HX2.out 1 rfl
        have X2 := blk_all hgu HX2.out 2 rfl
        have X3 := blk_all hgu HX2.out 3 rfl
        have X4 := blk_all hgu HX2.out 4 rfl
        have Z0 := blk_all hgu HC2.out.blk 0 rfl
        have Z1 := blk_all hgu HC2.out.blk 1 rfl
        have CH := cls_call hgu hi (fun w hw => HHO.out w (below_to HB2.out (Nat.le_refl _) hw))
        have HGU := hide hgu
        have HHI := hide hi
        clear hgu hi
        go_wp2_with fail
        refine wp_region_class g (by kernel_rfl) (by kernel_rfl) (HHI.out _ (HGU.out _).drew) ?_
        repeat (go_big_quiet_step (with_reducible exact CH _))
        refine wpQuiet_nil ?_
        intro w4 hw4
        obtain ⟨u, rfl⟩ := hw4
        go_wp2_with fail
        go_ret
        refine ⟨_, by rw [HAE.out]; rfl, by rw [HAV.out]; exact HC2.out.to (HGU.out u), (Two.of HB2.out).to (HGU.out u), .inl rfl⟩
end Go.Proofs.YtfhanbiifjiklaaGreatDoor

/- Clients that are not there; slices of pages. -/
set_option linter.unusedVariables false
set_option linter.unusedSimpArgs false
namespace Go.Proofs.YtfhanbiifjiklaaGreatDoor
open Go.RowKit

set_option maxRecDepth 100000 in
set_option maxHeartbeats 2000000 in
theorem Accept_none (p : Pg) (vi vp : Value) (w : World) (hvi : TextsAt w vi p.items) (hvp : PathsAt w vp p.paths) :
    Calls Tryz.prog 24 #[.pointer none, .agg (p.cs vi vp)] w fun e w' => e = .returned (.int .i64 1) ∧ Below w.heap.size w w' := by
  obtain ⟨Ai, ci, rfl, hci⟩ := hvi.slice
  obtain ⟨Ap, cp, rfl, hcp⟩ := hvp.slice
  clear hvi hvp
  unfold Pg.cs
  have hb0 : Below w.heap.size w (((w.alloc (.cells #[.pointer none] 38)).alloc (.cells #[.int .i64 p.fr, .int .i64 p.size, .string (bs p.root), .slice Ai p.items.length ci, .slice Ap p.paths.length cp] 25)).alloc (.cells #[.int .i64 0] 29)) := (((Below.refl _ w).alloc (Nat.le_refl _) _).alloc (by simp) _).alloc (by simp; omega) _
  have he := Blk.new ((w.alloc (.cells #[.pointer none] 38)).alloc (.cells #[.int .i64 p.fr, .int .i64 p.size, .string (bs p.root), .slice Ai p.items.length ci, .slice Ap p.paths.length cp] 25)) 29 #[.int .i64 0]
  rw [World.size_alloc, World.size_alloc] at he
  have HB0 := hide hb0
  have HE := hide he
  clear hb0 he
  go_enter Tryz.func24, Tryz.ntmps24
  go_wp2_with fail
  have h1 := Blk.new ((w.alloc (.cells #[.pointer none] 38)).alloc (.cells #[.int .i64 p.fr, .int .i64 p.size, .string (bs p.root), .slice Ai p.items.length ci, .slice Ap p.paths.length cp] 25)) 29 #[.int .i64 1]
  rw [World.size_alloc, World.size_alloc] at h1
  exact bodyPost_ret (results_errno rfl _ _ (w.heap.size + 1 + 1) _ rfl h1) rfl ⟨rfl, (((Below.refl _ w).alloc (Nat.le_refl _) _).alloc (by simp) _).alloc (by simp; omega) _⟩
set_option maxHeartbeats 1000000 in
theorem Next_none (w : World) : Calls Tryz.prog 23 #[.pointer none] w fun e w' => e = .returned (.int .i64 0) ∧ w' = w := by
  have CI := Items_none w
  go_enter Tryz.func23, Tryz.ntmps23
  go_wp2_with fail
  refine CI.mono ?_
  rintro e w2 ⟨rfl, rfl⟩
  go_wp2_with fail
  go_ret
  exact ⟨rfl, rfl⟩
set_option maxHeartbeats 1000000 in
theorem Grow_none (root : List UInt8) (size : Int) (vl : Value) (w : World) : Calls Tryz.prog 34 #[.pointer none, .string (bs root), .int .i64 size, vl] w fun e w' => e = .returned (.int .i64 1) ∧ w' = w := by
  go_enter Tryz.func34, Tryz.ntmps34
  go_wp2_with fail
  go_ret
  exact ⟨rfl, rfl⟩
set_option maxHeartbeats 1000000 in
theorem rAccept_none (p : Pg) (vi vp : Value) (w : World) (hvi : TextsAt w vi p.items) (hvp : PathsAt w vp p.paths) :
    Calls Tryz.prog 36 #[.pointer none, .agg (p.cs vi vp)] w fun e w' => e = .returned (.int .i64 1) ∧ Below w.heap.size w w' := by
  obtain ⟨Ai, ci, rfl, hci⟩ := hvi.slice
  obtain ⟨Ap, cp, rfl, hcp⟩ := hvp.slice
  clear hvi hvp
  unfold Pg.cs
  go_enter Tryz.func36, Tryz.ntmps36
  go_wp2_with fail
  go_ret
  exact ⟨rfl, below_one _ _⟩
set_option maxHeartbeats 1000000 in
theorem rItems_none (w : World) : Calls Tryz.prog 38 #[.pointer none] w fun e w' => e = .returned (.slice none 0 0) ∧ w' = w := by
  go_enter Tryz.func38, Tryz.ntmps38
  go_wp2_with fail
  go_ret
  exact ⟨rfl, rfl⟩
set_option maxHeartbeats 1000000 in
theorem rNext_none (w : World) : Calls Tryz.prog 37 #[.pointer none] w fun e w' => e = .returned (.int .i64 0) ∧ w' = w := by
  go_enter Tryz.func37, Tryz.ntmps37
  go_wp2_with fail
  go_ret
  exact ⟨rfl, rfl⟩
set_option maxHeartbeats 1000000 in
theorem rGrow_none (root : List UInt8) (size : Int) (vl : Value) (w : World) : Calls Tryz.prog 35 #[.pointer none, .string (bs root), .int .i64 size, vl] w fun e w' => e = .returned (.int .i64 1) ∧ w' = w := by
  go_enter Tryz.func35, Tryz.ntmps35
  go_wp2_with fail
  go_ret
  exact ⟨rfl, rfl⟩
/-- a page with its two slices -/
structure PV where
  p : Pg
  vi : Value
  vp : Value
def pvE (x : PV) : List Value := [.int .i64 x.p.fr, .int .i64 x.p.size, .string (bs x.p.root), x.vi, x.vp]
structure PagesAt (w : World) (v : Value) (l : List PV) : Prop where
  rows : RowsAt w 5 v (l.map pvE)
  ti : ∀ x ∈ l, TextsAt w x.vi x.p.items
  tp : ∀ x ∈ l, PathsAt w x.vp x.p.paths
theorem PagesAt.to {w w' : World} {v : Value} {l : List PV} (h : PagesAt w v l) (hb : Below w.heap.size w w') : PagesAt w' v l := ⟨h.rows.to hb, fun x hx => (h.ti x hx).to hb, fun x hx => (h.tp x hx).to hb⟩
theorem PagesAt.slice {w : World} {v : Value} {l : List PV} (h : PagesAt w v l) : ∃ A c, v = .slice A l.length c := by
  obtain ⟨A, c, h1, _⟩ := h.rows
  exact ⟨A, c, by rw [h1, List.length_map]⟩
theorem PagesAt.at_ {w : World} {A : Option Addr} {n c : Nat} {l : List PV} (h : PagesAt w (.slice A n c) l) {k : Nat} {x : PV} (hl : l[k]? = some x) : ∃ a, A = some a ∧ a.block < w.heap.size ∧
    w.cell? (a.add (k * 5)) = some (.int .i64 x.p.fr) ∧ w.cell? ⟨(a.add (k * 5)).block, (a.add (k * 5)).off + 1, none⟩ = some (.int .i64 x.p.size) ∧ w.cell? ⟨(a.add (k * 5)).block, (a.add (k * 5)).off + 2, none⟩ = some (.string (bs x.p.root)) ∧ w.cell? ⟨(a.add (k * 5)).block, (a.add (k * 5)).off + 3, none⟩ = some x.vi ∧ w.cell? ⟨(a.add (k * 5)).block, (a.add (k * 5)).off + 4, none⟩ = some x.vp := by
  obtain ⟨a, c', h1, _, h3, _, h5⟩ := RowsAt.at_ h.rows (k := k) (x := pvE x) (by rw [List.getElem?_map, hl]; rfl)
  injection h1 with e1
  refine ⟨a, e1, h3, ?_, h5 1 _ rfl, h5 2 _ rfl, h5 3 _ rfl, h5 4 _ rfl⟩
  have := h5 0 _ rfl
  rwa [show (a.add (k * 5)).add 0 = a.add (k * 5) by rw [add_of_add, Nat.add_zero]] at this
end Go.Proofs.YtfhanbiifjiklaaGreatDoor

/- Slices of pages that came in. -/
set_option linter.unusedVariables false
set_option linter.unusedSimpArgs false
namespace Go.Proofs.YtfhanbiifjiklaaGreatDoor
open Go.RowKit Go.ChangeShapes Go.WideShapes Go.Deep

structure PV.ok (x : PV) : Prop where
  wide : x.p.wide
  fr : -9223372036854775808 ≤ x.p.fr ∧ x.p.fr ≤ 9223372036854775807
  sz : -9223372036854775808 ≤ x.p.size ∧ x.p.size ≤ 9223372036854775807
theorem came_pages {H : Type} {enc : TypeId × Value → H} {w : World} {cs : List Value} (h : CameC enc Tryz.prog w 52 cs) :
    ∃ (v : Value) (l : List PV), cs = [v] ∧ PagesAt w v l ∧ (∀ x ∈ l, x.ok) ∧ l.length ≤ 140737488355328 := by
  rcases h.slice Tryz.underlying52 with rfl | ⟨a, n, c, rfl, hn, hb, _, hi⟩
  · exact ⟨_, [], rfl, ⟨RowsAt.nil _ _, by simp, by simp⟩, by simp, by simp⟩
  · have h1 : Tryz.prog.cellsOf 25 = 5 := by kernel_rfl
    have h2 : 1 ≤ Tryz.prog.bytesOf 25 := by rw [show Tryz.prog.bytesOf 25 = 80 by kernel_rfl]; decide
    rw [h1] at hi
    obtain ⟨ls, e, hq, hr⟩ := rows_came (w := w) (a := a) (c := c) (size := 5) pvE (fun x => x.ok ∧ TextsAt w x.vi x.p.items ∧ PathsAt w x.vp x.p.paths) (fun _ => rfl) (by decide) hn fun i hi' => by
      obtain ⟨cs', hl, hat, hcm⟩ := hi i hi'
      obtain ⟨p, vi, vp, rfl, ht, hp, hw, hf, hs⟩ := came_page hcm
      refine ⟨⟨p, vi, vp⟩, ⟨⟨hw, hf, hs⟩, ht, hp⟩, fun j u hu => ?_⟩
      have hj : j < 5 := (List.getElem?_eq_some_iff.1 hu).1
      rw [hat j hj, ← hu]
      rfl
    refine ⟨_, ls, rfl, ⟨e ▸ hr, fun x hx => (hq x hx).2.1, fun x hx => (hq x hx).2.2⟩, fun x hx => (hq x hx).1, ?_⟩
    have h3 := reachC hb
    have h4 : c * 1 ≤ c * Tryz.prog.bytesOf 25 := Nat.mul_le_mul_left c h2
    omega
end Go.Proofs.YtfhanbiifjiklaaGreatDoor

/- The plain laws of pages that are accepted: their items are those of the log, or two texts have one digest. -/
set_option linter.unusedVariables false
set_option linter.unusedSimpArgs false
namespace Go.Proofs.YtfhanbiifjiklaaGreatDoor
open Go.RowKit

theorem join3_len {a b c : List UInt8} (ha : a.length ≤ 1000) (hb : b.length ≤ 1000) (hc : c.length ≤ 1000) : (joinD [a, b, c]).length ≤ 4000 := by
  have := join_len [a, b, c] (by intro l hl; simp only [List.mem_cons, List.not_mem_nil, or_false] at hl; rcases hl with rfl | rfl | rfl <;> omega)
  simp at this; omega
theorem join2_len {a b : List UInt8} (ha : a.length ≤ 1000) (hb : b.length ≤ 1000) : (joinD [a, b]).length ≤ 4000 := by
  have := join_len [a, b] (by intro l hl; simp only [List.mem_cons, List.not_mem_nil, or_false] at hl; rcases hl with rfl | rfl <;> omega)
  simp at this; omega
theorem total_1000 {l : List (List UInt8)} (h : ∀ x ∈ l, x.length ≤ 1000) : (totalT l).length ≤ 1000 := by
  match l, h with
  | [], _ => exact Nat.le_of_lt (Nat.lt_of_le_of_lt (Nat.le_of_eq (isD_len (listD_isD _))) (by decide))
  | [x], h => rw [total_one]; exact h x (by simp)
  | x :: y :: l, _ => rw [total_two (by simp), nodeD_len]; decide
theorem texts_small : ∀ (f : Nat) (l : List (List UInt8)), (∀ x ∈ l, x.length ≤ 1000) → ∀ s ∈ textsF f l, s.length ≤ 4000
  | 0, l, h, s, hs => by cases hs
  | f + 1, l, h, s, hs => by
    unfold textsF at hs
    split at hs
    · rw [List.mem_singleton.1 hs]; decide +kernel
    · split at hs
      · cases hs
      · simp only [List.mem_append, List.mem_singleton] at hs
        rcases hs with (hs | hs) | hs
        · exact texts_small f _ (fun x hx => h x (List.mem_of_mem_take hx)) s hs
        · exact texts_small f _ (fun x hx => h x (List.mem_of_mem_drop hx)) s hs
        · rw [hs]; exact join3_len (by decide) (total_1000 fun x hx => h x (List.mem_of_mem_take hx)) (total_1000 fun x hx => h x (List.mem_of_mem_drop hx))
theorem up_1000 {leaf : List UInt8} (hl : leaf.length ≤ 1000) : ∀ (f n i : Nat) (st : List (List UInt8)) (sh : Bool), (upG leaf f n i st sh).1.length ≤ 1000
  | 0, n, i, st, sh => hl
  | f + 1, n, i, st, sh => by
    unfold upG
    split
    · exact hl
    · split <;> exact Nat.le_trans (Nat.le_of_eq (nodeD_len _ _)) (by decide)
theorem head_1000 {st : List (List UInt8)} (h : ∀ x ∈ st, x.length ≤ 1000) : (st.headD []).length ≤ 1000 := by
  cases st with
  | nil => simp
  | cons x l => exact h x (by simp)
theorem ptx_small {leaf : List UInt8} (hl : leaf.length ≤ 1000) : ∀ (f n i : Nat) (st : List (List UInt8)), (∀ x ∈ st, x.length ≤ 1000) → ∀ s ∈ ptxF leaf f n i st, s.length ≤ 4000
  | 0, n, i, st, h, s, hs => by cases hs
  | f + 1, n, i, st, h, s, hs => by
    unfold ptxF at hs
    have ht : ∀ x ∈ st.tail, x.length ≤ 1000 := fun x hx => h x (List.mem_of_mem_tail hx)
    split at hs
    · cases hs
    · split at hs
      · rcases List.mem_append.1 hs with hs | hs
        · exact ptx_small hl f _ _ _ ht s hs
        · rw [List.mem_singleton.1 hs]; exact join3_len (by decide) (up_1000 hl _ _ _ _ _) (head_1000 h)
      · rcases List.mem_append.1 hs with hs | hs
        · exact ptx_small hl f _ _ _ ht s hs
        · rw [List.mem_singleton.1 hs]; exact join3_len (by decide) (head_1000 h) (up_1000 hl _ _ _ _ _)
theorem dig_small {items : List (List UInt8)} (h : ∀ x ∈ items, x.length ≤ 1000) : ∀ s ∈ digestedV items, s.length ≤ 1000000 := fun s hs => by
  unfold digestedV at hs
  rcases List.mem_append.1 hs with hs | hs
  · have := texts_small _ _ (fun x hx => by obtain ⟨y, _, rfl⟩ := List.mem_map.1 hx; rw [isD_len (leaf_isD y)]; decide) s hs
    omega
  · obtain ⟨y, hy, rfl⟩ := List.mem_map.1 hs
    have : (leafJ y).length ≤ 4000 := join2_len (by decide) (h y hy)
    omega
theorem dig_len (items : List (List UInt8)) : (digestedV items).length ≤ 2 * items.length + 1 := by
  unfold digestedV
  have := texts_le (leavesV items)
  rw [leaves_len] at this
  rw [List.length_append, List.length_map]; omega
theorem chk_small {p : Pg} (hi : ∀ x ∈ p.items, x.length ≤ 1000) (hq : ∀ q ∈ p.paths, ∀ x ∈ q, x.length ≤ 1000) : ∀ s ∈ checkedV p, s.length ≤ 1000000 := fun s hs => by
  unfold checkedV chkUp at hs
  obtain ⟨j, hj, hs⟩ := List.mem_flatMap.1 hs
  unfold itemJ at hs
  have hx : (p.items.getD j []).length ≤ 1000 := by
    rw [List.getD_eq_getElem?_getD]
    cases e : p.items[j]? with
    | none => simp
    | some x => exact hi x (List.mem_of_getElem? e)
  rcases List.mem_cons.1 hs with rfl | hs
  · have : (leafJ (p.items.getD j [])).length ≤ 4000 := join2_len (by decide) hx
    omega
  · have := ptx_small (by rw [isD_len (leaf_isD _)]; decide) _ _ _ _ (fun x hx => by
      rw [List.mem_reverse, List.getD_eq_getElem?_getD] at hx
      cases e : p.paths[j]? with
      | none => rw [e] at hx; cases hx
      | some q => rw [e] at hx; exact hq q (List.mem_of_getElem? e) x hx) s hs
    omega
theorem item_mem {p : Pg} {k : Nat} {y : List UInt8} {q : List (List UInt8)} (hy : p.items[k]? = some y) (hq : p.paths[k]? = some q) : ∀ s ∈ leafJ y :: ptxF (leafD y) p.size.toNat p.size.toNat (p.fr.toNat + k) q.reverse, s ∈ checkedV p := fun s hs => by
  rw [← chk_at hy hq] at hs
  unfold checkedV chkUp
  exact List.mem_flatMap.2 ⟨k, List.mem_range.2 (List.getElem?_eq_some_iff.1 hy).1, hs⟩
/-- an item that is not the log's -/
theorem held_sound {items : List (List UInt8)} {p : Pg} (hf : formedB p = true) (hh : heldB p p.root p.size = true) (hr : p.root = rootL items) (hs : p.size = (items.length : Int)) {k : Nat} {x y : List UInt8} (hy : p.items[k]? = some y) (hx : items[p.fr.toNat + k]? = some x) (hne : x ≠ y) : Coll (digestedV items) (checkedV p) := by
  have hfs := (formed_spec hf).1
  obtain ⟨q, hq⟩ : ∃ q, p.paths[k]? = some q := ⟨_, List.getElem?_eq_getElem (by have := (List.getElem?_eq_some_iff.1 hy).1; omega)⟩
  have hc := held_at hh hy hq
  have hI : p.fr + (k : Int) = ((p.fr.toNat + k : Nat) : Int) := by omega
  obtain ⟨h1, h2, h3, h4⟩ := held_len hc hs hI
  rw [hs, hI, checkV_ref _ _ _ _ _ (by omega) (by omega)] at hc
  simp only [Bool.and_eq_true, decide_eq_true_eq] at hc
  have hu := hc.2.2.2
  have hN : p.size.toNat = items.length := by omega
  have hm := item_mem hy hq
  rw [hN] at hm
  have hxl : (leavesV items)[p.fr.toNat + k]? = some (leafD x) := by unfold leavesV; rw [List.getElem?_map, hx]; rfl
  rw [hr] at hu
  rcases up_sound (leafD y) items.length items.length (p.fr.toNat + k) q.reverse false (leavesV items) (leaves_len items) (Nat.le_refl _) h1 hu with h | h
  · rw [hxl] at h
    rcases leafD_sound (Option.some.inj h) with e | e
    · exact absurd e hne
    · refine e.mono (fun s hs => ?_) (fun s hs => ?_)
      · rw [List.mem_singleton.1 hs]
        unfold digestedV
        exact List.mem_append.2 (.inr (List.mem_map.2 ⟨x, List.mem_of_getElem? hx, rfl⟩))
      · rw [List.mem_singleton.1 hs]; exact hm _ (List.mem_cons_self ..)
  · exact h.mono (fun s hs => by unfold digestedV; exact List.mem_append.2 (.inl hs)) (fun s hs => hm s (List.mem_cons_of_mem _ hs))
theorem coll_in {a b : List (List UInt8)} (h : Coll a b) : CollIn (a ++ b) := h.mono (fun s hs => List.mem_append.2 (.inl hs)) (fun s hs => List.mem_append.2 (.inr hs))
theorem begins_no {l p : List (List UInt8)} (hl : p.length ≤ l.length) (h : beginsV l p = false) : ∃ (k : Nat) (x y : List UInt8), l[k]? = some x ∧ p[k]? = some y ∧ x ≠ y := by
  unfold beginsV at h
  rw [decide_eq_true hl, Bool.true_and, decide_eq_false_iff_not] at h
  apply Classical.byContradiction
  intro hn
  apply h
  refine List.ext_getElem? fun k => ?_
  rcases Nat.lt_or_ge k p.length with hk | hk
  · rw [List.getElem?_take_of_lt hk, List.getElem?_eq_getElem hk, List.getElem?_eq_getElem (by omega : k < l.length)]
    congr 1
    apply Classical.byContradiction
    intro hne
    exact hn ⟨k, _, _, List.getElem?_eq_getElem (by omega), List.getElem?_eq_getElem hk, hne⟩
  · rw [List.getElem?_eq_none hk, List.getElem?_eq_none (by rw [List.length_take]; omega)]
theorem begins_take (l : List (List UInt8)) (k : Nat) : beginsV l (l.take k) = true := by
  unfold beginsV
  rw [List.length_take, decide_eq_true (by omega), Bool.true_and, decide_eq_true_eq]
  rcases Nat.le_total k l.length with h | h
  · rw [Nat.min_eq_left h]
  · rw [Nat.min_eq_right h, List.take_length, List.take_of_length_le h]
/-- what an accepted page says of itself -/
theorem acc_facts {p : Pg} {items its : List (List UInt8)} (h : accE p (rootL items) items.length its = 0) : formedB p = true ∧ heldB p p.root p.size = true ∧ p.root = rootL items ∧ p.size = (items.length : Int) ∧ p.fr ≤ (its.length : Int) := by
  unfold accE at h
  split at h
  · rename_i hf
    split at h
    · rename_i hh
      split at h
      · cases h
      · rename_i hl
        have hh' := hh
        unfold heldB sameB at hh'
        simp only [Bool.and_eq_true, decide_eq_true_eq] at hh'
        obtain ⟨⟨h1, h2, h3⟩, h4⟩ := hh'
        exact ⟨hf, by rw [h1, h2]; exact hh, h1, h2, by omega⟩
    · cases h
  · cases h
end Go.Proofs.YtfhanbiifjiklaaGreatDoor

/- The walk of PageTexts. -/
set_option linter.unusedVariables false
set_option linter.unusedSimpArgs false
namespace Go.Proofs.YtfhanbiifjiklaaGreatDoor
open Go.RowKit

/-- two pages that came in, in boxes of the call -/
structure TwoP (w : World) (p q : Pg) (vi vp ui up : Value) (W : World) : Prop where
  bel : Below w.heap.size w W
  bP : Blk W w.heap.size 25 (p.cs vi vp)
  bQ : Blk W (w.heap.size + 1) 25 (q.cs ui up)
  ti : TextsAt W vi p.items
  tp : PathsAt W vp p.paths
  ui : TextsAt W ui q.items
  up : PathsAt W up q.paths
theorem TwoP.to {w W W' : World} {p q : Pg} {vi vp ui up : Value} (h : TwoP w p q vi vp ui up W) (hb : Below W.heap.size W W') : TwoP w p q vi vp ui up W' :=
  ⟨below_to h.bel (Nat.le_refl _) hb, h.bP.to hb, h.bQ.to hb, h.ti.to hb, h.tp.to hb, h.ui.to hb, h.up.to hb⟩
theorem TwoP.start {w : World} {p q : Pg} {vi vp ui up : Value} (h1 : TextsAt w vi p.items) (h2 : PathsAt w vp p.paths) (h3 : TextsAt w ui q.items) (h4 : PathsAt w up q.paths) : TwoP w p q vi vp ui up ((w.alloc (.cells (p.cs vi vp) 25)).alloc (.cells (q.cs ui up) 25)) := by
  have b1 := below_one w (.cells (p.cs vi vp) 25)
  have b2 := below_one (w.alloc (.cells (p.cs vi vp) 25)) (.cells (q.cs ui up) 25)
  have x := Blk.new (w.alloc (.cells (p.cs vi vp) 25)) 25 (q.cs ui up)
  rw [World.size_alloc] at x
  exact ⟨below_to b1 (Nat.le_refl _) b2, (Blk.new w _ _).to b2, x, (h1.to b1).to b2, (h2.to b1).to b2, (h3.to b1).to b2, (h4.to b1).to b2⟩
set_option maxRecDepth 100000 in
set_option maxHeartbeats 4000000 in
theorem texts_law (p q : Pg) (hp : p.wide) (hq : q.wide) (hpf : -9223372036854775808 ≤ p.fr ∧ p.fr ≤ 9223372036854775807) (hps : -9223372036854775808 ≤ p.size ∧ p.size ≤ 9223372036854775807) (hqf : -9223372036854775808 ≤ q.fr ∧ q.fr ≤ 9223372036854775807) (hqs : -9223372036854775808 ≤ q.size ∧ q.size ≤ 9223372036854775807)
    (t : List UInt8) (ht : t.length ≤ 140737488355328) (vi vp ui up : Value) (w : World) (hvi : TextsAt w vi p.items) (hvp : PathsAt w vp p.paths) (hui : TextsAt w ui q.items) (huq : PathsAt w up q.paths) (hg : Glob w) :
    Calls Tryz.prog 7 #[.agg (p.cs vi vp), .agg (q.cs ui up), .string (bs t)] w fun e w' => e = .returned (.bool true) ∧ Below w.heap.size w w' := by
  have H2 := hide (TwoP.start hvi hvp hui huq)
  have HG := hide hg
  obtain ⟨Ai, ci, rfl, _⟩ := hvi.slice
  obtain ⟨Ap, cp, rfl, _⟩ := hvp.slice
  obtain ⟨Bi, di, rfl, _⟩ := hui.slice
  obtain ⟨Bp, dp, rfl, _⟩ := huq.slice
  clear hvi hvp hui huq hg
  have hsz : (bs t).size = t.length := bs_size t
  unfold Pg.cs at H2 ⊢
  go_enter Tryz.func7, Tryz.ntmps7
  go_wp2_with fail
  generalize (w.alloc (.cells #[.int .i64 p.fr, .int .i64 p.size, .string (bs p.root), .slice Ai p.items.length ci, .slice Ap p.paths.length cp] 25)).alloc (.cells #[.int .i64 q.fr, .int .i64 q.size, .string (bs q.root), .slice Bi q.items.length di, .slice Bp q.paths.length dp] 25) = w2 at *
  have C3 := head_any w2 (HG.out.to H2.out.bel)
  refine C3.mono ?_
  rintro e w3 ⟨rfl, hb⟩
  have H3 := hide (H2.out.to hb)
  clear hb C3 H2
  obtain ⟨p0, p1, p2, p3, p4⟩ := page_cells H3.out.bP; obtain ⟨q0, q1, q2, q3, q4⟩ := page_cells H3.out.bQ
  have CF : Calls Tryz.prog 13 #[.agg #[.int .i64 p.fr, .int .i64 p.size, .string (bs p.root), .slice Ai p.items.length ci, .slice Ap p.paths.length cp]] w3 fun e w' => e = .returned (.bool (fewP p)) ∧ Below w3.heap.size w3 w' := FewP_any p hp _ _ w3 H3.out.ti H3.out.tp
  have CG : ∀ w4 : World, Below w3.heap.size w3 w4 → Calls Tryz.prog 13 #[.agg #[.int .i64 q.fr, .int .i64 q.size, .string (bs q.root), .slice Bi q.items.length di, .slice Bp q.paths.length dp]] w4 fun e w' => e = .returned (.bool (fewP q)) ∧ Below w4.heap.size w4 w' := fun w4 hb => FewP_any q hq _ _ w4 (H3.out.ui.to hb) (H3.out.up.to hb)
  have FP := fun h => few_fit (p := p) h hpf hps
  have FQ := fun h => few_fit (p := q) h hqf hqs
  generalize fewP p = b1 at *
  generalize fewP q = b2 at *
  cases b1 with
  | false =>
    go_wp2_with ((with_reducible refine CF.mono ?_); rintro e w4 ⟨rfl, hb⟩; have H4 := hide (H3.out.to hb); clear hb CF p0 p1 p2 p3 p4 q0 q1 q2 q3 q4 H3; obtain ⟨p0, p1, p2, p3, p4⟩ := page_cells H4.out.bP; obtain ⟨q0, q1, q2, q3, q4⟩ := page_cells H4.out.bQ)
    go_ret
    exact ⟨rfl, H4.out.bel⟩
  | true =>
    cases b2 with
    | false =>
      go_wp2_with (first | ((with_reducible refine CF.mono ?_); rintro e w4 ⟨rfl, hb⟩; have CG := CG w4 hb; have H4 := hide (H3.out.to hb); clear hb CF p0 p1 p2 p3 p4 q0 q1 q2 q3 q4 H3; obtain ⟨p0, p1, p2, p3, p4⟩ := page_cells H4.out.bP; obtain ⟨q0, q1, q2, q3, q4⟩ := page_cells H4.out.bQ) | ((with_reducible refine CG.mono ?_); rintro e w5 ⟨rfl, hb⟩; have H5 := hide (H4.out.to hb); clear hb CG p0 p1 p2 p3 p4 q0 q1 q2 q3 q4 H4))
      go_ret
      exact ⟨rfl, H5.out.bel⟩
    | true =>
      have HFP := hide (FP rfl)
      have HFQ := hide (FQ rfl)
      clear FP FQ
      by_cases hlt : t.length ≤ 3000
      · have c0 : decide ((3000 : Int) < (t.length : Int)) = false := decide_eq_false (by omega)
        go_wp2_with (first | ((with_reducible refine CF.mono ?_); rintro e w4 ⟨rfl, hb⟩; have CG := CG w4 hb; have H4 := hide (H3.out.to hb); clear hb CF p0 p1 p2 p3 p4 q0 q1 q2 q3 q4 H3; obtain ⟨p0, p1, p2, p3, p4⟩ := page_cells H4.out.bP; obtain ⟨q0, q1, q2, q3, q4⟩ := page_cells H4.out.bQ) | ((with_reducible refine CG.mono ?_); rintro e w5 ⟨rfl, hb⟩; have H5 := hide (H4.out.to hb); clear hb CG p0 p1 p2 p3 p4 q0 q1 q2 q3 q4 H4; obtain ⟨p0, p1, p2, p3, p4⟩ := page_cells H5.out.bP; obtain ⟨q0, q1, q2, q3, q4⟩ := page_cells H5.out.bQ))
        have CT : Calls Tryz.prog 16 #[.agg #[.int .i64 p.fr, .int .i64 p.size, .string (bs p.root), .slice Ai p.items.length ci, .slice Ap p.paths.length cp]] w5 fun e w' => e = .returned (.tuple #[.string (bs (textV p)), .int .i64 (textE p)]) ∧ Below w5.heap.size w5 w' := Text_any p HFP.out.1 _ _ w5 (HG.out.to H5.out.bel) H5.out.ti H5.out.tp
        refine CT.mono ?_
        rintro e w6 ⟨rfl, hb⟩
        have H6 := hide (H5.out.to hb)
        clear hb CT p0 p1 p2 p3 p4 q0 q1 q2 q3 q4 H5
        obtain ⟨p0, p1, p2, p3, p4⟩ := page_cells H6.out.bP; obtain ⟨q0, q1, q2, q3, q4⟩ := page_cells H6.out.bQ
        go_wp2_with fail
        have CT : Calls Tryz.prog 16 #[.agg #[.int .i64 q.fr, .int .i64 q.size, .string (bs q.root), .slice Bi q.items.length di, .slice Bp q.paths.length dp]] w6 fun e w' => e = .returned (.tuple #[.string (bs (textV q)), .int .i64 (textE q)]) ∧ Below w6.heap.size w6 w' := Text_any q HFQ.out.1 _ _ w6 (HG.out.to H6.out.bel) H6.out.ui H6.out.up
        refine CT.mono ?_
        rintro e w7 ⟨rfl, hb⟩
        have H7 := hide (H6.out.to hb)
        clear hb CT p0 p1 p2 p3 p4 q0 q1 q2 q3 q4 H6
        obtain ⟨p0, p1, p2, p3, p4⟩ := page_cells H7.out.bP; obtain ⟨q0, q1, q2, q3, q4⟩ := page_cells H7.out.bQ
        cases hfp : formedB p with
        | false =>
          have E0 : textE p = 1 := by unfold textE; rw [hfp]; rfl
          rw [E0]
          clear hfp E0
          go_wp2_with fail
          have CP := Parse_any t (by omega) w7 (HG.out.to H7.out.bel)
          unfold ParseR at CP
          clear p0 p1 p2 p3 p4 q0 q1 q2 q3 q4
          cases hpt : parseP t with
          | none =>
            rw [show parseV t = noPg by unfold parseV; rw [hpt]; rfl, show parseE t = 5 by unfold parseE; rw [hpt]; rfl] at CP
            clear hpt
            refine CP.mono ?_
            rintro e w8 ⟨xi, xp, rfl, hxi, hxp, hb⟩
            obtain ⟨Xi, xci, rfl, _⟩ := hxi.slice
            obtain ⟨Xp, xcp, rfl, _⟩ := hxp.slice
            have H8 := hide (H7.out.to hb)
            clear hb CP H7
            rw [show noPg.cs (.slice Xi noPg.items.length xci) (.slice Xp noPg.paths.length xcp) = #[.int .i64 0, .int .i64 0, .string ⟨#[]⟩, .slice Xi 0 xci, .slice Xp 0 xcp] from rfl]
            have HB8 := below_one w8 (.cells #[.int .i64 0, .int .i64 0, .string ⟨#[]⟩, .slice Xi 0 xci, .slice Xp 0 xcp] 25)
            have CS : Calls Tryz.prog 20 #[.agg #[.int .i64 0, .int .i64 0, .string ⟨#[]⟩, .slice Xi 0 xci, .slice Xp 0 xcp], .agg #[.int .i64 0, .int .i64 0, .string ⟨#[]⟩, .slice none 0 0, .slice none 0 0]] (w8.alloc (.cells #[.int .i64 0, .int .i64 0, .string ⟨#[]⟩, .slice Xi 0 xci, .slice Xp 0 xcp] 25)) fun e w' => e = .returned (.bool true) ∧ Below (w8.alloc (.cells #[.int .i64 0, .int .i64 0, .string ⟨#[]⟩, .slice Xi 0 xci, .slice Xp 0 xcp] 25)).heap.size (w8.alloc (.cells #[.int .i64 0, .int .i64 0, .string ⟨#[]⟩, .slice Xi 0 xci, .slice Xp 0 xcp] 25)) w' := by
              have := PSame_any noPg noPg (fit_wide no_fit) (fit_wide no_fit) _ _ (.slice none 0 0) (.slice none 0 0) _ (hxi.to HB8) (hxp.to HB8) (TextsAt.nil _) (PathsAt.nil _)
              rw [same_refl] at this
              exact this
            have HBB := hide (below_to H8.out.bel (Nat.le_refl _) HB8)
            clear hxi hxp HB8 H8
            go_wp2_with fail
            refine CS.mono ?_
            rintro e w9 ⟨rfl, hb⟩
            have HBC := hide (below_to HBB.out (Nat.le_refl _) hb)
            clear hb CS HBB
            go_wp2_with fail
            go_ret
            exact ⟨rfl, HBC.out⟩
          | some y =>
            obtain ⟨hfy, hty⟩ := text_of_parse hpt
            rw [show parseV t = y by unfold parseV; rw [hpt]; rfl, show parseE t = 0 by unfold parseE; rw [hpt]; rfl] at CP
            refine CP.mono ?_
            rintro e w8 ⟨xi, xp, rfl, hxi, hxp, hb⟩
            have H8 := hide (H7.out.to hb)
            have CT := fun (w' : World) (hb' : Below w8.heap.size w8 w') => Text_any y (formed_fit hfy) xi xp w' (HG.out.to (below_to H8.out.bel (Nat.le_refl _) hb')) (hxi.to hb') (hxp.to hb')
            rw [show textV y = t by unfold textV; rw [hfy]; exact hty, show textE y = 0 by unfold textE; rw [hfy]; rfl] at CT
            obtain ⟨Xi, xci, rfl, _⟩ := hxi.slice
            obtain ⟨Xp, xcp, rfl, _⟩ := hxp.slice
            clear hb CP H7 hxi hxp hpt hfy hty
            unfold Pg.cs at CT ⊢
            have HB8 := below_one w8 (.cells #[.int .i64 y.fr, .int .i64 y.size, .string (bs y.root), .slice Xi y.items.length xci, .slice Xp y.paths.length xcp] 25)
            have CT := CT _ HB8
            have HBB := hide (below_to H8.out.bel (Nat.le_refl _) HB8)
            have q : ((bs t).toList == (bs t).toList) = true := by simp
            clear HB8 H8
            go_wp2_with fail
            refine CT.mono ?_
            rintro e w9 ⟨rfl, hb⟩
            have HBC := hide (below_to HBB.out (Nat.le_refl _) hb)
            clear hb CT HBB
            go_wp2_with fail
            go_ret
            exact ⟨rfl, HBC.out⟩
        | true =>
          have E0 : textE p = 0 := by unfold textE; rw [hfp]; rfl
          have V0 : textV p = textPg p := by unfold textV; rw [hfp]; rfl
          rw [E0, V0]
          have CP := fun (w' : World) (hg' : Glob w') => Parse_any (textPg p) (text_len hfp HFP.out.2.2) w' hg'
          unfold ParseR at CP
          rw [show parseV (textPg p) = p by unfold parseV; rw [parse_text hfp]; rfl, show parseE (textPg p) = 0 by unfold parseE; rw [parse_text hfp]; rfl] at CP
          go_wp2_with fail
          refine (CP w7 (HG.out.to H7.out.bel)).mono ?_
          rintro e w8 ⟨xi, xp, rfl, hxi, hxp, hb⟩
          have H8 := hide (H7.out.to hb)
          obtain ⟨Xi, xci, rfl, _⟩ := hxi.slice
          obtain ⟨Xp, xcp, rfl, _⟩ := hxp.slice
          unfold Pg.cs
          have HB8 := below_one w8 (.cells #[.int .i64 p.fr, .int .i64 p.size, .string (bs p.root), .slice Xi p.items.length xci, .slice Xp p.paths.length xcp] 25)
          have H9 := hide (H8.out.to HB8)
          have HXI := hide (hxi.to HB8)
          have HXP := hide (hxp.to HB8)
          have xb := Blk.new w8 25 (p.cs (.slice Xi p.items.length xci) (.slice Xp p.paths.length xcp))
          obtain ⟨x0, x1, x2, x3, x4⟩ := page_cells xb
          clear p0 p1 p2 p3 p4 q0 q1 q2 q3 q4
          obtain ⟨p0, p1, p2, p3, p4⟩ := page_cells H8.out.bP; obtain ⟨q0, q1, q2, q3, q4⟩ := page_cells H8.out.bQ
          have z1 : w.heap.size < w8.heap.size := H8.out.bP.lt
          have z2 : w.heap.size + 1 < w8.heap.size := H8.out.bQ.lt
          have z3 : w.heap.size ≠ w8.heap.size := by omega
          have z4 : w.heap.size + 1 ≠ w8.heap.size := by omega
          clear hb CP H7 H8 HB8 hxi hxp xb
          go_wp2_with fail
          clear p0 p1 p2 p3 p4 q0 q1 q2 q3 q4
          unfold Pg.cs at x0 x1 x2 x3 x4
          generalize w8.alloc (.cells #[.int .i64 p.fr, .int .i64 p.size, .string (bs p.root), .slice Xi p.items.length xci, .slice Xp p.paths.length xcp] 25) = w9 at *
          have CS : Calls Tryz.prog 20 #[.agg #[.int .i64 p.fr, .int .i64 p.size, .string (bs p.root), .slice Xi p.items.length xci, .slice Xp p.paths.length xcp], .agg #[.int .i64 p.fr, .int .i64 p.size, .string (bs p.root), .slice Ai p.items.length ci, .slice Ap p.paths.length cp]] w9 fun e w' => e = .returned (.bool true) ∧ Below w9.heap.size w9 w' := by
            have := PSame_any p p hp hp _ _ _ _ w9 HXI.out HXP.out H9.out.ti H9.out.tp
            rw [same_refl] at this
            exact this
          refine CS.mono ?_
          rintro e w10 ⟨rfl, hb⟩
          have H10 := hide (H9.out.to hb)
          clear hb CS z1 z2 z3 z4 x0 x1 x2 x3 x4 H9 HXI HXP
          obtain ⟨p0, p1, p2, p3, p4⟩ := page_cells H10.out.bP; obtain ⟨q0, q1, q2, q3, q4⟩ := page_cells H10.out.bQ
          cases hfq : formedB q with
          | false =>
            have E1 : textE q = 1 := by unfold textE; rw [hfq]; rfl
            rw [E1]
            clear hfq E1 V0 hfp
            go_wp2_with fail
            have CP := Parse_any t (by omega) w10 (HG.out.to H10.out.bel)
            unfold ParseR at CP
            clear p0 p1 p2 p3 p4 q0 q1 q2 q3 q4
            cases hpt : parseP t with
            | none =>
              rw [show parseV t = noPg by unfold parseV; rw [hpt]; rfl, show parseE t = 5 by unfold parseE; rw [hpt]; rfl] at CP
              clear hpt
              refine CP.mono ?_
              rintro e w11 ⟨xi, xp, rfl, hxi, hxp, hb⟩
              obtain ⟨Xi, xci, rfl, _⟩ := hxi.slice
              obtain ⟨Xp, xcp, rfl, _⟩ := hxp.slice
              have H11 := hide (H10.out.to hb)
              clear hb CP H10
              rw [show noPg.cs (.slice Xi noPg.items.length xci) (.slice Xp noPg.paths.length xcp) = #[.int .i64 0, .int .i64 0, .string ⟨#[]⟩, .slice Xi 0 xci, .slice Xp 0 xcp] from rfl]
              have HB11 := below_one w11 (.cells #[.int .i64 0, .int .i64 0, .string ⟨#[]⟩, .slice Xi 0 xci, .slice Xp 0 xcp] 25)
              have CS : Calls Tryz.prog 20 #[.agg #[.int .i64 0, .int .i64 0, .string ⟨#[]⟩, .slice Xi 0 xci, .slice Xp 0 xcp], .agg #[.int .i64 0, .int .i64 0, .string ⟨#[]⟩, .slice none 0 0, .slice none 0 0]] (w11.alloc (.cells #[.int .i64 0, .int .i64 0, .string ⟨#[]⟩, .slice Xi 0 xci, .slice Xp 0 xcp] 25)) fun e w' => e = .returned (.bool true) ∧ Below (w11.alloc (.cells #[.int .i64 0, .int .i64 0, .string ⟨#[]⟩, .slice Xi 0 xci, .slice Xp 0 xcp] 25)).heap.size (w11.alloc (.cells #[.int .i64 0, .int .i64 0, .string ⟨#[]⟩, .slice Xi 0 xci, .slice Xp 0 xcp] 25)) w' := by
                have := PSame_any noPg noPg (fit_wide no_fit) (fit_wide no_fit) _ _ (.slice none 0 0) (.slice none 0 0) _ (hxi.to HB11) (hxp.to HB11) (TextsAt.nil _) (PathsAt.nil _)
                rw [same_refl] at this
                exact this
              have HBB := hide (below_to H11.out.bel (Nat.le_refl _) HB11)
              clear hxi hxp HB11 H11
              go_wp2_with fail
              refine CS.mono ?_
              rintro e w12 ⟨rfl, hb⟩
              have HBC := hide (below_to HBB.out (Nat.le_refl _) hb)
              clear hb CS HBB
              go_wp2_with fail
              go_ret
              exact ⟨rfl, HBC.out⟩
            | some y =>
              obtain ⟨hfy, hty⟩ := text_of_parse hpt
              rw [show parseV t = y by unfold parseV; rw [hpt]; rfl, show parseE t = 0 by unfold parseE; rw [hpt]; rfl] at CP
              refine CP.mono ?_
              rintro e w11 ⟨xi, xp, rfl, hxi, hxp, hb⟩
              have H11 := hide (H10.out.to hb)
              have CT := fun (w' : World) (hb' : Below w11.heap.size w11 w') => Text_any y (formed_fit hfy) xi xp w' (HG.out.to (below_to H11.out.bel (Nat.le_refl _) hb')) (hxi.to hb') (hxp.to hb')
              rw [show textV y = t by unfold textV; rw [hfy]; exact hty, show textE y = 0 by unfold textE; rw [hfy]; rfl] at CT
              obtain ⟨Xi, xci, rfl, _⟩ := hxi.slice
              obtain ⟨Xp, xcp, rfl, _⟩ := hxp.slice
              clear hb CP H10 hxi hxp hpt hfy hty
              unfold Pg.cs at CT ⊢
              have HB11 := below_one w11 (.cells #[.int .i64 y.fr, .int .i64 y.size, .string (bs y.root), .slice Xi y.items.length xci, .slice Xp y.paths.length xcp] 25)
              have CT := CT _ HB11
              have HBB := hide (below_to H11.out.bel (Nat.le_refl _) HB11)
              have q : ((bs t).toList == (bs t).toList) = true := by simp
              clear HB11 H11
              go_wp2_with fail
              refine CT.mono ?_
              rintro e w12 ⟨rfl, hb⟩
              have HBC := hide (below_to HBB.out (Nat.le_refl _) hb)
              clear hb CT HBB
              go_wp2_with fail
              go_ret
              exact ⟨rfl, HBC.out⟩
          | true =>
            have E1 : textE q = 0 := by unfold textE; rw [hfq]; rfl
            have V1 : textV q = textPg q := by unfold textV; rw [hfq]; rfl
            rw [E1, V1]
            have QE : ((bs (textPg p)).toList == (bs (textPg q)).toList) = sameP p q := by
              rw [bs_toList, bs_toList, Bool.eq_iff_iff, beq_iff_eq, same_iff]
              exact ⟨fun h => text_inj hfp hfq h, fun h => by rw [h]⟩
            have CS : Calls Tryz.prog 20 #[.agg #[.int .i64 p.fr, .int .i64 p.size, .string (bs p.root), .slice Ai p.items.length ci, .slice Ap p.paths.length cp], .agg #[.int .i64 q.fr, .int .i64 q.size, .string (bs q.root), .slice Bi q.items.length di, .slice Bp q.paths.length dp]] w10 fun e w' => e = .returned (.bool (sameP p q)) ∧ Below w10.heap.size w10 w' := PSame_any p q hp hq _ _ _ _ w10 H10.out.ti H10.out.tp H10.out.ui H10.out.up
            clear hfq E1 V1 V0 hfp
            generalize sameP p q = B at *
            go_wp2_with fail
            refine CS.mono ?_
            rintro e w11 ⟨rfl, hb⟩
            have H11 := hide (H10.out.to hb)
            clear hb CS p0 p1 p2 p3 p4 q0 q1 q2 q3 q4 H10
            obtain ⟨p0, p1, p2, p3, p4⟩ := page_cells H11.out.bP; obtain ⟨q0, q1, q2, q3, q4⟩ := page_cells H11.out.bQ
            have hBB : (B != B) = false := by simp
            go_wp2_with fail
            have CP := Parse_any t (by omega) w11 (HG.out.to H11.out.bel)
            unfold ParseR at CP
            clear p0 p1 p2 p3 p4 q0 q1 q2 q3 q4
            cases hpt : parseP t with
            | none =>
              rw [show parseV t = noPg by unfold parseV; rw [hpt]; rfl, show parseE t = 5 by unfold parseE; rw [hpt]; rfl] at CP
              clear hpt
              refine CP.mono ?_
              rintro e w12 ⟨xi, xp, rfl, hxi, hxp, hb⟩
              obtain ⟨Xi, xci, rfl, _⟩ := hxi.slice
              obtain ⟨Xp, xcp, rfl, _⟩ := hxp.slice
              have H12 := hide (H11.out.to hb)
              clear hb CP H11
              rw [show noPg.cs (.slice Xi noPg.items.length xci) (.slice Xp noPg.paths.length xcp) = #[.int .i64 0, .int .i64 0, .string ⟨#[]⟩, .slice Xi 0 xci, .slice Xp 0 xcp] from rfl]
              have HB12 := below_one w12 (.cells #[.int .i64 0, .int .i64 0, .string ⟨#[]⟩, .slice Xi 0 xci, .slice Xp 0 xcp] 25)
              have CS : Calls Tryz.prog 20 #[.agg #[.int .i64 0, .int .i64 0, .string ⟨#[]⟩, .slice Xi 0 xci, .slice Xp 0 xcp], .agg #[.int .i64 0, .int .i64 0, .string ⟨#[]⟩, .slice none 0 0, .slice none 0 0]] (w12.alloc (.cells #[.int .i64 0, .int .i64 0, .string ⟨#[]⟩, .slice Xi 0 xci, .slice Xp 0 xcp] 25)) fun e w' => e = .returned (.bool true) ∧ Below (w12.alloc (.cells #[.int .i64 0, .int .i64 0, .string ⟨#[]⟩, .slice Xi 0 xci, .slice Xp 0 xcp] 25)).heap.size (w12.alloc (.cells #[.int .i64 0, .int .i64 0, .string ⟨#[]⟩, .slice Xi 0 xci, .slice Xp 0 xcp] 25)) w' := by
                have := PSame_any noPg noPg (fit_wide no_fit) (fit_wide no_fit) _ _ (.slice none 0 0) (.slice none 0 0) _ (hxi.to HB12) (hxp.to HB12) (TextsAt.nil _) (PathsAt.nil _)
                rw [same_refl] at this
                exact this
              have HBB := hide (below_to H12.out.bel (Nat.le_refl _) HB12)
              clear hxi hxp HB12 H12
              go_wp2_with fail
              refine CS.mono ?_
              rintro e w13 ⟨rfl, hb⟩
              have HBC := hide (below_to HBB.out (Nat.le_refl _) hb)
              clear hb CS HBB
              go_wp2_with fail
              go_ret
              exact ⟨rfl, HBC.out⟩
            | some y =>
              obtain ⟨hfy, hty⟩ := text_of_parse hpt
              rw [show parseV t = y by unfold parseV; rw [hpt]; rfl, show parseE t = 0 by unfold parseE; rw [hpt]; rfl] at CP
              refine CP.mono ?_
              rintro e w12 ⟨xi, xp, rfl, hxi, hxp, hb⟩
              have H12 := hide (H11.out.to hb)
              have CT := fun (w' : World) (hb' : Below w12.heap.size w12 w') => Text_any y (formed_fit hfy) xi xp w' (HG.out.to (below_to H12.out.bel (Nat.le_refl _) hb')) (hxi.to hb') (hxp.to hb')
              rw [show textV y = t by unfold textV; rw [hfy]; exact hty, show textE y = 0 by unfold textE; rw [hfy]; rfl] at CT
              obtain ⟨Xi, xci, rfl, _⟩ := hxi.slice
              obtain ⟨Xp, xcp, rfl, _⟩ := hxp.slice
              clear hb CP H11 hxi hxp hpt hfy hty
              unfold Pg.cs at CT ⊢
              have HB12 := below_one w12 (.cells #[.int .i64 y.fr, .int .i64 y.size, .string (bs y.root), .slice Xi y.items.length xci, .slice Xp y.paths.length xcp] 25)
              have CT := CT _ HB12
              have HBB := hide (below_to H12.out.bel (Nat.le_refl _) HB12)
              have q : ((bs t).toList == (bs t).toList) = true := by simp
              clear HB12 H12
              go_wp2_with fail
              refine CT.mono ?_
              rintro e w13 ⟨rfl, hb⟩
              have HBC := hide (below_to HBB.out (Nat.le_refl _) hb)
              clear hb CT HBB
              go_wp2_with fail
              go_ret
              exact ⟨rfl, HBC.out⟩
      · have c0 : decide ((3000 : Int) < (t.length : Int)) = true := decide_eq_true (by omega)
        go_wp2_with (first | ((with_reducible refine CF.mono ?_); rintro e w4 ⟨rfl, hb⟩; have CG := CG w4 hb; have H4 := hide (H3.out.to hb); clear hb CF p0 p1 p2 p3 p4 q0 q1 q2 q3 q4 H3; obtain ⟨p0, p1, p2, p3, p4⟩ := page_cells H4.out.bP; obtain ⟨q0, q1, q2, q3, q4⟩ := page_cells H4.out.bQ) | ((with_reducible refine CG.mono ?_); rintro e w5 ⟨rfl, hb⟩; have H5 := hide (H4.out.to hb); clear hb CG p0 p1 p2 p3 p4 q0 q1 q2 q3 q4 H4))
        go_ret
        exact ⟨rfl, H5.out.bel⟩
end Go.Proofs.YtfhanbiifjiklaaGreatDoor

/- The walk of PageComplete. -/
set_option linter.unusedVariables false
set_option linter.unusedSimpArgs false
namespace Go.Proofs.YtfhanbiifjiklaaGreatDoor
open Go.RowKit

theorem NewL {items : List (List UInt8)} (h : Lg items) (w : World) (hg : Glob w) : Calls Tryz.prog 21 #[.string (bs (rootL items)), .int .i64 (items.length : Int)] w fun e w' => ∃ b, e = .returned (.tuple #[cliP b, .int .i64 0]) ∧ w.heap.size ≤ b ∧ CliAt b (rootL items) items.length [] (.slice none 0 0) w' ∧ Below w.heap.size w w' := by
  have := New_any (rootL items) (by rw [isD_len (root_isD items)]; decide) items.length w hg
  unfold NewR at this
  simp only [new_yes h, if_true] at this
  refine this.mono ?_
  rintro e w' ⟨⟨b, h1, h2, h3⟩, h4⟩
  exact ⟨b, h1, h2, h3, h4⟩
theorem rootL_any {items : List (List UInt8)} (h : Lg items) (v : Value) (w : World) (hv : TextsAt w v items) (hg : Glob w) : Calls Tryz.prog 22 #[v] w fun e w' => e = .returned (.string (bs (rootL items))) ∧ Below w.heap.size w w' := root_any items h.big.1 h.big.2 v w hv hg
/-- what a client keeps between two pages -/
structure CoI (w : World) (b : Nat) (items : List (List UInt8)) (k : Nat) (v : Value) (W : World) : Prop where
  bel : Below w.heap.size w W
  cli : CliAt b (rootL items) items.length (items.take k) v W
  ord : w.heap.size ≤ b
  le : k ≤ items.length
theorem CoI.to {w W W' : World} {b k : Nat} {items : List (List UInt8)} {v : Value} (h : CoI w b items k v W) (hb : Below W.heap.size W W') : CoI w b items k v W' := ⟨below_to h.bel (Nat.le_refl _) hb, h.cli.to hb, h.ord, h.le⟩
theorem CoI.acc {w W W' : World} {b k k' : Nat} {items : List (List UInt8)} {v v' : Value} (h : CoI w b items k v W) (hT : Two b (rowOr v b) W W') (hc : CliAt b (rootL items) items.length (items.take k') v' W') (hk : k' ≤ items.length) : CoI w b items k' v' W' := by
  have hr : b ≤ rowOr v b := rowOr_le (fun g e => by have := (h.cli.lt g e).1; omega) (Nat.le_refl _)
  exact ⟨h.bel.trans (hT.below h.bel.size h.ord (Nat.le_trans h.ord hr)), hc, h.ord, hk⟩
theorem CoI.next {w W : World} {b k : Nat} {items : List (List UInt8)} {v : Value} (h : CoI w b items k v W) (hl : Lg items) : Calls Tryz.prog 23 #[.pointer (some ⟨b, 0, none⟩)] W fun e w' => e = .returned (.int .i64 (k : Int)) ∧ Below W.heap.size W w' := by
  have := Next_any b _ _ (items.take k) (by have := hl.big.1; rw [List.length_take]; omega) v W h.cli
  rw [List.length_take, Nat.min_eq_left h.le] at this
  exact this
theorem CoI.its {w W : World} {b k : Nat} {items : List (List UInt8)} {v : Value} (h : CoI w b items k v W) (hl : Lg items) : Calls Tryz.prog 26 #[.pointer (some ⟨b, 0, none⟩)] W (ItemsR (items.take k) W) :=
  Items_any b _ _ (items.take k) (by have := hl.big.1; rw [List.length_take]; omega) v W h.cli
/-- a page of the log, wherever its arrays lie behind the client -/
theorem CoI.accept {w W : World} {b k F M lo hi : Nat} {items : List (List UInt8)} {v vi vp : Value} (h : CoI w b items k v W) (hl : Lg items) (hF : F ≤ items.length) (h2 : M ≤ 50) (hg : Glob w) (hp : PgAt lo hi W vi vp (pageV items F M)) (hlo : b < lo) (hv : ∀ g, v.ownBlock = some g → g < lo) :
    Calls Tryz.prog 24 #[.pointer (some ⟨b, 0, none⟩), .agg ((pageV items F M).cs vi vp)] W fun e w' => ∃ v', e = .returned (.int .i64 (if k < F then 13 else 0)) ∧ CoI w b items (if k < F then k else max k (min (F + M) items.length)) v' w' ∧ Two b (rowOr v b) W w' := by
  have C := Accept_any b (rootL items) items.length (items.take k) (by have := hl.big.1; rw [List.length_take]; omega) v (pageV items F M) (page_fit hl hF h2) vi vp W (hg.to h.bel) h.cli hp.ti hp.tp (fun _ e => by have := hp.bi b e; omega) (fun g e _ e2 => by have := hp.bi g e2; have := hv g e; omega)
  rw [page_accE hl hF h2 h.le, page_accV hl hF h2 h.le] at C
  refine C.mono ?_
  rintro e w' ⟨v', h1, h2, h3, _⟩
  exact ⟨v', h1, h.acc h3 h2 (by have := h.le; split <;> omega), h3⟩
set_option maxRecDepth 100000 in
set_option maxHeartbeats 4000000 in
theorem complete_law (items : List (List UInt8)) (hn : items.length ≤ 8796093022208) (hx : ∀ x ∈ items, x.length ≤ 140737488355328) (zs : List Nat) (hz : zs.length ≤ 140737488355328) (hz2 : ∀ z ∈ zs, z ≤ 255) (v vz : Value) (w : World) (hv : TextsAt w v items) (hvz : U8sAt w vz zs) (hg : Glob w) :
    Calls Tryz.prog 4 #[v, vz] w fun e w' => e = .returned (.bool true) ∧ Below w.heap.size w w' := by
  have HS := hide hv
  have HZ := hide hvz
  have HG := hide hg
  have CF := fun (w' : World) (hb : Below w.heap.size w w') => few_any items hn hx v w' (hv.to hb)
  obtain ⟨A, c, rfl, _⟩ := hv.slice
  obtain ⟨Az, cz, rfl, _⟩ := hvz.slice
  have C1 := head_any w hg
  clear hv hvz hg
  go_enter Tryz.func4, Tryz.ntmps4
  go_wp2_with fail
  refine C1.mono ?_
  rintro e w1 ⟨rfl, hb⟩
  have HB1 := hide hb
  have CF := CF w1 hb
  clear hb C1
  go_wp2_with fail
  refine CF.mono ?_
  rintro e w2 ⟨rfl, rfl⟩
  clear CF
  cases hfew : fewI items with
  | false =>
    go_wp2_with fail
    go_ret
    exact ⟨rfl, HB1.out⟩
  | true =>
    have HL := hide (fewI_lg hfew)
    have hlen := HL.out.len
    clear hfew
    go_wp2_with fail
    have C3 := rootL_any HL.out _ w2 (HS.out.to HB1.out) (HG.out.to HB1.out)
    refine C3.mono ?_
    rintro e w3 ⟨rfl, hb⟩
    have HB3 := hide (below_to HB1.out (Nat.le_refl _) hb)
    clear hb C3 HB1
    go_wp2_with fail
    have C4 := NewL HL.out w3 (HG.out.to HB3.out)
    unfold cliP at C4
    refine C4.mono ?_
    rintro e w4 ⟨b, rfl, hbb, hcl, hb⟩
    have H4 : Hid (CoI w b items 0 (.slice none 0 0) w4) := ⟨below_to HB3.out (Nat.le_refl _) hb, hcl, by have := HB3.out.size; omega, by omega⟩
    clear hb C4 HB3 hcl hbb
    go_wp2_with fail
    go_loopw [8] (fun i wr => ∃ (m k : Nat) (v' : Value), i = .int .i64 (m : Int) ∧ m ≤ items.length ∧ m ≤ k ∧ Aside (CoI w b items k v' wr)) (fun i _ => items.length - (intOf i).toNat)
    case atStart => exact ⟨0, 0, _, rfl, by omega, by omega, H4.out⟩
    case round =>
      clear H4
      obtain ⟨m, k, v', rfl, hm, hmk, hI⟩ := hrel
      have hI : Hid (CoI w b items k v' wr) := hI
      have hkn := hI.out.le
      by_cases hlt : m < items.length
      · have e1 : decide ((m : Int) < (items.length : Int)) = true := decide_eq_true (by omega)
        by_cases hmz : m < zs.length
        · have e2 : decide ((m : Int) < (zs.length : Int)) = true := decide_eq_true (by omega)
          obtain ⟨z, hz1⟩ : ∃ z, zs[m]? = some z := ⟨_, List.getElem?_eq_getElem hmz⟩
          have hzb := hz2 z (List.mem_of_getElem? hz1)
          obtain ⟨a, rfl, ha, c0⟩ := (HZ.out.to hI.out.bel).at_ hz1
          clear hz1
          have i0 : (0 : Int) ≤ (m : Int) := by omega
          have i1 : (m : Int) < (zs.length : Int) := by omega
          have hm1 : 1 ≤ 1 + z % 50 := by omega
          have hm2 : 1 + z % 50 ≤ 50 := by omega
          go_wp2_with fail
          have C5 := hI.out.next HL.out
          refine C5.mono ?_
          rintro e w5 ⟨rfl, hb⟩
          have H5 := hide (hI.out.to hb)
          clear hb C5 hI
          go_wp2_with fail
          have C6 := Serve_yes items HL.out.big.1 HL.out.big.2 k (1 + z % 50) (serve_yes HL.out H5.out.le hm1 hm2) _ w5 (HG.out.to H5.out.bel) (HS.out.to H5.out.bel)
          rw [show ((1 + z % 50 : Nat) : Int) = 1 + (z : Int) % 50 by omega] at C6
          unfold ServeR at C6
          refine C6.mono ?_
          rintro e w6 ⟨vi, vp, rfl, hpg, hb⟩
          have HP6 := hide hpg
          have H6 := hide (H5.out.to hb)
          have hvl := fun g e => (H5.out.cli.lt g e).2
          have hbl : b < w5.heap.size := H5.out.cli.blk.lt
          obtain ⟨Ai, ci, rfl, _⟩ := hpg.ti.slice
          obtain ⟨Ap, cp, rfl, _⟩ := hpg.tp.slice
          clear hb hpg C6 H5
          have HP7 := hide (HP6.out.to (below_one w6 (.cells ((pageV items k (1 + z % 50)).cs (.slice Ai (pageV items k (1 + z % 50)).items.length ci) (.slice Ap (pageV items k (1 + z % 50)).paths.length cp)) 25)))
          have H7 := hide (H6.out.to (below_one w6 (.cells ((pageV items k (1 + z % 50)).cs (.slice Ai (pageV items k (1 + z % 50)).items.length ci) (.slice Ap (pageV items k (1 + z % 50)).paths.length cp)) 25)))
          have C7 := H7.out.accept HL.out H7.out.le hm2 HG.out HP7.out hbl hvl
          rw [if_neg (Nat.lt_irrefl k), if_neg (Nat.lt_irrefl k)] at C7
          clear HP6 H6 HP7 hvl hbl
          unfold Pg.cs at C7 H7 ⊢
          go_wp2_with fail
          refine C7.mono ?_
          rintro e w8 ⟨v8, rfl, hI8, _⟩
          have H8 := hide hI8
          clear hI8 C7 H7
          go_wp2_with fail
          refine ⟨⟨m + 1, max k (min (k + (1 + z % 50)) items.length), _, by go_num, by omega, by omega, H8.out⟩, ?_⟩
          simp [intOf]; omega
        · have e2 : decide ((m : Int) < (zs.length : Int)) = false := decide_eq_false (by omega)
          go_wp2_with fail
          have C5 := hI.out.next HL.out
          refine C5.mono ?_
          rintro e w5 ⟨rfl, hb⟩
          have H5 := hide (hI.out.to hb)
          clear hb C5 hI
          go_wp2_with fail
          have C6 := Serve_yes items HL.out.big.1 HL.out.big.2 k (1) (serve_yes HL.out H5.out.le (Nat.le_refl 1) (by decide : 1 ≤ 50)) _ w5 (HG.out.to H5.out.bel) (HS.out.to H5.out.bel)
          have C6 : Calls Tryz.prog 14 #[.slice A items.length c, .int .i64 (k : Int), .int .i64 1] w5 _ := C6
          unfold ServeR at C6
          refine C6.mono ?_
          rintro e w6 ⟨vi, vp, rfl, hpg, hb⟩
          have HP6 := hide hpg
          have H6 := hide (H5.out.to hb)
          have hvl := fun g e => (H5.out.cli.lt g e).2
          have hbl : b < w5.heap.size := H5.out.cli.blk.lt
          obtain ⟨Ai, ci, rfl, _⟩ := hpg.ti.slice
          obtain ⟨Ap, cp, rfl, _⟩ := hpg.tp.slice
          clear hb hpg C6 H5
          have HP7 := hide (HP6.out.to (below_one w6 (.cells ((pageV items k (1)).cs (.slice Ai (pageV items k (1)).items.length ci) (.slice Ap (pageV items k (1)).paths.length cp)) 25)))
          have H7 := hide (H6.out.to (below_one w6 (.cells ((pageV items k (1)).cs (.slice Ai (pageV items k (1)).items.length ci) (.slice Ap (pageV items k (1)).paths.length cp)) 25)))
          have C7 := H7.out.accept HL.out H7.out.le (by decide : 1 ≤ 50) HG.out HP7.out hbl hvl
          rw [if_neg (Nat.lt_irrefl k), if_neg (Nat.lt_irrefl k)] at C7
          clear HP6 H6 HP7 hvl hbl
          unfold Pg.cs at C7 H7 ⊢
          go_wp2_with fail
          refine C7.mono ?_
          rintro e w8 ⟨v8, rfl, hI8, _⟩
          have H8 := hide hI8
          clear hI8 C7 H7
          go_wp2_with fail
          refine ⟨⟨m + 1, max k (min (k + (1)) items.length), _, by go_num, by omega, by have := (Nat.le_refl 1); omega, H8.out⟩, ?_⟩
          simp [intOf]; omega
      · obtain rfl : m = items.length := by omega
        obtain rfl : k = items.length := by omega
        have e1 : decide ((items.length : Int) < (items.length : Int)) = false := by simp
        go_wp2_with fail
        have C5 := hI.out.its HL.out
        unfold ItemsR at C5
        rw [List.take_length] at C5
        refine C5.mono ?_
        rintro e w5 ⟨v5, rfl, ho, hb⟩
        have H5 := hide (hI.out.to hb)
        have HT := hide (TextsAt.of_own ho)
        obtain ⟨A5, c5, rfl⟩ := own_sl4 ho
        clear hb C5 hI ho
        go_wp2_with fail
        have C6 : Calls Tryz.prog 25 #[.slice A5 items.length c5, .slice A items.length c] w5 fun e w' => e = .returned (.bool true) ∧ Below w5.heap.size w5 w' := by
          have := Same_any items items hn hn _ _ w5 HT.out (HS.out.to H5.out.bel)
          rwa [decide_eq_true rfl] at this
        refine C6.mono ?_
        rintro e w6 ⟨rfl, hb⟩
        have H6 := hide (H5.out.to hb)
        clear hb C6 H5 HT
        go_wp2_with fail
        have C7 := H6.out.next HL.out
        refine C7.mono ?_
        rintro e w7 ⟨rfl, hb⟩
        have H7 := hide (H6.out.to hb)
        clear hb C7 H6
        have hq : ((items.length : Int) == (items.length : Int)) = true := by simp
        go_wp2_with fail
        go_ret
        exact ⟨ret_bool (by simp), H7.out.bel⟩
end Go.Proofs.YtfhanbiifjiklaaGreatDoor
