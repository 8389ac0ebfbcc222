/- Several texts as one, in build order. -/
import Derived.Test.YtfhanbiifjiklaaGreatDoorMD
import Derived.BigQuiet
import Derived.Test.YtfhanbiifjiklaaGreatDoorMC
/- Walks of the reference: Holds, Checked, at a page that holds. -/
set_option linter.unusedVariables false
set_option linter.unusedSimpArgs false
namespace Go.Proofs.YtfhanbiifjiklaaGreatDoor
open Go.RowKit

theorem held_at {p : Pg} (hh : heldB p p.root p.size = true) {k : Nat} {x : List UInt8} {q : List (List UInt8)} (hx : p.items[k]? = some x) (hq : p.paths[k]? = some q) : checkV p.root p.size (p.fr + (k : Int)) (leafD x) q = true := by
  unfold heldB at hh
  rw [Bool.and_eq_true] at hh
  have hk := (List.getElem?_eq_some_iff.1 hx).1
  have h := List.all_eq_true.1 hh.2 ⟨k, hk⟩ (List.mem_finRange _)
  unfold Pg.checkAt at h
  rw [List.getElem?_eq_getElem hk] at hx
  have e : p.items[(⟨k, hk⟩ : Fin p.items.length)] = x := Option.some.inj hx
  rw [e, List.getD_eq_getElem?_getD, hq] at h
  exact h
theorem held_same {p : Pg} (hh : heldB p p.root p.size = true) : p.fr ≤ p.size - p.items.length := by
  unfold heldB sameB at hh
  simp only [Bool.and_eq_true, decide_eq_true_eq] at hh
  exact hh.1.2.2
theorem held_len {p : Pg} {N I k : Nat} {x : List UInt8} {q : List (List UInt8)} (h : checkV p.root p.size (p.fr + (k : Int)) (leafD x) q = true) (hN : p.size = N) (hI : p.fr + (k : Int) = I) : I < N ∧ N ≤ 1000000 ∧ q.length = lenF N N I ∧ properT q = true := by
  rw [hN, hI] at h
  have hb : (N : Int) ≤ 1000000 ∧ (I : Int) < (N : Int) := by
    unfold checkV at h
    split at h
    · rename_i hc; exact ⟨hc.1, hc.2.2.1⟩
    · cases h
  rw [checkV_ref _ _ _ _ _ (by omega) (by omega)] at h
  simp only [Bool.and_eq_true, decide_eq_true_eq] at h
  exact ⟨by omega, by omega, h.1, h.2.1⟩
def itemJ (p : Pg) (j : Nat) : List (List UInt8) := leafJ (p.items.getD j []) :: ptxF (leafD (p.items.getD j [])) p.size.toNat p.size.toNat (p.fr.toNat + j) (p.paths.getD j []).reverse
/-- what is digested to check the first k items of a page -/
def chkUp (p : Pg) (k : Nat) : List (List UInt8) := (List.range k).flatMap (itemJ p)
def checkedV (p : Pg) : List (List UInt8) := chkUp p p.items.length
theorem chk_step (p : Pg) (k : Nat) : chkUp p (k + 1) = chkUp p k ++ itemJ p k := by unfold chkUp; rw [List.range_succ, List.flatMap_append, List.flatMap_singleton]
theorem chk_at {p : Pg} {k : Nat} {x : List UInt8} {q : List (List UInt8)} (hx : p.items[k]? = some x) (hq : p.paths[k]? = some q) : itemJ p k = leafJ x :: ptxF (leafD x) p.size.toNat p.size.toNat (p.fr.toNat + k) q.reverse := by
  unfold itemJ; rw [List.getD_eq_getElem?_getD, List.getD_eq_getElem?_getD, hx, hq]; rfl
theorem chk_len (p : Pg) : ∀ k, (chkUp p k).length ≤ k * (p.size.toNat + 1)
  | 0 => by simp [chkUp]
  | k + 1 => by
    have := chk_len p k
    rw [chk_step, List.length_append, Nat.add_mul]
    have h2 : (itemJ p k).length ≤ p.size.toNat + 1 := by unfold itemJ; rw [List.length_cons]; exact Nat.succ_le_succ (ptx_len _ _ _ _ _)
    omega
/-- texts that lie behind a row are not touched when it grows -/
theorem sep_texts {w5 : World} {v5 : Value} {PX L : List (List UInt8)} {B : Nat} (h5 : OwnT w5 B v5 L) : ∀ (x x' : World) (v : Value), World.grownBy x x' v5.ownBlock → TextsAt x v PX → (∀ g, v.ownBlock = some g → w5.heap.size ≤ g) → TextsAt x' v PX := fun x x' v hg ht hl => by
  cases e : v5.ownBlock with
  | none =>
    rw [e] at hg
    exact ht.to ⟨hg.os, hg.tape, hg.output, hg.size, fun k hk => hg.block k hk (by simp)⟩
  | some r =>
    have hr := (own_blk_lt h5 r e).2
    have hne : v.ownBlock ≠ some r := fun e0 => by have := hl r e0; omega
    rw [e] at hg
    exact ht.two (p := r) (q := r) ⟨hg.os, hg.tape, hg.output, hg.size, fun k hk h1 _ => hg.block k hk (fun e0 => h1 (Option.some.inj e0))⟩ hne hne
set_option maxRecDepth 100000 in
set_option maxHeartbeats 4000000 in
theorem Holds_yes (p : Pg) (hp : p.fit) (hf : formedB p = true) (hh : heldB p p.root p.size = true) (vi vp : Value) (w : World) (hvi : TextsAt w vi p.items) (hvp : PathsAt w vp p.paths) :
    Calls Tryz.prog 27 #[.agg (p.cs vi vp)] w fun e w' => e = .returned (.bool true) ∧ Below w.heap.size w w' := by
  have HH := hide hh
  have HI := hide hp.li
  have HQ := hide (formed_len hf).1
  have hfs := (formed_spec hf).1
  have HPL : Hid (p.paths.length = p.items.length) := hfs.2.2.2.2
  have hfr := hfs.1
  have hsz := hfs.2.1
  have hil := hfs.2.2.2.1
  have HSM := hide (held_same hh)
  obtain ⟨Ai, ci, rfl, hci⟩ := hvi.slice
  obtain ⟨Ap, cp, rfl, hcp⟩ := hvp.slice
  have hb0 := below_one w (.cells #[.int .i64 p.fr, .int .i64 p.size, .string (bs p.root), .slice Ai p.items.length ci, .slice Ap p.paths.length cp] 25)
  have CF : Calls Tryz.prog 58 #[.agg #[.int .i64 p.fr, .int .i64 p.size, .string (bs p.root), .slice Ai p.items.length ci, .slice Ap p.paths.length cp]] (w.alloc (.cells #[.int .i64 p.fr, .int .i64 p.size, .string (bs p.root), .slice Ai p.items.length ci, .slice Ap p.paths.length cp] 25)) fun e w' => e = .returned (.bool true) ∧ Below (w.alloc (.cells #[.int .i64 p.fr, .int .i64 p.size, .string (bs p.root), .slice Ai p.items.length ci, .slice Ap p.paths.length cp] 25)).heap.size (w.alloc (.cells #[.int .i64 p.fr, .int .i64 p.size, .string (bs p.root), .slice Ai p.items.length ci, .slice Ap p.paths.length cp] 25)) w' := by
    have := rFormed_any p hp _ _ _ (hvi.to hb0) (hvp.to hb0)
    rw [hf] at this
    exact this
  have HVI := hide (hvi.to hb0)
  have HVP := hide (hvp.to hb0)
  have HB := hide hb0
  have HX := hide (Blk.new w 25 (p.cs (.slice Ai p.items.length ci) (.slice Ap p.paths.length cp)))
  have hsm := HSM.out
  have c1 : decide (p.size < p.fr) = false := decide_eq_false (by omega)
  have c2 : decide (p.size < p.fr + (p.items.length : Int)) = false := decide_eq_false (by omega)
  clear hvi hvp hb0 hf hh hfs
  unfold Pg.cs at HX ⊢
  go_enter Tryz.func27, Tryz.ntmps27
  go_wp2_with fail
  generalize w.alloc (.cells #[.int .i64 p.fr, .int .i64 p.size, .string (bs p.root), .slice Ai p.items.length ci, .slice Ap p.paths.length cp] 25) = w1 at *
  refine CF.mono ?_
  rintro e w2 ⟨rfl, hb⟩
  obtain ⟨x0, x1, x2, x3, x4⟩ := page_cells (HX.out.to hb)
  have HB2 := hide hb
  clear hb CF
  go_wp2_with fail
  clear x0 x1 x2 x3 x4
  go_loopw [3] (fun i wr => ∃ k : Nat, i = .int .i64 (k : Int) ∧ k ≤ p.items.length ∧ Aside (Below w1.heap.size w1 wr)) (fun i _ => p.items.length - (intOf i).toNat)
  case atStart => exact ⟨0, rfl, by omega, HB2.out⟩
  case round =>
    clear HB2
    obtain ⟨k, rfl, hk, hB⟩ := hrel
    have HBr : Hid (Below w1.heap.size w1 wr) := hB
    clear hB
    by_cases hlt : k < p.items.length
    · have e1 : decide ((k : Int) < (p.items.length : Int)) = true := decide_eq_true (by omega)
      obtain ⟨x, hx⟩ : ∃ x, p.items[k]? = some x := ⟨_, List.getElem?_eq_getElem hlt⟩
      obtain ⟨q, hq⟩ : ∃ q, p.paths[k]? = some q := ⟨_, List.getElem?_eq_getElem (by have := HPL.out; omega)⟩
      have hxl := HI.out x (List.mem_of_getElem? hx)
      have hql := HQ.out q (List.mem_of_getElem? hq)
      have HCK := hide (held_at HH.out hx hq)
      have i0 : (0 : Int) ≤ (k : Int) := by omega
      have i1 : (k : Int) < (p.items.length : Int) := by omega
      have i2 : (k : Int) < (p.paths.length : Int) := by have := HPL.out; omega
      have hwr : IntKind.i64.wrap (p.fr + (k : Int)) = p.fr + (k : Int) := IntWalk.i64_in _ (by omega)
      obtain ⟨a, e9, ha, c0⟩ := (HVI.out.to HBr.out).at_ hx
      obtain ⟨b, vq, e8, hb, d0, htq⟩ := (HVP.out.to HBr.out).at_ hq
      subst e9 e8
      obtain ⟨U, hU, g, u0, e7, hgu, hi⟩ := cls wr
      subst e7
      have CL := cls_call hgu hi (fun w hb => rLeaf_any x (by omega) w)
      have CC := cls_call hgu hi (fun w hb => rCheck_any p.root p.size (p.fr + (k : Int)) (leafD x) q (by rw [isD_len (leaf_isD x)]; decide) (by omega) (fun y hy => by rw [hql.2 y hy]; decide) vq w (htq.to hb))
      rw [HCK.out] at CC
      have X0 := blk_all hgu (HX.out.to HBr.out) 0 rfl
      have X1 := blk_all hgu (HX.out.to HBr.out) 1 rfl
      have X2 := blk_all hgu (HX.out.to HBr.out) 2 rfl
      have X3 := blk_all hgu (HX.out.to HBr.out) 3 rfl
      have X4 := blk_all hgu (HX.out.to HBr.out) 4 rfl
      have Y0 : ∀ u, (g u).cell? (a.add k) = some (.string (bs x)) := fun u => ((hgu u).cell (p := a.add k) (by rw [block_of_add]; exact ha)).trans c0
      have Y1 : ∀ u, (g u).cell? (b.add k) = some vq := fun u => ((hgu u).cell (p := b.add k) (by rw [block_of_add]; exact hb)).trans d0
      have HGU := hide hgu
      have HHI := hide hi
      clear hx hq hgu hi c0 d0 htq
      generalize leafD x = lx at *
      go_wp2_with fail
      refine wp_region_class g (by kernel_rfl) (by kernel_rfl) (HHI.out _ (HGU.out _).drew) ?_
      repeat (go_big_quiet_step (first | with_reducible exact CL _ | with_reducible exact CC _))
      refine wpQuiet_nil ?_
      intro w5 hw5
      obtain ⟨u, rfl⟩ := hw5
      go_wp2_with fail
      refine ⟨⟨k + 1, by go_num, by omega, below_to HBr.out (Nat.le_refl _) (HGU.out u)⟩, ?_⟩
      simp [intOf]; omega
    · obtain rfl : k = p.items.length := by omega
      have e1 : decide ((p.items.length : Int) < (p.items.length : Int)) = false := by simp
      obtain ⟨x0, x1, x2, x3, x4⟩ := page_cells (HX.out.to HBr.out)
      go_wp2_with fail
      go_ret
      exact ⟨rfl, below_to HB.out (Nat.le_refl _) HBr.out⟩
set_option maxRecDepth 100000 in
set_option maxHeartbeats 2000000 in
theorem Checked_any (p : Pg) (hp : p.fit) (hf : formedB p = true) (hh : heldB p p.root p.size = true) (vi vp : Value) (w : World) (hvi : TextsAt w vi p.items) (hvp : PathsAt w vp p.paths) :
    Calls Tryz.prog 31 #[.agg (p.cs vi vp)] w (LvR (checkedV p) w) := by
  have HH := hide hh
  have HI := hide hp.li
  have HQ := hide (formed_len hf).1
  have hfs := (formed_spec hf).1
  have HPL : Hid (p.paths.length = p.items.length) := hfs.2.2.2.2
  have hfr := hfs.1
  have hsz := hfs.2.1
  have hil := hfs.2.2.2.1
  have HSM := hide (held_same hh)
  obtain ⟨Ai, ci, rfl, hci⟩ := hvi.slice
  obtain ⟨Ap, cp, rfl, hcp⟩ := hvp.slice
  have hb0 := below_one w (.cells #[.int .i64 p.fr, .int .i64 p.size, .string (bs p.root), .slice Ai p.items.length ci, .slice Ap p.paths.length cp] 25)
  have HVI := hide (hvi.to hb0)
  have HVP := hide (hvp.to hb0)
  have HB := hide hb0
  have HX := hide (Blk.new w 25 (p.cs (.slice Ai p.items.length ci) (.slice Ap p.paths.length cp)))
  have hsm := HSM.out
  have HCL := hide (chk_len p)
  obtain ⟨N, hN⟩ : ∃ N : Nat, p.size = N := ⟨p.size.toNat, by omega⟩
  obtain ⟨F, hF⟩ : ∃ F : Nat, p.fr = F := ⟨p.fr.toNat, by omega⟩
  have hN1 : p.size.toNat = N := by omega
  have hF1 : p.fr.toNat = F := by omega
  have HN := hide hN
  have HF := hide hF
  have HN1 := hide hN1
  have HF1 := hide hF1
  have hNb : N ≤ 10000 := by omega
  clear hvi hvp hb0 hf hh hfs hN hF hN1 hF1
  unfold Pg.cs at HX ⊢
  go_enter Tryz.func31, Tryz.ntmps31
  go_wp2_with fail
  generalize w.alloc (.cells #[.int .i64 p.fr, .int .i64 p.size, .string (bs p.root), .slice Ai p.items.length ci, .slice Ap p.paths.length cp] 25) = w1 at *
  go_loopw [3, 4] (fun o i wr => ∃ k : Nat, i = .int .i64 (k : Int) ∧ k ≤ p.items.length ∧ Aside (OwnT wr w1.heap.size o (chkUp p k)) ∧ Aside (Below w1.heap.size w1 wr)) (fun _ i _ => p.items.length - (intOf i).toNat)
  case atStart => exact ⟨0, rfl, by omega, World.ownsRow_nil _ _ _ _, Below.refl _ _⟩
  case round =>
    obtain ⟨k, rfl, hk, hO, hB⟩ := hrel
    have HBr : Hid (Below w1.heap.size w1 wr) := hB
    have HO : Hid (OwnT wr w1.heap.size _ (chkUp p k)) := hO
    have hcl := HCL.out k
    rw [HN1.out] at hcl
    have hcl2 : (chkUp p k).length ≤ 50 * 10001 := Nat.le_trans hcl (Nat.mul_le_mul (by omega) (by omega))
    obtain ⟨Ao, co, rfl⟩ := own_sl4 hO
    clear hB hO hcl
    obtain ⟨x0, x1, x2, x3, x4⟩ := page_cells (HX.out.to HBr.out)
    by_cases hlt : k < p.items.length
    · have e1 : decide ((k : Int) < (p.items.length : Int)) = true := decide_eq_true (by omega)
      obtain ⟨x, hx⟩ : ∃ x, p.items[k]? = some x := ⟨_, List.getElem?_eq_getElem hlt⟩
      obtain ⟨q, hq⟩ : ∃ q, p.paths[k]? = some q := ⟨_, List.getElem?_eq_getElem (by have := HPL.out; omega)⟩
      have hxl := HI.out x (List.mem_of_getElem? hx)
      have hql := HQ.out q (List.mem_of_getElem? hq)
      have HCK := hide (held_at HH.out hx hq)
      have i0 : (0 : Int) ≤ (k : Int) := by omega
      have i1 : (k : Int) < (p.items.length : Int) := by omega
      have i2 : (k : Int) < (p.paths.length : Int) := by have := HPL.out; omega
      have hwr : IntKind.i64.wrap (p.fr + (k : Int)) = p.fr + (k : Int) := IntWalk.i64_in _ (by omega)
      have HCS := hide (chk_step p k)
      rw [chk_at hx hq, HN1.out, HF1.out] at HCS
      obtain ⟨hI1, hI2, hI3, hI4⟩ := held_len (I := F + k) HCK.out HN.out (by have := HF.out; omega)
      have hqx : ∀ y ∈ q, y.length ≤ 1000000 := fun y hy => by rw [hql.2 y hy]; decide
      have hlx : (leafD x).length ≤ 1000000 := by rw [isD_len (leaf_isD x)]; decide
      obtain ⟨a, e9, ha1, c01⟩ := HVI.out.at_ hx
      obtain ⟨b, vq, e8, hb1, d01, htq⟩ := HVP.out.at_ hq
      subst e9 e8
      have HC1 := hide (fun (W : World) (h : Below w1.heap.size w1 W) => (h.cell (p := a.add k) (by rw [block_of_add]; exact ha1)).trans c01)
      have HD1 := hide (fun (W : World) (h : Below w1.heap.size w1 W) => (h.cell (p := b.add k) (by rw [block_of_add]; exact hb1)).trans d01)
      have c0 := HC1.out wr HBr.out
      have d0 := HD1.out wr HBr.out
      have ha := Nat.lt_of_lt_of_le ha1 HBr.out.size
      have hb := Nat.lt_of_lt_of_le hb1 HBr.out.size
      have HTQ := hide htq
      have CJ := fun (w' : World) (g : Nat) => join_leafB (x := x) hxl w' g
      have CJ := CJ (wr.alloc (.cells #[.string ⟨#[108, 101, 97, 102]⟩, .string (bs x)] 9)) wr.heap.size (Blk.new _ _ _)
      have hpx := ptx_len (leafD x) N N (F + k) q.reverse
      have HP : Hid (∀ w', TextsAt w' vq q → Calls Tryz.prog 74 #[.int .i64 p.size, .int .i64 (p.fr + (k : Int)), .string (bs (leafD x)), vq] w' (LvR (ptxF (leafD x) N N (F + k) q.reverse) w')) := fun w' ht => by
        have := rpt_any N N (F + k) (leafD x) q vq w' (by omega) (Nat.le_refl _) hI1 (by omega) hI3 hlx hqx ht
        rwa [show ((N : Nat) : Int) = p.size by have := HN.out; omega, show ((F + k : Nat) : Int) = p.fr + (k : Int) by have := HF.out; omega] at this
      have HLf := hide (fun w : World => rLeaf_any x (by omega) w)
      clear hx hq htq hI3 hI4 hqx hlx c01 d01 ha1 hb1
      generalize leafJ x = J at *
      generalize leafD x = lx at *
      generalize ptxF lx N N (F + k) q.reverse = PX at *
      generalize chkUp p k = L at *
      go_wp2_with fail
      refine CJ.mono ?_
      rintro e w4 ⟨rfl, hb4⟩
      have hb4' := below_to (below_one wr (.cells #[.string ⟨#[108, 101, 97, 102]⟩, .string (bs x)] 9)) (Nat.le_refl _) hb4
      have HO4 := hide (own_to4 HO.out hb4')
      have HB4 := hide (below_to HBr.out (Nat.le_refl _) hb4')
      have y0 := (hb4'.cell (p := a.add k) (by rw [block_of_add]; exact ha)).trans c0
      have y1 := (hb4'.cell (p := b.add k) (by rw [block_of_add]; exact hb)).trans d0
      have ha4 := Nat.lt_of_lt_of_le ha hb4'.size
      have hbb4 := Nat.lt_of_lt_of_le hb hb4'.size
      clear hb4 hb4' CJ HO c0 d0 ha hb x0 x1 x2 x3 x4
      go_wp2_with (at_builtin; refine wpList_append_texts rfl (.tmp 12) (.tmp 20) rfl w1.heap.size _ L rfl (own_to4 HO4.out (below_one w4 (.cells #[.string (bs J)] 9))) (.slice (some ⟨w4.heap.size, 0, none⟩) 1 1) [J] rfl (TextsAt.of_blk (ls := [J]) (Blk.new w4 9 #[.string (bs J)]) rfl) (by simp; omega) (by have := HB4.out.size; simp; omega) ?_)
      intro v5 w5 ho5 hg5 _
      obtain ⟨A5, c5, rfl⟩ := own_sl4 ho5
      have HB5 := hide ((below_alloc HB4.out (Nat.le_refl _) (.cells #[.string (bs J)] 9)).trans (below_grown hg5 (by have := HB4.out.size; simp; omega) (fun g e => (own_blk_lt HO4.out g e).1)))
      have HO5 := hide ho5
      have hl5 : (L ++ [J]).length ≤ 50 * 10001 + 1 := by simp; omega
      generalize hL5 : L ++ [J] = L5 at *
      clear ho5 hg5 HO4 HB4 y0 y1 ha4 hbb4
      have HSEP := hide (sep_texts (w5 := w5) (v5 := .slice A5 L5.length c5) (PX := PX) (B := w1.heap.size) HO5.out)
      go_wp2_with fail
      apply wp_region_lo3 (C := fun W => Below w1.heap.size w1 W) (V := [some _, some _, some _, some _, some _, some _, some _, some _, some _, some _, some _, some _, some _, some _, some _, some _, some _, some _, none, none, none]) (Fs := [(18, fun a W => ∃ v, a.tmps[40]? = some v ∧ TextsAt W v PX ∧ ∀ g, v.ownBlock = some g → w5.heap.size ≤ g), (19, fun a W => ∃ v, a.tmps[41]? = some v ∧ OwnT W w1.heap.size v (L5 ++ PX)), (20, fun a W => ∃ v, a.tmps[41]? = some v ∧ a.tmps[3]? = some v ∧ OwnT W w1.heap.size v (L5 ++ PX))]) (Ns := [(0, fun a (_ : World) => a.tmps[3]? = some (.slice A5 L5.length c5)), (18, fun (_ : Act) W => w5.heap.size ≤ W.heap.size), (19, fun (_ : Act) W => OwnT W w1.heap.size (.slice A5 L5.length c5) L5)]) (Rel := fun i b b' x x' => if i = 19 then (fun _ _ x x' => World.grownBy x x' (Value.ownBlock (.slice A5 L5.length c5))) b b' x x' else if i = 20 then (fun _ _ x x' => Below x.heap.size x x') b b' x x' else Below x.heap.size x x')
      case hm => kernel_rfl
      case hB => kernel_rfl
      case hCw => exact HB5.out.drew
      case hC =>
        intro i a a' w_ w' hw hr
        by_cases e19 : i = 19
        · subst e19
          have hr' : (fun _ _ x x' => World.grownBy x x' (Value.ownBlock (.slice A5 L5.length c5))) a a' w_ w' := hr
          exact hw.trans (below_grown hr' hw.size (fun g e => (own_blk_lt HO5.out g e).1))
        by_cases e20 : i = 20
        · subst e20
          have hr' : (fun _ _ x x' => Below x.heap.size x x') a a' w_ w' := hr
          exact below_to hw (Nat.le_refl _) hr'
        have hr' : Below w_.heap.size w_ w' := by simpa [e19, e20] using hr
        exact below_to hw (Nat.le_refl _) hr'
      case hst =>
        refine keeps3_cons (fun i a a' w_ w' hne hwt hs hput hr h => by
          by_cases e19 : i = 19
          · subst e19
            have hr' : (fun _ _ x x' => World.grownBy x x' (Value.ownBlock (.slice A5 L5.length c5))) a a' w_ w' := hr
            obtain ⟨v, h1, h2, h3⟩ := h
            exact ⟨v, (hs 40 (by kernel_rfl)).trans h1, HSEP.out _ _ v hr' h2 h3, h3⟩
          by_cases e20 : i = 20
          · subst e20
            have hr' : (fun _ _ x x' => Below x.heap.size x x') a a' w_ w' := hr
            obtain ⟨v, h1, h2, h3⟩ := h
            exact ⟨v, (hs 40 (by kernel_rfl)).trans h1, h2.to hr', h3⟩
          have hr' : Below w_.heap.size w_ w' := by simpa [e19, e20] using hr
          obtain ⟨v, h1, h2, h3⟩ := h
          exact ⟨v, (hs 40 (by kernel_rfl)).trans h1, h2.to hr', h3⟩) ?_
        refine keeps3_cons (fun i a a' w_ w' hne hwt hs hput hr h => by
          by_cases e19 : i = 19
          · exact absurd e19 hne
          by_cases e20 : i = 20
          · subst e20
            have hr' : (fun _ _ x x' => Below x.heap.size x x') a a' w_ w' := hr
            obtain ⟨v, h1, h2⟩ := h
            exact ⟨v, (hs 41 (by kernel_rfl)).trans h1, own_to4 h2 hr'⟩
          have hr' : Below w_.heap.size w_ w' := by simpa [e19, e20] using hr
          obtain ⟨v, h1, h2⟩ := h
          exact ⟨v, (hs 41 (by kernel_rfl)).trans h1, own_to4 h2 hr'⟩) ?_
        refine keeps3_cons (fun i a a' w_ w' hne hwt hs hput hr h => by
          by_cases e19 : i = 19
          · subst e19
            exact absurd (hwt.symm.trans (show Region.waitsFor .any _ 20 19 = true by kernel_rfl)) (by decide)
          by_cases e20 : i = 20
          · exact absurd e20 hne
          have hr' : Below w_.heap.size w_ w' := by simpa [e19, e20] using hr
          obtain ⟨v, h1, h3, h2⟩ := h
          exact ⟨v, (hs 41 (by kernel_rfl)).trans h1, (hs 3 (by kernel_rfl)).trans h3, own_to4 h2 hr'⟩) ?_
        exact keeps3_nil
      case hN0 => exact pre0_cons (rfl) (pre0_cons (Nat.le_refl _) (pre0_cons (HO5.out) (pre0_nil)))
      case hNst =>
        refine prek_cons3 (fun i a a' w_ w' hne hwt hr h hput => by
          by_cases e19 : i = 19
          · subst e19
            have hr' : (fun _ _ x x' => World.grownBy x x' (Value.ownBlock (.slice A5 L5.length c5))) a a' w_ w' := hr
            exact (other_slot (d := 3) (k := 20) (by kernel_rfl) hput (by decide)).trans h
          by_cases e20 : i = 20
          · subst e20
            exact absurd (hwt.symm.trans (show waitsT .any _ _ 20 0 = true by kernel_rfl)) (by decide)
          have hr' : Below w_.heap.size w_ w' := by simpa [e19, e20] using hr
          exact (other_slot (d := 3) (k := 20) (by kernel_rfl) hput e20).trans h) ?_
        refine prek_cons3 (fun i a a' w_ w' hne hwt hr h hput => by
          by_cases e19 : i = 19
          · subst e19
            have hr' : (fun _ _ x x' => World.grownBy x x' (Value.ownBlock (.slice A5 L5.length c5))) a a' w_ w' := hr
            exact Nat.le_trans h hr'.size
          by_cases e20 : i = 20
          · subst e20
            have hr' : (fun _ _ x x' => Below x.heap.size x x') a a' w_ w' := hr
            exact Nat.le_trans h hr'.size
          have hr' : Below w_.heap.size w_ w' := by simpa [e19, e20] using hr
          exact Nat.le_trans h hr'.size) ?_
        refine prek_cons3 (fun i a a' w_ w' hne hwt hr h hput => by
          by_cases e19 : i = 19
          · exact absurd e19 hne
          by_cases e20 : i = 20
          · subst e20
            exact absurd (hwt.symm.trans (show waitsT .any _ _ 20 19 = true by kernel_rfl)) (by decide)
          have hr' : Below w_.heap.size w_ w' := by simpa [e19, e20] using hr
          exact own_to4 h hr') ?_
        exact prek_nil3
      case hop =>
        refine ⟨?_, ?_, ?_, ?_, ?_, ?_, ?_, ?_, ?_, ?_, ?_, ?_, ?_, ?_, ?_, ?_, ?_, ?_, ?_, ?_, ?_, trivial⟩
        · intro a w_ K hw hS hd hN hK
          have s3 := hN _ (List.mem_cons_self ..) rfl
          rw [if_pos (want_free rfl)]
          have s3 : a.tmps[3]? = some (.slice A5 L5.length c5) := s3
          go_simp
          exact hK _ _ (Below.refl _ _) (vok rfl) (facts_cons (fun h => absurd h (by decide)) (facts_cons (fun h => absurd h (by decide)) (facts_cons (fun h => absurd h (by decide)) facts_nil)))
        · intro a w_ K hw hS hd hN hK
          have s1 := hS.at 1 (by kernel_rfl) rfl
          rw [if_pos (want_free rfl)]
          go_simp
          exact hK _ _ (Below.refl _ _) (vok rfl) (facts_cons (fun h => absurd h (by decide)) (facts_cons (fun h => absurd h (by decide)) (facts_cons (fun h => absurd h (by decide)) facts_nil)))
        · intro a w_ K hw hS hd hN hK
          have s23 := (waits_on hd 1 (by kernel_rfl)).at (d := 23) rfl rfl rfl
          rw [if_pos (want_free rfl)]
          obtain ⟨x0, x1, x2, x3, x4⟩ := page_cells (HX.out.to hw)
          go_simp
          exact hK _ _ (Below.refl _ _) (vok rfl) (facts_cons (fun h => absurd h (by decide)) (facts_cons (fun h => absurd h (by decide)) (facts_cons (fun h => absurd h (by decide)) facts_nil)))
        · intro a w_ K hw hS hd hN hK
          have s1 := hS.at 1 (by kernel_rfl) rfl
          rw [if_pos (want_free rfl)]
          go_simp
          exact hK _ _ (Below.refl _ _) (vok rfl) (facts_cons (fun h => absurd h (by decide)) (facts_cons (fun h => absurd h (by decide)) (facts_cons (fun h => absurd h (by decide)) facts_nil)))
        · intro a w_ K hw hS hd hN hK
          have s25 := (waits_on hd 3 (by kernel_rfl)).at (d := 25) rfl rfl rfl
          rw [if_pos (want_free rfl)]
          obtain ⟨x0, x1, x2, x3, x4⟩ := page_cells (HX.out.to hw)
          go_simp
          exact hK _ _ (Below.refl _ _) (vok rfl) (facts_cons (fun h => absurd h (by decide)) (facts_cons (fun h => absurd h (by decide)) (facts_cons (fun h => absurd h (by decide)) facts_nil)))
        · intro a w_ K hw hS hd hN hK
          have s4 := hS.at 4 (by kernel_rfl) rfl
          rw [if_pos (want_free rfl)]
          go_simp
          exact hK _ _ (Below.refl _ _) (vok rfl) (facts_cons (fun h => absurd h (by decide)) (facts_cons (fun h => absurd h (by decide)) (facts_cons (fun h => absurd h (by decide)) facts_nil)))
        · intro a w_ K hw hS hd hN hK
          have s26 := (waits_on hd 4 (by kernel_rfl)).at (d := 26) rfl rfl rfl
          have s27 := (waits_on hd 5 (by kernel_rfl)).at (d := 27) rfl rfl rfl
          rw [if_pos (want_free rfl)]
          go_simp
          exact hK _ _ (Below.refl _ _) (vok rfl) (facts_cons (fun h => absurd h (by decide)) (facts_cons (fun h => absurd h (by decide)) (facts_cons (fun h => absurd h (by decide)) facts_nil)))
        · intro a w_ K hw hS hd hN hK
          have s1 := hS.at 1 (by kernel_rfl) rfl
          rw [if_pos (want_free rfl)]
          go_simp
          exact hK _ _ (Below.refl _ _) (vok rfl) (facts_cons (fun h => absurd h (by decide)) (facts_cons (fun h => absurd h (by decide)) (facts_cons (fun h => absurd h (by decide)) facts_nil)))
        · intro a w_ K hw hS hd hN hK
          have s29 := (waits_on hd 7 (by kernel_rfl)).at (d := 29) rfl rfl rfl
          rw [if_pos (want_free rfl)]
          obtain ⟨x0, x1, x2, x3, x4⟩ := page_cells (HX.out.to hw)
          go_simp
          exact hK _ _ (Below.refl _ _) (vok rfl) (facts_cons (fun h => absurd h (by decide)) (facts_cons (fun h => absurd h (by decide)) (facts_cons (fun h => absurd h (by decide)) facts_nil)))
        · intro a w_ K hw hS hd hN hK
          have s4 := hS.at 4 (by kernel_rfl) rfl
          rw [if_pos (want_free rfl)]
          go_simp
          exact hK _ _ (Below.refl _ _) (vok rfl) (facts_cons (fun h => absurd h (by decide)) (facts_cons (fun h => absurd h (by decide)) (facts_cons (fun h => absurd h (by decide)) facts_nil)))
        · intro a w_ K hw hS hd hN hK
          have s30 := (waits_on hd 8 (by kernel_rfl)).at (d := 30) rfl rfl rfl
          have s31 := (waits_on hd 9 (by kernel_rfl)).at (d := 31) rfl rfl rfl
          rw [if_pos (want_free rfl)]
          go_simp
          exact hK _ _ (Below.refl _ _) (vok rfl) (facts_cons (fun h => absurd h (by decide)) (facts_cons (fun h => absurd h (by decide)) (facts_cons (fun h => absurd h (by decide)) facts_nil)))
        · intro a w_ K hw hS hd hN hK
          have s32 := (waits_on hd 10 (by kernel_rfl)).at (d := 32) rfl rfl rfl
          rw [if_pos (want_free rfl)]
          have c0 := HC1.out w_ hw
          go_simp
          exact hK _ _ (Below.refl _ _) (vok rfl) (facts_cons (fun h => absurd h (by decide)) (facts_cons (fun h => absurd h (by decide)) (facts_cons (fun h => absurd h (by decide)) facts_nil)))
        · intro a w_ K hw hS hd hN hK
          have s33 := (waits_on hd 11 (by kernel_rfl)).at (d := 33) rfl rfl rfl
          rw [if_pos (want_free rfl)]
          go_simp
          with_reducible refine (HLf.out w_).mono ?_
          rintro e w' ⟨rfl, hb⟩
          exact hK _ _ hb (vok rfl) (facts_cons (fun h => absurd h (by decide)) (facts_cons (fun h => absurd h (by decide)) (facts_cons (fun h => absurd h (by decide)) facts_nil)))
        · intro a w_ K hw hS hd hN hK
          have s1 := hS.at 1 (by kernel_rfl) rfl
          rw [if_pos (want_free rfl)]
          go_simp
          exact hK _ _ (Below.refl _ _) (vok rfl) (facts_cons (fun h => absurd h (by decide)) (facts_cons (fun h => absurd h (by decide)) (facts_cons (fun h => absurd h (by decide)) facts_nil)))
        · intro a w_ K hw hS hd hN hK
          have s35 := (waits_on hd 13 (by kernel_rfl)).at (d := 35) rfl rfl rfl
          rw [if_pos (want_free rfl)]
          obtain ⟨x0, x1, x2, x3, x4⟩ := page_cells (HX.out.to hw)
          go_simp
          exact hK _ _ (Below.refl _ _) (vok rfl) (facts_cons (fun h => absurd h (by decide)) (facts_cons (fun h => absurd h (by decide)) (facts_cons (fun h => absurd h (by decide)) facts_nil)))
        · intro a w_ K hw hS hd hN hK
          have s4 := hS.at 4 (by kernel_rfl) rfl
          rw [if_pos (want_free rfl)]
          go_simp
          exact hK _ _ (Below.refl _ _) (vok rfl) (facts_cons (fun h => absurd h (by decide)) (facts_cons (fun h => absurd h (by decide)) (facts_cons (fun h => absurd h (by decide)) facts_nil)))
        · intro a w_ K hw hS hd hN hK
          have s36 := (waits_on hd 14 (by kernel_rfl)).at (d := 36) rfl rfl rfl
          have s37 := (waits_on hd 15 (by kernel_rfl)).at (d := 37) rfl rfl rfl
          rw [if_pos (want_free rfl)]
          go_simp
          exact hK _ _ (Below.refl _ _) (vok rfl) (facts_cons (fun h => absurd h (by decide)) (facts_cons (fun h => absurd h (by decide)) (facts_cons (fun h => absurd h (by decide)) facts_nil)))
        · intro a w_ K hw hS hd hN hK
          have s38 := (waits_on hd 16 (by kernel_rfl)).at (d := 38) rfl rfl rfl
          rw [if_pos (want_free rfl)]
          have d0 := HD1.out w_ hw
          go_simp
          exact hK _ _ (Below.refl _ _) (vok rfl) (facts_cons (fun h => absurd h (by decide)) (facts_cons (fun h => absurd h (by decide)) (facts_cons (fun h => absurd h (by decide)) facts_nil)))
        · intro a w_ K hw hS hd hN hK
          have s24 := (waits_on hd 2 (by kernel_rfl)).at (d := 24) rfl rfl rfl
          have s28 := (waits_on hd 6 (by kernel_rfl)).at (d := 28) rfl rfl rfl
          have s34 := (waits_on hd 12 (by kernel_rfl)).at (d := 34) rfl rfl rfl
          have s39 := (waits_on hd 17 (by kernel_rfl)).at (d := 39) rfl rfl rfl
          have hw5 := hN _ (List.mem_cons_of_mem _ (List.mem_cons_self ..)) rfl
          rw [if_pos (want_free rfl)]
          go_simp
          with_reducible refine (HP.out w_ (HTQ.out.to hw)).mono ?_
          rintro e w' ⟨v7, rfl, ho7, hb7⟩
          exact hK _ _ hb7 (vfree rfl) (facts_cons (fun _ => ⟨v7, hS.put_at (by kernel_rfl) _, TextsAt.of_own ho7, fun g e => Nat.le_trans hw5 (own_blk_lt ho7 g e).1⟩) (facts_cons (fun h => absurd h (by decide)) (facts_cons (fun h => absurd h (by decide)) facts_nil)))
        · intro a w_ K hw hS hd hN hK
          have s22 := (waits_on hd 0 (by kernel_rfl)).at (d := 22) rfl rfl rfl
          obtain ⟨v40, s40, t40, l40⟩ := (waits_on hd 18 (by kernel_rfl)).2 _ (List.mem_cons_self ..) rfl
          have hOwn := hN _ (List.mem_cons_of_mem _ (List.mem_cons_of_mem _ (List.mem_cons_self ..))) rfl
          rw [if_pos (want_free rfl)]
          refine wp_append_texts (.tmp 22) (.tmp 40) rfl w1.heap.size (.slice A5 L5.length c5) L5 (eval_at s22) hOwn v40 PX (eval_at s40) t40 (by omega) hw.size ?_
          intro v8 w' ho hg hne
          exact hK v8 w' hg (vfree rfl) (facts_cons (fun h => absurd h (by decide)) (facts_cons (fun _ => ⟨v8, hS.put_at (by kernel_rfl) _, ho⟩) (facts_cons (fun h => absurd h (by decide)) facts_nil)))
        · intro a w_ K hw hS hd hN hK
          obtain ⟨v41, s41, o41⟩ := (waits_on hd 19 (by kernel_rfl)).2 _ (List.mem_cons_of_mem _ (List.mem_cons_self ..)) rfl
          rw [if_pos (want_free rfl)]
          go_simp
          exact hK _ _ (Below.refl _ _) (vfree rfl) (facts_cons (fun h => absurd h (by decide)) (facts_cons (fun h => absurd h (by decide)) (facts_cons (fun _ => ⟨v41, (put_far (by decide)).trans s41, hS.put_at (by kernel_rfl) _, o41⟩) facts_nil)))
      case hfin =>
        intro a w8 hw hS hk
        have s22 := (hk 0 (by decide)).at (d := 22) rfl rfl rfl
        have s23 := (hk 1 (by decide)).at (d := 23) rfl rfl rfl
        have s24 := (hk 2 (by decide)).at (d := 24) rfl rfl rfl
        have s25 := (hk 3 (by decide)).at (d := 25) rfl rfl rfl
        have s26 := (hk 4 (by decide)).at (d := 26) rfl rfl rfl
        have s27 := (hk 5 (by decide)).at (d := 27) rfl rfl rfl
        have s28 := (hk 6 (by decide)).at (d := 28) rfl rfl rfl
        have s29 := (hk 7 (by decide)).at (d := 29) rfl rfl rfl
        have s30 := (hk 8 (by decide)).at (d := 30) rfl rfl rfl
        have s31 := (hk 9 (by decide)).at (d := 31) rfl rfl rfl
        have s32 := (hk 10 (by decide)).at (d := 32) rfl rfl rfl
        have s33 := (hk 11 (by decide)).at (d := 33) rfl rfl rfl
        have s34 := (hk 12 (by decide)).at (d := 34) rfl rfl rfl
        have s35 := (hk 13 (by decide)).at (d := 35) rfl rfl rfl
        have s36 := (hk 14 (by decide)).at (d := 36) rfl rfl rfl
        have s37 := (hk 15 (by decide)).at (d := 37) rfl rfl rfl
        have s38 := (hk 16 (by decide)).at (d := 38) rfl rfl rfl
        have s39 := (hk 17 (by decide)).at (d := 39) rfl rfl rfl
        obtain ⟨v40, s40, t40, l40⟩ := (hk 18 (by decide)).2 _ (List.mem_cons_self ..) rfl
        obtain ⟨v41, s41, o41⟩ := (hk 19 (by decide)).2 _ (List.mem_cons_of_mem _ (List.mem_cons_self ..)) rfl
        obtain ⟨v3, s41', s3, o3⟩ := (hk 20 (by decide)).2 _ (List.mem_cons_of_mem _ (List.mem_cons_of_mem _ (List.mem_cons_self ..))) rfl
        have hlit := hS.lit _ (by kernel_rfl) (lits_cons s22 (lits_cons s23 (lits_cons s24 (lits_cons s25 (lits_cons s26 (lits_cons s27 (lits_cons s28 (lits_cons s29 (lits_cons s30 (lits_cons s31 (lits_cons s32 (lits_cons s33 (lits_cons s34 (lits_cons s35 (lits_cons s36 (lits_cons s37 (lits_cons s38 (lits_cons s39 (lits_cons s40 (lits_cons s41 (lits_cons s3 lits_nil)))))))))))))))))))))
        rw [hlit]
        clear hlit hk hS t40 l40 o41 s41'
        have HB8 := hide hw
        have HO8 : Hid (OwnT w8 w1.heap.size v3 (chkUp p (k + 1))) := by
          rw [HCS.out]
          have := o3
          rw [← hL5, List.append_assoc, List.singleton_append] at this
          exact this
        clear o3 hw
        simp only [litT, List.setIfInBounds_toArray, List.set_cons_succ, List.set_cons_zero]
        go_wp2_with fail
        refine ⟨⟨k + 1, by go_num, by omega, HO8.out, HB8.out⟩, ?_⟩
        simp [intOf]; omega
    · obtain rfl : k = p.items.length := by omega
      have e1 : decide ((p.items.length : Int) < (p.items.length : Int)) = false := by simp
      go_wp2_with fail
      go_ret
      exact ⟨_, rfl, own_less HO.out HB.out.size, below_to HB.out (Nat.le_refl _) HBr.out⟩
end Go.Proofs.YtfhanbiifjiklaaGreatDoor

/- The plain laws of pages that are accepted: their items are those of the log, or two texts have one digest. -/
set_option linter.unusedVariables false
set_option linter.unusedSimpArgs false
namespace Go.Proofs.YtfhanbiifjiklaaGreatDoor
open Go.RowKit

theorem join3_len {a b c : List UInt8} (ha : a.length ≤ 1000) (hb : b.length ≤ 1000) (hc : c.length ≤ 1000) : (joinD [a, b, c]).length ≤ 4000 := by
  have := join_len [a, b, c] (by intro l hl; simp only [List.mem_cons, List.not_mem_nil, or_false] at hl; rcases hl with rfl | rfl | rfl <;> omega)
  simp at this; omega
theorem join2_len {a b : List UInt8} (ha : a.length ≤ 1000) (hb : b.length ≤ 1000) : (joinD [a, b]).length ≤ 4000 := by
  have := join_len [a, b] (by intro l hl; simp only [List.mem_cons, List.not_mem_nil, or_false] at hl; rcases hl with rfl | rfl <;> omega)
  simp at this; omega
theorem total_1000 {l : List (List UInt8)} (h : ∀ x ∈ l, x.length ≤ 1000) : (totalT l).length ≤ 1000 := by
  match l, h with
  | [], _ => exact Nat.le_of_lt (Nat.lt_of_le_of_lt (Nat.le_of_eq (isD_len (listD_isD _))) (by decide))
  | [x], h => rw [total_one]; exact h x (by simp)
  | x :: y :: l, _ => rw [total_two (by simp), nodeD_len]; decide
theorem texts_small : ∀ (f : Nat) (l : List (List UInt8)), (∀ x ∈ l, x.length ≤ 1000) → ∀ s ∈ textsF f l, s.length ≤ 4000
  | 0, l, h, s, hs => by cases hs
  | f + 1, l, h, s, hs => by
    unfold textsF at hs
    split at hs
    · rw [List.mem_singleton.1 hs]; decide +kernel
    · split at hs
      · cases hs
      · simp only [List.mem_append, List.mem_singleton] at hs
        rcases hs with (hs | hs) | hs
        · exact texts_small f _ (fun x hx => h x (List.mem_of_mem_take hx)) s hs
        · exact texts_small f _ (fun x hx => h x (List.mem_of_mem_drop hx)) s hs
        · rw [hs]; exact join3_len (by decide) (total_1000 fun x hx => h x (List.mem_of_mem_take hx)) (total_1000 fun x hx => h x (List.mem_of_mem_drop hx))
theorem up_1000 {leaf : List UInt8} (hl : leaf.length ≤ 1000) : ∀ (f n i : Nat) (st : List (List UInt8)) (sh : Bool), (upG leaf f n i st sh).1.length ≤ 1000
  | 0, n, i, st, sh => hl
  | f + 1, n, i, st, sh => by
    unfold upG
    split
    · exact hl
    · split <;> exact Nat.le_trans (Nat.le_of_eq (nodeD_len _ _)) (by decide)
theorem head_1000 {st : List (List UInt8)} (h : ∀ x ∈ st, x.length ≤ 1000) : (st.headD []).length ≤ 1000 := by
  cases st with
  | nil => simp
  | cons x l => exact h x (by simp)
theorem ptx_small {leaf : List UInt8} (hl : leaf.length ≤ 1000) : ∀ (f n i : Nat) (st : List (List UInt8)), (∀ x ∈ st, x.length ≤ 1000) → ∀ s ∈ ptxF leaf f n i st, s.length ≤ 4000
  | 0, n, i, st, h, s, hs => by cases hs
  | f + 1, n, i, st, h, s, hs => by
    unfold ptxF at hs
    have ht : ∀ x ∈ st.tail, x.length ≤ 1000 := fun x hx => h x (List.mem_of_mem_tail hx)
    split at hs
    · cases hs
    · split at hs
      · rcases List.mem_append.1 hs with hs | hs
        · exact ptx_small hl f _ _ _ ht s hs
        · rw [List.mem_singleton.1 hs]; exact join3_len (by decide) (up_1000 hl _ _ _ _ _) (head_1000 h)
      · rcases List.mem_append.1 hs with hs | hs
        · exact ptx_small hl f _ _ _ ht s hs
        · rw [List.mem_singleton.1 hs]; exact join3_len (by decide) (head_1000 h) (up_1000 hl _ _ _ _ _)
theorem dig_small {items : List (List UInt8)} (h : ∀ x ∈ items, x.length ≤ 1000) : ∀ s ∈ digestedV items, s.length ≤ 1000000 := fun s hs => by
  unfold digestedV at hs
  rcases List.mem_append.1 hs with hs | hs
  · have := texts_small _ _ (fun x hx => by obtain ⟨y, _, rfl⟩ := List.mem_map.1 hx; rw [isD_len (leaf_isD y)]; decide) s hs
    omega
  · obtain ⟨y, hy, rfl⟩ := List.mem_map.1 hs
    have : (leafJ y).length ≤ 4000 := join2_len (by decide) (h y hy)
    omega
theorem dig_len (items : List (List UInt8)) : (digestedV items).length ≤ 2 * items.length + 1 := by
  unfold digestedV
  have := texts_le (leavesV items)
  rw [leaves_len] at this
  rw [List.length_append, List.length_map]; omega
theorem chk_small {p : Pg} (hi : ∀ x ∈ p.items, x.length ≤ 1000) (hq : ∀ q ∈ p.paths, ∀ x ∈ q, x.length ≤ 1000) : ∀ s ∈ checkedV p, s.length ≤ 1000000 := fun s hs => by
  unfold checkedV chkUp at hs
  obtain ⟨j, hj, hs⟩ := List.mem_flatMap.1 hs
  unfold itemJ at hs
  have hx : (p.items.getD j []).length ≤ 1000 := by
    rw [List.getD_eq_getElem?_getD]
    cases e : p.items[j]? with
    | none => simp
    | some x => exact hi x (List.mem_of_getElem? e)
  rcases List.mem_cons.1 hs with rfl | hs
  · have : (leafJ (p.items.getD j [])).length ≤ 4000 := join2_len (by decide) hx
    omega
  · have := ptx_small (by rw [isD_len (leaf_isD _)]; decide) _ _ _ _ (fun x hx => by
      rw [List.mem_reverse, List.getD_eq_getElem?_getD] at hx
      cases e : p.paths[j]? with
      | none => rw [e] at hx; cases hx
      | some q => rw [e] at hx; exact hq q (List.mem_of_getElem? e) x hx) s hs
    omega
theorem item_mem {p : Pg} {k : Nat} {y : List UInt8} {q : List (List UInt8)} (hy : p.items[k]? = some y) (hq : p.paths[k]? = some q) : ∀ s ∈ leafJ y :: ptxF (leafD y) p.size.toNat p.size.toNat (p.fr.toNat + k) q.reverse, s ∈ checkedV p := fun s hs => by
  rw [← chk_at hy hq] at hs
  unfold checkedV chkUp
  exact List.mem_flatMap.2 ⟨k, List.mem_range.2 (List.getElem?_eq_some_iff.1 hy).1, hs⟩
/-- an item that is not the log's -/
theorem held_sound {items : List (List UInt8)} {p : Pg} (hf : formedB p = true) (hh : heldB p p.root p.size = true) (hr : p.root = rootL items) (hs : p.size = (items.length : Int)) {k : Nat} {x y : List UInt8} (hy : p.items[k]? = some y) (hx : items[p.fr.toNat + k]? = some x) (hne : x ≠ y) : Coll (digestedV items) (checkedV p) := by
  have hfs := (formed_spec hf).1
  obtain ⟨q, hq⟩ : ∃ q, p.paths[k]? = some q := ⟨_, List.getElem?_eq_getElem (by have := (List.getElem?_eq_some_iff.1 hy).1; omega)⟩
  have hc := held_at hh hy hq
  have hI : p.fr + (k : Int) = ((p.fr.toNat + k : Nat) : Int) := by omega
  obtain ⟨h1, h2, h3, h4⟩ := held_len hc hs hI
  rw [hs, hI, checkV_ref _ _ _ _ _ (by omega) (by omega)] at hc
  simp only [Bool.and_eq_true, decide_eq_true_eq] at hc
  have hu := hc.2.2.2
  have hN : p.size.toNat = items.length := by omega
  have hm := item_mem hy hq
  rw [hN] at hm
  have hxl : (leavesV items)[p.fr.toNat + k]? = some (leafD x) := by unfold leavesV; rw [List.getElem?_map, hx]; rfl
  rw [hr] at hu
  rcases up_sound (leafD y) items.length items.length (p.fr.toNat + k) q.reverse false (leavesV items) (leaves_len items) (Nat.le_refl _) h1 hu with h | h
  · rw [hxl] at h
    rcases leafD_sound (Option.some.inj h) with e | e
    · exact absurd e hne
    · refine e.mono (fun s hs => ?_) (fun s hs => ?_)
      · rw [List.mem_singleton.1 hs]
        unfold digestedV
        exact List.mem_append.2 (.inr (List.mem_map.2 ⟨x, List.mem_of_getElem? hx, rfl⟩))
      · rw [List.mem_singleton.1 hs]; exact hm _ (List.mem_cons_self ..)
  · exact h.mono (fun s hs => by unfold digestedV; exact List.mem_append.2 (.inl hs)) (fun s hs => hm s (List.mem_cons_of_mem _ hs))
theorem coll_in {a b : List (List UInt8)} (h : Coll a b) : CollIn (a ++ b) := h.mono (fun s hs => List.mem_append.2 (.inl hs)) (fun s hs => List.mem_append.2 (.inr hs))
theorem begins_no {l p : List (List UInt8)} (hl : p.length ≤ l.length) (h : beginsV l p = false) : ∃ (k : Nat) (x y : List UInt8), l[k]? = some x ∧ p[k]? = some y ∧ x ≠ y := by
  unfold beginsV at h
  rw [decide_eq_true hl, Bool.true_and, decide_eq_false_iff_not] at h
  apply Classical.byContradiction
  intro hn
  apply h
  refine List.ext_getElem? fun k => ?_
  rcases Nat.lt_or_ge k p.length with hk | hk
  · rw [List.getElem?_take_of_lt hk, List.getElem?_eq_getElem hk, List.getElem?_eq_getElem (by omega : k < l.length)]
    congr 1
    apply Classical.byContradiction
    intro hne
    exact hn ⟨k, _, _, List.getElem?_eq_getElem (by omega), List.getElem?_eq_getElem hk, hne⟩
  · rw [List.getElem?_eq_none hk, List.getElem?_eq_none (by rw [List.length_take]; omega)]
theorem begins_take (l : List (List UInt8)) (k : Nat) : beginsV l (l.take k) = true := by
  unfold beginsV
  rw [List.length_take, decide_eq_true (by omega), Bool.true_and, decide_eq_true_eq]
  rcases Nat.le_total k l.length with h | h
  · rw [Nat.min_eq_left h]
  · rw [Nat.min_eq_right h, List.take_length, List.take_of_length_le h]
/-- what an accepted page says of itself -/
theorem acc_facts {p : Pg} {items its : List (List UInt8)} (h : accE p (rootL items) items.length its = 0) : formedB p = true ∧ heldB p p.root p.size = true ∧ p.root = rootL items ∧ p.size = (items.length : Int) ∧ p.fr ≤ (its.length : Int) := by
  unfold accE at h
  split at h
  · rename_i hf
    split at h
    · rename_i hh
      split at h
      · cases h
      · rename_i hl
        have hh' := hh
        unfold heldB sameB at hh'
        simp only [Bool.and_eq_true, decide_eq_true_eq] at hh'
        obtain ⟨⟨h1, h2, h3⟩, h4⟩ := hh'
        exact ⟨hf, by rw [h1, h2]; exact hh, h1, h2, by omega⟩
    · cases h
  · cases h
end Go.Proofs.YtfhanbiifjiklaaGreatDoor

/- The plain law of pages with one item changed. -/
set_option linter.unusedVariables false
set_option linter.unusedSimpArgs false
namespace Go.Proofs.YtfhanbiifjiklaaGreatDoor
open Go.RowKit

/-- a page with its item j changed -/
def chP (p : Pg) (j : Nat) : Pg := { p with items := p.items.set j ((p.items.getD j []) ++ [120]) }
theorem chP_len (p : Pg) (j : Nat) : (chP p j).items.length = p.items.length := by unfold chP; simp
theorem chP_at {p : Pg} {j : Nat} {x : List UInt8} (h : p.items[j]? = some x) : (chP p j).items[j]? = some (x ++ [120]) := by
  have hj := (List.getElem?_eq_some_iff.1 h).1
  unfold chP
  show (p.items.set j _)[j]? = _
  rw [List.getElem?_set_self hj, List.getD_eq_getElem?_getD, h]; rfl
theorem ch_ne (x : List UInt8) : x ≠ x ++ [120] := fun e => by have := congrArg List.length e; simp at this
theorem chP_fit {p : Pg} (h : p.fit) (hx : ∀ x ∈ p.items, x.length ≤ 1000) (j : Nat) : (chP p j).fit := by
  refine ⟨by rw [chP_len]; exact h.ni, fun x hm => ?_, h.np, h.nq, h.lq, h.lr, h.f0, h.s0⟩
  rcases List.mem_or_eq_of_mem_set hm with hm | rfl
  · have := hx x hm; omega
  · rw [List.length_append, List.getD_eq_getElem?_getD]
    cases e : p.items[j]? with
    | none => simp
    | some y => have := hx y (List.mem_of_getElem? e); simp; omega
theorem chP_small {p : Pg} (hx : ∀ x ∈ p.items, x.length ≤ 60) (j : Nat) : ∀ x ∈ (chP p j).items, x.length ≤ 1000 := fun x hm => by
  rcases List.mem_or_eq_of_mem_set hm with hm | rfl
  · have := hx x hm; omega
  · rw [List.length_append, List.getD_eq_getElem?_getD]
    cases e : p.items[j]? with
    | none => simp
    | some y => have := hx y (List.mem_of_getElem? e); simp; omega
theorem page_small {items : List (List UInt8)} (h : Lg items) (F M : Nat) : ∀ x ∈ (pageV items F M).items, x.length ≤ 60 := fun x hx => h.lx x (List.mem_of_mem_drop (List.mem_of_mem_take hx))
/-- a changed page that a client takes over shows two texts with one digest -/
theorem changed_coll {items its : List (List UInt8)} (h : Lg items) {F M j : Nat} (hF : F ≤ items.length) (hj : j < (pageV items F M).items.length) (ha : accE (chP (pageV items F M) j) (rootL items) items.length its = 0) : Coll (digestedV items) (checkedV (chP (pageV items F M) j)) := by
  obtain ⟨hf, hh, hr, hs, _⟩ := acc_facts ha
  have hx := page_at hj
  refine held_sound hf hh hr hs (k := j) (x := (pageV items F M).items[j]) (y := (pageV items F M).items[j] ++ [120]) (chP_at (List.getElem?_eq_getElem hj)) ?_ (ch_ne _)
  have : (chP (pageV items F M) j).fr.toNat = F := rfl
  rw [this]; exact hx
theorem accV_len (p : Pg) (r : List UInt8) (s : Int) (its : List (List UInt8)) : its.length ≤ (accV p r s its).length := by
  unfold accV
  split
  · rw [List.length_append]; omega
  · exact Nat.le_refl _
theorem accV_no {p : Pg} {r : List UInt8} {s : Int} {its : List (List UInt8)} (h : accE p r s its ≠ 0) : accV p r s its = its := by unfold accV; rw [if_neg h]
/-- an element of a row of one's own is stored -/
theorem own_set {W : World} {B g n c J : Nat} {ls : List (List UInt8)} (h : OwnT W B (.slice (some ⟨g, 0, none⟩) n c) ls) (hn : n = ls.length) (hJ : J < n) (y : List UInt8) : TextsAt (W.setCell ⟨g, J, none⟩ (.string (bs y))) (.slice (some ⟨g, 0, none⟩) n c) (ls.set J y) := by
  subst hn
  obtain ⟨g', e, _, cur, hblk, hsz, ht⟩ := own_blk4 h (by omega)
  obtain rfl : g = g' := by injection e with e; injection e
  rw [Nat.mul_one] at hsz ht
  have hc : ls.length ≤ c := by
    rcases h.2 with ⟨h1, h2⟩ | ⟨_, cap, _, h1, _, _, h5, _⟩
    · cases h1
    · injection h1 with _ _ e3; omega
  refine RowsAt.of_blk (hblk.set_ J _) (by rw [List.length_map, List.length_set]) hc (fun x hx => by obtain ⟨z, _, rfl⟩ := List.mem_map.1 hx; rfl) fun k x hx j u hu => ?_
  rw [List.getElem?_map, Option.map_eq_some_iff] at hx
  obtain ⟨z, hz, rfl⟩ := hx
  have hj : j = 0 := by
    rcases Nat.eq_zero_or_pos j with h0 | h0
    · exact h0
    · rw [List.getElem?_eq_none (by simp only [strV, List.length_cons, List.length_nil]; omega)] at hu; cases hu
  subst hj
  simp only [strV, List.getElem?_cons_zero, Option.some.injEq] at hu
  subst hu
  rw [Nat.mul_one, Nat.add_zero, Array.getElem?_setIfInBounds]
  by_cases hk : J = k
  · subst hk
    rw [if_pos rfl, if_pos (by omega)]
    rw [List.getElem?_set_self hJ] at hz
    rw [Option.some.inj hz]
  · rw [if_neg hk]
    rw [List.getElem?_set_ne hk] at hz
    have hkl := (List.getElem?_eq_some_iff.1 hz).1
    have h1 : (flatS ls)[k]? = some (.string (bs z)) := by unfold flatS; rw [List.getElem?_map, hz]; rfl
    rw [← ht, List.getElem?_take_of_lt hkl] at h1
    simpa using h1
end Go.Proofs.YtfhanbiifjiklaaGreatDoor

/- The walk of PageTexts. -/
set_option linter.unusedVariables false
set_option linter.unusedSimpArgs false
namespace Go.Proofs.YtfhanbiifjiklaaGreatDoor
open Go.RowKit

/-- two pages that came in, in boxes of the call -/
structure TwoP (w : World) (p q : Pg) (vi vp ui up : Value) (W : World) : Prop where
  bel : Below w.heap.size w W
  bP : Blk W w.heap.size 25 (p.cs vi vp)
  bQ : Blk W (w.heap.size + 1) 25 (q.cs ui up)
  ti : TextsAt W vi p.items
  tp : PathsAt W vp p.paths
  ui : TextsAt W ui q.items
  up : PathsAt W up q.paths
theorem TwoP.to {w W W' : World} {p q : Pg} {vi vp ui up : Value} (h : TwoP w p q vi vp ui up W) (hb : Below W.heap.size W W') : TwoP w p q vi vp ui up W' :=
  ⟨below_to h.bel (Nat.le_refl _) hb, h.bP.to hb, h.bQ.to hb, h.ti.to hb, h.tp.to hb, h.ui.to hb, h.up.to hb⟩
theorem TwoP.start {w : World} {p q : Pg} {vi vp ui up : Value} (h1 : TextsAt w vi p.items) (h2 : PathsAt w vp p.paths) (h3 : TextsAt w ui q.items) (h4 : PathsAt w up q.paths) : TwoP w p q vi vp ui up ((w.alloc (.cells (p.cs vi vp) 25)).alloc (.cells (q.cs ui up) 25)) := by
  have b1 := below_one w (.cells (p.cs vi vp) 25)
  have b2 := below_one (w.alloc (.cells (p.cs vi vp) 25)) (.cells (q.cs ui up) 25)
  have x := Blk.new (w.alloc (.cells (p.cs vi vp) 25)) 25 (q.cs ui up)
  rw [World.size_alloc] at x
  exact ⟨below_to b1 (Nat.le_refl _) b2, (Blk.new w _ _).to b2, x, (h1.to b1).to b2, (h2.to b1).to b2, (h3.to b1).to b2, (h4.to b1).to b2⟩
set_option maxRecDepth 100000 in
set_option maxHeartbeats 4000000 in
theorem texts_law (p q : Pg) (hp : p.wide) (hq : q.wide) (hpf : -9223372036854775808 ≤ p.fr ∧ p.fr ≤ 9223372036854775807) (hps : -9223372036854775808 ≤ p.size ∧ p.size ≤ 9223372036854775807) (hqf : -9223372036854775808 ≤ q.fr ∧ q.fr ≤ 9223372036854775807) (hqs : -9223372036854775808 ≤ q.size ∧ q.size ≤ 9223372036854775807)
    (t : List UInt8) (ht : t.length ≤ 140737488355328) (vi vp ui up : Value) (w : World) (hvi : TextsAt w vi p.items) (hvp : PathsAt w vp p.paths) (hui : TextsAt w ui q.items) (huq : PathsAt w up q.paths) (hg : Glob w) :
    Calls Tryz.prog 7 #[.agg (p.cs vi vp), .agg (q.cs ui up), .string (bs t)] w fun e w' => e = .returned (.bool true) ∧ Below w.heap.size w w' := by
  have H2 := hide (TwoP.start hvi hvp hui huq)
  have HG := hide hg
  obtain ⟨Ai, ci, rfl, _⟩ := hvi.slice
  obtain ⟨Ap, cp, rfl, _⟩ := hvp.slice
  obtain ⟨Bi, di, rfl, _⟩ := hui.slice
  obtain ⟨Bp, dp, rfl, _⟩ := huq.slice
  clear hvi hvp hui huq hg
  have hsz : (bs t).size = t.length := bs_size t
  unfold Pg.cs at H2 ⊢
  go_enter Tryz.func7, Tryz.ntmps7
  go_wp2_with fail
  generalize (w.alloc (.cells #[.int .i64 p.fr, .int .i64 p.size, .string (bs p.root), .slice Ai p.items.length ci, .slice Ap p.paths.length cp] 25)).alloc (.cells #[.int .i64 q.fr, .int .i64 q.size, .string (bs q.root), .slice Bi q.items.length di, .slice Bp q.paths.length dp] 25) = w2 at *
  have C3 := head_any w2 (HG.out.to H2.out.bel)
  refine C3.mono ?_
  rintro e w3 ⟨rfl, hb⟩
  have H3 := hide (H2.out.to hb)
  clear hb C3 H2
  obtain ⟨p0, p1, p2, p3, p4⟩ := page_cells H3.out.bP; obtain ⟨q0, q1, q2, q3, q4⟩ := page_cells H3.out.bQ
  have CF : Calls Tryz.prog 13 #[.agg #[.int .i64 p.fr, .int .i64 p.size, .string (bs p.root), .slice Ai p.items.length ci, .slice Ap p.paths.length cp]] w3 fun e w' => e = .returned (.bool (fewP p)) ∧ Below w3.heap.size w3 w' := FewP_any p hp _ _ w3 H3.out.ti H3.out.tp
  have CG : ∀ w4 : World, Below w3.heap.size w3 w4 → Calls Tryz.prog 13 #[.agg #[.int .i64 q.fr, .int .i64 q.size, .string (bs q.root), .slice Bi q.items.length di, .slice Bp q.paths.length dp]] w4 fun e w' => e = .returned (.bool (fewP q)) ∧ Below w4.heap.size w4 w' := fun w4 hb => FewP_any q hq _ _ w4 (H3.out.ui.to hb) (H3.out.up.to hb)
  have FP := fun h => few_fit (p := p) h hpf hps
  have FQ := fun h => few_fit (p := q) h hqf hqs
  generalize fewP p = b1 at *
  generalize fewP q = b2 at *
  cases b1 with
  | false =>
    go_wp2_with ((with_reducible refine CF.mono ?_); rintro e w4 ⟨rfl, hb⟩; have H4 := hide (H3.out.to hb); clear hb CF p0 p1 p2 p3 p4 q0 q1 q2 q3 q4 H3; obtain ⟨p0, p1, p2, p3, p4⟩ := page_cells H4.out.bP; obtain ⟨q0, q1, q2, q3, q4⟩ := page_cells H4.out.bQ)
    go_ret
    exact ⟨rfl, H4.out.bel⟩
  | true =>
    cases b2 with
    | false =>
      go_wp2_with (first | ((with_reducible refine CF.mono ?_); rintro e w4 ⟨rfl, hb⟩; have CG := CG w4 hb; have H4 := hide (H3.out.to hb); clear hb CF p0 p1 p2 p3 p4 q0 q1 q2 q3 q4 H3; obtain ⟨p0, p1, p2, p3, p4⟩ := page_cells H4.out.bP; obtain ⟨q0, q1, q2, q3, q4⟩ := page_cells H4.out.bQ) | ((with_reducible refine CG.mono ?_); rintro e w5 ⟨rfl, hb⟩; have H5 := hide (H4.out.to hb); clear hb CG p0 p1 p2 p3 p4 q0 q1 q2 q3 q4 H4))
      go_ret
      exact ⟨rfl, H5.out.bel⟩
    | true =>
      have HFP := hide (FP rfl)
      have HFQ := hide (FQ rfl)
      clear FP FQ
      by_cases hlt : t.length ≤ 3000
      · have c0 : decide ((3000 : Int) < (t.length : Int)) = false := decide_eq_false (by omega)
        go_wp2_with (first | ((with_reducible refine CF.mono ?_); rintro e w4 ⟨rfl, hb⟩; have CG := CG w4 hb; have H4 := hide (H3.out.to hb); clear hb CF p0 p1 p2 p3 p4 q0 q1 q2 q3 q4 H3; obtain ⟨p0, p1, p2, p3, p4⟩ := page_cells H4.out.bP; obtain ⟨q0, q1, q2, q3, q4⟩ := page_cells H4.out.bQ) | ((with_reducible refine CG.mono ?_); rintro e w5 ⟨rfl, hb⟩; have H5 := hide (H4.out.to hb); clear hb CG p0 p1 p2 p3 p4 q0 q1 q2 q3 q4 H4; obtain ⟨p0, p1, p2, p3, p4⟩ := page_cells H5.out.bP; obtain ⟨q0, q1, q2, q3, q4⟩ := page_cells H5.out.bQ))
        have CT : Calls Tryz.prog 16 #[.agg #[.int .i64 p.fr, .int .i64 p.size, .string (bs p.root), .slice Ai p.items.length ci, .slice Ap p.paths.length cp]] w5 fun e w' => e = .returned (.tuple #[.string (bs (textV p)), .int .i64 (textE p)]) ∧ Below w5.heap.size w5 w' := Text_any p HFP.out.1 _ _ w5 (HG.out.to H5.out.bel) H5.out.ti H5.out.tp
        refine CT.mono ?_
        rintro e w6 ⟨rfl, hb⟩
        have H6 := hide (H5.out.to hb)
        clear hb CT p0 p1 p2 p3 p4 q0 q1 q2 q3 q4 H5
        obtain ⟨p0, p1, p2, p3, p4⟩ := page_cells H6.out.bP; obtain ⟨q0, q1, q2, q3, q4⟩ := page_cells H6.out.bQ
        go_wp2_with fail
        have CT : Calls Tryz.prog 16 #[.agg #[.int .i64 q.fr, .int .i64 q.size, .string (bs q.root), .slice Bi q.items.length di, .slice Bp q.paths.length dp]] w6 fun e w' => e = .returned (.tuple #[.string (bs (textV q)), .int .i64 (textE q)]) ∧ Below w6.heap.size w6 w' := Text_any q HFQ.out.1 _ _ w6 (HG.out.to H6.out.bel) H6.out.ui H6.out.up
        refine CT.mono ?_
        rintro e w7 ⟨rfl, hb⟩
        have H7 := hide (H6.out.to hb)
        clear hb CT p0 p1 p2 p3 p4 q0 q1 q2 q3 q4 H6
        obtain ⟨p0, p1, p2, p3, p4⟩ := page_cells H7.out.bP; obtain ⟨q0, q1, q2, q3, q4⟩ := page_cells H7.out.bQ
        cases hfp : formedB p with
        | false =>
          have E0 : textE p = 1 := by unfold textE; rw [hfp]; rfl
          rw [E0]
          clear hfp E0
          go_wp2_with fail
          have CP := Parse_any t (by omega) w7 (HG.out.to H7.out.bel)
          unfold ParseR at CP
          clear p0 p1 p2 p3 p4 q0 q1 q2 q3 q4
          cases hpt : parseP t with
          | none =>
            rw [show parseV t = noPg by unfold parseV; rw [hpt]; rfl, show parseE t = 5 by unfold parseE; rw [hpt]; rfl] at CP
            clear hpt
            refine CP.mono ?_
            rintro e w8 ⟨xi, xp, rfl, hxi, hxp, hb⟩
            obtain ⟨Xi, xci, rfl, _⟩ := hxi.slice
            obtain ⟨Xp, xcp, rfl, _⟩ := hxp.slice
            have H8 := hide (H7.out.to hb)
            clear hb CP H7
            rw [show noPg.cs (.slice Xi noPg.items.length xci) (.slice Xp noPg.paths.length xcp) = #[.int .i64 0, .int .i64 0, .string ⟨#[]⟩, .slice Xi 0 xci, .slice Xp 0 xcp] from rfl]
            have HB8 := below_one w8 (.cells #[.int .i64 0, .int .i64 0, .string ⟨#[]⟩, .slice Xi 0 xci, .slice Xp 0 xcp] 25)
            have CS : Calls Tryz.prog 20 #[.agg #[.int .i64 0, .int .i64 0, .string ⟨#[]⟩, .slice Xi 0 xci, .slice Xp 0 xcp], .agg #[.int .i64 0, .int .i64 0, .string ⟨#[]⟩, .slice none 0 0, .slice none 0 0]] (w8.alloc (.cells #[.int .i64 0, .int .i64 0, .string ⟨#[]⟩, .slice Xi 0 xci, .slice Xp 0 xcp] 25)) fun e w' => e = .returned (.bool true) ∧ Below (w8.alloc (.cells #[.int .i64 0, .int .i64 0, .string ⟨#[]⟩, .slice Xi 0 xci, .slice Xp 0 xcp] 25)).heap.size (w8.alloc (.cells #[.int .i64 0, .int .i64 0, .string ⟨#[]⟩, .slice Xi 0 xci, .slice Xp 0 xcp] 25)) w' := by
              have := PSame_any noPg noPg (fit_wide no_fit) (fit_wide no_fit) _ _ (.slice none 0 0) (.slice none 0 0) _ (hxi.to HB8) (hxp.to HB8) (TextsAt.nil _) (PathsAt.nil _)
              rw [same_refl] at this
              exact this
            have HBB := hide (below_to H8.out.bel (Nat.le_refl _) HB8)
            clear hxi hxp HB8 H8
            go_wp2_with fail
            refine CS.mono ?_
            rintro e w9 ⟨rfl, hb⟩
            have HBC := hide (below_to HBB.out (Nat.le_refl _) hb)
            clear hb CS HBB
            go_wp2_with fail
            go_ret
            exact ⟨rfl, HBC.out⟩
          | some y =>
            obtain ⟨hfy, hty⟩ := text_of_parse hpt
            rw [show parseV t = y by unfold parseV; rw [hpt]; rfl, show parseE t = 0 by unfold parseE; rw [hpt]; rfl] at CP
            refine CP.mono ?_
            rintro e w8 ⟨xi, xp, rfl, hxi, hxp, hb⟩
            have H8 := hide (H7.out.to hb)
            have CT := fun (w' : World) (hb' : Below w8.heap.size w8 w') => Text_any y (formed_fit hfy) xi xp w' (HG.out.to (below_to H8.out.bel (Nat.le_refl _) hb')) (hxi.to hb') (hxp.to hb')
            rw [show textV y = t by unfold textV; rw [hfy]; exact hty, show textE y = 0 by unfold textE; rw [hfy]; rfl] at CT
            obtain ⟨Xi, xci, rfl, _⟩ := hxi.slice
            obtain ⟨Xp, xcp, rfl, _⟩ := hxp.slice
            clear hb CP H7 hxi hxp hpt hfy hty
            unfold Pg.cs at CT ⊢
            have HB8 := below_one w8 (.cells #[.int .i64 y.fr, .int .i64 y.size, .string (bs y.root), .slice Xi y.items.length xci, .slice Xp y.paths.length xcp] 25)
            have CT := CT _ HB8
            have HBB := hide (below_to H8.out.bel (Nat.le_refl _) HB8)
            have q : ((bs t).toList == (bs t).toList) = true := by simp
            clear HB8 H8
            go_wp2_with fail
            refine CT.mono ?_
            rintro e w9 ⟨rfl, hb⟩
            have HBC := hide (below_to HBB.out (Nat.le_refl _) hb)
            clear hb CT HBB
            go_wp2_with fail
            go_ret
            exact ⟨rfl, HBC.out⟩
        | true =>
          have E0 : textE p = 0 := by unfold textE; rw [hfp]; rfl
          have V0 : textV p = textPg p := by unfold textV; rw [hfp]; rfl
          rw [E0, V0]
          have CP := fun (w' : World) (hg' : Glob w') => Parse_any (textPg p) (text_len hfp HFP.out.2.2) w' hg'
          unfold ParseR at CP
          rw [show parseV (textPg p) = p by unfold parseV; rw [parse_text hfp]; rfl, show parseE (textPg p) = 0 by unfold parseE; rw [parse_text hfp]; rfl] at CP
          go_wp2_with fail
          refine (CP w7 (HG.out.to H7.out.bel)).mono ?_
          rintro e w8 ⟨xi, xp, rfl, hxi, hxp, hb⟩
          have H8 := hide (H7.out.to hb)
          obtain ⟨Xi, xci, rfl, _⟩ := hxi.slice
          obtain ⟨Xp, xcp, rfl, _⟩ := hxp.slice
          unfold Pg.cs
          have HB8 := below_one w8 (.cells #[.int .i64 p.fr, .int .i64 p.size, .string (bs p.root), .slice Xi p.items.length xci, .slice Xp p.paths.length xcp] 25)
          have H9 := hide (H8.out.to HB8)
          have HXI := hide (hxi.to HB8)
          have HXP := hide (hxp.to HB8)
          have xb := Blk.new w8 25 (p.cs (.slice Xi p.items.length xci) (.slice Xp p.paths.length xcp))
          obtain ⟨x0, x1, x2, x3, x4⟩ := page_cells xb
          clear p0 p1 p2 p3 p4 q0 q1 q2 q3 q4
          obtain ⟨p0, p1, p2, p3, p4⟩ := page_cells H8.out.bP; obtain ⟨q0, q1, q2, q3, q4⟩ := page_cells H8.out.bQ
          have z1 : w.heap.size < w8.heap.size := H8.out.bP.lt
          have z2 : w.heap.size + 1 < w8.heap.size := H8.out.bQ.lt
          have z3 : w.heap.size ≠ w8.heap.size := by omega
          have z4 : w.heap.size + 1 ≠ w8.heap.size := by omega
          clear hb CP H7 H8 HB8 hxi hxp xb
          go_wp2_with fail
          clear p0 p1 p2 p3 p4 q0 q1 q2 q3 q4
          unfold Pg.cs at x0 x1 x2 x3 x4
          generalize w8.alloc (.cells #[.int .i64 p.fr, .int .i64 p.size, .string (bs p.root), .slice Xi p.items.length xci, .slice Xp p.paths.length xcp] 25) = w9 at *
          have CS : Calls Tryz.prog 20 #[.agg #[.int .i64 p.fr, .int .i64 p.size, .string (bs p.root), .slice Xi p.items.length xci, .slice Xp p.paths.length xcp], .agg #[.int .i64 p.fr, .int .i64 p.size, .string (bs p.root), .slice Ai p.items.length ci, .slice Ap p.paths.length cp]] w9 fun e w' => e = .returned (.bool true) ∧ Below w9.heap.size w9 w' := by
            have := PSame_any p p hp hp _ _ _ _ w9 HXI.out HXP.out H9.out.ti H9.out.tp
            rw [same_refl] at this
            exact this
          refine CS.mono ?_
          rintro e w10 ⟨rfl, hb⟩
          have H10 := hide (H9.out.to hb)
          clear hb CS z1 z2 z3 z4 x0 x1 x2 x3 x4 H9 HXI HXP
          obtain ⟨p0, p1, p2, p3, p4⟩ := page_cells H10.out.bP; obtain ⟨q0, q1, q2, q3, q4⟩ := page_cells H10.out.bQ
          cases hfq : formedB q with
          | false =>
            have E1 : textE q = 1 := by unfold textE; rw [hfq]; rfl
            rw [E1]
            clear hfq E1 V0 hfp
            go_wp2_with fail
            have CP := Parse_any t (by omega) w10 (HG.out.to H10.out.bel)
            unfold ParseR at CP
            clear p0 p1 p2 p3 p4 q0 q1 q2 q3 q4
            cases hpt : parseP t with
            | none =>
              rw [show parseV t = noPg by unfold parseV; rw [hpt]; rfl, show parseE t = 5 by unfold parseE; rw [hpt]; rfl] at CP
              clear hpt
              refine CP.mono ?_
              rintro e w11 ⟨xi, xp, rfl, hxi, hxp, hb⟩
              obtain ⟨Xi, xci, rfl, _⟩ := hxi.slice
              obtain ⟨Xp, xcp, rfl, _⟩ := hxp.slice
              have H11 := hide (H10.out.to hb)
              clear hb CP H10
              rw [show noPg.cs (.slice Xi noPg.items.length xci) (.slice Xp noPg.paths.length xcp) = #[.int .i64 0, .int .i64 0, .string ⟨#[]⟩, .slice Xi 0 xci, .slice Xp 0 xcp] from rfl]
              have HB11 := below_one w11 (.cells #[.int .i64 0, .int .i64 0, .string ⟨#[]⟩, .slice Xi 0 xci, .slice Xp 0 xcp] 25)
              have CS : Calls Tryz.prog 20 #[.agg #[.int .i64 0, .int .i64 0, .string ⟨#[]⟩, .slice Xi 0 xci, .slice Xp 0 xcp], .agg #[.int .i64 0, .int .i64 0, .string ⟨#[]⟩, .slice none 0 0, .slice none 0 0]] (w11.alloc (.cells #[.int .i64 0, .int .i64 0, .string ⟨#[]⟩, .slice Xi 0 xci, .slice Xp 0 xcp] 25)) fun e w' => e = .returned (.bool true) ∧ Below (w11.alloc (.cells #[.int .i64 0, .int .i64 0, .string ⟨#[]⟩, .slice Xi 0 xci, .slice Xp 0 xcp] 25)).heap.size (w11.alloc (.cells #[.int .i64 0, .int .i64 0, .string ⟨#[]⟩, .slice Xi 0 xci, .slice Xp 0 xcp] 25)) w' := by
                have := PSame_any noPg noPg (fit_wide no_fit) (fit_wide no_fit) _ _ (.slice none 0 0) (.slice none 0 0) _ (hxi.to HB11) (hxp.to HB11) (TextsAt.nil _) (PathsAt.nil _)
                rw [same_refl] at this
                exact this
              have HBB := hide (below_to H11.out.bel (Nat.le_refl _) HB11)
              clear hxi hxp HB11 H11
              go_wp2_with fail
              refine CS.mono ?_
              rintro e w12 ⟨rfl, hb⟩
              have HBC := hide (below_to HBB.out (Nat.le_refl _) hb)
              clear hb CS HBB
              go_wp2_with fail
              go_ret
              exact ⟨rfl, HBC.out⟩
            | some y =>
              obtain ⟨hfy, hty⟩ := text_of_parse hpt
              rw [show parseV t = y by unfold parseV; rw [hpt]; rfl, show parseE t = 0 by unfold parseE; rw [hpt]; rfl] at CP
              refine CP.mono ?_
              rintro e w11 ⟨xi, xp, rfl, hxi, hxp, hb⟩
              have H11 := hide (H10.out.to hb)
              have CT := fun (w' : World) (hb' : Below w11.heap.size w11 w') => Text_any y (formed_fit hfy) xi xp w' (HG.out.to (below_to H11.out.bel (Nat.le_refl _) hb')) (hxi.to hb') (hxp.to hb')
              rw [show textV y = t by unfold textV; rw [hfy]; exact hty, show textE y = 0 by unfold textE; rw [hfy]; rfl] at CT
              obtain ⟨Xi, xci, rfl, _⟩ := hxi.slice
              obtain ⟨Xp, xcp, rfl, _⟩ := hxp.slice
              clear hb CP H10 hxi hxp hpt hfy hty
              unfold Pg.cs at CT ⊢
              have HB11 := below_one w11 (.cells #[.int .i64 y.fr, .int .i64 y.size, .string (bs y.root), .slice Xi y.items.length xci, .slice Xp y.paths.length xcp] 25)
              have CT := CT _ HB11
              have HBB := hide (below_to H11.out.bel (Nat.le_refl _) HB11)
              have q : ((bs t).toList == (bs t).toList) = true := by simp
              clear HB11 H11
              go_wp2_with fail
              refine CT.mono ?_
              rintro e w12 ⟨rfl, hb⟩
              have HBC := hide (below_to HBB.out (Nat.le_refl _) hb)
              clear hb CT HBB
              go_wp2_with fail
              go_ret
              exact ⟨rfl, HBC.out⟩
          | true =>
            have E1 : textE q = 0 := by unfold textE; rw [hfq]; rfl
            have V1 : textV q = textPg q := by unfold textV; rw [hfq]; rfl
            rw [E1, V1]
            have QE : ((bs (textPg p)).toList == (bs (textPg q)).toList) = sameP p q := by
              rw [bs_toList, bs_toList, Bool.eq_iff_iff, beq_iff_eq, same_iff]
              exact ⟨fun h => text_inj hfp hfq h, fun h => by rw [h]⟩
            have CS : Calls Tryz.prog 20 #[.agg #[.int .i64 p.fr, .int .i64 p.size, .string (bs p.root), .slice Ai p.items.length ci, .slice Ap p.paths.length cp], .agg #[.int .i64 q.fr, .int .i64 q.size, .string (bs q.root), .slice Bi q.items.length di, .slice Bp q.paths.length dp]] w10 fun e w' => e = .returned (.bool (sameP p q)) ∧ Below w10.heap.size w10 w' := PSame_any p q hp hq _ _ _ _ w10 H10.out.ti H10.out.tp H10.out.ui H10.out.up
            clear hfq E1 V1 V0 hfp
            generalize sameP p q = B at *
            go_wp2_with fail
            refine CS.mono ?_
            rintro e w11 ⟨rfl, hb⟩
            have H11 := hide (H10.out.to hb)
            clear hb CS p0 p1 p2 p3 p4 q0 q1 q2 q3 q4 H10
            obtain ⟨p0, p1, p2, p3, p4⟩ := page_cells H11.out.bP; obtain ⟨q0, q1, q2, q3, q4⟩ := page_cells H11.out.bQ
            have hBB : (B != B) = false := by simp
            go_wp2_with fail
            have CP := Parse_any t (by omega) w11 (HG.out.to H11.out.bel)
            unfold ParseR at CP
            clear p0 p1 p2 p3 p4 q0 q1 q2 q3 q4
            cases hpt : parseP t with
            | none =>
              rw [show parseV t = noPg by unfold parseV; rw [hpt]; rfl, show parseE t = 5 by unfold parseE; rw [hpt]; rfl] at CP
              clear hpt
              refine CP.mono ?_
              rintro e w12 ⟨xi, xp, rfl, hxi, hxp, hb⟩
              obtain ⟨Xi, xci, rfl, _⟩ := hxi.slice
              obtain ⟨Xp, xcp, rfl, _⟩ := hxp.slice
              have H12 := hide (H11.out.to hb)
              clear hb CP H11
              rw [show noPg.cs (.slice Xi noPg.items.length xci) (.slice Xp noPg.paths.length xcp) = #[.int .i64 0, .int .i64 0, .string ⟨#[]⟩, .slice Xi 0 xci, .slice Xp 0 xcp] from rfl]
              have HB12 := below_one w12 (.cells #[.int .i64 0, .int .i64 0, .string ⟨#[]⟩, .slice Xi 0 xci, .slice Xp 0 xcp] 25)
              have CS : Calls Tryz.prog 20 #[.agg #[.int .i64 0, .int .i64 0, .string ⟨#[]⟩, .slice Xi 0 xci, .slice Xp 0 xcp], .agg #[.int .i64 0, .int .i64 0, .string ⟨#[]⟩, .slice none 0 0, .slice none 0 0]] (w12.alloc (.cells #[.int .i64 0, .int .i64 0, .string ⟨#[]⟩, .slice Xi 0 xci, .slice Xp 0 xcp] 25)) fun e w' => e = .returned (.bool true) ∧ Below (w12.alloc (.cells #[.int .i64 0, .int .i64 0, .string ⟨#[]⟩, .slice Xi 0 xci, .slice Xp 0 xcp] 25)).heap.size (w12.alloc (.cells #[.int .i64 0, .int .i64 0, .string ⟨#[]⟩, .slice Xi 0 xci, .slice Xp 0 xcp] 25)) w' := by
                have := PSame_any noPg noPg (fit_wide no_fit) (fit_wide no_fit) _ _ (.slice none 0 0) (.slice none 0 0) _ (hxi.to HB12) (hxp.to HB12) (TextsAt.nil _) (PathsAt.nil _)
                rw [same_refl] at this
                exact this
              have HBB := hide (below_to H12.out.bel (Nat.le_refl _) HB12)
              clear hxi hxp HB12 H12
              go_wp2_with fail
              refine CS.mono ?_
              rintro e w13 ⟨rfl, hb⟩
              have HBC := hide (below_to HBB.out (Nat.le_refl _) hb)
              clear hb CS HBB
              go_wp2_with fail
              go_ret
              exact ⟨rfl, HBC.out⟩
            | some y =>
              obtain ⟨hfy, hty⟩ := text_of_parse hpt
              rw [show parseV t = y by unfold parseV; rw [hpt]; rfl, show parseE t = 0 by unfold parseE; rw [hpt]; rfl] at CP
              refine CP.mono ?_
              rintro e w12 ⟨xi, xp, rfl, hxi, hxp, hb⟩
              have H12 := hide (H11.out.to hb)
              have CT := fun (w' : World) (hb' : Below w12.heap.size w12 w') => Text_any y (formed_fit hfy) xi xp w' (HG.out.to (below_to H12.out.bel (Nat.le_refl _) hb')) (hxi.to hb') (hxp.to hb')
              rw [show textV y = t by unfold textV; rw [hfy]; exact hty, show textE y = 0 by unfold textE; rw [hfy]; rfl] at CT
              obtain ⟨Xi, xci, rfl, _⟩ := hxi.slice
              obtain ⟨Xp, xcp, rfl, _⟩ := hxp.slice
              clear hb CP H11 hxi hxp hpt hfy hty
              unfold Pg.cs at CT ⊢
              have HB12 := below_one w12 (.cells #[.int .i64 y.fr, .int .i64 y.size, .string (bs y.root), .slice Xi y.items.length xci, .slice Xp y.paths.length xcp] 25)
              have CT := CT _ HB12
              have HBB := hide (below_to H12.out.bel (Nat.le_refl _) HB12)
              have q : ((bs t).toList == (bs t).toList) = true := by simp
              clear HB12 H12
              go_wp2_with fail
              refine CT.mono ?_
              rintro e w13 ⟨rfl, hb⟩
              have HBC := hide (below_to HBB.out (Nat.le_refl _) hb)
              clear hb CT HBB
              go_wp2_with fail
              go_ret
              exact ⟨rfl, HBC.out⟩
      · have c0 : decide ((3000 : Int) < (t.length : Int)) = true := decide_eq_true (by omega)
        go_wp2_with (first | ((with_reducible refine CF.mono ?_); rintro e w4 ⟨rfl, hb⟩; have CG := CG w4 hb; have H4 := hide (H3.out.to hb); clear hb CF p0 p1 p2 p3 p4 q0 q1 q2 q3 q4 H3; obtain ⟨p0, p1, p2, p3, p4⟩ := page_cells H4.out.bP; obtain ⟨q0, q1, q2, q3, q4⟩ := page_cells H4.out.bQ) | ((with_reducible refine CG.mono ?_); rintro e w5 ⟨rfl, hb⟩; have H5 := hide (H4.out.to hb); clear hb CG p0 p1 p2 p3 p4 q0 q1 q2 q3 q4 H4))
        go_ret
        exact ⟨rfl, H5.out.bel⟩
end Go.Proofs.YtfhanbiifjiklaaGreatDoor

/- The walk of PageComplete. -/
set_option linter.unusedVariables false
set_option linter.unusedSimpArgs false
namespace Go.Proofs.YtfhanbiifjiklaaGreatDoor
open Go.RowKit

theorem NewL {items : List (List UInt8)} (h : Lg items) (w : World) (hg : Glob w) : Calls Tryz.prog 21 #[.string (bs (rootL items)), .int .i64 (items.length : Int)] w fun e w' => ∃ b, e = .returned (.tuple #[cliP b, .int .i64 0]) ∧ w.heap.size ≤ b ∧ CliAt b (rootL items) items.length [] (.slice none 0 0) w' ∧ Below w.heap.size w w' := by
  have := New_any (rootL items) (by rw [isD_len (root_isD items)]; decide) items.length w hg
  unfold NewR at this
  simp only [new_yes h, if_true] at this
  refine this.mono ?_
  rintro e w' ⟨⟨b, h1, h2, h3⟩, h4⟩
  exact ⟨b, h1, h2, h3, h4⟩
theorem rootL_any {items : List (List UInt8)} (h : Lg items) (v : Value) (w : World) (hv : TextsAt w v items) (hg : Glob w) : Calls Tryz.prog 22 #[v] w fun e w' => e = .returned (.string (bs (rootL items))) ∧ Below w.heap.size w w' := root_any items h.big.1 h.big.2 v w hv hg
/-- what a client keeps between two pages -/
structure CoI (w : World) (b : Nat) (items : List (List UInt8)) (k : Nat) (v : Value) (W : World) : Prop where
  bel : Below w.heap.size w W
  cli : CliAt b (rootL items) items.length (items.take k) v W
  ord : w.heap.size ≤ b
  le : k ≤ items.length
theorem CoI.to {w W W' : World} {b k : Nat} {items : List (List UInt8)} {v : Value} (h : CoI w b items k v W) (hb : Below W.heap.size W W') : CoI w b items k v W' := ⟨below_to h.bel (Nat.le_refl _) hb, h.cli.to hb, h.ord, h.le⟩
theorem CoI.acc {w W W' : World} {b k k' : Nat} {items : List (List UInt8)} {v v' : Value} (h : CoI w b items k v W) (hT : Two b (rowOr v b) W W') (hc : CliAt b (rootL items) items.length (items.take k') v' W') (hk : k' ≤ items.length) : CoI w b items k' v' W' := by
  have hr : b ≤ rowOr v b := rowOr_le (fun g e => by have := (h.cli.lt g e).1; omega) (Nat.le_refl _)
  exact ⟨h.bel.trans (hT.below h.bel.size h.ord (Nat.le_trans h.ord hr)), hc, h.ord, hk⟩
theorem CoI.next {w W : World} {b k : Nat} {items : List (List UInt8)} {v : Value} (h : CoI w b items k v W) (hl : Lg items) : Calls Tryz.prog 23 #[.pointer (some ⟨b, 0, none⟩)] W fun e w' => e = .returned (.int .i64 (k : Int)) ∧ Below W.heap.size W w' := by
  have := Next_any b _ _ (items.take k) (by have := hl.big.1; rw [List.length_take]; omega) v W h.cli
  rw [List.length_take, Nat.min_eq_left h.le] at this
  exact this
theorem CoI.its {w W : World} {b k : Nat} {items : List (List UInt8)} {v : Value} (h : CoI w b items k v W) (hl : Lg items) : Calls Tryz.prog 26 #[.pointer (some ⟨b, 0, none⟩)] W (ItemsR (items.take k) W) :=
  Items_any b _ _ (items.take k) (by have := hl.big.1; rw [List.length_take]; omega) v W h.cli
/-- a page of the log, wherever its arrays lie behind the client -/
theorem CoI.accept {w W : World} {b k F M lo hi : Nat} {items : List (List UInt8)} {v vi vp : Value} (h : CoI w b items k v W) (hl : Lg items) (hF : F ≤ items.length) (h2 : M ≤ 50) (hg : Glob w) (hp : PgAt lo hi W vi vp (pageV items F M)) (hlo : b < lo) (hv : ∀ g, v.ownBlock = some g → g < lo) :
    Calls Tryz.prog 24 #[.pointer (some ⟨b, 0, none⟩), .agg ((pageV items F M).cs vi vp)] W fun e w' => ∃ v', e = .returned (.int .i64 (if k < F then 13 else 0)) ∧ CoI w b items (if k < F then k else max k (min (F + M) items.length)) v' w' ∧ Two b (rowOr v b) W w' := by
  have C := Accept_any b (rootL items) items.length (items.take k) (by have := hl.big.1; rw [List.length_take]; omega) v (pageV items F M) (page_fit hl hF h2) vi vp W (hg.to h.bel) h.cli hp.ti hp.tp (fun _ e => by have := hp.bi b e; omega) (fun g e _ e2 => by have := hp.bi g e2; have := hv g e; omega)
  rw [page_accE hl hF h2 h.le, page_accV hl hF h2 h.le] at C
  refine C.mono ?_
  rintro e w' ⟨v', h1, h2, h3, _⟩
  exact ⟨v', h1, h.acc h3 h2 (by have := h.le; split <;> omega), h3⟩
set_option maxRecDepth 100000 in
set_option maxHeartbeats 4000000 in
theorem complete_law (items : List (List UInt8)) (hn : items.length ≤ 8796093022208) (hx : ∀ x ∈ items, x.length ≤ 140737488355328) (zs : List Nat) (hz : zs.length ≤ 140737488355328) (hz2 : ∀ z ∈ zs, z ≤ 255) (v vz : Value) (w : World) (hv : TextsAt w v items) (hvz : U8sAt w vz zs) (hg : Glob w) :
    Calls Tryz.prog 4 #[v, vz] w fun e w' => e = .returned (.bool true) ∧ Below w.heap.size w w' := by
  have HS := hide hv
  have HZ := hide hvz
  have HG := hide hg
  have CF := fun (w' : World) (hb : Below w.heap.size w w') => few_any items hn hx v w' (hv.to hb)
  obtain ⟨A, c, rfl, _⟩ := hv.slice
  obtain ⟨Az, cz, rfl, _⟩ := hvz.slice
  have C1 := head_any w hg
  clear hv hvz hg
  go_enter Tryz.func4, Tryz.ntmps4
  go_wp2_with fail
  refine C1.mono ?_
  rintro e w1 ⟨rfl, hb⟩
  have HB1 := hide hb
  have CF := CF w1 hb
  clear hb C1
  go_wp2_with fail
  refine CF.mono ?_
  rintro e w2 ⟨rfl, rfl⟩
  clear CF
  cases hfew : fewI items with
  | false =>
    go_wp2_with fail
    go_ret
    exact ⟨rfl, HB1.out⟩
  | true =>
    have HL := hide (fewI_lg hfew)
    have hlen := HL.out.len
    clear hfew
    go_wp2_with fail
    have C3 := rootL_any HL.out _ w2 (HS.out.to HB1.out) (HG.out.to HB1.out)
    refine C3.mono ?_
    rintro e w3 ⟨rfl, hb⟩
    have HB3 := hide (below_to HB1.out (Nat.le_refl _) hb)
    clear hb C3 HB1
    go_wp2_with fail
    have C4 := NewL HL.out w3 (HG.out.to HB3.out)
    unfold cliP at C4
    refine C4.mono ?_
    rintro e w4 ⟨b, rfl, hbb, hcl, hb⟩
    have H4 : Hid (CoI w b items 0 (.slice none 0 0) w4) := ⟨below_to HB3.out (Nat.le_refl _) hb, hcl, by have := HB3.out.size; omega, by omega⟩
    clear hb C4 HB3 hcl hbb
    go_wp2_with fail
    go_loopw [8] (fun i wr => ∃ (m k : Nat) (v' : Value), i = .int .i64 (m : Int) ∧ m ≤ items.length ∧ m ≤ k ∧ Aside (CoI w b items k v' wr)) (fun i _ => items.length - (intOf i).toNat)
    case atStart => exact ⟨0, 0, _, rfl, by omega, by omega, H4.out⟩
    case round =>
      clear H4
      obtain ⟨m, k, v', rfl, hm, hmk, hI⟩ := hrel
      have hI : Hid (CoI w b items k v' wr) := hI
      have hkn := hI.out.le
      by_cases hlt : m < items.length
      · have e1 : decide ((m : Int) < (items.length : Int)) = true := decide_eq_true (by omega)
        by_cases hmz : m < zs.length
        · have e2 : decide ((m : Int) < (zs.length : Int)) = true := decide_eq_true (by omega)
          obtain ⟨z, hz1⟩ : ∃ z, zs[m]? = some z := ⟨_, List.getElem?_eq_getElem hmz⟩
          have hzb := hz2 z (List.mem_of_getElem? hz1)
          obtain ⟨a, rfl, ha, c0⟩ := (HZ.out.to hI.out.bel).at_ hz1
          clear hz1
          have i0 : (0 : Int) ≤ (m : Int) := by omega
          have i1 : (m : Int) < (zs.length : Int) := by omega
          have hm1 : 1 ≤ 1 + z % 50 := by omega
          have hm2 : 1 + z % 50 ≤ 50 := by omega
          go_wp2_with fail
          have C5 := hI.out.next HL.out
          refine C5.mono ?_
          rintro e w5 ⟨rfl, hb⟩
          have H5 := hide (hI.out.to hb)
          clear hb C5 hI
          go_wp2_with fail
          have C6 := Serve_yes items HL.out.big.1 HL.out.big.2 k (1 + z % 50) (serve_yes HL.out H5.out.le hm1 hm2) _ w5 (HG.out.to H5.out.bel) (HS.out.to H5.out.bel)
          rw [show ((1 + z % 50 : Nat) : Int) = 1 + (z : Int) % 50 by omega] at C6
          unfold ServeR at C6
          refine C6.mono ?_
          rintro e w6 ⟨vi, vp, rfl, hpg, hb⟩
          have HP6 := hide hpg
          have H6 := hide (H5.out.to hb)
          have hvl := fun g e => (H5.out.cli.lt g e).2
          have hbl : b < w5.heap.size := H5.out.cli.blk.lt
          obtain ⟨Ai, ci, rfl, _⟩ := hpg.ti.slice
          obtain ⟨Ap, cp, rfl, _⟩ := hpg.tp.slice
          clear hb hpg C6 H5
          have HP7 := hide (HP6.out.to (below_one w6 (.cells ((pageV items k (1 + z % 50)).cs (.slice Ai (pageV items k (1 + z % 50)).items.length ci) (.slice Ap (pageV items k (1 + z % 50)).paths.length cp)) 25)))
          have H7 := hide (H6.out.to (below_one w6 (.cells ((pageV items k (1 + z % 50)).cs (.slice Ai (pageV items k (1 + z % 50)).items.length ci) (.slice Ap (pageV items k (1 + z % 50)).paths.length cp)) 25)))
          have C7 := H7.out.accept HL.out H7.out.le hm2 HG.out HP7.out hbl hvl
          rw [if_neg (Nat.lt_irrefl k), if_neg (Nat.lt_irrefl k)] at C7
          clear HP6 H6 HP7 hvl hbl
          unfold Pg.cs at C7 H7 ⊢
          go_wp2_with fail
          refine C7.mono ?_
          rintro e w8 ⟨v8, rfl, hI8, _⟩
          have H8 := hide hI8
          clear hI8 C7 H7
          go_wp2_with fail
          refine ⟨⟨m + 1, max k (min (k + (1 + z % 50)) items.length), _, by go_num, by omega, by omega, H8.out⟩, ?_⟩
          simp [intOf]; omega
        · have e2 : decide ((m : Int) < (zs.length : Int)) = false := decide_eq_false (by omega)
          go_wp2_with fail
          have C5 := hI.out.next HL.out
          refine C5.mono ?_
          rintro e w5 ⟨rfl, hb⟩
          have H5 := hide (hI.out.to hb)
          clear hb C5 hI
          go_wp2_with fail
          have C6 := Serve_yes items HL.out.big.1 HL.out.big.2 k (1) (serve_yes HL.out H5.out.le (Nat.le_refl 1) (by decide : 1 ≤ 50)) _ w5 (HG.out.to H5.out.bel) (HS.out.to H5.out.bel)
          have C6 : Calls Tryz.prog 14 #[.slice A items.length c, .int .i64 (k : Int), .int .i64 1] w5 _ := C6
          unfold ServeR at C6
          refine C6.mono ?_
          rintro e w6 ⟨vi, vp, rfl, hpg, hb⟩
          have HP6 := hide hpg
          have H6 := hide (H5.out.to hb)
          have hvl := fun g e => (H5.out.cli.lt g e).2
          have hbl : b < w5.heap.size := H5.out.cli.blk.lt
          obtain ⟨Ai, ci, rfl, _⟩ := hpg.ti.slice
          obtain ⟨Ap, cp, rfl, _⟩ := hpg.tp.slice
          clear hb hpg C6 H5
          have HP7 := hide (HP6.out.to (below_one w6 (.cells ((pageV items k (1)).cs (.slice Ai (pageV items k (1)).items.length ci) (.slice Ap (pageV items k (1)).paths.length cp)) 25)))
          have H7 := hide (H6.out.to (below_one w6 (.cells ((pageV items k (1)).cs (.slice Ai (pageV items k (1)).items.length ci) (.slice Ap (pageV items k (1)).paths.length cp)) 25)))
          have C7 := H7.out.accept HL.out H7.out.le (by decide : 1 ≤ 50) HG.out HP7.out hbl hvl
          rw [if_neg (Nat.lt_irrefl k), if_neg (Nat.lt_irrefl k)] at C7
          clear HP6 H6 HP7 hvl hbl
          unfold Pg.cs at C7 H7 ⊢
          go_wp2_with fail
          refine C7.mono ?_
          rintro e w8 ⟨v8, rfl, hI8, _⟩
          have H8 := hide hI8
          clear hI8 C7 H7
          go_wp2_with fail
          refine ⟨⟨m + 1, max k (min (k + (1)) items.length), _, by go_num, by omega, by have := (Nat.le_refl 1); omega, H8.out⟩, ?_⟩
          simp [intOf]; omega
      · obtain rfl : m = items.length := by omega
        obtain rfl : k = items.length := by omega
        have e1 : decide ((items.length : Int) < (items.length : Int)) = false := by simp
        go_wp2_with fail
        have C5 := hI.out.its HL.out
        unfold ItemsR at C5
        rw [List.take_length] at C5
        refine C5.mono ?_
        rintro e w5 ⟨v5, rfl, ho, hb⟩
        have H5 := hide (hI.out.to hb)
        have HT := hide (TextsAt.of_own ho)
        obtain ⟨A5, c5, rfl⟩ := own_sl4 ho
        clear hb C5 hI ho
        go_wp2_with fail
        have C6 : Calls Tryz.prog 25 #[.slice A5 items.length c5, .slice A items.length c] w5 fun e w' => e = .returned (.bool true) ∧ Below w5.heap.size w5 w' := by
          have := Same_any items items hn hn _ _ w5 HT.out (HS.out.to H5.out.bel)
          rwa [decide_eq_true rfl] at this
        refine C6.mono ?_
        rintro e w6 ⟨rfl, hb⟩
        have H6 := hide (H5.out.to hb)
        clear hb C6 H5 HT
        go_wp2_with fail
        have C7 := H6.out.next HL.out
        refine C7.mono ?_
        rintro e w7 ⟨rfl, hb⟩
        have H7 := hide (H6.out.to hb)
        clear hb C7 H6
        have hq : ((items.length : Int) == (items.length : Int)) = true := by simp
        go_wp2_with fail
        go_ret
        exact ⟨ret_bool (by simp), H7.out.bel⟩
end Go.Proofs.YtfhanbiifjiklaaGreatDoor

/- The walk of PageForgery. -/
set_option linter.unusedVariables false
set_option linter.unusedSimpArgs false
namespace Go.Proofs.YtfhanbiifjiklaaGreatDoor
open Go.RowKit Go.Shelf
attribute [local go_sem] Oper.semAt_some

/-- a page that came in, in a box of the call -/
structure FgI (w : World) (p : Pg) (vi vp : Value) (W : World) : Prop where
  bel : Below w.heap.size w W
  box : Blk W w.heap.size 25 (p.cs vi vp)
theorem FgI.to {w W W' : World} {p : Pg} {vi vp : Value} (h : FgI w p vi vp W) (hb : Below W.heap.size W W') : FgI w p vi vp W' := ⟨below_to h.bel (Nat.le_refl _) hb, h.box.to hb⟩
theorem FgI.two {w W W' : World} {p : Pg} {vi vp : Value} {b r : Nat} (h : FgI w p vi vp W) (hT : Two b r W W') (hb : w.heap.size < b) (hr : b ≤ r) : FgI w p vi vp W' := ⟨h.bel.trans (hT.below h.bel.size (by omega) (by omega)), hT.blk h.box (by omega) (by omega)⟩
theorem texts_far {w : World} {vi : Value} {ls : List (List UInt8)} (h : TextsAt w vi ls) {b : Nat} (hb : w.heap.size ≤ b) : ls ≠ [] → vi.ownBlock ≠ some b := fun hne e => by
  obtain ⟨x, hx⟩ : ∃ x, ls[0]? = some x := ⟨_, List.getElem?_eq_getElem (List.length_pos_iff.2 hne)⟩
  obtain ⟨A, c, rfl, _⟩ := h.slice
  obtain ⟨a, rfl, hl, _⟩ := h.at_ hx
  have : a.block = b := Option.some.inj e
  omega
theorem shown_app {D K : List (List UInt8)} (hc : CollIn (D ++ K)) (hn : D.length + K.length ≤ 1000000) (hD : ∀ s ∈ D, s.length ≤ 1000000) (hK : ∀ s ∈ K, s.length ≤ 1000000) (w : World) (v : Value) (hv : TextsAt w v (D ++ K)) : Calls Tryz.prog 29 #[v] w fun e w' => e = .returned (.bool true) ∧ Below w.heap.size w w' :=
  Shown_yes (D ++ K) (by rw [List.length_append]; exact hn) (fun x hx => (List.mem_append.1 hx).elim (hD x) (hK x)) hc v w hv
set_option maxRecDepth 100000 in
set_option maxHeartbeats 4000000 in
theorem forgery_law (items : List (List UInt8)) (hn : items.length ≤ 8796093022208) (hx : ∀ x ∈ items, x.length ≤ 140737488355328) (p : Pg) (hp : p.wide) (hpf : -9223372036854775808 ≤ p.fr ∧ p.fr ≤ 9223372036854775807) (hps : -9223372036854775808 ≤ p.size ∧ p.size ≤ 9223372036854775807) (v vi vp : Value) (w : World) (hv : TextsAt w v items) (hvi : TextsAt w vi p.items) (hvp : PathsAt w vp p.paths) (hg : Glob w) :
    Calls Tryz.prog 5 #[v, .agg (p.cs vi vp)] w fun e w' => e = .returned (.bool true) ∧ Below w.heap.size w w' := by
  have HS := hide hv
  have HG := hide hg
  have HVI := hide hvi
  have HVP := hide hvp
  have CF := fun (w' : World) (hb : Below w.heap.size w w') => few_any items hn hx v w' (hv.to hb)
  have CP := fun (w' : World) (hb : Below w.heap.size w w') => FewP_any p hp vi vp w' (hvi.to hb) (hvp.to hb)
  have H1 : Hid (FgI w p vi vp (w.alloc (.cells (p.cs vi vp) 25))) := ⟨below_one _ _, Blk.new _ _ _⟩
  obtain ⟨A, c, rfl, _⟩ := hv.slice
  obtain ⟨Ai, ci, rfl, _⟩ := hvi.slice
  obtain ⟨Ap, cp, rfl, _⟩ := hvp.slice
  clear hv hg hvi hvp
  unfold Pg.cs at CP H1 ⊢
  go_enter Tryz.func5, Tryz.ntmps5
  go_wp2_with fail
  generalize w.alloc (.cells #[.int .i64 p.fr, .int .i64 p.size, .string (bs p.root), .slice Ai p.items.length ci, .slice Ap p.paths.length cp] 25) = w1 at *
  have C1 := head_any w1 (HG.out.to H1.out.bel)
  refine C1.mono ?_
  rintro e w2 ⟨rfl, hb⟩
  have H2 := hide (H1.out.to hb)
  have CF := CF w2 H2.out.bel
  have CP := CP w2 H2.out.bel
  obtain ⟨x0, x1, x2, x3, x4⟩ := page_cells H2.out.box
  clear hb C1 H1
  have FIT := fun h => few_fit (p := p) h hpf hps
  cases hfew : fewI items with
  | false =>
    rw [hfew] at CF
    clear hfew
    go_wp2_with ((with_reducible refine CF.mono ?_); rintro e w3 ⟨rfl, e9⟩; subst e9)
    go_ret
    exact ⟨rfl, H2.out.bel⟩
  | true =>
    have HL := hide (fewI_lg hfew)
    rw [hfew] at CF
    clear hfew
    cases hfp : fewP p with
    | false =>
      rw [hfp] at CP
      clear hfp
      go_wp2_with (first | ((with_reducible refine CF.mono ?_); rintro e w3 ⟨rfl, e9⟩; subst e9) | ((with_reducible refine CP.mono ?_); rintro e w3 ⟨rfl, hb⟩; have H3 := hide (H2.out.to hb); clear hb))
      go_ret
      exact ⟨rfl, H3.out.bel⟩
    | true =>
      have HFT := hide (FIT hfp).1
      have HP6 := hide (FIT hfp).2.2
      rw [hfp] at CP
      clear hfp FIT
      go_wp2_with (first | ((with_reducible refine CF.mono ?_); rintro e w3 ⟨rfl, e9⟩; subst e9) | ((with_reducible refine CP.mono ?_); rintro e w3 ⟨rfl, hb⟩; have H3 := hide (H2.out.to hb); clear hb))
      clear CF CP x0 x1 x2 x3 x4
      have C3 := rootL_any HL.out _ w3 (HS.out.to H3.out.bel) (HG.out.to H3.out.bel)
      refine C3.mono ?_
      rintro e w4 ⟨rfl, hb⟩
      have H4 := hide (H3.out.to hb)
      have hlen := HL.out.len
      clear hb C3 H3 H2
      go_wp2_with fail
      have C4 := NewL HL.out w4 (HG.out.to H4.out.bel)
      unfold cliP at C4
      refine C4.mono ?_
      rintro e w5 ⟨b, rfl, hbb, hcl, hb⟩
      have H5 := hide (H4.out.to hb)
      have HC5 := hide hcl
      have hwb : w.heap.size < b := by have := H4.out.box.lt; omega
      clear hb C4 H4 hcl hbb
      obtain ⟨x0, x1, x2, x3, x4⟩ := page_cells H5.out.box
      go_wp2_with fail
      have C6 := Accept_any b (rootL items) items.length [] (by decide) (.slice none 0 0) p HFT.out (.slice Ai p.items.length ci) (.slice Ap p.paths.length cp) w5 (HG.out.to H5.out.bel) HC5.out (HVI.out.to H5.out.bel) (HVP.out.to H5.out.bel) (texts_far HVI.out (by omega)) (fun g e => by cases e)
      unfold AcceptR cliP Pg.cs at C6
      refine C6.mono ?_
      rintro e w6 ⟨v6, rfl, hcl, hT, _⟩
      have HF6 : Hid (FgI w p (.slice Ai p.items.length ci) (.slice Ap p.paths.length cp) w6) := H5.out.two hT hwb (Nat.le_refl _)
      have HC6 := hide hcl
      clear C6 hcl hT H5 HC5 x0 x1 x2 x3 x4
      by_cases hacc : accE p (rootL items) items.length [] = 0
      · obtain ⟨hfo, hho, hro, hso, hfz⟩ := acc_facts hacc
        have hfs := (formed_spec hfo).1
        have hfr0 : p.fr.toNat = 0 := by simp at hfz; omega
        have hfr1 : p.fr = 0 := by simp at hfz; omega
        have hav : accV p (rootL items) items.length [] = p.items := by unfold accV; rw [if_pos hacc]; simp
        rw [hav] at HC6
        rw [hacc]
        have hil := hfs.2.2.2.1
        have hlen2 : p.items.length ≤ items.length := by have := held_same hho; omega
        obtain ⟨x0, x1, x2, x3, x4⟩ := page_cells HF6.out.box
        have C7 : Calls Tryz.prog 27 #[.agg #[.int .i64 p.fr, .int .i64 p.size, .string (bs p.root), .slice Ai p.items.length ci, .slice Ap p.paths.length cp]] w6 fun e w' => e = .returned (.bool true) ∧ Below w6.heap.size w6 w' := Holds_yes p HFT.out hfo hho _ _ w6 (HVI.out.to HF6.out.bel) (HVP.out.to HF6.out.bel)
        have y1 : (p.size != (items.length : Int)) = false := by rw [hso]; simp
        have y2 : (p.fr != 0) = false := by rw [hfr1]; rfl
        have HFO := hide hfo
        have HHO := hide hho
        have HRO := hide hro
        have HSO := hide hso
        have HFR := hide hfr0
        have HLN := hide hlen2
        have HIL := hide hil
        clear hfo hho hro hso hfr0 hfr1 hlen2 hil hav hacc hfs hfz
        go_wp2_with fail
        refine C7.mono ?_
        rintro e w7 ⟨rfl, hb⟩
        have HFI := hide (HF6.out.to hb)
        have HC7 := hide (HC6.out.to hb)
        clear hb C7 HF6 HC6 x0 x1 x2 x3 x4
        obtain ⟨x0, x1, x2, x3, x4⟩ := page_cells HFI.out.box
        go_wp2_with fail
        clear x0 x1 x2 x3 x4
        have HBG : Hid (∀ W, Below w7.heap.size w7 W → Calls Tryz.prog 28 #[.slice A items.length c, .slice Ai p.items.length ci] W fun e w' => e = .returned (.bool (beginsV items p.items)) ∧ Below W.heap.size W w') := fun W h => Begins_any items p.items (by omega) (by have := HIL.out; omega) _ _ W ((HS.out.to HFI.out.bel).to h) ((HVI.out.to HFI.out.bel).to h)
        have HIT : Hid (∀ W, Below w7.heap.size w7 W → Calls Tryz.prog 26 #[.pointer (some ⟨b, 0, none⟩)] W (ItemsR p.items W)) := fun W h => Items_any b _ _ p.items (by have := HIL.out; omega) v6 W (HC7.out.to h)
        have HSS : Hid (∀ W, Below w7.heap.size w7 W → ∀ u, TextsAt W u p.items → Calls Tryz.prog 25 #[u, .slice Ai p.items.length ci] W fun e w' => e = .returned (.bool true) ∧ Below W.heap.size W w') := fun W h u hu => by
          have := Same_any p.items p.items (by have := HIL.out; omega) (by have := HIL.out; omega) u _ W hu ((HVI.out.to HFI.out.bel).to h)
          rwa [decide_eq_true rfl] at this
        clear HC7 y1 y2
        cases hB : beginsV items p.items with
        | true =>
          rw [hB] at HBG
          clear hB
          apply wp_region_lo3 (C := fun W => Below w7.heap.size w7 W) (V := [some _, some _, some _, some _, some _, some _, none, some _, some _, some _, some _]) (Fs := [(6, fun a W => ∃ v, a.tmps[59]? = some v ∧ TextsAt W v p.items)]) (Ns := []) (Rel := fun i b b' x x' => Below x.heap.size x x')
          case hm => kernel_rfl
          case hB => kernel_rfl
          case hCw => exact (Below.refl _ w7).drew
          case hC =>
            intro i a a' w_ w' hw hr
            have hr' : Below w_.heap.size w_ w' := hr
            exact below_to hw (Nat.le_refl _) hr'
          case hst =>
            refine keeps3_cons (fun i a a' w_ w' hne hwt hs hput hr h => by
              have hr' : Below w_.heap.size w_ w' := hr
              obtain ⟨v, h1, h2⟩ := h
              exact ⟨v, (hs 59 (by kernel_rfl)).trans h1, h2.to hr'⟩) ?_
            exact keeps3_nil
          case hN0 => exact pre0_nil
          case hNst =>
            exact prek_nil3
          case hop =>
            refine ⟨?_, ?_, ?_, ?_, ?_, ?_, ?_, ?_, ?_, ?_, ?_, trivial⟩
            · intro a w_ K hw hS hd hN hK
              have s0 := hS.at 0 (by kernel_rfl) rfl
              rw [if_pos (want_free rfl)]
              go_simp
              exact hK _ _ (Below.refl _ _) (vok rfl) (facts_cons (fun h => absurd h (by decide)) facts_nil)
            · intro a w_ K hw hS hd hN hK
              have s3 := hS.at 3 (by kernel_rfl) rfl
              rw [if_pos (want_free rfl)]
              go_simp
              exact hK _ _ (Below.refl _ _) (vok rfl) (facts_cons (fun h => absurd h (by decide)) facts_nil)
            · intro a w_ K hw hS hd hN hK
              have s54 := (waits_on hd 1 (by kernel_rfl)).at (d := 54) rfl rfl rfl
              rw [if_pos (want_free rfl)]
              obtain ⟨x0, x1, x2, x3, x4⟩ := page_cells (HFI.out.to hw).box
              go_simp
              exact hK _ _ (Below.refl _ _) (vok rfl) (facts_cons (fun h => absurd h (by decide)) facts_nil)
            · intro a w_ K hw hS hd hN hK
              have s53 := (waits_on hd 0 (by kernel_rfl)).at (d := 53) rfl rfl rfl
              have s55 := (waits_on hd 2 (by kernel_rfl)).at (d := 55) rfl rfl rfl
              rw [if_pos (want_free rfl)]
              go_simp
              with_reducible refine (HBG.out w_ hw).mono ?_
              rintro e w' ⟨rfl, hb⟩
              exact hK _ _ hb (vok rfl) (facts_cons (fun h => absurd h (by decide)) facts_nil)
            · intro a w_ K hw hS hd hN hK
              have s56 := (waits_on hd 3 (by kernel_rfl)).at (d := 56) rfl rfl rfl
              rw [if_pos (want_free rfl)]
              go_simp
              exact hK _ _ (Below.refl _ _) (vok rfl) (facts_cons (fun h => absurd h (by decide)) facts_nil)
            · intro a w_ K hw hS hd hN hK
              have s57 := (waits_on hd 4 (by kernel_rfl)).at (d := 57) rfl rfl rfl
              have s6 := hS.at 6 (by kernel_rfl) rfl
              rw [if_pos (want_yes rfl rfl rfl s57)]
              go_simp
              exact hK _ _ (Below.refl _ _) (vok rfl) (facts_cons (fun h => absurd h (by decide)) facts_nil)
            · intro a w_ K hw hS hd hN hK
              have s57 := (waits_on hd 4 (by kernel_rfl)).at (d := 57) rfl rfl rfl
              have s58 := (waits_on hd 5 (by kernel_rfl)).at (d := 58) rfl rfl rfl
              rw [if_pos (want_yes rfl rfl rfl s57)]
              go_simp
              refine (HIT.out w_ hw).mono ?_
              rintro e w' ⟨v7, rfl, ho7, hb7⟩
              exact hK _ _ hb7 (vfree rfl) (facts_cons (fun _ => ⟨v7, hS.put_at (by kernel_rfl) _, TextsAt.of_own ho7⟩) facts_nil)
            · intro a w_ K hw hS hd hN hK
              have s57 := (waits_on hd 4 (by kernel_rfl)).at (d := 57) rfl rfl rfl
              have s3 := hS.at 3 (by kernel_rfl) rfl
              rw [if_pos (want_yes rfl rfl rfl s57)]
              go_simp
              exact hK _ _ (Below.refl _ _) (vok rfl) (facts_cons (fun h => absurd h (by decide)) facts_nil)
            · intro a w_ K hw hS hd hN hK
              have s57 := (waits_on hd 4 (by kernel_rfl)).at (d := 57) rfl rfl rfl
              have s60 := (waits_on hd 7 (by kernel_rfl)).at (d := 60) rfl rfl rfl
              rw [if_pos (want_yes rfl rfl rfl s57)]
              obtain ⟨x0, x1, x2, x3, x4⟩ := page_cells (HFI.out.to hw).box
              go_simp
              exact hK _ _ (Below.refl _ _) (vok rfl) (facts_cons (fun h => absurd h (by decide)) facts_nil)
            · intro a w_ K hw hS hd hN hK
              have s57 := (waits_on hd 4 (by kernel_rfl)).at (d := 57) rfl rfl rfl
              obtain ⟨v59, s59, t59⟩ := (waits_on hd 6 (by kernel_rfl)).2 _ (List.mem_cons_self ..) rfl
              have s61 := (waits_on hd 8 (by kernel_rfl)).at (d := 61) rfl rfl rfl
              rw [if_pos (want_yes rfl rfl rfl s57)]
              go_simp
              with_reducible refine (HSS.out w_ hw v59 t59).mono ?_
              rintro e w' ⟨rfl, hb⟩
              exact hK _ _ hb (vok rfl) (facts_cons (fun h => absurd h (by decide)) facts_nil)
            · intro a w_ K hw hS hd hN hK
              have s57 := (waits_on hd 4 (by kernel_rfl)).at (d := 57) rfl rfl rfl
              have s62 := (waits_on hd 9 (by kernel_rfl)).at (d := 62) rfl rfl rfl
              rw [if_pos (want_free rfl)]
              go_simp
              exact hK _ _ (Below.refl _ _) (vok rfl) (facts_cons (fun h => absurd h (by decide)) facts_nil)
          case hfin =>
            intro a w8 hw hS hk
            have s53 := (hk 0 (by decide)).at (d := 53) rfl rfl rfl
            have s54 := (hk 1 (by decide)).at (d := 54) rfl rfl rfl
            have s55 := (hk 2 (by decide)).at (d := 55) rfl rfl rfl
            have s56 := (hk 3 (by decide)).at (d := 56) rfl rfl rfl
            have s57 := (hk 4 (by decide)).at (d := 57) rfl rfl rfl
            have s58 := (hk 5 (by decide)).at (d := 58) rfl rfl rfl
            obtain ⟨v59, s59, t59⟩ := (hk 6 (by decide)).2 _ (List.mem_cons_self ..) rfl
            have s60 := (hk 7 (by decide)).at (d := 60) rfl rfl rfl
            have s61 := (hk 8 (by decide)).at (d := 61) rfl rfl rfl
            have s62 := (hk 9 (by decide)).at (d := 62) rfl rfl rfl
            have s63 := (hk 10 (by decide)).at (d := 63) rfl rfl rfl
            have hlit := hS.lit _ (by kernel_rfl) (lits_cons s53 (lits_cons s54 (lits_cons s55 (lits_cons s56 (lits_cons s57 (lits_cons s58 (lits_cons s59 (lits_cons s60 (lits_cons s61 (lits_cons s62 (lits_cons s63 lits_nil)))))))))))
            rw [hlit]
            have HF8 := hide (HFI.out.to hw)
            clear hlit hk hS t59 hw
            simp only [litT, List.setIfInBounds_toArray, List.set_cons_succ, List.set_cons_zero]
            go_wp2_with fail
            go_ret
            exact ⟨rfl, HF8.out.bel⟩
        | false =>
          rw [hB] at HBG
          have HBB := hide hB
          clear hB HSS HIT
          apply wp_region_lo3 (C := fun W => Below w7.heap.size w7 W) (V := [some _, some _, some _, some _, some _, some _, some _, some _, some _, some _, some _]) (Fs := []) (Ns := []) (Rel := fun i b b' x x' => Below x.heap.size x x')
          case hm => kernel_rfl
          case hB => kernel_rfl
          case hCw => exact (Below.refl _ w7).drew
          case hC =>
            intro i a a' w_ w' hw hr
            have hr' : Below w_.heap.size w_ w' := hr
            exact below_to hw (Nat.le_refl _) hr'
          case hst =>
            exact keeps3_nil
          case hN0 => exact pre0_nil
          case hNst =>
            exact prek_nil3
          case hop =>
            refine ⟨?_, ?_, ?_, ?_, ?_, ?_, ?_, ?_, ?_, ?_, ?_, trivial⟩
            · intro a w_ K hw hS hd hN hK
              have s0 := hS.at 0 (by kernel_rfl) rfl
              rw [if_pos (want_free rfl)]
              go_simp
              exact hK _ _ (Below.refl _ _) (vok rfl) facts_nil
            · intro a w_ K hw hS hd hN hK
              have s3 := hS.at 3 (by kernel_rfl) rfl
              rw [if_pos (want_free rfl)]
              go_simp
              exact hK _ _ (Below.refl _ _) (vok rfl) facts_nil
            · intro a w_ K hw hS hd hN hK
              have s54 := (waits_on hd 1 (by kernel_rfl)).at (d := 54) rfl rfl rfl
              rw [if_pos (want_free rfl)]
              obtain ⟨x0, x1, x2, x3, x4⟩ := page_cells (HFI.out.to hw).box
              go_simp
              exact hK _ _ (Below.refl _ _) (vok rfl) facts_nil
            · intro a w_ K hw hS hd hN hK
              have s53 := (waits_on hd 0 (by kernel_rfl)).at (d := 53) rfl rfl rfl
              have s55 := (waits_on hd 2 (by kernel_rfl)).at (d := 55) rfl rfl rfl
              rw [if_pos (want_free rfl)]
              go_simp
              with_reducible refine (HBG.out w_ hw).mono ?_
              rintro e w' ⟨rfl, hb⟩
              exact hK _ _ hb (vok rfl) facts_nil
            · intro a w_ K hw hS hd hN hK
              have s56 := (waits_on hd 3 (by kernel_rfl)).at (d := 56) rfl rfl rfl
              rw [if_pos (want_free rfl)]
              go_simp
              exact hK _ _ (Below.refl _ _) (vok rfl) facts_nil
            · intro a w_ K hw hS hd hN hK
              have s57 := (waits_on hd 4 (by kernel_rfl)).at (d := 57) rfl rfl rfl
              rw [if_neg (want_no rfl rfl rfl s57 rfl)]
              exact hK _ _ (Below.refl _ _) (vok rfl) facts_nil
            · intro a w_ K hw hS hd hN hK
              have s57 := (waits_on hd 4 (by kernel_rfl)).at (d := 57) rfl rfl rfl
              rw [if_neg (want_no rfl rfl rfl s57 rfl)]
              exact hK _ _ (Below.refl _ _) (vok rfl) facts_nil
            · intro a w_ K hw hS hd hN hK
              have s57 := (waits_on hd 4 (by kernel_rfl)).at (d := 57) rfl rfl rfl
              rw [if_neg (want_no rfl rfl rfl s57 rfl)]
              exact hK _ _ (Below.refl _ _) (vok rfl) facts_nil
            · intro a w_ K hw hS hd hN hK
              have s57 := (waits_on hd 4 (by kernel_rfl)).at (d := 57) rfl rfl rfl
              rw [if_neg (want_no rfl rfl rfl s57 rfl)]
              exact hK _ _ (Below.refl _ _) (vok rfl) facts_nil
            · intro a w_ K hw hS hd hN hK
              have s57 := (waits_on hd 4 (by kernel_rfl)).at (d := 57) rfl rfl rfl
              rw [if_neg (want_no rfl rfl rfl s57 rfl)]
              exact hK _ _ (Below.refl _ _) (vok rfl) facts_nil
            · intro a w_ K hw hS hd hN hK
              have s57 := (waits_on hd 4 (by kernel_rfl)).at (d := 57) rfl rfl rfl
              have s62 := (waits_on hd 9 (by kernel_rfl)).at (d := 62) rfl rfl rfl
              rw [if_pos (want_free rfl)]
              go_simp
              exact hK _ _ (Below.refl _ _) (vok rfl) facts_nil
          case hfin =>
            intro a w8 hw hS hk
            have s53 := (hk 0 (by decide)).at (d := 53) rfl rfl rfl
            have s54 := (hk 1 (by decide)).at (d := 54) rfl rfl rfl
            have s55 := (hk 2 (by decide)).at (d := 55) rfl rfl rfl
            have s56 := (hk 3 (by decide)).at (d := 56) rfl rfl rfl
            have s57 := (hk 4 (by decide)).at (d := 57) rfl rfl rfl
            have s58 := (hk 5 (by decide)).at (d := 58) rfl rfl rfl
            have s59 := (hk 6 (by decide)).at (d := 59) rfl rfl rfl
            have s60 := (hk 7 (by decide)).at (d := 60) rfl rfl rfl
            have s61 := (hk 8 (by decide)).at (d := 61) rfl rfl rfl
            have s62 := (hk 9 (by decide)).at (d := 62) rfl rfl rfl
            have s63 := (hk 10 (by decide)).at (d := 63) rfl rfl rfl
            have hlit := hS.lit _ (by kernel_rfl) (lits_cons s53 (lits_cons s54 (lits_cons s55 (lits_cons s56 (lits_cons s57 (lits_cons s58 (lits_cons s59 (lits_cons s60 (lits_cons s61 (lits_cons s62 (lits_cons s63 lits_nil)))))))))))
            rw [hlit]
            have HF8 := hide (HFI.out.to hw)
            clear hlit hk hS hw
            simp only [litT, List.setIfInBounds_toArray, List.set_cons_succ, List.set_cons_zero]
            go_wp2_with fail
            have hfo := HFO.out
            have hho := HHO.out
            have hro := HRO.out
            have hso := HSO.out
            have hfr0 := HFR.out
            have hlen2 := HLN.out
            have hil := HIL.out
            have hB := HBB.out
            have HDG := hide (fun (W : World) (h : Below w8.heap.size w8 W) => Digested_any items HL.out.big.1 HL.out.big.2 (.slice A items.length c) W ((HS.out.to HF8.out.bel).to h))
            have HCK : Hid (∀ W : World, Below w8.heap.size w8 W → Calls Tryz.prog 31 #[.agg #[.int .i64 p.fr, .int .i64 p.size, .string (bs p.root), .slice Ai p.items.length ci, .slice Ap p.paths.length cp]] W (LvR (checkedV p) W)) := fun W h => Checked_any p HFT.out hfo hho _ _ W ((HVI.out.to HF8.out.bel).to h) ((HVP.out.to HF8.out.bel).to h)
            have hdl := dig_len items
            have hcl := chk_len p p.items.length
            have hcl2 : (checkedV p).length ≤ 50 * 10001 := Nat.le_trans hcl (Nat.mul_le_mul hil (by omega))
            have HSH := hide (shown_app (D := digestedV items) (K := checkedV p) (coll_in (by
              obtain ⟨k, x, y, h1, h2, h3⟩ := begins_no hlen2 hB
              exact held_sound hfo hho hro hso (k := k) h2 (by rw [hfr0]; simpa using h1) h3)) (by omega) (dig_small (fun x hx => by have := HL.out.lx x hx; omega)) (chk_small (fun x hx => by have := HP6.out x hx; omega) (fun q hq x hx => by have := (formed_len hfo).1 q hq; rw [this.2 x hx]; decide)))
            clear hcl hB
            clear hfo hho hro hso hfr0 hlen2 hil HFO HHO HRO HSO HFR HLN HIL HBB
            apply wp_region_lo3 (C := fun W => Below w8.heap.size w8 W) (V := [some _, some _, some _, none, some _, none, none, some _, some _, some _]) (Fs := [(3, fun a W => ∃ v, a.tmps[68]? = some v ∧ (a.tmps[71]? = some undef → OwnT W w8.heap.size v (digestedV items))), (5, fun a W => ∃ v, a.tmps[70]? = some v ∧ (a.tmps[71]? = some undef → TextsAt W v (checkedV p))), (6, fun a W => ∃ v, a.tmps[71]? = some v ∧ TextsAt W v (digestedV items ++ checkedV p))]) (Ns := [(6, fun a (_ : World) => a.tmps[71]? = some undef)]) (Rel := fun i b b' x x' => if i = 6 then (fun b b' x x' => ¬ b'.tmps[71]? = some undef ∧ ∃ r, World.grownBy x x' r ∧ ∀ g, r = some g → w8.heap.size ≤ g) b b' x x' else Below x.heap.size x x')
            case hm => kernel_rfl
            case hB => kernel_rfl
            case hCw => exact (Below.refl _ w8).drew
            case hC =>
              intro i a a' w_ w' hw hr
              by_cases e6 : i = 6
              · subst e6
                have hr' : (fun b b' x x' => ¬ b'.tmps[71]? = some undef ∧ ∃ r, World.grownBy x x' r ∧ ∀ g, r = some g → w8.heap.size ≤ g) a a' w_ w' := hr
                obtain ⟨_, r, hg, hv⟩ := hr'
                exact hw.trans (below_grown hg hw.size hv)
              have hr' : Below w_.heap.size w_ w' := by simpa [e6] using hr
              exact below_to hw (Nat.le_refl _) hr'
            case hst =>
              refine keeps3_cons (fun i a a' w_ w' hne hwt hs hput hr h => by
                by_cases e6 : i = 6
                · subst e6
                  have hr' : (fun b b' x x' => ¬ b'.tmps[71]? = some undef ∧ ∃ r, World.grownBy x x' r ∧ ∀ g, r = some g → w8.heap.size ≤ g) a a' w_ w' := hr
                  obtain ⟨v, h1, _⟩ := h
                  exact ⟨v, (hs 68 (by kernel_rfl)).trans h1, fun e => absurd e hr'.1⟩
                have hr' : Below w_.heap.size w_ w' := by simpa [e6] using hr
                obtain ⟨v, h1, h2⟩ := h
                exact ⟨v, (hs 68 (by kernel_rfl)).trans h1, fun e => own_to4 (h2 ((other_slot (d := 71) (k := 6) (by kernel_rfl) hput e6).symm.trans e)) hr'⟩) ?_
              refine keeps3_cons (fun i a a' w_ w' hne hwt hs hput hr h => by
                by_cases e6 : i = 6
                · subst e6
                  have hr' : (fun b b' x x' => ¬ b'.tmps[71]? = some undef ∧ ∃ r, World.grownBy x x' r ∧ ∀ g, r = some g → w8.heap.size ≤ g) a a' w_ w' := hr
                  obtain ⟨v, h1, _⟩ := h
                  exact ⟨v, (hs 70 (by kernel_rfl)).trans h1, fun e => absurd e hr'.1⟩
                have hr' : Below w_.heap.size w_ w' := by simpa [e6] using hr
                obtain ⟨v, h1, h2⟩ := h
                exact ⟨v, (hs 70 (by kernel_rfl)).trans h1, fun e => (h2 ((other_slot (d := 71) (k := 6) (by kernel_rfl) hput e6).symm.trans e)).to hr'⟩) ?_
              refine keeps3_cons (fun i a a' w_ w' hne hwt hs hput hr h => by
                by_cases e6 : i = 6
                · exact absurd e6 hne
                have hr' : Below w_.heap.size w_ w' := by simpa [e6] using hr
                obtain ⟨v, h1, h2⟩ := h
                exact ⟨v, (hs 71 (by kernel_rfl)).trans h1, h2.to hr'⟩) ?_
              exact keeps3_nil
            case hN0 => exact pre0_cons (rfl) (pre0_nil)
            case hNst =>
              refine prek_cons3 (fun i a a' w_ w' hne hwt hr h hput => by
                by_cases e6 : i = 6
                · exact absurd e6 hne
                have hr' : Below w_.heap.size w_ w' := by simpa [e6] using hr
                exact (other_slot (d := 71) (k := 6) (by kernel_rfl) hput e6).trans h) ?_
              exact prek_nil3
            case hop =>
              refine ⟨?_, ?_, ?_, ?_, ?_, ?_, ?_, ?_, ?_, ?_, trivial⟩
              · intro a w_ K hw hS hd hN hK
                have s5 := hS.at 5 (by kernel_rfl) rfl
                rw [if_pos (want_free rfl)]
                go_simp
                exact hK _ _ (Below.refl _ _) (vok rfl) (facts_cons (fun h => absurd h (by decide)) (facts_cons (fun h => absurd h (by decide)) (facts_cons (fun h => absurd h (by decide)) facts_nil)))
              · intro a w_ K hw hS hd hN hK
                have s65 := (waits_on hd 0 (by kernel_rfl)).at (d := 65) rfl rfl rfl
                rw [if_pos (want_free rfl)]
                go_simp
                exact hK _ _ (Below.refl _ _) (vok rfl) (facts_cons (fun h => absurd h (by decide)) (facts_cons (fun h => absurd h (by decide)) (facts_cons (fun h => absurd h (by decide)) facts_nil)))
              · intro a w_ K hw hS hd hN hK
                have s66 := (waits_on hd 1 (by kernel_rfl)).at (d := 66) rfl rfl rfl
                have s0 := hS.at 0 (by kernel_rfl) rfl
                rw [if_pos (want_yes rfl rfl rfl s66)]
                go_simp
                exact hK _ _ (Below.refl _ _) (vok rfl) (facts_cons (fun h => absurd h (by decide)) (facts_cons (fun h => absurd h (by decide)) (facts_cons (fun h => absurd h (by decide)) facts_nil)))
              · intro a w_ K hw hS hd hN hK
                have s66 := (waits_on hd 1 (by kernel_rfl)).at (d := 66) rfl rfl rfl
                have s67 := (waits_on hd 2 (by kernel_rfl)).at (d := 67) rfl rfl rfl
                rw [if_pos (want_yes rfl rfl rfl s66)]
                go_simp
                refine (HDG.out w_ hw).mono ?_
                rintro e w' ⟨v7, rfl, ho7, hb7⟩
                exact hK _ _ hb7 (vfree rfl) (facts_cons (fun _ => ⟨v7, hS.put_at (by kernel_rfl) _, fun _ => own_less ho7 hw.size⟩) (facts_cons (fun h => absurd h (by decide)) (facts_cons (fun h => absurd h (by decide)) facts_nil)))
              · intro a w_ K hw hS hd hN hK
                have s66 := (waits_on hd 1 (by kernel_rfl)).at (d := 66) rfl rfl rfl
                have s3 := hS.at 3 (by kernel_rfl) rfl
                rw [if_pos (want_yes rfl rfl rfl s66)]
                obtain ⟨x0, x1, x2, x3, x4⟩ := page_cells (HF8.out.to hw).box
                go_simp
                exact hK _ _ (Below.refl _ _) (vok rfl) (facts_cons (fun h => absurd h (by decide)) (facts_cons (fun h => absurd h (by decide)) (facts_cons (fun h => absurd h (by decide)) facts_nil)))
              · intro a w_ K hw hS hd hN hK
                have s66 := (waits_on hd 1 (by kernel_rfl)).at (d := 66) rfl rfl rfl
                have s69 := (waits_on hd 4 (by kernel_rfl)).at (d := 69) rfl rfl rfl
                rw [if_pos (want_yes rfl rfl rfl s66)]
                go_simp
                refine (HCK.out w_ hw).mono ?_
                rintro e w' ⟨v7, rfl, ho7, hb7⟩
                exact hK _ _ hb7 (vfree rfl) (facts_cons (fun h => absurd h (by decide)) (facts_cons (fun _ => ⟨v7, hS.put_at (by kernel_rfl) _, fun _ => TextsAt.of_own ho7⟩) (facts_cons (fun h => absurd h (by decide)) facts_nil)))
              · intro a w_ K hw hS hd hN hK
                have s66 := (waits_on hd 1 (by kernel_rfl)).at (d := 66) rfl rfl rfl
                obtain ⟨v68, s68, f68⟩ := (waits_on hd 3 (by kernel_rfl)).2 _ (List.mem_cons_self ..) rfl
                obtain ⟨v70, s70, f70⟩ := (waits_on hd 5 (by kernel_rfl)).2 _ (List.mem_cons_of_mem _ (List.mem_cons_self ..)) rfl
                have hu71 := hN _ (List.mem_cons_self ..) rfl
                rw [if_pos (want_yes rfl rfl rfl s66)]
                refine wp_append_texts (.tmp 68) (.tmp 70) rfl w8.heap.size v68 (digestedV items) (eval_at s68) (f68 hu71) v70 (checkedV p) (eval_at s70) (f70 hu71) (by omega) hw.size ?_
                intro v8 w' ho hg hne
                have hp71 := hS.put_at (s := 71) (by kernel_rfl) v8
                exact hK v8 w' ⟨fun e => hne (Option.some.inj (hp71.symm.trans e)), _, hg, fun g e => (own_blk_lt (f68 hu71) g e).1⟩ (vfree rfl) (facts_cons (fun h => absurd h (by decide)) (facts_cons (fun h => absurd h (by decide)) (facts_cons (fun _ => ⟨v8, hp71, TextsAt.of_own ho⟩) facts_nil)))
              · intro a w_ K hw hS hd hN hK
                have s66 := (waits_on hd 1 (by kernel_rfl)).at (d := 66) rfl rfl rfl
                obtain ⟨v71, s71, t71⟩ := (waits_on hd 6 (by kernel_rfl)).2 _ (List.mem_cons_of_mem _ (List.mem_cons_of_mem _ (List.mem_cons_self ..))) rfl
                rw [if_pos (want_yes rfl rfl rfl s66)]
                go_simp
                with_reducible refine (HSH.out w_ v71 t71).mono ?_
                rintro e w' ⟨rfl, hb⟩
                exact hK _ _ hb (vok rfl) (facts_cons (fun h => absurd h (by decide)) (facts_cons (fun h => absurd h (by decide)) (facts_cons (fun h => absurd h (by decide)) facts_nil)))
              · intro a w_ K hw hS hd hN hK
                have s66 := (waits_on hd 1 (by kernel_rfl)).at (d := 66) rfl rfl rfl
                have s72 := (waits_on hd 7 (by kernel_rfl)).at (d := 72) rfl rfl rfl
                rw [if_pos (want_free rfl)]
                go_simp
                exact hK _ _ (Below.refl _ _) (vok rfl) (facts_cons (fun h => absurd h (by decide)) (facts_cons (fun h => absurd h (by decide)) (facts_cons (fun h => absurd h (by decide)) facts_nil)))
              · intro a w_ K hw hS hd hN hK
                have s73 := (waits_on hd 8 (by kernel_rfl)).at (d := 73) rfl rfl rfl
                rw [if_pos (want_free rfl)]
                go_simp
                exact hK _ _ (Below.refl _ _) (vok rfl) (facts_cons (fun h => absurd h (by decide)) (facts_cons (fun h => absurd h (by decide)) (facts_cons (fun h => absurd h (by decide)) facts_nil)))
            case hfin =>
              intro a w9 hw hS hk
              have s65 := (hk 0 (by decide)).at (d := 65) rfl rfl rfl
              have s66 := (hk 1 (by decide)).at (d := 66) rfl rfl rfl
              have s67 := (hk 2 (by decide)).at (d := 67) rfl rfl rfl
              obtain ⟨v68, s68, f68⟩ := (hk 3 (by decide)).2 _ (List.mem_cons_self ..) rfl
              have s69 := (hk 4 (by decide)).at (d := 69) rfl rfl rfl
              obtain ⟨v70, s70, f70⟩ := (hk 5 (by decide)).2 _ (List.mem_cons_of_mem _ (List.mem_cons_self ..)) rfl
              obtain ⟨v71, s71, t71⟩ := (hk 6 (by decide)).2 _ (List.mem_cons_of_mem _ (List.mem_cons_of_mem _ (List.mem_cons_self ..))) rfl
              have s72 := (hk 7 (by decide)).at (d := 72) rfl rfl rfl
              have s73 := (hk 8 (by decide)).at (d := 73) rfl rfl rfl
              have s4 := (hk 9 (by decide)).at (d := 4) rfl rfl rfl
              have hlit := hS.lit _ (by kernel_rfl) (lits_cons s65 (lits_cons s66 (lits_cons s67 (lits_cons s68 (lits_cons s69 (lits_cons s70 (lits_cons s71 (lits_cons s72 (lits_cons s73 (lits_cons s4 lits_nil))))))))))
              rw [hlit]
              have HF9 := hide (below_to HF8.out.bel (Nat.le_refl _) hw)
              clear hlit hk hS f68 f70 t71 hw
              simp only [litT, List.setIfInBounds_toArray, List.set_cons_succ, List.set_cons_zero]
              go_wp2_with fail
              go_ret
              exact ⟨rfl, HF9.out⟩
      · have hav : accV p (rootL items) items.length [] = [] := by unfold accV; rw [if_neg hacc]
        rw [hav] at HC6
        have ha0 : (accE p (rootL items) items.length [] != 0) = true := by rw [bne_iff_ne]; exact hacc
        generalize accE p (rootL items) items.length [] = E at *
        clear hav hacc
        have C7 := Next_any b _ _ [] (by decide) v6 w6 HC6.out
        unfold cliP at C7
        have HC6' := HC6
        go_wp2_with ((with_reducible refine C7.mono ?_); rintro e w7 ⟨rfl, hb⟩; have HF7 := hide (HF6.out.to hb); clear hb)
        go_ret
        exact ⟨rfl, HF7.out.bel⟩
end Go.Proofs.YtfhanbiifjiklaaGreatDoor

/- The walk of PageAny. -/
set_option linter.unusedVariables false
set_option linter.unusedSimpArgs false
namespace Go.Proofs.YtfhanbiifjiklaaGreatDoor
open Go.RowKit Go.Shelf
attribute [local go_sem] Oper.semAt_some

theorem CoI.far {w W : World} {b k p i : Nat} {items : List (List UInt8)} {v u : Value} (h : CoI w b items k v W) (hp : b ≠ p) (hv : v.ownBlock ≠ some p) (hw : w.heap.size ≤ p) : CoI w b items k v (W.setCell ⟨p, i, none⟩ u) :=
  ⟨h.bel.setCell (p := ⟨p, i, none⟩) hw u, ⟨h.cli.blk.far (p := ⟨p, i, none⟩) hp u, ownsRow_set h.cli.own hv⟩, h.ord, h.le⟩
theorem chP_items {p : Pg} {j : Nat} {x : List UInt8} (h : p.items[j]? = some x) : (chP p j).items = p.items.set j (x ++ [120]) := by
  unfold chP; show p.items.set j _ = _; rw [List.getD_eq_getElem?_getD, h]; rfl
theorem CoI.accX {w W : World} {b k : Nat} {items : List (List UInt8)} {v vi vp : Value} {p : Pg} (h : CoI w b items k v W) (hl : Lg items) (hp : p.fit) (hg : Glob w) (hti : TextsAt W vi p.items) (htp : PathsAt W vp p.paths) (h1 : vi.ownBlock ≠ some b) (h2 : ∀ g, v.ownBlock = some g → vi.ownBlock ≠ some g) :
    Calls Tryz.prog 24 #[.pointer (some ⟨b, 0, none⟩), .agg (p.cs vi vp)] W fun e w' => ∃ v', e = .returned (.int .i64 (accE p (rootL items) items.length (items.take k))) ∧ CliAt b (rootL items) items.length (accV p (rootL items) items.length (items.take k)) v' w' ∧ Two b (rowOr v b) W w' := by
  have C := Accept_any b (rootL items) items.length (items.take k) (by have := hl.big.1; rw [List.length_take]; omega) v p hp vi vp W (hg.to h.bel) h.cli hti htp (fun _ => h1) (fun g e _ => h2 g e)
  refine C.mono ?_
  rintro e w' ⟨v', h1, h2, h3, _⟩
  exact ⟨v', h1, h2, h3⟩
theorem accV_up (p : Pg) (r : List UInt8) (s : Int) (its : List (List UInt8)) : (accV p r s its).length ≤ its.length + p.items.length := by
  unfold accV
  split
  · rw [List.length_append, List.length_drop]; omega
  · omega
theorem own_empty {w : World} {B : Nat} (hB : B ≤ w.heap.size) : OwnT (w.alloc (.cells #[] 9)) B (.slice (some ⟨w.heap.size, 0, none⟩) 0 0) [] :=
  ⟨rfl, .inr ⟨w.heap.size, 0, #[], rfl, hB, Blk.new _ _ _, Nat.le_refl _, by decide, rfl, rfl⟩⟩

set_option maxRecDepth 100000 in
set_option maxHeartbeats 1000000 in
theorem any_law (items : List (List UInt8)) (hn : items.length ≤ 8796093022208) (hx : ∀ x ∈ items, x.length ≤ 140737488355328) (zs ys : List Nat) (hzn : zs.length ≤ 140737488355328) (hz2 : ∀ z ∈ zs, z ≤ 255) (hyn : ys.length ≤ 140737488355328) (hy2 : ∀ y ∈ ys, y ≤ 255) (v vz vy : Value) (w : World) (hv : TextsAt w v items) (hvz : U8sAt w vz zs) (hvy : U8sAt w vy ys) (hg : Glob w) :
    Calls Tryz.prog 6 #[v, vz, vy] w fun e w' => e = .returned (.bool true) ∧ Below w.heap.size w w' := by
  have HS := hide hv
  have HZ := hide hvz
  have HY := hide hvy
  have HG := hide hg
  have CF := fun (w' : World) (hb : Below w.heap.size w w') => few_any items hn hx v w' (hv.to hb)
  obtain ⟨A, c, rfl, hc⟩ := hv.slice
  obtain ⟨Az, cz, rfl, _⟩ := hvz.slice
  obtain ⟨Ay, cy, rfl, _⟩ := hvy.slice
  have C1 := head_any w hg
  clear hv hg hvz hvy
  by_cases hok : fewI items = true ∧ zs.length ≤ 20
  · obtain ⟨hfew, hz20⟩ := hok
    have HL := hide (fewI_lg hfew)
    have hlen := HL.out.len
    have e0 : decide ((20 : Int) < (zs.length : Int)) = false := decide_eq_false (by omega)
    have e0' : decide (20 < zs.length) = false := decide_eq_false (by omega)
    rw [hfew] at CF
    clear hfew
    go_enter Tryz.func6, Tryz.ntmps6
    go_wp2_with fail
    refine C1.mono ?_
    rintro e w1 ⟨rfl, hb⟩
    have HB1 := hide hb
    have CF := CF w1 hb
    clear hb C1
    go_wp2_with ((with_reducible refine CF.mono ?_); rintro e w3 ⟨rfl, e9⟩; have e9 := e9.symm; subst e9)
    clear CF
    have C3 := rootL_any HL.out _ w1 (HS.out.to HB1.out) (HG.out.to HB1.out)
    refine C3.mono ?_
    rintro e w3 ⟨rfl, hb⟩
    have HB3 := hide (below_to HB1.out (Nat.le_refl _) hb)
    clear hb C3 HB1
    go_wp2_with fail
    have C4 := NewL HL.out w3 (HG.out.to HB3.out)
    unfold cliP at C4
    refine C4.mono ?_
    rintro e w4 ⟨b, rfl, hbb, hcl, hb⟩
    have H4 : Hid (CoI w b items 0 (.slice none 0 0) w4) := ⟨below_to HB3.out (Nat.le_refl _) hb, hcl, by have := HB3.out.size; omega, by omega⟩
    clear hb C4 HB3 hcl hbb
    go_wp2_with fail
    go_loopw [10, 183] (fun i z183 wr => ∃ (q k : Nat) (v' : Value), i = .int .i64 (q : Int) ∧ q ≤ zs.length ∧ z183 = undef ∧ Aside (CoI w b items k v' wr)) (fun i _ _ => zs.length - (intOf i).toNat)
    case atStart => exact ⟨0, 0, _, rfl, by omega, rfl, H4.out⟩
    case round =>
      clear H4
      obtain ⟨q, k, v', rfl, hq, rfl, hI⟩ := hrel
      have hI : Hid (CoI w b items k v' wr) := hI
      have hkn := hI.out.le
      by_cases hlt : q < zs.length
      · have e1 : decide ((q : Int) < (zs.length : Int)) = true := decide_eq_true (by omega)
        obtain ⟨z, hz1⟩ : ∃ z, zs[q]? = some z := ⟨_, List.getElem?_eq_getElem hlt⟩
        have hzb := hz2 z (List.mem_of_getElem? hz1)
        obtain ⟨a, e9, ha, c00⟩ := HZ.out.at_ hz1
        subst e9
        have HZC := hide (fun (W : World) (h : Below w.heap.size w W) => (h.cell (p := a.add q) (by rw [block_of_add]; exact ha)).trans c00)
        have c0 := HZC.out wr hI.out.bel
        clear c00
        obtain ⟨F, hF⟩ : ∃ F, z % (items.length + 1) = F := ⟨_, rfl⟩
        obtain ⟨M, hM⟩ : ∃ M, 1 + z / 16 = M := ⟨_, rfl⟩
        have hFn : F ≤ items.length := by have := Nat.mod_lt z (show 0 < items.length + 1 by omega); omega
        have hM1 : 1 ≤ M := by omega
        have hM2 : M ≤ 50 := by omega
        have eF : (z : Int) % ((items.length : Int) + 1) = (F : Int) := by rw [← hF]; push_cast; rfl
        have eM : 1 + (z : Int) / 16 = (M : Int) := by rw [← hM]; push_cast; rfl
        have ne1 : ¬ ((items.length : Int) + 1 = 0) := by omega
        have i0 : (0 : Int) ≤ (q : Int) := by omega
        have i1 : (q : Int) < (zs.length : Int) := by omega
        clear hz1 hF hM
        have C5 := Serve_yes items HL.out.big.1 HL.out.big.2 F M (serve_yes HL.out hFn hM1 hM2) (.slice A items.length c) wr (HG.out.to hI.out.bel) (HS.out.to hI.out.bel)
        unfold ServeR at C5
        go_wp2_with fail
        with_reducible refine C5.mono ?_
        rintro e w6 ⟨vi, vp, rfl, hpg, hb⟩
        have HP6 := hide hpg
        have HTP := hide hpg.tp
        have H6 := hide (hI.out.to hb)
        have hvl := hide (fun g e => (hI.out.cli.lt g e).2)
        have hbl : b < wr.heap.size := hI.out.cli.blk.lt
        have hrs := hb.size
        obtain ⟨Ai, ci, rfl, _⟩ := hpg.ti.slice
        obtain ⟨Ap, cp, rfl, _⟩ := hpg.tp.slice
        clear hb hpg C5 hI
        have hw6 : w6.heap.size < (w6.alloc (.cells ((pageV items F M).cs (.slice Ai (pageV items F M).items.length ci) (.slice Ap (pageV items F M).paths.length cp)) 25)).heap.size := by simp
        have HP7 := hide (HP6.out.to (below_one w6 (.cells ((pageV items F M).cs (.slice Ai (pageV items F M).items.length ci) (.slice Ap (pageV items F M).paths.length cp)) 25)))
        have HB7 := hide (below_one w6 (.cells ((pageV items F M).cs (.slice Ai (pageV items F M).items.length ci) (.slice Ap (pageV items F M).paths.length cp)) 25))
        have H7 := hide (H6.out.to (below_one w6 (.cells ((pageV items F M).cs (.slice Ai (pageV items F M).items.length ci) (.slice Ap (pageV items F M).paths.length cp)) 25)))
        have HX7 := hide (Blk.new w6 25 ((pageV items F M).cs (.slice Ai (pageV items F M).items.length ci) (.slice Ap (pageV items F M).paths.length cp)))
        unfold Pg.cs at HP7 H7 HX7 HB7 ⊢
        go_wp2_with fail
        have hil := page_ilen items F M
        clear H6 c0
        generalize hL : (pageV items F M).items.length = L at *
        have HLL := hide hL
        clear hL
        generalize w6.alloc (.cells #[.int .i64 (pageV items F M).fr, .int .i64 (pageV items F M).size, .string (bs (pageV items F M).root), .slice Ai L ci, .slice Ap (pageV items F M).paths.length cp] 25) = w7 at *
        have c1 := HZC.out w7 H7.out.bel
        have x3 : w7.cell? ⟨w6.heap.size, 3, none⟩ = some (.slice Ai L ci) := (HX7.out.cell 3).trans rfl
        have m1 : min ((items.length : Int) - (F : Int)) (M : Int) = (L : Int) := by rw [hil]; omega
        have m2 : ((L : Int) != (L : Int)) = false := by simp
        have HIL := hide hil
        clear hil
        go_quiet (fail)
        have hdr := below_drewN (Below.refl w7.heap.size w7) nq
        have H8 := hide (H7.out.to hdr)
        have HB8 := hide (below_to HB7.out (Nat.le_refl _) hdr)
        have HP8 := hide (HP7.out.to hdr)
        have HX8 := hide (HX7.out.to hdr)
        have hws : w7.heap.size ≤ (w7.drewN nq).heap.size := hdr.size
        clear H7 HP7 HX7 HB7 hdr x3 c1 m1 m2
        generalize w7.drewN nq = w8 at *
        have x3 : w8.cell? ⟨w6.heap.size, 3, none⟩ = some (.slice Ai L ci) := (HX8.out.cell 3).trans rfl
        by_cases hy : q < ys.length
        · obtain ⟨y, hy1⟩ : ∃ y, ys[q]? = some y := ⟨_, List.getElem?_eq_getElem hy⟩
          have hyb := hy2 y (List.mem_of_getElem? hy1)
          obtain ⟨ay, e9, hay, cy0⟩ := HY.out.at_ hy1
          subst e9
          have HYC := hide (fun (W : World) (h : Below w.heap.size w W) => (h.cell (p := ay.add q) (by rw [block_of_add]; exact hay)).trans cy0)
          clear hy1 cy0
          have d1 : decide ((q : Int) < (ys.length : Int)) = true := decide_eq_true (by omega)
          have cy1 := HYC.out w8 H8.out.bel
          have j1 : (q : Int) < (ys.length : Int) := by omega
          by_cases hL0 : 0 < L
          · have d2 : decide ((0 : Int) < (L : Int)) = true := decide_eq_true (by omega)
            have d2' : decide (0 < L) = true := decide_eq_true hL0
            by_cases hy3 : y % 3 = 0
            · have d3 : ((y : Int) % 3 == 0) = true := by rw [beq_iff_eq]; omega
              obtain ⟨J, hJ⟩ : ∃ J, y / 3 % L = J := ⟨_, rfl⟩
              have hJL : J < L := by rw [← hJ]; exact Nat.mod_lt _ hL0
              have eJ : (y : Int) / 3 % (L : Int) = (J : Int) := by rw [← hJ]; push_cast; rfl
              have neL : ¬ ((L : Int) = 0) := by omega
              have neL' : ¬ (L = 0) := by omega
              clear hJ
              go_wp2_with fail
              go_quiet (fail)
              have hdr := below_drewN (Below.refl w8.heap.size w8) nq
              have H9 := hide (H8.out.to hdr)
              have HB9 := hide (below_to HB8.out (Nat.le_refl _) hdr)
              have HP9 := hide (HP8.out.to hdr)
              have HX9 := hide (HX8.out.to hdr)
              have hw89 := hdr.size
              clear hdr H8 HP8 HX8 x3 cy1
              generalize w8.drewN nq = w9 at *
              have x3 := (HX9.out.cell 3).trans (show _ = some (Value.slice Ai L ci) from rfl)
              have hbx : w6.heap.size < w9.heap.size := HX9.out.lt
              have hnx : w6.heap.size ≠ w9.heap.size := by omega
              go_wp2_with (at_builtin; refine wpList_append_texts rfl (.tmp 115) (.tmp 117) rfl w9.heap.size _ [] rfl (own_empty (Nat.le_refl _)) (.slice Ai L ci) (pageV items F M).items rfl (HP9.out.ti.to (below_one w9 (.cells #[] 9))) (by rw [HLL.out]; have := HIL.out; simp; omega) (by simp) ?_)
              intro v10 w10 ho hg10 _
              have hb10 : Below w9.heap.size w9 w10 := (below_one w9 (.cells #[] 9)).trans (below_grown hg10 (by simp) (fun g e => by have : w9.heap.size = g := Option.some.inj e; omega))
              have H10 := hide (H9.out.to hb10)
              have HX10 := hide (HX9.out.to hb10)
              have HB10 := hide ((below_to HB9.out (Nat.le_refl _) hb10))
              have ho : OwnT w10 w9.heap.size v10 (pageV items F M).items := ho
              have HO10 := hide ho
              have ho' := ho
              unfold OwnT at ho'
              rw [HLL.out] at ho'
              obtain ⟨A10, c10, rfl⟩ := own_sl4 ho'
              obtain ⟨g10, rfl, hg9, _⟩ := own_blk4 ho' hL0
              have x3' := (HX10.out.cell 3).trans (show _ = some (Value.slice Ai L ci) from rfl)
              have fr3 := HX10.out.frozen 3
              have hvx : v'.ownBlock ≠ some w6.heap.size := fun e => by have := hvl.out _ e; omega
              have hwx : w.heap.size ≤ w6.heap.size := by have := H10.out.ord; omega
              have H11 := hide (H10.out.far (p := w6.heap.size) (i := 3) (u := .slice (some ⟨g10, 0, none⟩) L c10) (by omega) hvx hwx)
              have HO11 : Hid (OwnT (w10.setCell ⟨w6.heap.size, 3, none⟩ (.slice (some ⟨g10, 0, none⟩) L c10)) w9.heap.size (.slice (some ⟨g10, 0, none⟩) L c10) (pageV items F M).items) := ownsRow_set ho (fun e => by have : g10 = w6.heap.size := Option.some.inj e; omega)
              have HB11 := hide (HB10.out.setCell (p := ⟨w6.heap.size, 3, none⟩) (Nat.le_refl _) (.slice (some ⟨g10, 0, none⟩) L c10))
              have HX11 := hide (HX10.out.set_ 3 (.slice (some ⟨g10, 0, none⟩) L c10))
              clear ho ho' hg10 hb10 H9 HX9 HP9 H10 HX10 HO10 x3
              go_wp2_with fail
              generalize w10.setCell ⟨w6.heap.size, 3, none⟩ (.slice (some ⟨g10, 0, none⟩) L c10) = w11 at *
              obtain ⟨x, hx⟩ : ∃ x, (pageV items F M).items[J]? = some x := ⟨_, List.getElem?_eq_getElem (by rw [HLL.out]; exact hJL)⟩
              have HXJ := hide hx
              have ea : (⟨g10, 0, none⟩ : Addr).add J = ⟨g10, J, none⟩ := by unfold Addr.add; split <;> simp_all
              have HO12 : Hid (w11.ownsRow w9.heap.size 9 1 (.slice (some ⟨g10, 0, none⟩) L c10) L (flatS (pageV items F M).items)) := by
                have := HO11.out
                unfold OwnT at this
                rw [HLL.out] at this
                exact this
              obtain ⟨g11, e11, _, cur, hcur, _⟩ := own_blk4 HO12.out hL0
              obtain rfl : g10 = g11 := by injection e11 with e; injection e
              clear e11
              obtain ⟨U, hU, g, u0, e9, hgu, hi⟩ := cls w11
              subst e9
              have X3 : ∀ u, (g u).cell? ⟨w6.heap.size, 3, none⟩ = some (.slice (some ⟨g10, 0, none⟩) L c10) := blk_all hgu HX11.out 3 rfl
              have CX : ∀ u, (g u).cell? ⟨g10, J, none⟩ = some (.string (bs x)) := fun u => own_cell4 (n := L) (c := c10) (acc := (pageV items F M).items) (by unfold OwnT; rw [HLL.out]; exact own_to4 HO12.out (hgu u)) hx
              have FX : ∀ u, (g u).frozen? ⟨g10, J, none⟩ = false := fun u => (hcur.to (hgu u)).frozen J
              have k0 : (0 : Int) ≤ (J : Int) := by omega
              have k1 : (J : Int) < (L : Int) := by omega
              have hxl := page_small HL.out F M x (List.mem_of_getElem? hx)
              have CAT : ∀ W, (Op.stringOp .add (bs x) { data := #[120] }).run Tryz.prog W = .ok (.string (bs (x ++ [120]))) W := fun W => run_string_add_lists W x [120] (by omega) (by decide)
              clear hxl
              have HGU := hide hgu
              have HHI := hide hi
              clear hgu hi hx hcur
              go_wp2_with fail
              refine wp_region_class_tail g 10 (by kernel_rfl) (by kernel_rfl) (HHI.out _ (HGU.out _).drew) ?_
              simp only [List.take_succ_cons, List.take_zero, List.drop_succ_cons, List.drop_zero]
              repeat (go_big_quiet_step (fail))
              refine wpQuiet_nil ?_
              intro w12 hw12
              obtain ⟨u, rfl⟩ := hw12
              go_wp2_with fail
              have hv13 : v'.ownBlock ≠ some g10 := fun e => by have := hvl.out _ e; omega
              have H13 := hide ((H11.out.to (HGU.out u)).far (p := g10) (i := J) (u := .string (bs (x ++ [120]))) (by omega) hv13 (by omega))
              have HX13 := hide ((HX11.out.to (HGU.out u)).far (p := ⟨g10, J, none⟩) (by show w6.heap.size ≠ g10; omega) (.string (bs (x ++ [120]))))
              have HB13 := hide ((below_to HB11.out (Nat.le_refl _) (HGU.out u)).setCell (p := ⟨g10, J, none⟩) (by show _ ≤ g10; omega) (.string (bs (x ++ [120]))))
              have HT13 : Hid (TextsAt ((g u).setCell ⟨g10, J, none⟩ (.string (bs (x ++ [120])))) (.slice (some ⟨g10, 0, none⟩) L c10) (chP (pageV items F M) J).items) := by
                rw [chP_items HXJ.out]
                exact own_set (n := L) (c := c10) (by unfold OwnT; rw [HLL.out]; exact own_to4 HO12.out (HGU.out u)) HLL.out.symm hJL (x ++ [120])
              clear H11 HX11 HB11 HO11 HO12 CAT CX FX X3 HB10 HB9 HB8
              generalize (g u).setCell ⟨g10, J, none⟩ (.string (bs (x ++ [120]))) = w13 at *
              have C13 := H13.out.next HL.out
              with_reducible refine C13.mono ?_
              rintro e w14 ⟨rfl, hb⟩
              have H14 := hide (H13.out.to hb)
              have HX14 := hide (HX13.out.to hb)
              have HT14 := hide (HT13.out.to hb)
              have HB14 := hide (below_to HB13.out (Nat.le_refl _) hb)
              clear hb C13 H13 HX13 HB13 HT13
              have x0 := (HX14.out.cell 0).trans (show _ = some (Value.int .i64 (pageV items F M).fr) from rfl)
              have x1 := (HX14.out.cell 1).trans (show _ = some (Value.int .i64 (pageV items F M).size) from rfl)
              have x2 := (HX14.out.cell 2).trans (show _ = some (Value.string (bs (pageV items F M).root)) from rfl)
              have x3 := (HX14.out.cell 3).trans (show _ = some (Value.slice (some ⟨g10, 0, none⟩) L c10) from rfl)
              have x4 := (HX14.out.cell 4).trans (show _ = some (Value.slice Ap (pageV items F M).paths.length cp) from rfl)
              have CA := H14.out.accX HL.out (chP_fit (page_fit HL.out hFn hM2) (fun x hx => by have := page_small HL.out F M x hx; omega) J) HG.out (p := chP (pageV items F M) J) (vi := .slice (some ⟨g10, 0, none⟩) L c10) (vp := .slice Ap (pageV items F M).paths.length cp) HT14.out (HTP.out.to HB14.out) (fun e => by have : g10 = b := Option.some.inj e; omega) (fun g e e2 => by have h1 := hvl.out g e; have : g10 = g := Option.some.inj e2; omega)
              have hrow : rowOr v' b < wr.heap.size := by
                unfold rowOr
                cases e : v'.ownBlock with
                | none => exact hbl
                | some g => exact hvl.out g e
              by_cases hE0 : accE (chP (pageV items F M) J) (rootL items) items.length (items.take k) = 0
              · have hTk := accV_len (chP (pageV items F M) J) (rootL items) items.length (items.take k)
                have hTu := accV_up (chP (pageV items F M) J) (rootL items) items.length (items.take k)
                rw [List.length_take, Nat.min_eq_left hkn] at hTk hTu
                rw [chP_len, HLL.out] at hTu
                obtain ⟨TT, hTT⟩ : ∃ TT, accV (chP (pageV items F M) J) (rootL items) items.length (items.take k) = TT := ⟨_, rfl⟩
                have HE0 := hide hE0
                rw [hTT, hE0] at CA
                rw [hTT] at hTk hTu
                clear hTT hE0
                unfold chP Pg.cs at CA
                go_wp2_with fail
                with_reducible refine CA.mono ?_
                rintro e w15 ⟨v15, rfl, hc15, hT⟩
                have hob : b < w.heap.size + b + 1 := by omega
                have HX15 := hide (hT.blk HX14.out (by omega) (by omega))
                have HT15 := hide (HT14.out.two hT (fun e => by have : g10 = b := Option.some.inj e; omega) (fun e => by have : g10 = rowOr v' b := Option.some.inj e; omega))
                have HB15 : Hid (Below w.heap.size w w15) := H14.out.bel.trans (hT.below H14.out.bel.size H14.out.ord (Nat.le_trans H14.out.ord (rowOr_le (fun g e => by have := (H14.out.cli.lt g e).1; omega) (Nat.le_refl _))))
                have HC15 := hide hc15
                have HQ15 : Hid (PgAt wr.heap.size w6.heap.size w15 _ _ (pageV items F M)) := (HP6.out.to HB14.out).two hT (.inl hbl) (.inl hrow)
                clear hc15 hT CA H14 HX14 HT14 HP6 x0 x1 x2 x3 x4
                go_wp2_with fail
                have hTb : TT.length ≤ 1000000 := by have := HL.out.len; have := HIL.out; omega
                have C15 := Items_any b _ _ TT (by omega) v15 w15 HC15.out
                unfold ItemsR cliP at C15
                with_reducible refine C15.mono ?_
                rintro e w16 ⟨v16, rfl, ho, hb⟩
                have HB16 := hide (below_to HB15.out (Nat.le_refl _) hb)
                have HX16 := hide (HX15.out.to hb)
                have HT16 := hide (HT15.out.to hb)
                have HC16 := hide (HC15.out.to hb)
                have HQ16 := hide (HQ15.out.to hb)
                have CB := Begins_any items TT (by omega) (by omega) (.slice A items.length c) v16 w16 (HS.out.to HB16.out) (TextsAt.of_own ho)
                generalize beginsV items TT = bb at CB
                have f1 : ((TT.length : Int) != (TT.length : Int)) = false := by simp
                have f2 : decide ((TT.length : Int) < (k : Int)) = false := decide_eq_false (by omega)
                have f2' : decide (TT.length < k) = false := decide_eq_false (by omega)
                obtain ⟨A16, c16, rfl⟩ := own_sl4 ho
                clear hb C15 HB15 HX15 HT15 HC15 HQ15 ho
                go_wp2_with fail
                cases bb
                all_goals
                  with_reducible refine CB.mono ?_
                  rintro e w17 ⟨rfl, hb⟩
                  have HB17 := hide (below_to HB16.out (Nat.le_refl _) hb)
                  have HX17 := hide (HX16.out.to hb)
                  have HT17 := hide (HT16.out.to hb)
                  have HC17 := hide (HC16.out.to hb)
                  have HQ17 := hide (HQ16.out.to hb)
                  clear hb CB HB16 HX16 HT16 HC16 HQ16
                  go_wp2_with fail
                  have C17 := Next_any b _ _ TT (by omega) v15 w17 HC17.out
                  unfold cliP at C17
                  with_reducible refine C17.mono ?_
                  rintro e w18 ⟨rfl, hb⟩
                  have HB18 := hide (below_to HB17.out (Nat.le_refl _) hb)
                  have HX18 := hide (HX17.out.to hb)
                  have HT18 := hide (HT17.out.to hb)
                  have HC18 := hide (HC17.out.to hb)
                  have HQ18 := hide (HQ17.out.to hb)
                  clear hb C17 HB17 HX17 HT17 HC17 HQ17
                  go_wp2_with fail
                  have C18 := Next_any b _ _ TT (by omega) v15 w18 HC18.out
                  unfold cliP at C18
                  with_reducible refine C18.mono ?_
                  rintro e w19 ⟨rfl, hb⟩
                  have HB19 := hide (below_to HB18.out (Nat.le_refl _) hb)
                  have HX19 := hide (HX18.out.to hb)
                  have HT19 := hide (HT18.out.to hb)
                  have HC19 := hide (HC18.out.to hb)
                  have HQ19 := hide (HQ18.out.to hb)
                  clear hb C18 HB18 HX18 HT18 HC18 HQ18
                  go_wp2_with fail
                  obtain ⟨hfo, hho, _⟩ := acc_facts HE0.out
                  have hpf := chP_fit (page_fit HL.out hFn hM2) (fun x hx => by have := page_small HL.out F M x hx; omega) J
                  have HHD : Hid (∀ W, Below w19.heap.size w19 W → Calls Tryz.prog 27 #[.agg #[.int .i64 (pageV items F M).fr, .int .i64 (pageV items F M).size, .string (bs (pageV items F M).root), .slice (some ⟨g10, 0, none⟩) L c10, .slice Ap (pageV items F M).paths.length cp]] W fun e w' => e = .returned (.bool true) ∧ Below W.heap.size W w') := fun W h => Holds_yes (chP (pageV items F M) J) hpf hfo hho _ _ W (HT19.out.to h) (HQ19.out.tp.to h)
                  have HCK : Hid (∀ W : World, Below w19.heap.size w19 W → Calls Tryz.prog 31 #[.agg #[.int .i64 (pageV items F M).fr, .int .i64 (pageV items F M).size, .string (bs (pageV items F M).root), .slice (some ⟨g10, 0, none⟩) L c10, .slice Ap (pageV items F M).paths.length cp]] W (LvR (checkedV (chP (pageV items F M) J)) W)) := fun W h => Checked_any (chP (pageV items F M) J) hpf hfo hho _ _ W (HT19.out.to h) (HQ19.out.tp.to h)
                  have HDG := hide (fun (W : World) (h : Below w19.heap.size w19 W) => Digested_any items HL.out.big.1 HL.out.big.2 (.slice A items.length c) W ((HS.out.to HB19.out).to h))
                  have hdl := dig_len items
                  have hcl : (checkedV (chP (pageV items F M) J)).length ≤ 50 * 13 := by
                    have h1 := chk_len (chP (pageV items F M) J) (chP (pageV items F M) J).items.length
                    have h2 : (chP (pageV items F M) J).items.length = L := by rw [chP_len]; exact HLL.out
                    have h3 : (chP (pageV items F M) J).size.toNat = items.length := rfl
                    rw [h2, h3] at h1
                    have h4 : L ≤ 50 := by have := HIL.out; omega
                    exact Nat.le_trans (by unfold checkedV; rw [h2]; exact h1) (Nat.mul_le_mul h4 (by omega))
                  have HSH := hide (shown_app (D := digestedV items) (K := checkedV (chP (pageV items F M) J)) (coll_in (changed_coll HL.out hFn (by rw [HLL.out]; exact hJL) HE0.out)) (by omega) (dig_small (fun x hx => by have := HL.out.lx x hx; omega)) (chk_small (chP_small (fun x hx => page_small HL.out F M x hx) J) (fun q hq x hx => by have := (formed_len hfo).1 q hq; rw [this.2 x hx]; decide)))
                  clear hfo hho hpf
                  apply wp_region_lo3 (C := fun W => Below w19.heap.size w19 W) (V := [some _, some _, some _, some _, some _, some _, some _, none, some _, none, none, some _, some _, some _]) (Fs := [(7, fun a W => ∃ v, a.tmps[180]? = some v ∧ (a.tmps[183]? = some undef → OwnT W w19.heap.size v (digestedV items))), (9, fun a W => ∃ v, a.tmps[182]? = some v ∧ (a.tmps[183]? = some undef → TextsAt W v (checkedV (chP (pageV items F M) J)))), (10, fun a W => ∃ v, a.tmps[183]? = some v ∧ TextsAt W v (digestedV items ++ checkedV (chP (pageV items F M) J)))]) (Ns := [(10, fun a (_ : World) => a.tmps[183]? = some undef)]) (Rel := fun i b b' x x' => if i = 10 then (fun b b' x x' => ¬ b'.tmps[183]? = some undef ∧ ∃ r, World.grownBy x x' r ∧ ∀ g, r = some g → w19.heap.size ≤ g) b b' x x' else Below x.heap.size x x')
                  case hm => kernel_rfl
                  case hB => kernel_rfl
                  case hCw => exact (Below.refl _ w19).drew
                  case hC =>
                    intro i a a' w_ w' hw hr
                    by_cases e10 : i = 10
                    · subst e10
                      have hr' : (fun b b' x x' => ¬ b'.tmps[183]? = some undef ∧ ∃ r, World.grownBy x x' r ∧ ∀ g, r = some g → w19.heap.size ≤ g) a a' w_ w' := hr
                      obtain ⟨_, r, hg, hv⟩ := hr'
                      exact hw.trans (below_grown hg hw.size hv)
                    have hr' : Below w_.heap.size w_ w' := by simpa [e10] using hr
                    exact below_to hw (Nat.le_refl _) hr'
                  case hst =>
                    refine keeps3_cons (fun i a a' w_ w' hne hwt hs hput hr h => by
                      by_cases e10 : i = 10
                      · subst e10
                        have hr' : (fun b b' x x' => ¬ b'.tmps[183]? = some undef ∧ ∃ r, World.grownBy x x' r ∧ ∀ g, r = some g → w19.heap.size ≤ g) a a' w_ w' := hr
                        obtain ⟨v, h1, _⟩ := h
                        exact ⟨v, (hs 180 (by kernel_rfl)).trans h1, fun e => absurd e hr'.1⟩
                      have hr' : Below w_.heap.size w_ w' := by simpa [e10] using hr
                      obtain ⟨v, h1, h2⟩ := h
                      exact ⟨v, (hs 180 (by kernel_rfl)).trans h1, fun e => own_to4 (h2 ((other_slot (d := 183) (k := 10) (by kernel_rfl) hput e10).symm.trans e)) hr'⟩) ?_
                    refine keeps3_cons (fun i a a' w_ w' hne hwt hs hput hr h => by
                      by_cases e10 : i = 10
                      · subst e10
                        have hr' : (fun b b' x x' => ¬ b'.tmps[183]? = some undef ∧ ∃ r, World.grownBy x x' r ∧ ∀ g, r = some g → w19.heap.size ≤ g) a a' w_ w' := hr
                        obtain ⟨v, h1, _⟩ := h
                        exact ⟨v, (hs 182 (by kernel_rfl)).trans h1, fun e => absurd e hr'.1⟩
                      have hr' : Below w_.heap.size w_ w' := by simpa [e10] using hr
                      obtain ⟨v, h1, h2⟩ := h
                      exact ⟨v, (hs 182 (by kernel_rfl)).trans h1, fun e => (h2 ((other_slot (d := 183) (k := 10) (by kernel_rfl) hput e10).symm.trans e)).to hr'⟩) ?_
                    refine keeps3_cons (fun i a a' w_ w' hne hwt hs hput hr h => by
                      by_cases e10 : i = 10
                      · exact absurd e10 hne
                      have hr' : Below w_.heap.size w_ w' := by simpa [e10] using hr
                      obtain ⟨v, h1, h2⟩ := h
                      exact ⟨v, (hs 183 (by kernel_rfl)).trans h1, h2.to hr'⟩) ?_
                    exact keeps3_nil
                  case hN0 => exact pre0_cons (rfl) (pre0_nil)
                  case hNst =>
                    refine prek_cons3 (fun i a a' w_ w' hne hwt hr h hput => by
                      by_cases e10 : i = 10
                      · exact absurd e10 hne
                      have hr' : Below w_.heap.size w_ w' := by simpa [e10] using hr
                      exact (other_slot (d := 183) (k := 10) (by kernel_rfl) hput e10).trans h) ?_
                    exact prek_nil3
                  case hop =>
                    refine ⟨?_, ?_, ?_, ?_, ?_, ?_, ?_, ?_, ?_, ?_, ?_, ?_, ?_, ?_, trivial⟩
                    · intro a w_ K hw hS hd hN hK
                      have s7 := hS.at 7 (by kernel_rfl) rfl
                      rw [if_pos (want_free rfl)]
                      go_simp
                      exact hK _ _ (Below.refl _ _) (vok rfl) (facts_cons (fun h => absurd h (by decide)) (facts_cons (fun h => absurd h (by decide)) (facts_cons (fun h => absurd h (by decide)) facts_nil)))
                    · intro a w_ K hw hS hd hN hK
                      have s173 := (waits_on hd 0 (by kernel_rfl)).at (d := 173) rfl rfl rfl
                      rw [if_pos (want_free rfl)]
                      go_simp
                      exact hK _ _ (Below.refl _ _) (vok rfl) (facts_cons (fun h => absurd h (by decide)) (facts_cons (fun h => absurd h (by decide)) (facts_cons (fun h => absurd h (by decide)) facts_nil)))
                    · intro a w_ K hw hS hd hN hK
                      have s174 := (waits_on hd 1 (by kernel_rfl)).at (d := 174) rfl rfl rfl
                      have s12 := hS.at 12 (by kernel_rfl) rfl
                      rw [if_pos (want_yes rfl rfl rfl s174)]
                      have x0 := ((HX19.out.to hw).cell 0).trans (show _ = some (Value.int .i64 (pageV items F M).fr) from rfl)
                      have x1 := ((HX19.out.to hw).cell 1).trans (show _ = some (Value.int .i64 (pageV items F M).size) from rfl)
                      have x2 := ((HX19.out.to hw).cell 2).trans (show _ = some (Value.string (bs (pageV items F M).root)) from rfl)
                      have x3 := ((HX19.out.to hw).cell 3).trans (show _ = some (Value.slice (some ⟨g10, 0, none⟩) L c10) from rfl)
                      have x4 := ((HX19.out.to hw).cell 4).trans (show _ = some (Value.slice Ap (pageV items F M).paths.length cp) from rfl)
                      go_simp
                      exact hK _ _ (Below.refl _ _) (vok rfl) (facts_cons (fun h => absurd h (by decide)) (facts_cons (fun h => absurd h (by decide)) (facts_cons (fun h => absurd h (by decide)) facts_nil)))
                    · intro a w_ K hw hS hd hN hK
                      have s174 := (waits_on hd 1 (by kernel_rfl)).at (d := 174) rfl rfl rfl
                      have s175 := (waits_on hd 2 (by kernel_rfl)).at (d := 175) rfl rfl rfl
                      rw [if_pos (want_yes rfl rfl rfl s174)]
                      go_simp
                      with_reducible refine (HHD.out w_ hw).mono ?_
                      rintro e w' ⟨rfl, hb⟩
                      exact hK _ _ hb (vok rfl) (facts_cons (fun h => absurd h (by decide)) (facts_cons (fun h => absurd h (by decide)) (facts_cons (fun h => absurd h (by decide)) facts_nil)))
                    · intro a w_ K hw hS hd hN hK
                      have s174 := (waits_on hd 1 (by kernel_rfl)).at (d := 174) rfl rfl rfl
                      have s176 := (waits_on hd 3 (by kernel_rfl)).at (d := 176) rfl rfl rfl
                      rw [if_pos (want_free rfl)]
                      go_simp
                      exact hK _ _ (Below.refl _ _) (vok rfl) (facts_cons (fun h => absurd h (by decide)) (facts_cons (fun h => absurd h (by decide)) (facts_cons (fun h => absurd h (by decide)) facts_nil)))
                    · intro a w_ K hw hS hd hN hK
                      have s177 := (waits_on hd 4 (by kernel_rfl)).at (d := 177) rfl rfl rfl
                      rw [if_pos (want_free rfl)]
                      go_simp
                      exact hK _ _ (Below.refl _ _) (vok rfl) (facts_cons (fun h => absurd h (by decide)) (facts_cons (fun h => absurd h (by decide)) (facts_cons (fun h => absurd h (by decide)) facts_nil)))
                    · intro a w_ K hw hS hd hN hK
                      have s178 := (waits_on hd 5 (by kernel_rfl)).at (d := 178) rfl rfl rfl
                      have s0 := hS.at 0 (by kernel_rfl) rfl
                      rw [if_pos (want_yes rfl rfl rfl s178)]
                      go_simp
                      exact hK _ _ (Below.refl _ _) (vok rfl) (facts_cons (fun h => absurd h (by decide)) (facts_cons (fun h => absurd h (by decide)) (facts_cons (fun h => absurd h (by decide)) facts_nil)))
                    · intro a w_ K hw hS hd hN hK
                      have s178 := (waits_on hd 5 (by kernel_rfl)).at (d := 178) rfl rfl rfl
                      have s179 := (waits_on hd 6 (by kernel_rfl)).at (d := 179) rfl rfl rfl
                      rw [if_pos (want_yes rfl rfl rfl s178)]
                      go_simp
                      refine (HDG.out w_ hw).mono ?_
                      rintro e w' ⟨v7, rfl, ho7, hb7⟩
                      exact hK _ _ hb7 (vfree rfl) (facts_cons (fun _ => ⟨v7, hS.put_at (by kernel_rfl) _, fun _ => own_less ho7 hw.size⟩) (facts_cons (fun h => absurd h (by decide)) (facts_cons (fun h => absurd h (by decide)) facts_nil)))
                    · intro a w_ K hw hS hd hN hK
                      have s178 := (waits_on hd 5 (by kernel_rfl)).at (d := 178) rfl rfl rfl
                      have s12 := hS.at 12 (by kernel_rfl) rfl
                      rw [if_pos (want_yes rfl rfl rfl s178)]
                      have x0 := ((HX19.out.to hw).cell 0).trans (show _ = some (Value.int .i64 (pageV items F M).fr) from rfl)
                      have x1 := ((HX19.out.to hw).cell 1).trans (show _ = some (Value.int .i64 (pageV items F M).size) from rfl)
                      have x2 := ((HX19.out.to hw).cell 2).trans (show _ = some (Value.string (bs (pageV items F M).root)) from rfl)
                      have x3 := ((HX19.out.to hw).cell 3).trans (show _ = some (Value.slice (some ⟨g10, 0, none⟩) L c10) from rfl)
                      have x4 := ((HX19.out.to hw).cell 4).trans (show _ = some (Value.slice Ap (pageV items F M).paths.length cp) from rfl)
                      go_simp
                      exact hK _ _ (Below.refl _ _) (vok rfl) (facts_cons (fun h => absurd h (by decide)) (facts_cons (fun h => absurd h (by decide)) (facts_cons (fun h => absurd h (by decide)) facts_nil)))
                    · intro a w_ K hw hS hd hN hK
                      have s178 := (waits_on hd 5 (by kernel_rfl)).at (d := 178) rfl rfl rfl
                      have s181 := (waits_on hd 8 (by kernel_rfl)).at (d := 181) rfl rfl rfl
                      rw [if_pos (want_yes rfl rfl rfl s178)]
                      go_simp
                      refine (HCK.out w_ hw).mono ?_
                      rintro e w' ⟨v7, rfl, ho7, hb7⟩
                      exact hK _ _ hb7 (vfree rfl) (facts_cons (fun h => absurd h (by decide)) (facts_cons (fun _ => ⟨v7, hS.put_at (by kernel_rfl) _, fun _ => TextsAt.of_own ho7⟩) (facts_cons (fun h => absurd h (by decide)) facts_nil)))
                    · intro a w_ K hw hS hd hN hK
                      have s178 := (waits_on hd 5 (by kernel_rfl)).at (d := 178) rfl rfl rfl
                      obtain ⟨v68, s180, f68⟩ := (waits_on hd 7 (by kernel_rfl)).2 _ (List.mem_cons_self ..) rfl
                      obtain ⟨v70, s182, f70⟩ := (waits_on hd 9 (by kernel_rfl)).2 _ (List.mem_cons_of_mem _ (List.mem_cons_self ..)) rfl
                      have hu71 := hN _ (List.mem_cons_self ..) rfl
                      rw [if_pos (want_yes rfl rfl rfl s178)]
                      refine wp_append_texts (.tmp 180) (.tmp 182) rfl w19.heap.size v68 (digestedV items) (eval_at s180) (f68 hu71) v70 (checkedV (chP (pageV items F M) J)) (eval_at s182) (f70 hu71) (by omega) hw.size ?_
                      intro v8 w' ho hg hne
                      have hp71 := hS.put_at (s := 183) (by kernel_rfl) v8
                      exact hK v8 w' ⟨fun e => hne (Option.some.inj (hp71.symm.trans e)), _, hg, fun g e => (own_blk_lt (f68 hu71) g e).1⟩ (vfree rfl) (facts_cons (fun h => absurd h (by decide)) (facts_cons (fun h => absurd h (by decide)) (facts_cons (fun _ => ⟨v8, hp71, TextsAt.of_own ho⟩) facts_nil)))
                    · intro a w_ K hw hS hd hN hK
                      have s178 := (waits_on hd 5 (by kernel_rfl)).at (d := 178) rfl rfl rfl
                      obtain ⟨v71, s183, t71⟩ := (waits_on hd 10 (by kernel_rfl)).2 _ (List.mem_cons_of_mem _ (List.mem_cons_of_mem _ (List.mem_cons_self ..))) rfl
                      rw [if_pos (want_yes rfl rfl rfl s178)]
                      go_simp
                      with_reducible refine (HSH.out w_ v71 t71).mono ?_
                      rintro e w' ⟨rfl, hb⟩
                      exact hK _ _ hb (vok rfl) (facts_cons (fun h => absurd h (by decide)) (facts_cons (fun h => absurd h (by decide)) (facts_cons (fun h => absurd h (by decide)) facts_nil)))
                    · intro a w_ K hw hS hd hN hK
                      have s178 := (waits_on hd 5 (by kernel_rfl)).at (d := 178) rfl rfl rfl
                      have s184 := (waits_on hd 11 (by kernel_rfl)).at (d := 184) rfl rfl rfl
                      rw [if_pos (want_free rfl)]
                      go_simp
                      exact hK _ _ (Below.refl _ _) (vok rfl) (facts_cons (fun h => absurd h (by decide)) (facts_cons (fun h => absurd h (by decide)) (facts_cons (fun h => absurd h (by decide)) facts_nil)))
                    · intro a w_ K hw hS hd hN hK
                      have s185 := (waits_on hd 12 (by kernel_rfl)).at (d := 185) rfl rfl rfl
                      rw [if_pos (want_free rfl)]
                      go_simp
                      exact hK _ _ (Below.refl _ _) (vok rfl) (facts_cons (fun h => absurd h (by decide)) (facts_cons (fun h => absurd h (by decide)) (facts_cons (fun h => absurd h (by decide)) facts_nil)))
                  case hfin =>
                    intro a w20 hw hS hk
                    have s173 := (hk 0 (by decide)).at (d := 173) rfl rfl rfl
                    have s174 := (hk 1 (by decide)).at (d := 174) rfl rfl rfl
                    have s175 := (hk 2 (by decide)).at (d := 175) rfl rfl rfl
                    have s176 := (hk 3 (by decide)).at (d := 176) rfl rfl rfl
                    have s177 := (hk 4 (by decide)).at (d := 177) rfl rfl rfl
                    have s178 := (hk 5 (by decide)).at (d := 178) rfl rfl rfl
                    have s179 := (hk 6 (by decide)).at (d := 179) rfl rfl rfl
                    obtain ⟨v68, s180, f68⟩ := (hk 7 (by decide)).2 _ (List.mem_cons_self ..) rfl
                    have s181 := (hk 8 (by decide)).at (d := 181) rfl rfl rfl
                    obtain ⟨v70, s182, f70⟩ := (hk 9 (by decide)).2 _ (List.mem_cons_of_mem _ (List.mem_cons_self ..)) rfl
                    obtain ⟨v71, s183, t71⟩ := (hk 10 (by decide)).2 _ (List.mem_cons_of_mem _ (List.mem_cons_of_mem _ (List.mem_cons_self ..))) rfl
                    have s184 := (hk 11 (by decide)).at (d := 184) rfl rfl rfl
                    have s185 := (hk 12 (by decide)).at (d := 185) rfl rfl rfl
                    have s6 := (hk 13 (by decide)).at (d := 6) rfl rfl rfl
                    have hlit := hS.lit _ (by kernel_rfl) (lits_cons s173 (lits_cons s174 (lits_cons s175 (lits_cons s176 (lits_cons s177 (lits_cons s178 (lits_cons s179 (lits_cons s180 (lits_cons s181 (lits_cons s182 (lits_cons s183 (lits_cons s184 (lits_cons s185 (lits_cons s6 lits_nil))))))))))))))
                    rw [hlit]
                    have HF9 := hide (below_to HB19.out (Nat.le_refl _) hw)
                    clear hlit hk hS f68 f70 t71 hw
                    simp only [litT, List.setIfInBounds_toArray, List.set_cons_succ, List.set_cons_zero]
                    go_wp2_with fail
                    go_ret
                    exact ⟨rfl, HF9.out⟩
              · rw [accV_no hE0] at CA
                obtain ⟨E, hE⟩ : ∃ E, accE (chP (pageV items F M) J) (rootL items) items.length (items.take k) = E := ⟨_, rfl⟩
                rw [hE] at CA hE0
                clear hE
                have g1 : (E != 0) = true := by simpa using hE0
                have g2 : (E == 0) = false := by simpa using hE0
                unfold chP Pg.cs at CA
                go_wp2_with fail
                with_reducible refine CA.mono ?_
                rintro e w15 ⟨v15, rfl, hc15, hT⟩
                have H15 := hide (H14.out.acc hT hc15 H14.out.le)
                have HX15 := hide (hT.blk HX14.out (by omega) (by omega))
                clear hc15 hT CA H14 HX14 HB14 HT14 HTP x0 x1 x2 x3 x4
                go_wp2_with fail
                have C15 := H15.out.its HL.out
                unfold ItemsR at C15
                have hbt := begins_take items k
                have hlt' : (items.take k).length = k := by rw [List.length_take]; omega
                generalize items.take k = TT at *
                with_reducible refine C15.mono ?_
                rintro e w16 ⟨v16, rfl, ho, hb⟩
                have H16 := hide (H15.out.to hb)
                have HX16 := hide (HX15.out.to hb)
                have CB := Begins_any items TT (by omega) (by omega) (.slice A items.length c) v16 w16 (HS.out.to H16.out.bel) (TextsAt.of_own ho)
                rw [hbt] at CB
                have f1 : ((TT.length : Int) != (k : Int)) = false := by rw [hlt']; simp
                obtain ⟨A16, c16, rfl⟩ := own_sl4 ho
                clear hb C15 H15 HX15 ho hbt hlt'
                go_wp2_with fail
                with_reducible refine CB.mono ?_
                rintro e w17 ⟨rfl, hb⟩
                have H17 := hide (H16.out.to hb)
                have HX17 := hide (HX16.out.to hb)
                have f2 : decide ((k : Int) < (k : Int)) = false := decide_eq_false (by omega)
                have f2' : decide (k < k) = false := decide_eq_false (by omega)
                have f3 : ((k : Int) != (k : Int)) = false := by simp
                clear hb CB H16 HX16
                go_wp2_with fail
                have C17 := H17.out.next HL.out
                with_reducible refine C17.mono ?_
                rintro e w18 ⟨rfl, hb⟩
                have H18 := hide (H17.out.to hb)
                have HX18 := hide (HX17.out.to hb)
                clear hb C17 H17 HX17
                go_wp2_with fail
                have C18 := H18.out.next HL.out
                with_reducible refine C18.mono ?_
                rintro e w19 ⟨rfl, hb⟩
                have H19 := hide (H18.out.to hb)
                have HX19 := hide (HX18.out.to hb)
                clear hb C18 H18 HX18
                go_wp2_with fail
                have C19 := H19.out.next HL.out
                with_reducible refine C19.mono ?_
                rintro e w20 ⟨rfl, hb⟩
                have H20 := hide (H19.out.to hb)
                have HX20 := hide (HX19.out.to hb)
                clear hb C19 H19 HX19
                go_wp2_with fail
                go_quiet (fail)
                go_wp2_with fail

                refine ⟨⟨q + 1, k, _, by go_num, by omega, rfl, H20.out.to (below_drewN (Below.refl w20.heap.size w20) nq)⟩, ?_⟩
                simp [intOf]; omega
            · have d3 : ((y : Int) % 3 == 0) = false := by rw [beq_eq_false_iff_ne]; omega
              go_wp2_with fail
              have C8 := H8.out.next HL.out
              with_reducible refine C8.mono ?_
              rintro e w9 ⟨rfl, hb⟩
              have H9 := hide (H8.out.to hb)
              have HP9 := hide (HP8.out.to hb)
              have HX9 := hide (HX8.out.to hb)
              clear hb C8 H8 HP8 HX8 x3
              have x0 := (HX9.out.cell 0).trans (show _ = some (Value.int .i64 (pageV items F M).fr) from rfl)
              have x1 := (HX9.out.cell 1).trans (show _ = some (Value.int .i64 (pageV items F M).size) from rfl)
              have x2 := (HX9.out.cell 2).trans (show _ = some (Value.string (bs (pageV items F M).root)) from rfl)
              have x3 := (HX9.out.cell 3).trans (show _ = some (Value.slice Ai L ci) from rfl)
              have x4 := (HX9.out.cell 4).trans (show _ = some (Value.slice Ap (pageV items F M).paths.length cp) from rfl)
              have hrow : rowOr v' b < wr.heap.size := by
                unfold rowOr
                cases e : v'.ownBlock with
                | none => exact hbl
                | some g => exact hvl.out g e
              have CA := H9.out.accept HL.out hFn hM2 HG.out HP9.out hbl hvl.out
              unfold Pg.cs at CA
              go_wp2_with fail
              by_cases hkF : k < F
              · rw [if_pos hkF, if_pos hkF] at CA
                with_reducible refine CA.mono ?_
                rintro e w10 ⟨v10, rfl, hI, hT⟩
                have H10 := hide hI
                have HX10 := hide (hT.blk HX9.out (by omega) (by omega))
                clear hI hT CA H9 HP9 HX9 x0 x1 x2 x3 x4
                go_wp2_with fail
                have C10 := H10.out.its HL.out
                unfold ItemsR at C10
                have hbt := begins_take items (k)
                have hlt' : (items.take (k)).length = k := by rw [List.length_take]; omega
                generalize items.take (k) = TT at *
                with_reducible refine C10.mono ?_
                rintro e w11 ⟨v11, rfl, ho, hb⟩
                have H11 := hide (H10.out.to hb)
                have HX11 := hide (HX10.out.to hb)
                have CB := Begins_any items TT (by omega) (by omega) (.slice A items.length c) v11 w11 (HS.out.to H11.out.bel) (TextsAt.of_own ho)
                rw [hbt] at CB
                have f1 : ((TT.length : Int) != ((k : Nat) : Int)) = false := by rw [hlt']; simp
                obtain ⟨A11, c11, rfl⟩ := own_sl4 ho
                clear hb C10 H10 HX10 ho hbt hlt'
                go_wp2_with fail
                with_reducible refine CB.mono ?_
                rintro e w12 ⟨rfl, hb⟩
                have H12 := hide (H11.out.to hb)
                have HX12 := hide (HX11.out.to hb)
                have f2 : decide (((k : Nat) : Int) < (k : Int)) = false := decide_eq_false (by omega)
                have f2' : decide (k < k) = false := decide_eq_false (by omega)
                clear hb CB H11 HX11
                have HK : Hid (k = k) := rfl
                go_wp2_with fail
                have f3 : ((k : Int) != (k : Int)) = false := by simp
                have C12 := H12.out.next HL.out
                with_reducible refine C12.mono ?_
                rintro e w13 ⟨rfl, hb⟩
                have H13 := hide (H12.out.to hb)
                have HX13 := hide (HX12.out.to hb)
                clear hb C12 H12 HX12
                go_wp2_with fail
                have C13 := H13.out.next HL.out
                with_reducible refine C13.mono ?_
                rintro e w14 ⟨rfl, hb⟩
                have H14 := hide (H13.out.to hb)
                have HX14 := hide (HX13.out.to hb)
                clear hb C13 H13 HX13
                go_wp2_with fail
                have C14 := H14.out.next HL.out
                with_reducible refine C14.mono ?_
                rintro e w15 ⟨rfl, hb⟩
                have H15 := hide (H14.out.to hb)
                have HX15 := hide (HX14.out.to hb)
                clear hb C14 H14 HX14
                go_wp2_with fail
                obtain ⟨U, hU, g, u0, e9, hgu, hi⟩ := cls w15
                subst e9
                have CN := cls_call hgu hi (fun w hw => (H15.out.to hw).next HL.out)
                have X3 : ∀ u, (g u).cell? ⟨w6.heap.size, 3, none⟩ = some (.slice Ai L ci) := blk_all hgu HX15.out 3 rfl
                have hwr : IntKind.i64.wrap ((F : Int) + (L : Int)) = (F : Int) + (L : Int) := IntWalk.i64_in _ (by have := HIL.out; have := HL.out.len; omega)
                have m3 : max (k : Int) ((F : Int) + (L : Int)) = max (k : Int) ((F : Int) + (L : Int)) := rfl
                have m4 : ((k : Int) != (k : Int)) = false := by simp
                have m5 : decide ((F : Int) ≤ (k : Int)) = false := decide_eq_false (by omega)
                have m5' : decide (F ≤ k) = false := decide_eq_false (by omega)
                have m6 : (false != false) = false := rfl
                have m7 : (true != true) = false := rfl
                have HGU := hide hgu
                have HHI := hide hi
                clear hgu hi
                refine wp_region_class g (by kernel_rfl) (by kernel_rfl) (HHI.out _ (HGU.out _).drew) ?_
                repeat (go_big_quiet_step (with_reducible exact CN _))
                trace_state
                refine wpQuiet_nil ?_
                intro w20 hw20
                obtain ⟨u, rfl⟩ := hw20
                go_wp2_with fail
                refine ⟨⟨q + 1, k, _, by go_num, by omega, rfl, H15.out.to (HGU.out u)⟩, ?_⟩
                simp [intOf]; omega
              · rw [if_neg hkF, if_neg hkF] at CA
                with_reducible refine CA.mono ?_
                rintro e w10 ⟨v10, rfl, hI, hT⟩
                have H10 := hide hI
                have HX10 := hide (hT.blk HX9.out (by omega) (by omega))
                clear hI hT CA H9 HP9 HX9 x0 x1 x2 x3 x4
                go_wp2_with fail
                have C10 := H10.out.its HL.out
                unfold ItemsR at C10
                have hbt := begins_take items (max k (min (F + M) items.length))
                have hlt' : (items.take (max k (min (F + M) items.length))).length = max k (min (F + M) items.length) := by rw [List.length_take]; omega
                generalize items.take (max k (min (F + M) items.length)) = TT at *
                with_reducible refine C10.mono ?_
                rintro e w11 ⟨v11, rfl, ho, hb⟩
                have H11 := hide (H10.out.to hb)
                have HX11 := hide (HX10.out.to hb)
                have CB := Begins_any items TT (by omega) (by omega) (.slice A items.length c) v11 w11 (HS.out.to H11.out.bel) (TextsAt.of_own ho)
                rw [hbt] at CB
                have f1 : ((TT.length : Int) != ((max k (min (F + M) items.length) : Nat) : Int)) = false := by rw [hlt']; simp
                obtain ⟨A11, c11, rfl⟩ := own_sl4 ho
                clear hb C10 H10 HX10 ho hbt hlt'
                go_wp2_with fail
                with_reducible refine CB.mono ?_
                rintro e w12 ⟨rfl, hb⟩
                have H12 := hide (H11.out.to hb)
                have HX12 := hide (HX11.out.to hb)
                have f2 : decide (((max k (min (F + M) items.length) : Nat) : Int) < (k : Int)) = false := decide_eq_false (by omega)
                have f2' : decide (max k (min (F + M) items.length) < k) = false := decide_eq_false (by omega)
                clear hb CB H11 HX11
                generalize hK : max k (min (F + M) items.length) = K at *
                have HK := hide hK
                clear hK
                go_wp2_with fail
                have C12 := H12.out.next HL.out
                with_reducible refine C12.mono ?_
                rintro e w13 ⟨rfl, hb⟩
                have H13 := hide (H12.out.to hb)
                have HX13 := hide (HX12.out.to hb)
                clear hb C12 H12 HX12
                go_wp2_with fail
                have C13 := H13.out.next HL.out
                with_reducible refine C13.mono ?_
                rintro e w14 ⟨rfl, hb⟩
                have H14 := hide (H13.out.to hb)
                have HX14 := hide (HX13.out.to hb)
                clear hb C13 H13 HX13
                go_wp2_with fail
                obtain ⟨U, hU, g, u0, e9, hgu, hi⟩ := cls w14
                subst e9
                have CN := cls_call hgu hi (fun w hw => (H14.out.to hw).next HL.out)
                have X3 : ∀ u, (g u).cell? ⟨w6.heap.size, 3, none⟩ = some (.slice Ai L ci) := blk_all hgu HX14.out 3 rfl
                have hwr : IntKind.i64.wrap ((F : Int) + (L : Int)) = (F : Int) + (L : Int) := IntWalk.i64_in _ (by have := HIL.out; have := HL.out.len; omega)
                have m3 : max (k : Int) ((F : Int) + (L : Int)) = (K : Int) := by have h1 := HK.out; have h2 := HIL.out; have h3 := HL.out.len; omega
                have m4 : ((K : Int) != (K : Int)) = false := by simp
                have m5 : decide ((F : Int) ≤ (k : Int)) = true := decide_eq_true (by omega)
                have m5' : decide (F ≤ k) = true := decide_eq_true (by omega)
                have m6 : (false != false) = false := rfl
                have m7 : (true != true) = false := rfl
                have HGU := hide hgu
                have HHI := hide hi
                clear hgu hi
                refine wp_region_class g (by kernel_rfl) (by kernel_rfl) (HHI.out _ (HGU.out _).drew) ?_
                repeat (go_big_quiet_step (with_reducible exact CN _))
                trace_state
                refine wpQuiet_nil ?_
                intro w20 hw20
                obtain ⟨u, rfl⟩ := hw20
                go_wp2_with fail
                refine ⟨⟨q + 1, K, _, by go_num, by omega, rfl, H14.out.to (HGU.out u)⟩, ?_⟩
                simp [intOf]; omega
          · have d2 : decide ((0 : Int) < (L : Int)) = false := decide_eq_false (by omega)
            have d2' : decide (0 < L) = false := decide_eq_false hL0
            go_wp2_with fail
            have C8 := H8.out.next HL.out
            with_reducible refine C8.mono ?_
            rintro e w9 ⟨rfl, hb⟩
            have H9 := hide (H8.out.to hb)
            have HP9 := hide (HP8.out.to hb)
            have HX9 := hide (HX8.out.to hb)
            clear hb C8 H8 HP8 HX8 x3
            have x0 := (HX9.out.cell 0).trans (show _ = some (Value.int .i64 (pageV items F M).fr) from rfl)
            have x1 := (HX9.out.cell 1).trans (show _ = some (Value.int .i64 (pageV items F M).size) from rfl)
            have x2 := (HX9.out.cell 2).trans (show _ = some (Value.string (bs (pageV items F M).root)) from rfl)
            have x3 := (HX9.out.cell 3).trans (show _ = some (Value.slice Ai L ci) from rfl)
            have x4 := (HX9.out.cell 4).trans (show _ = some (Value.slice Ap (pageV items F M).paths.length cp) from rfl)
            have hrow : rowOr v' b < wr.heap.size := by
              unfold rowOr
              cases e : v'.ownBlock with
              | none => exact hbl
              | some g => exact hvl.out g e
            have CA := H9.out.accept HL.out hFn hM2 HG.out HP9.out hbl hvl.out
            unfold Pg.cs at CA
            go_wp2_with fail
            by_cases hkF : k < F
            · rw [if_pos hkF, if_pos hkF] at CA
              with_reducible refine CA.mono ?_
              rintro e w10 ⟨v10, rfl, hI, hT⟩
              have H10 := hide hI
              have HX10 := hide (hT.blk HX9.out (by omega) (by omega))
              clear hI hT CA H9 HP9 HX9 x0 x1 x2 x3 x4
              go_wp2_with fail
              have C10 := H10.out.its HL.out
              unfold ItemsR at C10
              have hbt := begins_take items (k)
              have hlt' : (items.take (k)).length = k := by rw [List.length_take]; omega
              generalize items.take (k) = TT at *
              with_reducible refine C10.mono ?_
              rintro e w11 ⟨v11, rfl, ho, hb⟩
              have H11 := hide (H10.out.to hb)
              have HX11 := hide (HX10.out.to hb)
              have CB := Begins_any items TT (by omega) (by omega) (.slice A items.length c) v11 w11 (HS.out.to H11.out.bel) (TextsAt.of_own ho)
              rw [hbt] at CB
              have f1 : ((TT.length : Int) != ((k : Nat) : Int)) = false := by rw [hlt']; simp
              obtain ⟨A11, c11, rfl⟩ := own_sl4 ho
              clear hb C10 H10 HX10 ho hbt hlt'
              go_wp2_with fail
              with_reducible refine CB.mono ?_
              rintro e w12 ⟨rfl, hb⟩
              have H12 := hide (H11.out.to hb)
              have HX12 := hide (HX11.out.to hb)
              have f2 : decide (((k : Nat) : Int) < (k : Int)) = false := decide_eq_false (by omega)
              have f2' : decide (k < k) = false := decide_eq_false (by omega)
              clear hb CB H11 HX11
              have HK : Hid (k = k) := rfl
              go_wp2_with fail
              have f3 : ((k : Int) != (k : Int)) = false := by simp
              have C12 := H12.out.next HL.out
              with_reducible refine C12.mono ?_
              rintro e w13 ⟨rfl, hb⟩
              have H13 := hide (H12.out.to hb)
              have HX13 := hide (HX12.out.to hb)
              clear hb C12 H12 HX12
              go_wp2_with fail
              have C13 := H13.out.next HL.out
              with_reducible refine C13.mono ?_
              rintro e w14 ⟨rfl, hb⟩
              have H14 := hide (H13.out.to hb)
              have HX14 := hide (HX13.out.to hb)
              clear hb C13 H13 HX13
              go_wp2_with fail
              have C14 := H14.out.next HL.out
              with_reducible refine C14.mono ?_
              rintro e w15 ⟨rfl, hb⟩
              have H15 := hide (H14.out.to hb)
              have HX15 := hide (HX14.out.to hb)
              clear hb C14 H14 HX14
              go_wp2_with fail
              obtain ⟨U, hU, g, u0, e9, hgu, hi⟩ := cls w15
              subst e9
              have CN := cls_call hgu hi (fun w hw => (H15.out.to hw).next HL.out)
              have X3 : ∀ u, (g u).cell? ⟨w6.heap.size, 3, none⟩ = some (.slice Ai L ci) := blk_all hgu HX15.out 3 rfl
              have hwr : IntKind.i64.wrap ((F : Int) + (L : Int)) = (F : Int) + (L : Int) := IntWalk.i64_in _ (by have := HIL.out; have := HL.out.len; omega)
              have m3 : max (k : Int) ((F : Int) + (L : Int)) = max (k : Int) ((F : Int) + (L : Int)) := rfl
              have m4 : ((k : Int) != (k : Int)) = false := by simp
              have m5 : decide ((F : Int) ≤ (k : Int)) = false := decide_eq_false (by omega)
              have m5' : decide (F ≤ k) = false := decide_eq_false (by omega)
              have m6 : (false != false) = false := rfl
              have m7 : (true != true) = false := rfl
              have HGU := hide hgu
              have HHI := hide hi
              clear hgu hi
              refine wp_region_class g (by kernel_rfl) (by kernel_rfl) (HHI.out _ (HGU.out _).drew) ?_
              repeat (go_big_quiet_step (with_reducible exact CN _))
              trace_state
              refine wpQuiet_nil ?_
              intro w20 hw20
              obtain ⟨u, rfl⟩ := hw20
              go_wp2_with fail
              refine ⟨⟨q + 1, k, _, by go_num, by omega, rfl, H15.out.to (HGU.out u)⟩, ?_⟩
              simp [intOf]; omega
            · rw [if_neg hkF, if_neg hkF] at CA
              with_reducible refine CA.mono ?_
              rintro e w10 ⟨v10, rfl, hI, hT⟩
              have H10 := hide hI
              have HX10 := hide (hT.blk HX9.out (by omega) (by omega))
              clear hI hT CA H9 HP9 HX9 x0 x1 x2 x3 x4
              go_wp2_with fail
              have C10 := H10.out.its HL.out
              unfold ItemsR at C10
              have hbt := begins_take items (max k (min (F + M) items.length))
              have hlt' : (items.take (max k (min (F + M) items.length))).length = max k (min (F + M) items.length) := by rw [List.length_take]; omega
              generalize items.take (max k (min (F + M) items.length)) = TT at *
              with_reducible refine C10.mono ?_
              rintro e w11 ⟨v11, rfl, ho, hb⟩
              have H11 := hide (H10.out.to hb)
              have HX11 := hide (HX10.out.to hb)
              have CB := Begins_any items TT (by omega) (by omega) (.slice A items.length c) v11 w11 (HS.out.to H11.out.bel) (TextsAt.of_own ho)
              rw [hbt] at CB
              have f1 : ((TT.length : Int) != ((max k (min (F + M) items.length) : Nat) : Int)) = false := by rw [hlt']; simp
              obtain ⟨A11, c11, rfl⟩ := own_sl4 ho
              clear hb C10 H10 HX10 ho hbt hlt'
              go_wp2_with fail
              with_reducible refine CB.mono ?_
              rintro e w12 ⟨rfl, hb⟩
              have H12 := hide (H11.out.to hb)
              have HX12 := hide (HX11.out.to hb)
              have f2 : decide (((max k (min (F + M) items.length) : Nat) : Int) < (k : Int)) = false := decide_eq_false (by omega)
              have f2' : decide (max k (min (F + M) items.length) < k) = false := decide_eq_false (by omega)
              clear hb CB H11 HX11
              generalize hK : max k (min (F + M) items.length) = K at *
              have HK := hide hK
              clear hK
              go_wp2_with fail
              have C12 := H12.out.next HL.out
              with_reducible refine C12.mono ?_
              rintro e w13 ⟨rfl, hb⟩
              have H13 := hide (H12.out.to hb)
              have HX13 := hide (HX12.out.to hb)
              clear hb C12 H12 HX12
              go_wp2_with fail
              have C13 := H13.out.next HL.out
              with_reducible refine C13.mono ?_
              rintro e w14 ⟨rfl, hb⟩
              have H14 := hide (H13.out.to hb)
              have HX14 := hide (HX13.out.to hb)
              clear hb C13 H13 HX13
              go_wp2_with fail
              obtain ⟨U, hU, g, u0, e9, hgu, hi⟩ := cls w14
              subst e9
              have CN := cls_call hgu hi (fun w hw => (H14.out.to hw).next HL.out)
              have X3 : ∀ u, (g u).cell? ⟨w6.heap.size, 3, none⟩ = some (.slice Ai L ci) := blk_all hgu HX14.out 3 rfl
              have hwr : IntKind.i64.wrap ((F : Int) + (L : Int)) = (F : Int) + (L : Int) := IntWalk.i64_in _ (by have := HIL.out; have := HL.out.len; omega)
              have m3 : max (k : Int) ((F : Int) + (L : Int)) = (K : Int) := by have h1 := HK.out; have h2 := HIL.out; have h3 := HL.out.len; omega
              have m4 : ((K : Int) != (K : Int)) = false := by simp
              have m5 : decide ((F : Int) ≤ (k : Int)) = true := decide_eq_true (by omega)
              have m5' : decide (F ≤ k) = true := decide_eq_true (by omega)
              have m6 : (false != false) = false := rfl
              have m7 : (true != true) = false := rfl
              have HGU := hide hgu
              have HHI := hide hi
              clear hgu hi
              refine wp_region_class g (by kernel_rfl) (by kernel_rfl) (HHI.out _ (HGU.out _).drew) ?_
              repeat (go_big_quiet_step (with_reducible exact CN _))
              trace_state
              refine wpQuiet_nil ?_
              intro w20 hw20
              obtain ⟨u, rfl⟩ := hw20
              go_wp2_with fail
              refine ⟨⟨q + 1, K, _, by go_num, by omega, rfl, H14.out.to (HGU.out u)⟩, ?_⟩
              simp [intOf]; omega
        · have d1 : decide ((q : Int) < (ys.length : Int)) = false := decide_eq_false (by omega)
          go_wp2_with fail
          have C8 := H8.out.next HL.out
          with_reducible refine C8.mono ?_
          rintro e w9 ⟨rfl, hb⟩
          have H9 := hide (H8.out.to hb)
          have HP9 := hide (HP8.out.to hb)
          have HX9 := hide (HX8.out.to hb)
          clear hb C8 H8 HP8 HX8 x3
          have x0 := (HX9.out.cell 0).trans (show _ = some (Value.int .i64 (pageV items F M).fr) from rfl)
          have x1 := (HX9.out.cell 1).trans (show _ = some (Value.int .i64 (pageV items F M).size) from rfl)
          have x2 := (HX9.out.cell 2).trans (show _ = some (Value.string (bs (pageV items F M).root)) from rfl)
          have x3 := (HX9.out.cell 3).trans (show _ = some (Value.slice Ai L ci) from rfl)
          have x4 := (HX9.out.cell 4).trans (show _ = some (Value.slice Ap (pageV items F M).paths.length cp) from rfl)
          have hrow : rowOr v' b < wr.heap.size := by
            unfold rowOr
            cases e : v'.ownBlock with
            | none => exact hbl
            | some g => exact hvl.out g e
          have CA := H9.out.accept HL.out hFn hM2 HG.out HP9.out hbl hvl.out
          unfold Pg.cs at CA
          go_wp2_with fail
          by_cases hkF : k < F
          · rw [if_pos hkF, if_pos hkF] at CA
            with_reducible refine CA.mono ?_
            rintro e w10 ⟨v10, rfl, hI, hT⟩
            have H10 := hide hI
            have HX10 := hide (hT.blk HX9.out (by omega) (by omega))
            clear hI hT CA H9 HP9 HX9 x0 x1 x2 x3 x4
            go_wp2_with fail
            have C10 := H10.out.its HL.out
            unfold ItemsR at C10
            have hbt := begins_take items (k)
            have hlt' : (items.take (k)).length = k := by rw [List.length_take]; omega
            generalize items.take (k) = TT at *
            with_reducible refine C10.mono ?_
            rintro e w11 ⟨v11, rfl, ho, hb⟩
            have H11 := hide (H10.out.to hb)
            have HX11 := hide (HX10.out.to hb)
            have CB := Begins_any items TT (by omega) (by omega) (.slice A items.length c) v11 w11 (HS.out.to H11.out.bel) (TextsAt.of_own ho)
            rw [hbt] at CB
            have f1 : ((TT.length : Int) != ((k : Nat) : Int)) = false := by rw [hlt']; simp
            obtain ⟨A11, c11, rfl⟩ := own_sl4 ho
            clear hb C10 H10 HX10 ho hbt hlt'
            go_wp2_with fail
            with_reducible refine CB.mono ?_
            rintro e w12 ⟨rfl, hb⟩
            have H12 := hide (H11.out.to hb)
            have HX12 := hide (HX11.out.to hb)
            have f2 : decide (((k : Nat) : Int) < (k : Int)) = false := decide_eq_false (by omega)
            have f2' : decide (k < k) = false := decide_eq_false (by omega)
            clear hb CB H11 HX11
            have HK : Hid (k = k) := rfl
            go_wp2_with fail
            have f3 : ((k : Int) != (k : Int)) = false := by simp
            have C12 := H12.out.next HL.out
            with_reducible refine C12.mono ?_
            rintro e w13 ⟨rfl, hb⟩
            have H13 := hide (H12.out.to hb)
            have HX13 := hide (HX12.out.to hb)
            clear hb C12 H12 HX12
            go_wp2_with fail
            have C13 := H13.out.next HL.out
            with_reducible refine C13.mono ?_
            rintro e w14 ⟨rfl, hb⟩
            have H14 := hide (H13.out.to hb)
            have HX14 := hide (HX13.out.to hb)
            clear hb C13 H13 HX13
            go_wp2_with fail
            have C14 := H14.out.next HL.out
            with_reducible refine C14.mono ?_
            rintro e w15 ⟨rfl, hb⟩
            have H15 := hide (H14.out.to hb)
            have HX15 := hide (HX14.out.to hb)
            clear hb C14 H14 HX14
            go_wp2_with fail
            obtain ⟨U, hU, g, u0, e9, hgu, hi⟩ := cls w15
            subst e9
            have CN := cls_call hgu hi (fun w hw => (H15.out.to hw).next HL.out)
            have X3 : ∀ u, (g u).cell? ⟨w6.heap.size, 3, none⟩ = some (.slice Ai L ci) := blk_all hgu HX15.out 3 rfl
            have hwr : IntKind.i64.wrap ((F : Int) + (L : Int)) = (F : Int) + (L : Int) := IntWalk.i64_in _ (by have := HIL.out; have := HL.out.len; omega)
            have m3 : max (k : Int) ((F : Int) + (L : Int)) = max (k : Int) ((F : Int) + (L : Int)) := rfl
            have m4 : ((k : Int) != (k : Int)) = false := by simp
            have m5 : decide ((F : Int) ≤ (k : Int)) = false := decide_eq_false (by omega)
            have m5' : decide (F ≤ k) = false := decide_eq_false (by omega)
            have m6 : (false != false) = false := rfl
            have m7 : (true != true) = false := rfl
            have HGU := hide hgu
            have HHI := hide hi
            clear hgu hi
            refine wp_region_class g (by kernel_rfl) (by kernel_rfl) (HHI.out _ (HGU.out _).drew) ?_
            repeat (go_big_quiet_step (with_reducible exact CN _))
            trace_state
            refine wpQuiet_nil ?_
            intro w20 hw20
            obtain ⟨u, rfl⟩ := hw20
            go_wp2_with fail
            refine ⟨⟨q + 1, k, _, by go_num, by omega, rfl, H15.out.to (HGU.out u)⟩, ?_⟩
            simp [intOf]; omega
          · rw [if_neg hkF, if_neg hkF] at CA
            with_reducible refine CA.mono ?_
            rintro e w10 ⟨v10, rfl, hI, hT⟩
            have H10 := hide hI
            have HX10 := hide (hT.blk HX9.out (by omega) (by omega))
            clear hI hT CA H9 HP9 HX9 x0 x1 x2 x3 x4
            go_wp2_with fail
            have C10 := H10.out.its HL.out
            unfold ItemsR at C10
            have hbt := begins_take items (max k (min (F + M) items.length))
            have hlt' : (items.take (max k (min (F + M) items.length))).length = max k (min (F + M) items.length) := by rw [List.length_take]; omega
            generalize items.take (max k (min (F + M) items.length)) = TT at *
            with_reducible refine C10.mono ?_
            rintro e w11 ⟨v11, rfl, ho, hb⟩
            have H11 := hide (H10.out.to hb)
            have HX11 := hide (HX10.out.to hb)
            have CB := Begins_any items TT (by omega) (by omega) (.slice A items.length c) v11 w11 (HS.out.to H11.out.bel) (TextsAt.of_own ho)
            rw [hbt] at CB
            have f1 : ((TT.length : Int) != ((max k (min (F + M) items.length) : Nat) : Int)) = false := by rw [hlt']; simp
            obtain ⟨A11, c11, rfl⟩ := own_sl4 ho
            clear hb C10 H10 HX10 ho hbt hlt'
            go_wp2_with fail
            with_reducible refine CB.mono ?_
            rintro e w12 ⟨rfl, hb⟩
            have H12 := hide (H11.out.to hb)
            have HX12 := hide (HX11.out.to hb)
            have f2 : decide (((max k (min (F + M) items.length) : Nat) : Int) < (k : Int)) = false := decide_eq_false (by omega)
            have f2' : decide (max k (min (F + M) items.length) < k) = false := decide_eq_false (by omega)
            clear hb CB H11 HX11
            generalize hK : max k (min (F + M) items.length) = K at *
            have HK := hide hK
            clear hK
            go_wp2_with fail
            have C12 := H12.out.next HL.out
            with_reducible refine C12.mono ?_
            rintro e w13 ⟨rfl, hb⟩
            have H13 := hide (H12.out.to hb)
            have HX13 := hide (HX12.out.to hb)
            clear hb C12 H12 HX12
            go_wp2_with fail
            have C13 := H13.out.next HL.out
            with_reducible refine C13.mono ?_
            rintro e w14 ⟨rfl, hb⟩
            have H14 := hide (H13.out.to hb)
            have HX14 := hide (HX13.out.to hb)
            clear hb C13 H13 HX13
            go_wp2_with fail
            obtain ⟨U, hU, g, u0, e9, hgu, hi⟩ := cls w14
            subst e9
            have CN := cls_call hgu hi (fun w hw => (H14.out.to hw).next HL.out)
            have X3 : ∀ u, (g u).cell? ⟨w6.heap.size, 3, none⟩ = some (.slice Ai L ci) := blk_all hgu HX14.out 3 rfl
            have hwr : IntKind.i64.wrap ((F : Int) + (L : Int)) = (F : Int) + (L : Int) := IntWalk.i64_in _ (by have := HIL.out; have := HL.out.len; omega)
            have m3 : max (k : Int) ((F : Int) + (L : Int)) = (K : Int) := by have h1 := HK.out; have h2 := HIL.out; have h3 := HL.out.len; omega
            have m4 : ((K : Int) != (K : Int)) = false := by simp
            have m5 : decide ((F : Int) ≤ (k : Int)) = true := decide_eq_true (by omega)
            have m5' : decide (F ≤ k) = true := decide_eq_true (by omega)
            have m6 : (false != false) = false := rfl
            have m7 : (true != true) = false := rfl
            have HGU := hide hgu
            have HHI := hide hi
            clear hgu hi
            refine wp_region_class g (by kernel_rfl) (by kernel_rfl) (HHI.out _ (HGU.out _).drew) ?_
            repeat (go_big_quiet_step (with_reducible exact CN _))
            trace_state
            refine wpQuiet_nil ?_
            intro w20 hw20
            obtain ⟨u, rfl⟩ := hw20
            go_wp2_with fail
            refine ⟨⟨q + 1, K, _, by go_num, by omega, rfl, H14.out.to (HGU.out u)⟩, ?_⟩
            simp [intOf]; omega
      · obtain rfl : q = zs.length := by omega
        have e1 : decide ((zs.length : Int) < (zs.length : Int)) = false := by simp
        go_wp2_with fail
        go_ret
        exact ⟨rfl, hI.out.bel⟩
  · have hh : (!fewI items || decide ((20 : Int) < (zs.length : Int))) = true := by
      cases h1 : fewI items
      · rfl
      · by_cases h3 : zs.length ≤ 20
        · exact absurd ⟨h1, h3⟩ hok
        · simp; omega
    clear hok
    generalize fewI items = b1 at *
    generalize c0 : decide ((20 : Int) < (zs.length : Int)) = b3 at *
    have c0' : decide (20 < zs.length) = b3 := by rw [← c0]; exact decide_eq_decide.2 (by omega)
    cases b1 <;> cases b3 <;> (try cases hh)
    all_goals
      go_enter Tryz.func6, Tryz.ntmps6
      go_wp2_with fail
      refine C1.mono ?_
      rintro e w1 ⟨rfl, hb⟩
      have HB1 := hide hb
      have CF := CF w1 hb
      clear hb C1
      go_wp2_with ((with_reducible refine CF.mono ?_); rintro e w3 ⟨rfl, e9⟩; have e9 := e9.symm; subst e9)
      go_ret
      exact ⟨rfl, HB1.out⟩
end Go.Proofs.YtfhanbiifjiklaaGreatDoor
