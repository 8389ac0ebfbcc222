/- Walks of package veil: apply. -/
import Derived.Test.YtdgbnplieaaokaaGreatDoorV3
set_option linter.unusedVariables false
set_option linter.unusedSimpArgs false
namespace Go.Proofs.YtdgbnplieaaokaaGreatDoor
open Go.RowKit

theorem applyP_at {f : Nat → Nat → Nat} : ∀ {ms cs : List UInt8} {k : Nat} {m c : UInt8}, ms[k]? = some m → cs[k]? = some c → (applyP f ms cs)[k]? = some (dgC (f (c.toNat - 48) (hexV m)))
  | m' :: ms, c' :: cs, 0, m, c, hm, hc => by
    simp only [List.getElem?_cons_zero, Option.some.injEq] at hm hc
    subst hm hc
    rfl
  | m' :: ms, c' :: cs, k + 1, m, c, hm, hc => by
    simp only [List.getElem?_cons_succ] at hm hc
    simp only [applyP, List.getElem?_cons_succ]
    exact applyP_at hm hc
  | [], cs, k, m, c, hm, hc => by simp at hm
  | m' :: ms, [], k, m, c, hm, hc => by simp at hc
def curA (r ds : List UInt8) (k : Nat) : List UInt8 := r.take k ++ ds.drop k
theorem curA_set {r ds : List UInt8} (hl : r.length = ds.length) {k : Nat} {x : UInt8} (hk : k < ds.length) (hx : r[k]? = some x) : (curA r ds k).set k x = curA r ds (k + 1) := by
  unfold curA
  have e : (r.take k).length = k := by simp; omega
  rw [List.set_append_right _ _ (by omega), e, Nat.sub_self, List.take_add_one, hx]
  cases hd : ds.drop k with
  | nil => have := congrArg List.length hd; simp at this; omega
  | cons a b =>
    have : ds.drop (k + 1) = b := by rw [← List.drop_drop, hd]; rfl
    rw [this]; simp
theorem curA_len {r ds : List UInt8} (hl : r.length = ds.length) {k : Nat} (hk : k ≤ ds.length) : (curA r ds k).length = ds.length := by unfold curA; simp; omega
theorem curA_at {r ds : List UInt8} (hl : r.length = ds.length) {k : Nat} (hk : k < ds.length) : (curA r ds k)[k]? = ds[k]? := by
  unfold curA
  rw [List.getElem?_append_right (by simp; omega)]
  simp
  congr 1; omega
def ApI (w : World) (B X : Nat) (F : FuncId) (r ds : List UInt8) (wr : World) (j : Value) : Prop := ∃ k : Nat, k ≤ ds.length ∧ j = .int .i64 (k : Int) ∧ Below w.heap.size w wr ∧ Byt wr B (curA r ds k) ∧ wr.cell? ⟨X, 0, none⟩ = some (.func (.func F) #[] #[])
set_option maxRecDepth 100000 in
set_option maxHeartbeats 4000000 in
theorem apply_any (F : FuncId) (hE : ∀ args w, (callFunc F args).run Tryz.prog w = .ok (.enter F args) w) (f : Nat → Nat → Nat) (hf : ∀ a b, f a b < 10) (hF : ∀ (d m : Nat), d < 10 → m < 16 → ∀ w, Calls Tryz.prog F #[.int .i64 (d : Int), .int .i64 (m : Int)] w fun e w' => e = .returned (.int .i64 ((f d m : Nat) : Int)) ∧ w = w')
    (key salt ds : List UInt8) (hk : key.length + salt.length ≤ 140737488355000) (hd : dgs ds) (hl : ds.length ≤ 16) (w : World) (hg : Glob w) :
    Calls Tryz.prog 16 #[stepV F, .string (bs key), .string (bs salt), .string (bs ds)] w fun e w' => e = .returned (.string (bs (applyP f (maskP key salt) ds))) ∧ Below w.heap.size w w' := by
  have HX0 := hide (Blk.new w 38 #[.func (.func F) #[] #[]])
  have HG0 := hide (hg.alloc (.cells #[.func (.func F) #[] #[]] 38))
  have HB0 := hide (below_one w (.cells #[.func (.func F) #[] #[]] 38))
  have HJ : Hid ((joinD [maskT, key, salt]).length ≤ 140737488355328) := by
    have := join_len [maskT, key, salt] (fun l hl => by
      simp only [List.mem_cons, List.not_mem_nil, or_false] at hl
      rcases hl with rfl | rfl | rfl
      · decide
      all_goals omega)
    have e : maskT.length = 4 := rfl
    simp only [List.map_cons, List.map_nil, List.sum_cons, List.sum_nil, List.length_cons, List.length_nil, e] at this
    show _ ≤ _
    omega
  have HDg := hide hd
  have HFc := hide hF
  have Hf := hide hf
  clear hg hk hd hF hf
  go_enter Tryz.func16, Tryz.ntmps16
  unfold stepV
  go_wp2_with fail
  have HSZ : Hid ((w.alloc (.cells #[.func (.func F) #[] #[]] 38)).heap.size = w.heap.size + 1) := by show _ = _; simp
  generalize w.alloc (.cells #[.func (.func F) #[] #[]] 38) = w1 at *
  obtain ⟨X, HXe⟩ : ∃ X, Hid (w.heap.size = X) := ⟨_, rfl⟩
  rw [HXe.out] at HX0 HSZ ⊢
  have HS : Hid (Blk (w1.alloc (.cells #[.string ⟨#[109, 97, 115, 107]⟩, .string (bs key), .string (bs salt)] 9)) (X + 1) 9 (strC [maskT, key, salt])) := by rw [← HSZ.out]; exact Blk.new w1 _ _
  have HX1 := hide (HX0.out.alloc (.cells #[.string ⟨#[109, 97, 115, 107]⟩, .string (bs key), .string (bs salt)] 9))
  have HB1 := hide (below_alloc HB0.out (Nat.le_refl _) (.cells #[.string ⟨#[109, 97, 115, 107]⟩, .string (bs key), .string (bs salt)] 9))
  have HG1 := hide (HG0.out.alloc (.cells #[.string ⟨#[109, 97, 115, 107]⟩, .string (bs key), .string (bs salt)] 9))
  refine (List_any [maskT, key, salt] _ _ _ HS.out (by simp) HJ.out HG1.out).mono ?_
  rintro e w2 ⟨rfl, hb⟩
  have HB2 := hide (below_to HB1.out (Nat.le_refl _) hb)
  have HX2 := hide (HX1.out.to hb)
  clear hb HS HX1 HB1 HG1 HX0 HG0 HB0 HSZ
  rw [show listD [maskT, key, salt] = maskP key salt from rfl]
  have HM1 := hide (maskP_hex key salt)
  have HM2 := hide (maskP_len key salt)
  obtain ⟨ms, HMS⟩ : ∃ ms, Hid (maskP key salt = ms) := ⟨_, rfl⟩
  rw [HMS.out] at HM1 HM2 ⊢
  go_wp2_with ((with_reducible show wpList _ _ _ (Oper.mk _ (Op.convert 9 59 (.tmp 19)) _ _ _ _ :: _) _ _); refine wpList_bytes_of rfl 9 59 5 (.tmp 19) rfl Tryz.underlying9 Tryz.underlying59 Tryz.underlying5 ds rfl ?_; intro w3 cap hcap hby hbel)
  have HB3 := hide (below_to HB2.out (Nat.le_refl _) hbel)
  have HX3 := hide (HX2.out.to hbel)
  have HY3 := hide hby
  have HXl : Hid (X < w2.heap.size) := HX2.out.lt
  clear hbel hby HB2 HX2
  have HBd : Hid (w.heap.size < w2.heap.size) := by rw [HXe.out]; exact HXl.out
  generalize w2.heap.size = B at *
  obtain ⟨r, HR⟩ : ∃ r, Hid (applyP f ms ds = r) := ⟨_, rfl⟩
  have HRl : Hid (r.length = ds.length) := by show _ = _; rw [← HR.out]; exact applyP_len _ _ _ (by rw [HM2.out]; exact hl)
  go_loopw [11, 12, 13, 14, 23] (fun _ _ _ _ j wr => ApI w B X F r ds wr j) (fun _ _ _ _ j _ => ds.length - (intOf j).toNat)
  case atStart => exact ⟨0, by omega, rfl, HB3.out, by simpa [curA] using HY3.out, HX3.out.cell 0⟩
  case round =>
    obtain ⟨k, hk, rfl, hB, hY, hx⟩ := hrel
    have HB4 := hide hB
    have HY4 := hide hY
    clear hB hY
    by_cases hlt : k < ds.length
    · obtain ⟨c, hc⟩ : ∃ c, ds[k]? = some c := ⟨_, List.getElem?_eq_getElem hlt⟩
      obtain ⟨m, hm⟩ : ∃ m, ms[k]? = some m := ⟨_, List.getElem?_eq_getElem (by rw [HM2.out]; omega)⟩
      have cb := HY4.out.cell k c ((curA_at HRl.out hlt).trans hc)
      have cf := HY4.out.free k (by rw [curA_len HRl.out hk]; exact hlt)
      have hc9 := (isDg_iff c).1 (HDg.out c (List.mem_of_getElem? hc))
      have hmh := hide (HM1.out m (List.mem_of_getElem? hm))
      have hm16 := hexV_lt16 hmh.out
      have hra : Hid (r[k]? = some (dgC (f (c.toNat - 48) (hexV m)))) := by show _ = _; rw [← HR.out]; exact applyP_at hm hc
      have hex : (bs ms).extract k (k + 1) = bs [m] := by
        rw [bs_cut]
        congr 1
        rw [show k + 1 - k = 1 by omega, List.take_one, List.head?_drop, hm]
        rfl
      have hms : (bs ms).size = 16 := by rw [bs_size, HM2.out]
      have hsl : k + 1 ≤ 16 := by omega
      have HC := hide hc
      clear hc hm
      have hxl := World.block_lt_of_cell? wr _ hx
      go_wp2_with fail
      refine (ParseInt_hex m hmh.out _).mono ?_
      rintro e w4 ⟨rfl, hb⟩
      have HB5 := hide (below_to HB4.out (Nat.le_refl _) hb)
      have HY5 := hide (HY4.out.to hb)
      have x5 : w4.cell? ⟨X, 0, none⟩ = some (.func (.func F) #[] #[]) := (hb.cell (p := ⟨X, 0, none⟩) hxl).trans hx
      have cb5 := HY5.out.cell k c ((curA_at HRl.out hlt).trans HC.out)
      have cf5 := HY5.out.free k (by rw [curA_len HRl.out hk]; exact hlt)
      clear hb hx cb cf HB4 HY4 hxl
      have d0 : 48 ≤ c.toNat := hc9.1
      have d1 : c.toNat ≤ 57 := hc9.2
      go_wp2_with fail
      rw [show (c.toNat : Int) - 48 = ((c.toNat - 48 : Nat) : Int) by omega]
      refine (HFc.out (c.toNat - 48) (hexV m) (by omega) hm16 _).mono ?_
      rintro e w5 ⟨rfl, rfl⟩
      have hv := Hf.out (c.toNat - 48) (hexV m)
      have hv2 := dgC_nat hv
      generalize f (c.toNat - 48) (hexV m) = v at *
      have HV2 := hide hv2
      clear hv2
      go_wp2_with fail
      go_roundw
      case rel =>
        have hset := HY5.out.set_ (j := k) (by rw [curA_len HRl.out hk]; exact hlt) (dgC v)
        rw [curA_set HRl.out hlt hra.out] at hset
        rw [show ((48 : Int) + (v : Int)) = (((dgC v).toNat : Nat) : Int) by rw [HV2.out]; rfl]
        refine ⟨k + 1, by omega, by go_num, HB5.out.setCell (p := ⟨B, k, none⟩) (Nat.le_of_lt HBd.out) _, hset, ?_⟩
        rw [World.cell?_setCell_other _ _ _ _ (by intro h'; injection h' with h2 _ _; have := HBd.out; have := HXe.out; omega)]
        exact x5
      case measure => simp [intOf]; omega
    · obtain rfl : k = ds.length := by omega
      have hcur : curA r ds ds.length = r := by unfold curA; rw [List.take_of_length_le (by have := HRl.out; omega), List.drop_of_length_le (Nat.le_refl _)]; simp
      rw [hcur] at HY4
      have hcv := conv_bytes (P := Tryz.prog) wr 59 5 9 Tryz.underlying59 Tryz.underlying5 Tryz.underlying9 B 0 r ds.length cap HRl.out.symm (fun i c hc => by rw [Nat.zero_add]; exact HY4.out.cell i c hc)
      clear hcur
      go_wp2_with fail
      go_ret
      exact ⟨ret_str' (by rw [← HR.out, HMS.out]), HB4.out⟩
end Go.Proofs.YtdgbnplieaaokaaGreatDoor
