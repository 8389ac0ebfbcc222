/- The walk of PageComplete. -/
import Derived.Test.YtfhanbiifjiklaaGreatDoorF0
import Derived.Test.YtfhanbiifjiklaaGreatDoorE1
set_option linter.unusedVariables false
set_option linter.unusedSimpArgs false
namespace Go.Proofs.YtfhanbiifjiklaaGreatDoor
open Go.RowKit

theorem NewL {items : List (List UInt8)} (h : Lg items) (w : World) (hg : Glob w) : Calls Tryz.prog 21 #[.string (bs (rootL items)), .int .i64 (items.length : Int)] w fun e w' => ∃ b, e = .returned (.tuple #[cliP b, .int .i64 0]) ∧ w.heap.size ≤ b ∧ CliAt b (rootL items) items.length [] (.slice none 0 0) w' ∧ Below w.heap.size w w' := by
  have := New_any (rootL items) (by rw [isD_len (root_isD items)]; decide) items.length w hg
  unfold NewR at this
  simp only [new_yes h, if_true] at this
  refine this.mono ?_
  rintro e w' ⟨⟨b, h1, h2, h3⟩, h4⟩
  exact ⟨b, h1, h2, h3, h4⟩
theorem rootL_any {items : List (List UInt8)} (h : Lg items) (v : Value) (w : World) (hv : TextsAt w v items) (hg : Glob w) : Calls Tryz.prog 22 #[v] w fun e w' => e = .returned (.string (bs (rootL items))) ∧ Below w.heap.size w w' := root_any items h.big.1 h.big.2 v w hv hg
/-- what a client keeps between two pages -/
structure CoI (w : World) (b : Nat) (items : List (List UInt8)) (k : Nat) (v : Value) (W : World) : Prop where
  bel : Below w.heap.size w W
  cli : CliAt b (rootL items) items.length (items.take k) v W
  ord : w.heap.size ≤ b
  le : k ≤ items.length
theorem CoI.to {w W W' : World} {b k : Nat} {items : List (List UInt8)} {v : Value} (h : CoI w b items k v W) (hb : Below W.heap.size W W') : CoI w b items k v W' := ⟨below_to h.bel (Nat.le_refl _) hb, h.cli.to hb, h.ord, h.le⟩
theorem CoI.acc {w W W' : World} {b k k' : Nat} {items : List (List UInt8)} {v v' : Value} (h : CoI w b items k v W) (hT : Two b (rowOr v b) W W') (hc : CliAt b (rootL items) items.length (items.take k') v' W') (hk : k' ≤ items.length) : CoI w b items k' v' W' := by
  have hr : b ≤ rowOr v b := rowOr_le (fun g e => by have := (h.cli.lt g e).1; omega) (Nat.le_refl _)
  exact ⟨h.bel.trans (hT.below h.bel.size h.ord (Nat.le_trans h.ord hr)), hc, h.ord, hk⟩
theorem CoI.next {w W : World} {b k : Nat} {items : List (List UInt8)} {v : Value} (h : CoI w b items k v W) (hl : Lg items) : Calls Tryz.prog 23 #[.pointer (some ⟨b, 0, none⟩)] W fun e w' => e = .returned (.int .i64 (k : Int)) ∧ Below W.heap.size W w' := by
  have := Next_any b _ _ (items.take k) (by have := hl.big.1; rw [List.length_take]; omega) v W h.cli
  rw [List.length_take, Nat.min_eq_left h.le] at this
  exact this
theorem CoI.its {w W : World} {b k : Nat} {items : List (List UInt8)} {v : Value} (h : CoI w b items k v W) (hl : Lg items) : Calls Tryz.prog 26 #[.pointer (some ⟨b, 0, none⟩)] W (ItemsR (items.take k) W) :=
  Items_any b _ _ (items.take k) (by have := hl.big.1; rw [List.length_take]; omega) v W h.cli
/-- a page of the log, wherever its arrays lie behind the client -/
theorem CoI.accept {w W : World} {b k F M lo hi : Nat} {items : List (List UInt8)} {v vi vp : Value} (h : CoI w b items k v W) (hl : Lg items) (hF : F ≤ items.length) (h2 : M ≤ 50) (hg : Glob w) (hp : PgAt lo hi W vi vp (pageV items F M)) (hlo : b < lo) (hv : ∀ g, v.ownBlock = some g → g < lo) :
    Calls Tryz.prog 24 #[.pointer (some ⟨b, 0, none⟩), .agg ((pageV items F M).cs vi vp)] W fun e w' => ∃ v', e = .returned (.int .i64 (if k < F then 13 else 0)) ∧ CoI w b items (if k < F then k else max k (min (F + M) items.length)) v' w' ∧ Two b (rowOr v b) W w' := by
  have C := Accept_any b (rootL items) items.length (items.take k) (by have := hl.big.1; rw [List.length_take]; omega) v (pageV items F M) (page_fit hl hF h2) vi vp W (hg.to h.bel) h.cli hp.ti hp.tp (fun e => by have := hp.bi b e; omega) (fun g e e2 => by have := hp.bi g e2; have := hv g e; omega)
  rw [page_accE hl hF h2 h.le, page_accV hl hF h2 h.le] at C
  refine C.mono ?_
  rintro e w' ⟨v', h1, h2, h3, _⟩
  exact ⟨v', h1, h.acc h3 h2 (by have := h.le; split <;> omega), h3⟩
set_option maxRecDepth 100000 in
set_option maxHeartbeats 4000000 in
theorem complete_law (items : List (List UInt8)) (hn : items.length ≤ 8796093022208) (hx : ∀ x ∈ items, x.length ≤ 140737488355328) (zs : List Nat) (hz : zs.length ≤ 140737488355328) (hz2 : ∀ z ∈ zs, z ≤ 255) (v vz : Value) (w : World) (hv : TextsAt w v items) (hvz : U8sAt w vz zs) (hg : Glob w) :
    Calls Tryz.prog 4 #[v, vz] w fun e w' => e = .returned (.bool true) ∧ Below w.heap.size w w' := by
  have HS := hide hv
  have HZ := hide hvz
  have HG := hide hg
  have CF := fun (w' : World) (hb : Below w.heap.size w w') => few_any items hn hx v w' (hv.to hb)
  obtain ⟨A, c, rfl, _⟩ := hv.slice
  obtain ⟨Az, cz, rfl, _⟩ := hvz.slice
  have C1 := head_any w hg
  clear hv hvz hg
  go_enter Tryz.func4, Tryz.ntmps4
  go_wp2_with fail
  refine C1.mono ?_
  rintro e w1 ⟨rfl, hb⟩
  have HB1 := hide hb
  have CF := CF w1 hb
  clear hb C1
  go_wp2_with fail
  refine CF.mono ?_
  rintro e w2 ⟨rfl, rfl⟩
  clear CF
  cases hfew : fewI items with
  | false =>
    go_wp2_with fail
    go_ret
    exact ⟨rfl, HB1.out⟩
  | true =>
    have HL := hide (fewI_lg hfew)
    have hlen := HL.out.len
    clear hfew
    go_wp2_with fail
    have C3 := rootL_any HL.out _ w2 (HS.out.to HB1.out) (HG.out.to HB1.out)
    refine C3.mono ?_
    rintro e w3 ⟨rfl, hb⟩
    have HB3 := hide (below_to HB1.out (Nat.le_refl _) hb)
    clear hb C3 HB1
    go_wp2_with fail
    have C4 := NewL HL.out w3 (HG.out.to HB3.out)
    unfold cliP at C4
    refine C4.mono ?_
    rintro e w4 ⟨b, rfl, hbb, hcl, hb⟩
    have H4 : Hid (CoI w b items 0 (.slice none 0 0) w4) := ⟨below_to HB3.out (Nat.le_refl _) hb, hcl, by have := HB3.out.size; omega, by omega⟩
    clear hb C4 HB3 hcl hbb
    go_wp2_with fail
    go_loopw [8] (fun i wr => ∃ (m k : Nat) (v' : Value), i = .int .i64 (m : Int) ∧ m ≤ items.length ∧ m ≤ k ∧ Aside (CoI w b items k v' wr)) (fun i _ => items.length - (intOf i).toNat)
    case atStart => exact ⟨0, 0, _, rfl, by omega, by omega, H4.out⟩
    case round =>
      clear H4
      obtain ⟨m, k, v', rfl, hm, hmk, hI⟩ := hrel
      have hI : Hid (CoI w b items k v' wr) := hI
      have hkn := hI.out.le
      by_cases hlt : m < items.length
      · have e1 : decide ((m : Int) < (items.length : Int)) = true := decide_eq_true (by omega)
        by_cases hmz : m < zs.length
        · have e2 : decide ((m : Int) < (zs.length : Int)) = true := decide_eq_true (by omega)
          obtain ⟨z, hz1⟩ : ∃ z, zs[m]? = some z := ⟨_, List.getElem?_eq_getElem hmz⟩
          have hzb := hz2 z (List.mem_of_getElem? hz1)
          obtain ⟨a, rfl, ha, c0⟩ := (HZ.out.to hI.out.bel).at_ hz1
          clear hz1
          have i0 : (0 : Int) ≤ (m : Int) := by omega
          have i1 : (m : Int) < (zs.length : Int) := by omega
          have hm1 : 1 ≤ 1 + z % 50 := by omega
          have hm2 : 1 + z % 50 ≤ 50 := by omega
          go_wp2_with fail
          have C5 := hI.out.next HL.out
          refine C5.mono ?_
          rintro e w5 ⟨rfl, hb⟩
          have H5 := hide (hI.out.to hb)
          clear hb C5 hI
          go_wp2_with fail
          have C6 := Serve_yes items HL.out.big.1 HL.out.big.2 k (1 + z % 50) (serve_yes HL.out H5.out.le hm1 hm2) _ w5 (HG.out.to H5.out.bel) (HS.out.to H5.out.bel)
          rw [show ((1 + z % 50 : Nat) : Int) = 1 + (z : Int) % 50 by omega] at C6
          unfold ServeR at C6
          refine C6.mono ?_
          rintro e w6 ⟨vi, vp, rfl, hpg, hb⟩
          have HP6 := hide hpg
          have H6 := hide (H5.out.to hb)
          have hvl := fun g e => (H5.out.cli.lt g e).2
          have hbl : b < w5.heap.size := H5.out.cli.blk.lt
          obtain ⟨Ai, ci, rfl, _⟩ := hpg.ti.slice
          obtain ⟨Ap, cp, rfl, _⟩ := hpg.tp.slice
          clear hb hpg C6 H5
          have HP7 := hide (HP6.out.to (below_one w6 (.cells ((pageV items k (1 + z % 50)).cs (.slice Ai (pageV items k (1 + z % 50)).items.length ci) (.slice Ap (pageV items k (1 + z % 50)).paths.length cp)) 25)))
          have H7 := hide (H6.out.to (below_one w6 (.cells ((pageV items k (1 + z % 50)).cs (.slice Ai (pageV items k (1 + z % 50)).items.length ci) (.slice Ap (pageV items k (1 + z % 50)).paths.length cp)) 25)))
          have C7 := H7.out.accept HL.out H7.out.le hm2 HG.out HP7.out hbl hvl
          rw [if_neg (Nat.lt_irrefl k), if_neg (Nat.lt_irrefl k)] at C7
          clear HP6 H6 HP7 hvl hbl
          unfold Pg.cs at C7 H7 ⊢
          go_wp2_with fail
          refine C7.mono ?_
          rintro e w8 ⟨v8, rfl, hI8, _⟩
          have H8 := hide hI8
          clear hI8 C7 H7
          go_wp2_with fail
          refine ⟨⟨m + 1, max k (min (k + (1 + z % 50)) items.length), _, by go_num, by omega, by omega, H8.out⟩, ?_⟩
          simp [intOf]; omega
        · have e2 : decide ((m : Int) < (zs.length : Int)) = false := decide_eq_false (by omega)
          go_wp2_with fail
          have C5 := hI.out.next HL.out
          refine C5.mono ?_
          rintro e w5 ⟨rfl, hb⟩
          have H5 := hide (hI.out.to hb)
          clear hb C5 hI
          go_wp2_with fail
          have C6 := Serve_yes items HL.out.big.1 HL.out.big.2 k (1) (serve_yes HL.out H5.out.le (Nat.le_refl 1) (by decide : 1 ≤ 50)) _ w5 (HG.out.to H5.out.bel) (HS.out.to H5.out.bel)
          have C6 : Calls Tryz.prog 14 #[.slice A items.length c, .int .i64 (k : Int), .int .i64 1] w5 _ := C6
          unfold ServeR at C6
          refine C6.mono ?_
          rintro e w6 ⟨vi, vp, rfl, hpg, hb⟩
          have HP6 := hide hpg
          have H6 := hide (H5.out.to hb)
          have hvl := fun g e => (H5.out.cli.lt g e).2
          have hbl : b < w5.heap.size := H5.out.cli.blk.lt
          obtain ⟨Ai, ci, rfl, _⟩ := hpg.ti.slice
          obtain ⟨Ap, cp, rfl, _⟩ := hpg.tp.slice
          clear hb hpg C6 H5
          have HP7 := hide (HP6.out.to (below_one w6 (.cells ((pageV items k (1)).cs (.slice Ai (pageV items k (1)).items.length ci) (.slice Ap (pageV items k (1)).paths.length cp)) 25)))
          have H7 := hide (H6.out.to (below_one w6 (.cells ((pageV items k (1)).cs (.slice Ai (pageV items k (1)).items.length ci) (.slice Ap (pageV items k (1)).paths.length cp)) 25)))
          have C7 := H7.out.accept HL.out H7.out.le (by decide : 1 ≤ 50) HG.out HP7.out hbl hvl
          rw [if_neg (Nat.lt_irrefl k), if_neg (Nat.lt_irrefl k)] at C7
          clear HP6 H6 HP7 hvl hbl
          unfold Pg.cs at C7 H7 ⊢
          go_wp2_with fail
          refine C7.mono ?_
          rintro e w8 ⟨v8, rfl, hI8, _⟩
          have H8 := hide hI8
          clear hI8 C7 H7
          go_wp2_with fail
          refine ⟨⟨m + 1, max k (min (k + (1)) items.length), _, by go_num, by omega, by have := (Nat.le_refl 1); omega, H8.out⟩, ?_⟩
          simp [intOf]; omega
      · obtain rfl : m = items.length := by omega
        obtain rfl : k = items.length := by omega
        have e1 : decide ((items.length : Int) < (items.length : Int)) = false := by simp
        go_wp2_with fail
        have C5 := hI.out.its HL.out
        unfold ItemsR at C5
        rw [List.take_length] at C5
        refine C5.mono ?_
        rintro e w5 ⟨v5, rfl, ho, hb⟩
        have H5 := hide (hI.out.to hb)
        have HT := hide (TextsAt.of_own ho)
        obtain ⟨A5, c5, rfl⟩ := own_sl4 ho
        clear hb C5 hI ho
        go_wp2_with fail
        have C6 : Calls Tryz.prog 25 #[.slice A5 items.length c5, .slice A items.length c] w5 fun e w' => e = .returned (.bool true) ∧ Below w5.heap.size w5 w' := by
          have := Same_any items items hn hn _ _ w5 HT.out (HS.out.to H5.out.bel)
          rwa [decide_eq_true rfl] at this
        refine C6.mono ?_
        rintro e w6 ⟨rfl, hb⟩
        have H6 := hide (H5.out.to hb)
        clear hb C6 H5 HT
        go_wp2_with fail
        have C7 := H6.out.next HL.out
        refine C7.mono ?_
        rintro e w7 ⟨rfl, hb⟩
        have H7 := hide (H6.out.to hb)
        clear hb C7 H6
        have hq : ((items.length : Int) == (items.length : Int)) = true := by simp
        go_wp2_with fail
        go_ret
        exact ⟨ret_bool (by simp), H7.out.bel⟩
end Go.Proofs.YtfhanbiifjiklaaGreatDoor
