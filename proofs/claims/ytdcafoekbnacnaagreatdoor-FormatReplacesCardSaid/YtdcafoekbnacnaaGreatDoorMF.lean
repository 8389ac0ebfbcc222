/- Several texts as one, in build order. -/
import Derived.Test.YtdcafoekbnacnaaGreatDoorME
import Derived.Test.YtdcafoekbnacnaaGreatDoorMB
import Derived.Deep.DeepCutAuto
/- Chapter 24: the walk of FormatReplaces. -/
set_option linter.unusedVariables false
set_option linter.unusedSimpArgs false
namespace Go.Proofs.YtdcafoekbnacnaaGreatDoor
open Go.RowKit Go.Shelf
attribute [local go_sem] Oper.semAt_some

theorem fields_put9 (f0 f1 f2 f3 f4 f5 f6 f7 f8 x : List UInt8) : ∀ (k : Nat), k < 9 → ∃ g0 g1 g2 g3 g4 g5 g6 g7 g8 : List UInt8, [f0, f1, f2, f3, f4, f5, f6, f7, f8].set k x = [g0, g1, g2, g3, g4, g5, g6, g7, g8] ∧ (#[Value.string (bs f0), Value.string (bs f1), Value.string (bs f2), Value.string (bs f3), Value.string (bs f4), Value.string (bs f5), Value.string (bs f6), Value.string (bs f7), Value.string (bs f8)] : Array Value).setIfInBounds k (.string (bs x)) = #[Value.string (bs g0), Value.string (bs g1), Value.string (bs g2), Value.string (bs g3), Value.string (bs g4), Value.string (bs g5), Value.string (bs g6), Value.string (bs g7), Value.string (bs g8)]
  | 0, _ => ⟨x, f1, f2, f3, f4, f5, f6, f7, f8, rfl, rfl⟩
  | 1, _ => ⟨f0, x, f2, f3, f4, f5, f6, f7, f8, rfl, rfl⟩
  | 2, _ => ⟨f0, f1, x, f3, f4, f5, f6, f7, f8, rfl, rfl⟩
  | 3, _ => ⟨f0, f1, f2, x, f4, f5, f6, f7, f8, rfl, rfl⟩
  | 4, _ => ⟨f0, f1, f2, f3, x, f5, f6, f7, f8, rfl, rfl⟩
  | 5, _ => ⟨f0, f1, f2, f3, f4, x, f6, f7, f8, rfl, rfl⟩
  | 6, _ => ⟨f0, f1, f2, f3, f4, f5, x, f7, f8, rfl, rfl⟩
  | 7, _ => ⟨f0, f1, f2, f3, f4, f5, f6, x, f8, rfl, rfl⟩
  | 8, _ => ⟨f0, f1, f2, f3, f4, f5, f6, f7, x, rfl, rfl⟩
theorem at_fix {w : World} {ad : Addr} {n c : Nat} {ps : List Prt} (h : PartsAt w (.slice (some ad) n c) ps) {k : Nat} {p : Prt} (hp : ps[k]? = some p) : w.cell? (ad.add (k * 4)) = some (.int .i64 p.k) ∧ w.cell? ⟨(ad.add (k * 4)).block, (ad.add (k * 4)).off + 1, none⟩ = some (.string (bs p.b)) ∧
      w.cell? ⟨(ad.add (k * 4)).block, (ad.add (k * 4)).off + 2, none⟩ = some (.string (bs p.a)) ∧ w.cell? ⟨(ad.add (k * 4)).block, (ad.add (k * 4)).off + 3, none⟩ = some (.bool p.need) := by
  obtain ⟨a, c', ea, _, _, c0, c1, c2, c3⟩ := h.at_ hp
  have e := Option.some.inj (Value.slice.inj ea).1
  subst e
  exact ⟨c0, c1, c2, c3⟩
def befN (f : List (List UInt8)) (l : List Prt) (p : Prt) (i : Nat) : Nat := if i ≤ l.length then (writL f (l.take i)).length else (writL f l ++ p.b).length
def aftN (f : List (List UInt8)) (l : List Prt) (p : Prt) (r : List Prt) (i : Nat) : Nat := if i ≤ l.length then 0 else (p.a ++ writL f (r.take (i - l.length - 1))).length
def oneN (f : List (List UInt8)) (q : Prt) : Nat := if valF f q.k = [] then 0 else q.b.length + (valF f q.k).length + q.a.length
theorem writ_take {f : List (List UInt8)} {l : List Prt} {i : Nat} {q : Prt} (h : l[i]? = some q) : (writL f (l.take (i + 1))).length = (writL f (l.take i)).length + oneN f q := by
  rw [writL_snoc h, List.length_append]
  unfold oneN
  split
  · rfl
  · simp; omega
theorem st_l {f : List (List UInt8)} {l r : List Prt} {p q : Prt} {i : Nat} (h : l[i]? = some q) : befN f l p (i + 1) = befN f l p i + oneN f q ∧ aftN f l p r (i + 1) = aftN f l p r i := by
  obtain ⟨hlt, _⟩ := List.getElem?_eq_some_iff.1 h
  unfold befN aftN
  rw [if_pos (by omega), if_pos (by omega), if_pos (by omega), if_pos (by omega), writ_take h]
  exact ⟨rfl, rfl⟩
theorem st_p {f : List (List UInt8)} {l r : List Prt} {p : Prt} : befN f l p (l.length + 1) = befN f l p l.length + p.b.length ∧ aftN f l p r (l.length + 1) = aftN f l p r l.length + p.a.length := by
  unfold befN aftN
  rw [if_neg (by omega), if_pos (by omega), if_neg (by omega), if_pos (by omega), List.take_length, List.length_append, show l.length + 1 - l.length - 1 = 0 by omega, List.take_zero, List.length_append]
  exact ⟨rfl, by simp [writL]⟩
theorem st_r {f : List (List UInt8)} {l r : List Prt} {p q : Prt} {m : Nat} (h : r[m]? = some q) : befN f l p (l.length + 1 + m + 1) = befN f l p (l.length + 1 + m) ∧ aftN f l p r (l.length + 1 + m + 1) = aftN f l p r (l.length + 1 + m) + oneN f q := by
  unfold befN aftN
  rw [if_neg (by omega), if_neg (by omega), if_neg (by omega), if_neg (by omega), show l.length + 1 + m + 1 - l.length - 1 = m + 1 by omega, show l.length + 1 + m - l.length - 1 = m by omega, List.length_append, List.length_append, List.length_append, writ_take h]
  exact ⟨rfl, by omega⟩
theorem st_end {f : List (List UInt8)} {ps l r : List Prt} {p : Prt} (h : ps = l ++ p :: r) : befN f l p ps.length = (writL f l ++ p.b).length ∧ aftN f l p r ps.length = (p.a ++ writL f r).length := by
  have hl : ps.length = l.length + 1 + r.length := by rw [h]; simp; omega
  unfold befN aftN
  rw [if_neg (by omega), if_neg (by omega), hl, show l.length + 1 + r.length - l.length - 1 = r.length by omega, List.take_length]
  exact ⟨rfl, rfl⟩
theorem st_start {f : List (List UInt8)} {l r : List Prt} {p : Prt} : befN f l p 0 = 0 ∧ aftN f l p r 0 = 0 := by
  unfold befN aftN
  rw [if_pos (Nat.zero_le _), if_pos (Nat.zero_le _)]
  exact ⟨rfl, rfl⟩
theorem ba_len {f : List (List UInt8)} {ps l r : List Prt} {p : Prt} (h : ps = l ++ p :: r) (i : Nat) : befN f l p i ≤ (writL f ps).length + p.b.length ∧ aftN f l p r i ≤ (writL f ps).length + p.a.length := by
  have mono : ∀ (m : List Prt) (i : Nat), (writL f (m.take i)).length ≤ (writL f m).length := fun m i => by
    have e : writL f m = writL f (m.take i) ++ writL f (m.drop i) := by rw [← writL_app, List.take_append_drop]
    rw [e, List.length_append]; omega
  have hw : (writL f ps).length = (writL f l).length + (writL f (p :: r)).length := by rw [h, writL_app, List.length_append]
  have hr : (writL f r).length ≤ (writL f (p :: r)).length := by rw [writL, List.length_append]; omega
  have h1 := mono l i
  have h2 := mono r (i - l.length - 1)
  unfold befN aftN
  constructor
  · split
    · omega
    · rw [List.length_append]; omega
  · split
    · omega
    · rw [List.length_append]; omega
set_option maxRecDepth 100000 in
set_option maxHeartbeats 8000000 in
theorem replaces_law (s : Sch) (hl0 : s.ps.length ≤ 8796093022208) (hc0 : s.c.length ≤ 140737488355328) (v : Value) (f0 f1 f2 f3 f4 f5 f6 f7 f8 : List UInt8) (raw : Nat) (hraw : raw < 256) (t : List UInt8) (ht0 : t.length ≤ 140737488355328) (w : World) (hP : PartsAt w v s.ps) (hg : Glob4 w) :
    Calls Tryz.prog 14 #[.agg #[.string (bs s.c), v], .agg #[.string (bs f0), .string (bs f1), .string (bs f2), .string (bs f3), .string (bs f4), .string (bs f5), .string (bs f6), .string (bs f7), .string (bs f8)], .int .u8 (raw : Int), .string (bs t)] w fun e w' => e = .returned (.bool true) ∧ Below w.heap.size w w' := by
  have HP0 := hide hP
  have HPo := hide hP
  have HG0 := hide hg
  have HGo := hide hg
  obtain ⟨A, c, rfl, hc⟩ := hP.slice
  clear hP hg
  have hsz := bs_size t
  go_enter Tryz.func14, Tryz.ntmps14
  go_wp2_with fail
  obtain ⟨Xs, Xf, B0⟩ := box2 w 24 #[.string (bs s.c), .slice A s.ps.length c] 26 #[.string (bs f0), .string (bs f1), .string (bs f2), .string (bs f3), .string (bs f4), .string (bs f5), .string (bs f6), .string (bs f7), .string (bs f8)]
  have HXs := hide Xs
  have HXf := hide Xf
  have HB := hide B0
  have HP := hide (HP0.out.to B0)
  have HG := hide (HG0.out.to B0)
  clear Xs Xf B0 HP0 HG0
  generalize (w.alloc (.cells #[.string (bs s.c), .slice A s.ps.length c] 24)).alloc (.cells #[.string (bs f0), .string (bs f1), .string (bs f2), .string (bs f3), .string (bs f4), .string (bs f5), .string (bs f6), .string (bs f7), .string (bs f8)] 26) = w1 at *
  refine (head24_any w1 HG.out).mono ?_
  rintro e w2 ⟨rfl, hb⟩
  have zHXs := hide (HXs.out.to hb)
  have zHXf := hide (HXf.out.to hb)
  have zHP := hide (HP.out.to hb)
  have zHG := hide (HG.out.to hb)
  have zHB := hide (below_to HB.out (Nat.le_refl _) hb)
  clear hb HB HXs HXf HP HG
  have HXs := zHXs
  have HXf := zHXf
  have HP := zHP
  have HG := zHG
  have HB := zHB
  clear zHXs zHXf zHP zHG zHB
  obtain ⟨k, hk⟩ : ∃ x, 1 + raw % 8 = x := ⟨_, rfl⟩
  have hk9 : k < 9 := by omega
  have hk1 : 1 ≤ k := by omega
  have ew : IntKind.i64.wrap (raw : Int) = (raw : Int) := w64 (by omega) (by omega)
  obtain ⟨rm, hrm⟩ : ∃ x, raw % 8 = x := ⟨_, rfl⟩
  have em : (raw : Int).tmod 8 = (rm : Int) := by rw [Int.tmod_eq_emod_of_nonneg (by omega), ← hrm, Int.natCast_emod]; rfl
  have ek : (1 : Int) + (rm : Int) = (k : Int) := by omega
  have hk9' : (k : Int) < 9 := by omega
  clear hk hrm
  obtain ⟨U, hU, g, u0, rfl, hgu, hgi⟩ := cls w2
  have xs_0 := fun u => (((HXs.out.to (hgu u)).cell 0).trans (show _ = some (Value.string (bs s.c)) from rfl))
  have xs_1 := fun u => (((HXs.out.to (hgu u)).cell 1).trans (show _ = some (Value.slice A s.ps.length c) from rfl))
  have xf_0 := fun u => (((HXf.out.to (hgu u)).cell 0).trans (show _ = some (Value.string (bs f0)) from rfl))
  have xf_1 := fun u => (((HXf.out.to (hgu u)).cell 1).trans (show _ = some (Value.string (bs f1)) from rfl))
  have xf_2 := fun u => (((HXf.out.to (hgu u)).cell 2).trans (show _ = some (Value.string (bs f2)) from rfl))
  have xf_3 := fun u => (((HXf.out.to (hgu u)).cell 3).trans (show _ = some (Value.string (bs f3)) from rfl))
  have xf_4 := fun u => (((HXf.out.to (hgu u)).cell 4).trans (show _ = some (Value.string (bs f4)) from rfl))
  have xf_5 := fun u => (((HXf.out.to (hgu u)).cell 5).trans (show _ = some (Value.string (bs f5)) from rfl))
  have xf_6 := fun u => (((HXf.out.to (hgu u)).cell 6).trans (show _ = some (Value.string (bs f6)) from rfl))
  have xf_7 := fun u => (((HXf.out.to (hgu u)).cell 7).trans (show _ = some (Value.string (bs f7)) from rfl))
  have xf_8 := fun u => (((HXf.out.to (hgu u)).cell 8).trans (show _ = some (Value.string (bs f8)) from rfl))
  have ck := fun u => (((HXf.out.to (hgu u)).cell k).trans (fields_at f0 f1 f2 f3 f4 f5 f6 f7 f8 k hk9))
  obtain ⟨fk, hfk⟩ : ∃ x, [f0, f1, f2, f3, f4, f5, f6, f7, f8].getD k [] = x := ⟨_, rfl⟩
  simp only [hfk] at ck
  have HFK := hide hfk
  clear hfk
  have CK : ∀ u, Calls Tryz.prog 31 #[.agg #[.string (bs s.c), .slice A s.ps.length c], .agg #[.string (bs f0), .string (bs f1), .string (bs f2), .string (bs f3), .string (bs f4), .string (bs f5), .string (bs f6), .string (bs f7), .string (bs f8)], .string (bs t)] (g u) fun e w' => e = .returned (.bool (fewB s && (shortF [f0, f1, f2, f3, f4, f5, f6, f7, f8] && decide (t.length ≤ 800)))) ∧ ∃ u', w' = g u' := fun u => cls_call hgu hgi (fun W hb => few24_any s hl0 (.slice A s.ps.length c) f0 f1 f2 f3 f4 f5 f6 f7 f8 t W (HP.out.to hb)) u
  have CW : ∀ u, Calls Tryz.prog 32 #[.agg #[.string (bs s.c), .slice A s.ps.length c], .agg #[.string (bs f0), .string (bs f1), .string (bs f2), .string (bs f3), .string (bs f4), .string (bs f5), .string (bs f6), .string (bs f7), .string (bs f8)]] (g u) fun e w' => e = .returned (.tuple #[.string (bs (fwV s [f0, f1, f2, f3, f4, f5, f6, f7, f8])), .int .i64 (fwE s [f0, f1, f2, f3, f4, f5, f6, f7, f8])]) ∧ ∃ u', w' = g u' := fun u => cls_call hgu hgi (fun W hb => FWrite_any s hl0 hc0 (.slice A s.ps.length c) f0 f1 f2 f3 f4 f5 f6 f7 f8 W (HP.out.to hb) (HG.out.to hb).g) u
  have CA : ∀ u, Calls Tryz.prog 24 #[.agg #[.string (bs s.c), .slice A s.ps.length c], .agg #[.string (bs f0), .string (bs f1), .string (bs f2), .string (bs f3), .string (bs f4), .string (bs f5), .string (bs f6), .string (bs f7), .string (bs f8)]] (g u) fun e w' => e = .returned (.bool (fitsB isNm numB s [f0, f1, f2, f3, f4, f5, f6, f7, f8])) ∧ ∃ u', w' = g u' := fun u => cls_call hgu hgi (fun W hb => Fits_any s hl0 hc0 (.slice A s.ps.length c) f0 f1 f2 f3 f4 f5 f6 f7 f8 W (HP.out.to hb) (HG.out.to hb).g) u
  cases hCK : (fewB s && (shortF [f0, f1, f2, f3, f4, f5, f6, f7, f8] && decide (t.length ≤ 800))) with
  | false =>
    rw [hCK] at CK
    clear hCK
    go_wp2_with (first | ((with_reducible refine (CK _).mono ?_); rintro e w' ⟨rfl, u, rfl⟩) | ((with_reducible refine (CW _).mono ?_); rintro e w' ⟨rfl, u, rfl⟩) | ((with_reducible refine (CA _).mono ?_); rintro e w' ⟨rfl, u, rfl⟩))
    all_goals go_ret
    all_goals exact ⟨rfl, below_to HB.out (Nat.le_refl _) (hgu _)⟩
  | true =>
    rw [hCK] at CK
    have kCK := hide hCK
    clear hCK
    cases hCA : fitsB isNm numB s [f0, f1, f2, f3, f4, f5, f6, f7, f8] with
    | false =>
      rw [hCA] at CA
      clear hCA kCK
      go_wp2_with (first | ((with_reducible refine (CK _).mono ?_); rintro e w' ⟨rfl, u, rfl⟩) | ((with_reducible refine (CW _).mono ?_); rintro e w' ⟨rfl, u, rfl⟩) | ((with_reducible refine (CA _).mono ?_); rintro e w' ⟨rfl, u, rfl⟩))
      all_goals go_ret
      all_goals exact ⟨rfl, below_to HB.out (Nat.le_refl _) (hgu _)⟩
    | true =>
      rw [hCA] at CA
      have kCA := hide hCA
      clear hCA
      have hts := (few24_facts kCK.out).2.2
      have hfit := (fitsB_iff isNm numB s [f0, f1, f2, f3, f4, f5, f6, f7, f8] rfl).1 kCA.out
      rw [(fw_yes kCA.out).1, (fw_yes kCA.out).2] at CW
      have HFIT := hide hfit
      have HWL := hide (writ_short hfit)
      have HKK := hide (fits_kinds (f := [f0, f1, f2, f3, f4, f5, f6, f7, f8]) rfl kCA.out)
      have HSS : Hid (∀ p ∈ s.ps, p.b.length ≤ 4 ∧ p.a.length ≤ 4) := fun p hp => ⟨(small_facts (hfit.valid.part p hp).2.1).1, (small_facts (hfit.valid.part p hp).2.2).1⟩
      have h8 := hfit.valid.n8
      have HFF := hide (fits_len hfit)
      clear hfit
      by_cases hv0 : fk = []
      · have e0 : (bs fk).toList.isEmpty = true := by rw [hv0, bs_toList]; rfl
        clear hv0
        go_wp2_with (first | ((with_reducible refine (CK _).mono ?_); rintro e w' ⟨rfl, u, rfl⟩) | ((with_reducible refine (CW _).mono ?_); rintro e w' ⟨rfl, u, rfl⟩) | ((with_reducible refine (CA _).mono ?_); rintro e w' ⟨rfl, u, rfl⟩))
        all_goals go_ret
        all_goals exact ⟨rfl, below_to HB.out (Nat.le_refl _) (hgu _)⟩
      have HV0 := hide hv0
      have e0 : (bs fk).toList.isEmpty = false := by rw [bs_toList]; cases hq : fk with | nil => exact absurd hq hv0 | cons a l => rfl
      obtain ⟨l, p, r, hps, hpk, hpl, hpr⟩ := fits_part HFIT.out hk9 (by rw [val_nat, HFK.out]; exact hv0)
      have HSP := hide (And.intro hps (And.intro hpk (And.intro hpl hpr)))
      obtain ⟨fl, hfl⟩ : ∃ fl, [f0, f1, f2, f3, f4, f5, f6, f7, f8] = fl := ⟨_, rfl⟩
      have HAT : Hid (∀ k : Nat, k < 9 → (#[Value.string (bs f0), Value.string (bs f1), Value.string (bs f2), Value.string (bs f3), Value.string (bs f4), Value.string (bs f5), Value.string (bs f6), Value.string (bs f7), Value.string (bs f8)] : Array Value)[k]? = some (.string (bs (fl.getD k [])))) := by rw [← hfl]; exact fields_at f0 f1 f2 f3 f4 f5 f6 f7 f8
      have HFL := hide hfl
      rw [hfl] at HFF HWL HFIT CW HFK
      have HSL : Hid (∀ i, befN fl l p i ≤ 2004 ∧ aftN fl l p r i ≤ 2004) := fun i => by
        have h1 := ba_len (f := fl) hps i
        have h2 := HWL.out
        have h3 := HSS.out p (by rw [hps]; simp)
        omega
      clear hps hpk hpl hpr hv0 hfl
      generalize hWR : writL fl s.ps = wrt at *
      have HWR := hide hWR
      clear hWR
      go_wp2_with (first | ((with_reducible refine (CK _).mono ?_); rintro e w' ⟨rfl, u, rfl⟩) | ((with_reducible refine (CW _).mono ?_); rintro e w' ⟨rfl, u, rfl⟩) | ((with_reducible refine (CA _).mono ?_); rintro e w' ⟨rfl, u, rfl⟩))
      have HP3 := hide (HP.out.to (hgu u))
      have HXs3 := hide (HXs.out.to (hgu u))
      have HXf3 := hide (HXf.out.to (hgu u))
      have HB3 := hide (below_to HB.out (Nat.le_refl _) (hgu u))
      revert HP3 HXs3 HXf3 HB3
      generalize g u = w3
      intro HP3 HXs3 HXf3 HB3
      clear CK CW CA ck e0 HP HG HXs HXf HB hgu hgi xs_0 xs_1 xf_0 xf_1 xf_2 xf_3 xf_4 xf_5 xf_6 xf_7 xf_8
      go_loopw [13, 14, 15, 16] (fun b a h i wr => ∃ n : Nat, n ≤ s.ps.length ∧ i = .int .i64 (n : Int) ∧ b = .int .i64 (befN fl l p n : Nat) ∧ a = .int .i64 (aftN fl l p r n : Nat) ∧ h = .bool (decide (l.length < n)) ∧ Below w3.heap.size w3 wr) (fun _ _ _ i _ => s.ps.length - (intOf i).toNat)
      case atStart => exact ⟨0, by omega, rfl, by rw [(st_start (f := fl) (l := l) (r := r) (p := p)).1]; rfl, by rw [(st_start (f := fl) (l := l) (r := r) (p := p)).2]; rfl, rfl, Below.refl _ _⟩
      case round =>
        obtain ⟨n, hn, rfl, rfl, rfl, rfl, hB⟩ := hrel
        have HBw := hide hB
        have s1 : wr.cell? ⟨w.heap.size, 1, none⟩ = some (.slice A s.ps.length c) := (HXs3.out.to hB).cell 1
        clear hB
        by_cases hlt : n < s.ps.length
        · obtain ⟨q, hq⟩ : ∃ q, s.ps[n]? = some q := ⟨_, List.getElem?_eq_getElem hlt⟩
          obtain ⟨ad, c', ea, -, hab, c0, c1, c2, c3⟩ := (HP3.out.to HBw.out).at_ hq
          have ea := (Value.slice.inj ea).1
          subst ea
          have hqr := HKK.out q (List.mem_of_getElem? hq)
          have hqs := HSS.out q (List.mem_of_getElem? hq)
          obtain ⟨kq, hkq, hkq9⟩ : ∃ k : Nat, q.k = (k : Int) ∧ k < 9 := ⟨q.k.toNat, by omega, by omega⟩
          have hkq1 : 1 ≤ kq := by omega
          rw [hkq] at c0
          have HQ5 := hide (Blk.new wr 41 #[.int .i64 (kq : Int), .string (bs q.b), .string (bs q.a), .bool q.need])
          have HF5 := hide ((HXf3.out.to HBw.out).to (below_one wr (.cells #[.int .i64 (kq : Int), .string (bs q.b), .string (bs q.a), .bool q.need] 41)))
          have HB5 := hide (below_alloc HBw.out (Nat.le_refl _) (.cells #[.int .i64 (kq : Int), .string (bs q.b), .string (bs q.a), .bool q.need] 41))
          have q1 : decide ((kq : Int) < 1) = false := decide_eq_false (by omega)
          have q2 : decide ((8 : Int) < (kq : Int)) = false := decide_eq_false (by omega)
          have q3 : (kq : Int) < 9 := by omega
          obtain ⟨hsl1, hsl2⟩ := HSL.out n
          have hzb := bs_size q.b
          have hza := bs_size q.a
          obtain ⟨bn, hbn⟩ : ∃ x, befN fl l p n = x := ⟨_, rfl⟩
          obtain ⟨an, han⟩ : ∃ x, aftN fl l p r n = x := ⟨_, rfl⟩
          rw [hbn] at hsl1 ⊢
          rw [han] at hsl2 ⊢
          have hqb : q.b.length ≤ 4 := hqs.1
          have hqa : q.a.length ≤ 4 := hqs.2
          clear hqr hqs
          rcases Nat.lt_trichotomy n l.length with hnl | hnl | hnl
          · have hql : l[n]? = some q := by rw [HSP.out.1, List.getElem?_append_left hnl] at hq; exact hq
            have hqk := HSP.out.2.2.1 q (List.mem_of_getElem? hql)
            have e0 : decide (l.length < n) = false := decide_eq_false (by omega)
            have HT1 : Hid (decide (l.length < n + 1) = false) := decide_eq_false (by omega)
            rw [e0]
            clear e0 hq hnl
            have e1 : ((kq : Int) == (k : Int)) = false := by rw [beq_eq_false_iff_ne]; intro h; exact hqk (by rw [hkq]; exact h)
            have HST := hide (st_l (f := fl) (r := r) (p := p) hql)
            obtain ⟨x, hx⟩ : ∃ x, fl.getD kq [] = x := ⟨_, rfl⟩
            have hone : oneN fl q = if x = [] then 0 else q.b.length + x.length + q.a.length := by unfold oneN; rw [hkq, val_nat, hx]
            have hx60 : x.length ≤ 100 := by rw [← hx]; exact Nat.le_trans (HFF.out kq) (by decide)
            have HHX := hide hx
            have hzx := bs_size x

            clear hql
            rw [hbn, han] at HST
            clear hbn han hkq hqk
            by_cases hxe : x = []
            · rw [hone, if_pos hxe] at HST
              have HB1 := hide HST.out.1
              have HA1 := hide HST.out.2
              have e2 : (bs x).toList.isEmpty = true := by rw [bs_toList, hxe]; rfl
              clear hone hxe HST hx
              go_upto_region 14 with fail
              clear c0 c1 c2 c3 hab
              generalize wr.alloc (.cells #[.int .i64 (kq : Int), .string (bs q.b), .string (bs q.a), .bool q.need] 41) = w5 at *
              generalize wr.heap.size = bq at *
              have x0 : w5.cell? ⟨bq, 0, none⟩ = some (.int .i64 (kq : Int)) := HQ5.out.cell 0
              have x1 : w5.cell? ⟨bq, 1, none⟩ = some (.string (bs q.b)) := HQ5.out.cell 1
              have x2 : w5.cell? ⟨bq, 2, none⟩ = some (.string (bs q.a)) := HQ5.out.cell 2
              have ck := (HF5.out.cell kq).trans (HAT.out kq hkq9)
              rw [HHX.out] at ck
              go_wp2_with fail
              go_roundw
              case rel => exact ⟨n + 1, by omega, by go_num, (by first | (rw [HB1.out]; done) | (rw [HB1.out]; go_num)), (by first | (rw [HA1.out]; done) | (rw [HA1.out]; go_num)), (by first | (rw [HT1.out]; done) | rw [HT1.out]), (by first | exact HB5.out | exact below_drewN HB5.out _)⟩
              case measure => simp [intOf]; omega
            · rw [hone, if_neg hxe] at HST
              have HB1 := hide HST.out.1
              have HA1 := hide HST.out.2
              have e2 : (bs x).toList.isEmpty = false := by rw [bs_toList]; cases x with | nil => exact absurd rfl hxe | cons a l => rfl
              clear hone hxe HST hx
              go_upto_region 14 with fail
              clear c0 c1 c2 c3 hab
              generalize wr.alloc (.cells #[.int .i64 (kq : Int), .string (bs q.b), .string (bs q.a), .bool q.need] 41) = w5 at *
              generalize wr.heap.size = bq at *
              have x0 : w5.cell? ⟨bq, 0, none⟩ = some (.int .i64 (kq : Int)) := HQ5.out.cell 0
              have x1 : w5.cell? ⟨bq, 1, none⟩ = some (.string (bs q.b)) := HQ5.out.cell 1
              have x2 : w5.cell? ⟨bq, 2, none⟩ = some (.string (bs q.a)) := HQ5.out.cell 2
              have ck := (HF5.out.cell kq).trans (HAT.out kq hkq9)
              rw [HHX.out] at ck
              go_wp2_with fail
              go_quiet (fail)
              go_wp2_with fail
              go_roundw
              case rel => exact ⟨n + 1, by omega, by go_num, (by first | (rw [HB1.out]; done) | (rw [HB1.out]; go_num)), (by first | (rw [HA1.out]; done) | (rw [HA1.out]; go_num)), (by first | (rw [HT1.out]; done) | rw [HT1.out]), (by first | exact HB5.out | exact below_drewN HB5.out _)⟩
              case measure => simp [intOf]; omega
          · have hqp : q = p := by
              rw [HSP.out.1, List.getElem?_append_right (by omega), hnl, Nat.sub_self] at hq
              simpa using hq.symm
            have e0 : decide (l.length < n) = false := decide_eq_false (by omega)
            have HT1 : Hid (decide (l.length < n + 1) = true) := decide_eq_true (by omega)
            have e1 : ((kq : Int) == (k : Int)) = true := by rw [← hkq, hqp, HSP.out.2.1]; simp
            have HST := hide (st_p (f := fl) (l := l) (r := r) (p := p))
            rw [← hnl, ← hqp, hqp, hbn, han, ← hqp] at HST
            have HB1 : Hid (befN fl l p (n + 1) = bn + q.b.length) := by show _ = _; rw [← hbn, hqp, hnl]; exact (st_p (f := fl) (l := l) (r := r) (p := p)).1
            have HA1 : Hid (aftN fl l p r (n + 1) = an + q.a.length) := by show _ = _; rw [← han, hqp, hnl]; exact (st_p (f := fl) (l := l) (r := r) (p := p)).2
            rw [e0]
            clear e0 hq hnl hqp HST hbn han hkq
            go_upto_region 14 with fail
            clear c0 c1 c2 c3 hab
            generalize wr.alloc (.cells #[.int .i64 (kq : Int), .string (bs q.b), .string (bs q.a), .bool q.need] 41) = w5 at *
            generalize wr.heap.size = bq at *
            have x0 : w5.cell? ⟨bq, 0, none⟩ = some (.int .i64 (kq : Int)) := HQ5.out.cell 0
            have x1 : w5.cell? ⟨bq, 1, none⟩ = some (.string (bs q.b)) := HQ5.out.cell 1
            have x2 : w5.cell? ⟨bq, 2, none⟩ = some (.string (bs q.a)) := HQ5.out.cell 2
            have ck := (HF5.out.cell kq).trans (HAT.out kq hkq9)
            go_wp2_with fail
            go_roundw
            case rel => exact ⟨n + 1, by omega, by go_num, (by first | (rw [HB1.out]; done) | (rw [HB1.out]; go_num)), (by first | (rw [HA1.out]; done) | (rw [HA1.out]; go_num)), (by first | (rw [HT1.out]; done) | rw [HT1.out]), (by first | exact HB5.out | exact below_drewN HB5.out _)⟩
            case measure => simp [intOf]; omega
          · obtain ⟨m, hm⟩ : ∃ m, n = l.length + 1 + m := ⟨n - l.length - 1, by omega⟩
            have hqr : r[m]? = some q := by
              rw [HSP.out.1, List.getElem?_append_right (by omega), show n - l.length = m + 1 by omega] at hq
              simpa using hq
            have hqk := HSP.out.2.2.2 q (List.mem_of_getElem? hqr)
            have e0 : decide (l.length < n) = true := decide_eq_true (by omega)
            have HT1 : Hid (decide (l.length < n + 1) = true) := decide_eq_true (by omega)
            have HSR : Hid (befN fl l p (n + 1) = befN fl l p n ∧ aftN fl l p r (n + 1) = aftN fl l p r n + oneN fl q) := by
              show _ ∧ _
              rw [hm]
              exact st_r hqr
            rw [e0]
            clear e0 hq hnl hm hqr
            have e1 : ((kq : Int) == (k : Int)) = false := by rw [beq_eq_false_iff_ne]; intro h; exact hqk (by rw [hkq]; exact h)
            have HST := hide (HSR.out)
            obtain ⟨x, hx⟩ : ∃ x, fl.getD kq [] = x := ⟨_, rfl⟩
            have hone : oneN fl q = if x = [] then 0 else q.b.length + x.length + q.a.length := by unfold oneN; rw [hkq, val_nat, hx]
            have hx60 : x.length ≤ 100 := by rw [← hx]; exact Nat.le_trans (HFF.out kq) (by decide)
            have HHX := hide hx
            have hzx := bs_size x

            clear HSR
            rw [hbn, han] at HST
            clear hbn han hkq hqk
            by_cases hxe : x = []
            · rw [hone, if_pos hxe] at HST
              have HB1 := hide HST.out.1
              have HA1 := hide HST.out.2
              have e2 : (bs x).toList.isEmpty = true := by rw [bs_toList, hxe]; rfl
              clear hone hxe HST hx
              go_upto_region 14 with fail
              clear c0 c1 c2 c3 hab
              generalize wr.alloc (.cells #[.int .i64 (kq : Int), .string (bs q.b), .string (bs q.a), .bool q.need] 41) = w5 at *
              generalize wr.heap.size = bq at *
              have x0 : w5.cell? ⟨bq, 0, none⟩ = some (.int .i64 (kq : Int)) := HQ5.out.cell 0
              have x1 : w5.cell? ⟨bq, 1, none⟩ = some (.string (bs q.b)) := HQ5.out.cell 1
              have x2 : w5.cell? ⟨bq, 2, none⟩ = some (.string (bs q.a)) := HQ5.out.cell 2
              have ck := (HF5.out.cell kq).trans (HAT.out kq hkq9)
              rw [HHX.out] at ck
              go_wp2_with fail
              go_roundw
              case rel => exact ⟨n + 1, by omega, by go_num, (by first | (rw [HB1.out]; done) | (rw [HB1.out]; go_num)), (by first | (rw [HA1.out]; done) | (rw [HA1.out]; go_num)), (by first | (rw [HT1.out]; done) | rw [HT1.out]), (by first | exact HB5.out | exact below_drewN HB5.out _)⟩
              case measure => simp [intOf]; omega
            · rw [hone, if_neg hxe] at HST
              have HB1 := hide HST.out.1
              have HA1 := hide HST.out.2
              have e2 : (bs x).toList.isEmpty = false := by rw [bs_toList]; cases x with | nil => exact absurd rfl hxe | cons a l => rfl
              clear hone hxe HST hx
              go_upto_region 14 with fail
              clear c0 c1 c2 c3 hab
              generalize wr.alloc (.cells #[.int .i64 (kq : Int), .string (bs q.b), .string (bs q.a), .bool q.need] 41) = w5 at *
              generalize wr.heap.size = bq at *
              have x0 : w5.cell? ⟨bq, 0, none⟩ = some (.int .i64 (kq : Int)) := HQ5.out.cell 0
              have x1 : w5.cell? ⟨bq, 1, none⟩ = some (.string (bs q.b)) := HQ5.out.cell 1
              have x2 : w5.cell? ⟨bq, 2, none⟩ = some (.string (bs q.a)) := HQ5.out.cell 2
              have ck := (HF5.out.cell kq).trans (HAT.out kq hkq9)
              rw [HHX.out] at ck
              go_wp2_with fail
              go_quiet (fail)
              go_wp2_with fail
              go_roundw
              case rel => exact ⟨n + 1, by omega, by go_num, (by first | (rw [HB1.out]; done) | (rw [HB1.out]; go_num)), (by first | (rw [HA1.out]; done) | (rw [HA1.out]; go_num)), (by first | (rw [HT1.out]; done) | rw [HT1.out]), (by first | exact HB5.out | exact below_drewN HB5.out _)⟩
              case measure => simp [intOf]; omega
        · obtain rfl : n = s.ps.length := by omega
          have hend := st_end (f := fl) HSP.out.1
          rw [hend.1, hend.2, decide_eq_true (show l.length < s.ps.length by rw [HSP.out.1]; simp)]
          have e9 : decide ((s.ps.length : Int) < (s.ps.length : Int)) = false := by simp
          obtain ⟨X, hX⟩ : ∃ x, writL fl l ++ p.b = x := ⟨_, rfl⟩
          obtain ⟨Y, hY⟩ : ∃ x, p.a ++ writL fl r = x := ⟨_, rfl⟩
          have hwr : wrt = X ++ (fk ++ Y) := by
            rw [← HWR.out, HSP.out.1, writ_at (by rw [HSP.out.2.1, val_nat, HFK.out]; exact HV0.out), hX, hY, HSP.out.2.1, val_nat, HFK.out]
          rw [hX, hY]
          have HXX := hide hX
          have HYY := hide hY
          obtain ⟨nX, hnX⟩ : ∃ x, X.length = x := ⟨_, rfl⟩
          obtain ⟨nY, hnY⟩ : ∃ x, Y.length = x := ⟨_, rfl⟩
          obtain ⟨nf, hnf⟩ : ∃ x, fk.length = x := ⟨_, rfl⟩
          obtain ⟨wl, hwl⟩ : ∃ x, wrt.length = x := ⟨_, rfl⟩
          obtain ⟨mX, hmX⟩ : ∃ x, nX + nf = x := ⟨_, rfl⟩
          have hw2 : wl = nX + nf + nY := by rw [← hwl, hwr, List.length_append, List.length_append, hnX, hnf, hnY]; omega
          have HWLL : Hid (wl ≤ 100000) := by have := HWL.out; show _ ≤ _; omega
          have k0 : wl ≤ 100000 := HWLL.out
          have eM : (nX : Int) + (nf : Int) = (mX : Int) := by omega
          have eW : (mX : Int) + (nY : Int) = (wl : Int) := by omega
          have hb1 : nX ≤ mX := by omega
          have hb2 : mX ≤ wl := by omega
          have hb3 : nX ≤ wl := by omega
          have hszw : (bs wrt).size = wl := by rw [bs_size, hwl]
          have hszf : (bs fk).size = nf := by rw [bs_size, hnf]
          have hx1 : (bs wrt).extract nX mX = bs fk := by
            rw [bs_cut, hwr, List.drop_left' hnX, List.take_left' (by omega)]
          have HEX0 : Hid ((bs wrt).extract 0 nX = bs X) := by show _ = _; rw [bs_cut, hwr, List.drop_zero, List.take_left' (by omega)]
          have HEX2 : Hid ((bs wrt).extract mX wl = bs Y) := by
            show _ = _
            rw [bs_cut, hwr, ← List.append_assoc, List.drop_left' (by rw [List.length_append, hnX, hnf, hmX]), List.take_of_length_le (by omega)]
          have HNX := hide hnX
          have HNY := hide hnY
          have HLW := hide hw2
          have HMX := hide hmX
          rw [hnX, hnY]
          clear hX hY hend hwr hnX hnY hnf hwl hmX hw2
          go_wp2_with fail
          clear s1
          have HP4 := hide (HP3.out.to HBw.out)
          have HXs4 := hide (HXs3.out.to HBw.out)
          have HXf4 := hide (HXf3.out.to HBw.out)
          have HB4 := hide (below_to HB3.out (Nat.le_refl _) HBw.out)
          clear HP3 HXs3 HXf3 HB3 HBw
          obtain ⟨U4, hU4, k4, u4, rfl, hku, hki⟩ := cls wr
          have ckf := fun u => ((HXf4.out.to (hku u)).cell k).trans ((HAT.out k hk9).trans (show some (Value.string (bs (fl.getD k []))) = some (Value.string (bs fk)) by rw [HFK.out]))
          have xf_0 := fun u => (((HXf4.out.to (hku u)).cell 0).trans (show _ = some (Value.string (bs f0)) from rfl))
          have xf_1 := fun u => (((HXf4.out.to (hku u)).cell 1).trans (show _ = some (Value.string (bs f1)) from rfl))
          have xf_2 := fun u => (((HXf4.out.to (hku u)).cell 2).trans (show _ = some (Value.string (bs f2)) from rfl))
          have xf_3 := fun u => (((HXf4.out.to (hku u)).cell 3).trans (show _ = some (Value.string (bs f3)) from rfl))
          have xf_4 := fun u => (((HXf4.out.to (hku u)).cell 4).trans (show _ = some (Value.string (bs f4)) from rfl))
          have xf_5 := fun u => (((HXf4.out.to (hku u)).cell 5).trans (show _ = some (Value.string (bs f5)) from rfl))
          have xf_6 := fun u => (((HXf4.out.to (hku u)).cell 6).trans (show _ = some (Value.string (bs f6)) from rfl))
          have xf_7 := fun u => (((HXf4.out.to (hku u)).cell 7).trans (show _ = some (Value.string (bs f7)) from rfl))
          have xf_8 := fun u => (((HXf4.out.to (hku u)).cell 8).trans (show _ = some (Value.string (bs f8)) from rfl))
          refine wp_region_class k4 (by kernel_rfl) (by kernel_rfl) (hki _ (hku _).drew) ?_
          repeat (go_big_quiet_step (fail))
          refine wpQuiet_nil ?_
          intro w5 hw5
          obtain ⟨u, rfl⟩ := hw5
          go_upto_region 26 with fail
          have HN5 := hide (Blk.new (k4 u) 26 #[.string (bs f0), .string (bs f1), .string (bs f2), .string (bs f3), .string (bs f4), .string (bs f5), .string (bs f6), .string (bs f7), .string (bs f8)])
          have lb := (HXs4.out.to (hku u)).lt
          have lf := (HXf4.out.to (hku u)).lt
          have hb5 := (hku u).trans ((below_one (k4 u) (.cells #[.string (bs f0), .string (bs f1), .string (bs f2), .string (bs f3), .string (bs f4), .string (bs f5), .string (bs f6), .string (bs f7), .string (bs f8)] 26)).mono (hku u).size)
          have HP5 := hide (HP4.out.to hb5)
          have HXs5 := hide (HXs4.out.to hb5)
          have HXf5 := hide (HXf4.out.to hb5)
          have HB5 := hide (below_to HB4.out (Nat.le_refl _) hb5)
          have la : ∀ a, A = some a → a.block ≠ (k4 u).heap.size := fun a ha => by
            subst ha
            by_cases hz : s.ps.length = 0
            · rw [HSP.out.1] at hz; simp at hz
            · obtain ⟨q, hq⟩ : ∃ q, s.ps[0]? = some q := ⟨_, List.getElem?_eq_getElem (by omega)⟩
              obtain ⟨ad, c', ea, -, hab, -⟩ := (HP4.out.to (hku u)).at_ hq
              have ea := Option.some.inj (Value.slice.inj ea).1
              subst ea
              exact Nat.ne_of_lt hab
          have HLA := hide la
          clear la ckf xf_0 xf_1 xf_2 xf_3 xf_4 xf_5 xf_6 xf_7 xf_8 hb5 HP4 HXs4 HXf4 HB4 hku hki
          generalize (k4 u).alloc (.cells #[.string (bs f0), .string (bs f1), .string (bs f2), .string (bs f3), .string (bs f4), .string (bs f5), .string (bs f6), .string (bs f7), .string (bs f8)] 26) = w5 at *
          generalize (k4 u).heap.size = bt at *
          obtain ⟨g0, g1, g2, g3, g4, g5, g6, g7, g8, hset, harr⟩ := fields_put9 f0 f1 f2 f3 f4 f5 f6 f7 f8 t k hk9
          have z1 := (HN5.out.cell k).trans (HAT.out k hk9)
          have z2 := HN5.out.frozen k
          have HN6 : Hid (Blk (w5.setCell ⟨bt, k, none⟩ (.string (bs t))) bt 26 #[.string (bs g0), .string (bs g1), .string (bs g2), .string (bs g3), .string (bs g4), .string (bs g5), .string (bs g6), .string (bs g7), .string (bs g8)]) := by
            have := HN5.out.set_ k (.string (bs t))
            rw [harr] at this
            exact this
          have HP6 : Hid (PartsAt (w5.setCell ⟨bt, k, none⟩ (.string (bs t))) (.slice A s.ps.length c) s.ps) := RowsAt.store HP5.out HLA.out _
          have HXs6 := hide (HXs5.out.far (p := ⟨bt, k, none⟩) (by show w.heap.size ≠ bt; omega) (.string (bs t)))
          have HXf6 := hide (HXf5.out.far (p := ⟨bt, k, none⟩) (by show w.heap.size + 1 ≠ bt; omega) (.string (bs t)))
          have HB6 := hide (HB5.out.setCell (p := ⟨bt, k, none⟩) (by show w.heap.size ≤ bt; omega) (.string (bs t)))
          rw [HFL.out] at hset
          have HSET := hide hset
          clear harr hset HN5 HP5 HXs5 HXf5 HB5
          go_upto_region 27 with fail
          clear z1 z2
          generalize (w5.setCell ⟨bt, k, none⟩ (.string (bs t))) = w6 at *
          obtain ⟨U6, hU6, k6, u6, rfl, hku, hki⟩ := cls w6
          have xs_0 := fun u => (((HXs6.out.to (hku u)).cell 0).trans (show _ = some (Value.string (bs s.c)) from rfl))
          have xs_1 := fun u => (((HXs6.out.to (hku u)).cell 1).trans (show _ = some (Value.slice A s.ps.length c) from rfl))
          have xg_0 := fun u => (((HN6.out.to (hku u)).cell 0).trans (show _ = some (Value.string (bs g0)) from rfl))
          have xg_1 := fun u => (((HN6.out.to (hku u)).cell 1).trans (show _ = some (Value.string (bs g1)) from rfl))
          have xg_2 := fun u => (((HN6.out.to (hku u)).cell 2).trans (show _ = some (Value.string (bs g2)) from rfl))
          have xg_3 := fun u => (((HN6.out.to (hku u)).cell 3).trans (show _ = some (Value.string (bs g3)) from rfl))
          have xg_4 := fun u => (((HN6.out.to (hku u)).cell 4).trans (show _ = some (Value.string (bs g4)) from rfl))
          have xg_5 := fun u => (((HN6.out.to (hku u)).cell 5).trans (show _ = some (Value.string (bs g5)) from rfl))
          have xg_6 := fun u => (((HN6.out.to (hku u)).cell 6).trans (show _ = some (Value.string (bs g6)) from rfl))
          have xg_7 := fun u => (((HN6.out.to (hku u)).cell 7).trans (show _ = some (Value.string (bs g7)) from rfl))
          have xg_8 := fun u => (((HN6.out.to (hku u)).cell 8).trans (show _ = some (Value.string (bs g8)) from rfl))
          have ckf := fun u => ((HXf6.out.to (hku u)).cell k).trans ((HAT.out k hk9).trans (show some (Value.string (bs (fl.getD k []))) = some (Value.string (bs fk)) by rw [HFK.out]))
          have CW : ∀ u, Calls Tryz.prog 32 #[.agg #[.string (bs s.c), .slice A s.ps.length c], .agg #[.string (bs g0), .string (bs g1), .string (bs g2), .string (bs g3), .string (bs g4), .string (bs g5), .string (bs g6), .string (bs g7), .string (bs g8)]] (k6 u) fun e w' => e = .returned (.tuple #[.string (bs (fwV s [g0, g1, g2, g3, g4, g5, g6, g7, g8])), .int .i64 (fwE s [g0, g1, g2, g3, g4, g5, g6, g7, g8])]) ∧ ∃ u', w' = k6 u' := fun u => cls_call hku hki (fun W hb => FWrite_any s hl0 hc0 (.slice A s.ps.length c) g0 g1 g2 g3 g4 g5 g6 g7 g8 W (HP6.out.to hb) (HGo.out.to (below_to HB6.out (Nat.le_refl _) hb)).g) u
          have CA : ∀ u, Calls Tryz.prog 24 #[.agg #[.string (bs s.c), .slice A s.ps.length c], .agg #[.string (bs g0), .string (bs g1), .string (bs g2), .string (bs g3), .string (bs g4), .string (bs g5), .string (bs g6), .string (bs g7), .string (bs g8)]] (k6 u) fun e w' => e = .returned (.bool (fitsB isNm numB s [g0, g1, g2, g3, g4, g5, g6, g7, g8])) ∧ ∃ u', w' = k6 u' := fun u => cls_call hku hki (fun W hb => Fits_any s hl0 hc0 (.slice A s.ps.length c) g0 g1 g2 g3 g4 g5 g6 g7 g8 W (HP6.out.to hb) (HGo.out.to (below_to HB6.out (Nat.le_refl _) hb)).g) u
          cases hfg : fitsB isNm numB s [g0, g1, g2, g3, g4, g5, g6, g7, g8] with
          | false =>
            rw [(fw_no hfg).1, (fw_no hfg).2] at CW
            rw [hfg] at CA
            clear hfg
            go_wp2_with (first | ((with_reducible refine (CW _).mono ?_); rintro e w' ⟨rfl, u, rfl⟩) | ((with_reducible refine (CA _).mono ?_); rintro e w' ⟨rfl, u, rfl⟩))
            all_goals go_ret
            all_goals exact ⟨rfl, below_to HB6.out (Nat.le_refl _) (hku _)⟩
          | true =>
            rw [(fw_yes hfg).1, (fw_yes hfg).2] at CW
            have hbl := writ_short ((fitsB_iff isNm numB s [g0, g1, g2, g3, g4, g5, g6, g7, g8] rfl).1 hfg)
            have HPUT : Hid (writL [g0, g1, g2, g3, g4, g5, g6, g7, g8] s.ps = writL fl l ++ ((if t = [] then [] else p.b ++ t ++ p.a) ++ writL fl r)) := by
              show _ = _
              rw [← HSET.out, HSP.out.1]
              exact writ_put (by rw [HFIT.out.len]; exact hk9) HSP.out.2.1 (fun q hq => ⟨HSP.out.2.2.1 q hq, by have := (HKK.out q (by rw [HSP.out.1]; exact List.mem_append_left _ hq)).1; omega⟩) (fun q hq => ⟨HSP.out.2.2.2 q hq, by have := (HKK.out q (by rw [HSP.out.1]; exact List.mem_append_right _ (List.mem_cons_of_mem _ hq))).1; omega⟩) t
            clear hfg CA
            obtain ⟨Bv, hBv⟩ : ∃ x, writL [g0, g1, g2, g3, g4, g5, g6, g7, g8] s.ps = x := ⟨_, rfl⟩
            rw [hBv] at CW hbl HPUT
            clear hBv
            have hszB := bs_size Bv
            by_cases ht0' : t = []
            · have e7 : (bs t).toList.isEmpty = true := by rw [bs_toList, ht0']; rfl
              obtain ⟨nb2, hnb⟩ : ∃ x, Bv.length = x := ⟨_, rfl⟩
              have HLEN : Hid (wl = nb2 + p.b.length + nf + p.a.length) := by
                show _ = _
                rw [HLW.out, ← hnb, HPUT.out, if_pos ht0', ← HNX.out, ← HNY.out, ← HXX.out, ← HYY.out]
                simp only [List.length_append, List.length_nil]; omega
              rw [hnb] at hszB hbl
              clear ht0' hnb
              go_wp2_with (first | ((with_reducible refine (CW _).mono ?_); rintro e w' ⟨rfl, u, rfl⟩))
              go_loopw [21] (fun i wr => ∃ n : Nat, n ≤ s.ps.length ∧ i = .int .i64 (n : Int) ∧ ∃ u, wr = k6 u) (fun i _ => s.ps.length - (intOf i).toNat)
              case atStart => exact ⟨0, by omega, rfl, u, rfl⟩
              case round =>
                obtain ⟨n, hn, rfl, u, rfl⟩ := hrel
                have s1 := xs_1 u
                by_cases hlt : n < s.ps.length
                · have e9 : decide ((n : Int) < (s.ps.length : Int)) = true := decide_eq_true (by omega)
                  obtain ⟨q, hq⟩ : ∃ q, s.ps[n]? = some q := ⟨_, List.getElem?_eq_getElem hlt⟩
                  obtain ⟨ad, c', ea, -, hab, -⟩ := (HP6.out.to (hku u)).at_ hq
                  have ea := (Value.slice.inj ea).1
                  subst ea
                  have hqm := List.mem_of_getElem? hq
                  have hqr := HKK.out q hqm
                  obtain ⟨kq, hkq, hkq9⟩ : ∃ k : Nat, q.k = (k : Int) ∧ k < 9 := ⟨q.k.toNat, by omega, by omega⟩
                  have c0 : ∀ u, (k6 u).cell? (ad.add (n * 4)) = some (.int .i64 (kq : Int)) := fun u => by rw [← hkq]; exact (at_fix (HP6.out.to (hku u)) hq).1
                  have c1 := fun u => (at_fix (HP6.out.to (hku u)) hq).2.1
                  have c2 := fun u => (at_fix (HP6.out.to (hku u)) hq).2.2.1
                  have hzb := bs_size q.b
                  have hza := bs_size q.a
                  by_cases hkk : kq = k
                  · have hqp : q = p := by
                      rw [HSP.out.1] at hqm
                      rcases List.mem_append.1 hqm with h | h
                      · exact absurd (by rw [hkq, hkk]) (HSP.out.2.2.1 q h)
                      · rcases List.mem_cons.1 h with h | h
                        · exact h
                        · exact absurd (by rw [hkq, hkk]) (HSP.out.2.2.2 q h)
                    have hqb : q.b.length = p.b.length := by rw [hqp]
                    have hqa : q.a.length = p.a.length := by rw [hqp]
                    obtain ⟨d1, hd1⟩ : ∃ x, wl - q.b.length = x := ⟨_, rfl⟩
                    obtain ⟨d2, hd2⟩ : ∃ x, d1 - nf = x := ⟨_, rfl⟩
                    have hlens := HLEN.out
                    have g1 : (wl : Int) - (q.b.length : Int) = (d1 : Int) := by omega
                    have g2 : (d1 : Int) - (nf : Int) = (d2 : Int) := by omega
                    have g3 : (d2 : Int) - (q.a.length : Int) = (nb2 : Int) := by omega
                    have e5 : ((kq : Int) == (k : Int)) = true := by rw [hkk]; simp
                    have k1 : wl ≤ 100000 := HWLL.out
                    have k2 : d1 ≤ 100000 := by omega
                    have k3 : d2 ≤ 100000 := by omega
                    have k4 : nb2 ≤ 100000 := by omega
                    clear hq hqm hqr hkq hqp hqb hqa hd1 hd2 hlens hkk
                    go_wp2_with fail
                    refine wp_region_class k6 (by kernel_rfl) (by kernel_rfl) (hki _ (hku _).drew) ?_
                    repeat (go_big_quiet_step (fail))
                    refine wpQuiet_nil ?_
                    intro w9 hw9
                    obtain ⟨u, rfl⟩ := hw9
                    go_wp2_with fail
                    go_roundw
                    case rel => exact ⟨n + 1, by omega, by go_num, _, rfl⟩
                    case measure => simp [intOf]; omega
                  · have e5 : ((kq : Int) == (k : Int)) = false := by rw [beq_eq_false_iff_ne]; omega
                    clear hq hqm hqr hkq hkk
                    go_wp2_with fail
                    refine wp_region_class k6 (by kernel_rfl) (by kernel_rfl) (hki _ (hku _).drew) ?_
                    repeat (go_big_quiet_step (fail))
                    refine wpQuiet_nil ?_
                    intro w9 hw9
                    obtain ⟨u, rfl⟩ := hw9
                    go_wp2_with fail
                    go_roundw
                    case rel => exact ⟨n + 1, by omega, by go_num, _, rfl⟩
                    case measure => simp [intOf]; omega
                · obtain rfl : n = s.ps.length := by omega
                  have e9 : decide ((s.ps.length : Int) < (s.ps.length : Int)) = false := by simp
                  go_wp2_with fail
                  all_goals go_ret
                  all_goals exact ⟨rfl, below_to HB6.out (Nat.le_refl _) (hku _)⟩
            · have e7 : (bs t).toList.isEmpty = false := by rw [bs_toList]; cases t with | nil => exact absurd rfl ht0' | cons a l => rfl
              have hx0 := HEX0.out
              have hx2 := HEX2.out
              have hBX : Bv = X ++ (t ++ Y) := by rw [HPUT.out, if_neg ht0', ← HXX.out, ← HYY.out]; simp
              have e8 : ((bs Bv).toList == ((bs X ++ bs t) ++ bs Y).toList) = true := by rw [bs_app, bs_app, bs_toList, bs_toList, hBX, List.append_assoc]; simp
              have hzX : (bs X).size ≤ 100000 := by rw [bs_size, HNX.out]; have := HLW.out; have := HWLL.out; omega
              have hzY : (bs Y).size ≤ 100000 := by rw [bs_size, HNY.out]; have := HLW.out; have := HWLL.out; omega
              have hzt : (bs t).size ≤ 800 := by rw [bs_size]; exact hts
              have hzXt : (bs X ++ bs t).size ≤ 100800 := by rw [ByteArray.size_append]; omega
              clear ht0' hBX
              generalize bs Bv = bb at *
              generalize bs X = bX at *
              generalize bs Y = bY at *
              go_wp2_with (first | ((with_reducible refine (CW _).mono ?_); rintro e w' ⟨rfl, u, rfl⟩))
              refine wp_region_class k6 (by kernel_rfl) (by kernel_rfl) (hki _ (hku _).drew) ?_
              repeat (go_big_quiet_step (fail))
              refine wpQuiet_nil ?_
              intro w9 hw9
              obtain ⟨u, rfl⟩ := hw9
              go_wp2_with fail
              all_goals go_ret
              all_goals exact ⟨rfl, below_to HB6.out (Nat.le_refl _) (hku _)⟩
end Go.Proofs.YtdcafoekbnacnaaGreatDoor
