/- Walks of package tree: Path. -/
import Derived.Test.YtfhanbiifjiklaaGreatDoorT4
set_option linter.unusedVariables false
set_option linter.unusedSimpArgs false
namespace Go.Proofs.YtfhanbiifjiklaaGreatDoor
open Go.RowKit

def lenOf : Value → Nat
  | .slice _ n _ => n
  | _ => 0
theorem TextsAt.cap {w : World} {A : Option Addr} {n c : Nat} {ls : List (List UInt8)} (h : TextsAt w (.slice A n c) ls) : ls.length ≤ c := by
  obtain ⟨A', c', h1, h2, _⟩ := h
  injection h1 with _ _ h3
  subst h3
  simpa using h2
theorem pathF_one {f : Nat} {l : List (List UInt8)} {i : Nat} (h : l.length ≤ 1) : pathF f l i = [] := by
  cases f with
  | zero => rfl
  | succ f => unfold pathF; rw [if_pos h]
theorem pathF_lt {f : Nat} {l : List (List UInt8)} {i : Nat} (h : 2 ≤ l.length) (hi : i < halfN l.length) : pathF (f + 1) l i = totalT (l.drop (halfN l.length)) :: pathF f (l.take (halfN l.length)) i := by
  conv => lhs; unfold pathF
  rw [if_neg (by omega), if_pos hi]
theorem pathF_ge {f : Nat} {l : List (List UInt8)} {i : Nat} (h : 2 ≤ l.length) (hi : ¬ i < halfN l.length) : pathF (f + 1) l i = totalT (l.take (halfN l.length)) :: pathF f (l.drop (halfN l.length)) (i - halfN l.length) := by
  conv => lhs; unfold pathF
  rw [if_neg (by omega), if_neg hi]
theorem own_sl4 {w : World} {B : Nat} {e : TypeId} {s n : Nat} {v : Value} {xs : List Value} (h : w.ownsRow B e s v n xs) : ∃ A c, v = .slice A n c := by
  obtain ⟨_, h⟩ := h
  rcases h with ⟨hv, h0⟩ | ⟨g, cap, cur, hv, _⟩
  · exact ⟨none, 0, by rw [hv, h0]⟩
  · exact ⟨_, _, hv⟩
theorem own_blk4 {w : World} {B : Nat} {A : Option Addr} {n c : Nat} {xs : List Value} {e : TypeId} {s : Nat} (h : w.ownsRow B e s (.slice A n c) n xs) (hn : 0 < n) : ∃ g, A = some ⟨g, 0, none⟩ ∧ B ≤ g ∧ ∃ cur, Blk w g e cur ∧ n * s ≤ cur.size ∧ cur.toList.take (n * s) = xs := by
  obtain ⟨_, h⟩ := h
  rcases h with ⟨_, h0⟩ | ⟨g, cap, cur, hv, hB, hg, h1, h2, h3, h4⟩
  · omega
  · injection hv with e1 e2 e3
    exact ⟨g, e1, hB, cur, hg, by rw [h3]; exact Nat.mul_le_mul_right _ h1, h4⟩
theorem own_cell4 {w : World} {B g n c : Nat} {acc : List (List UInt8)} (h : OwnT w B (.slice (some ⟨g, 0, none⟩) n c) acc) {j : Nat} {x : List UInt8} (hx : acc[j]? = some x) : w.cell? ⟨g, j, none⟩ = some (.string (bs x)) := by
  obtain ⟨a, e, _, hc⟩ := (TextsAt.of_own h).at_ hx
  obtain rfl := Option.some.inj e
  rwa [show (⟨g, 0, none⟩ : Addr).add j = ⟨g, j, none⟩ by unfold Addr.add; split <;> simp_all] at hc
theorem below_setCells {B g : Nat} {w : World} (hg : B ≤ g) (q o : Nat) (vs : List Value) : Below B w ((w.drewN q).setCells g o vs) := by
  have : ∀ (vs : List Value) (o : Nat) (w' : World), Below B w w' → Below B w (w'.setCells g o vs) := by
    intro vs
    induction vs with
    | nil => intro o w' h; exact h
    | cons u r ih => intro o w' h; exact ih _ _ (h.setCell (p := ⟨g, o, none⟩) hg u)
  exact this vs o _ (below_drewN (Below.refl _ _) q)
theorem rev_texts {w : World} {B g n c : Nat} {acc : List (List UInt8)} (h : OwnT w B (.slice (some ⟨g, 0, none⟩) n c) acc) (q : Nat) : TextsAt ((w.drewN q).setCells g 0 ((Lib.strsOf (fun j => bs (acc.getD j [])) acc.length).reverse.map encStr)) (.slice (some ⟨g, 0, none⟩) n c) acc.reverse := by
  have hs : Lib.strsOf (fun j => bs (acc.getD j [])) acc.length = acc := by
    unfold Lib.strsOf
    apply List.ext_getElem
    · simp
    · intro i h1 h2
      simp [List.getD_eq_getElem?_getD, List.getElem?_eq_getElem h2, bs]
  have hm : (Lib.strsOf (fun j => bs (acc.getD j [])) acc.length).reverse.map encStr = flatS acc.reverse := by
    rw [hs]
    rfl
  rw [hm]
  have hn : n = acc.length := by
    obtain ⟨_, h⟩ := h
    rcases h with ⟨h0, _⟩ | ⟨g', cap, cur, hv, _⟩
    · cases h0
    · injection hv
  obtain ⟨A, c', h1, hcap, _, _⟩ := TextsAt.of_own h
  injection h1 with _ _ h1c
  subst h1c
  have hold : ∀ j, j < (flatS acc.reverse).length → ((w.drewN q).cell? ⟨g, 0 + j, none⟩).isSome = true := fun j hj => by
    rw [flatS_len, List.length_reverse] at hj
    rw [Nat.zero_add]
    have := own_cell4 h (List.getElem?_eq_getElem hj)
    rw [World.cell?_drewN, this]
    rfl
  refine ⟨some ⟨g, 0, none⟩, c, by rw [List.length_map, List.length_reverse, hn], by rw [List.length_map, List.length_reverse]; simpa using hcap, by simp [strV], fun k x hx => ?_⟩
  rw [List.getElem?_map, Option.map_eq_some_iff] at hx
  obtain ⟨y, hy, rfl⟩ := hx
  have hk : k < acc.reverse.length := (List.getElem?_eq_some_iff.1 hy).1
  have hk' : k < (flatS acc.reverse).length := by rw [flatS_len]; exact hk
  have hc := World.cell?_setCells_in g (flatS acc.reverse) 0 (w.drewN q) hold k hk'
  rw [Nat.zero_add] at hc
  have he : (flatS acc.reverse)[k] = .string (bs y) := by
    have h5 : (flatS acc.reverse)[k]? = some (.string (bs y)) := by unfold flatS; rw [List.getElem?_map, hy]; rfl
    rw [List.getElem?_eq_getElem hk'] at h5
    exact Option.some.inj h5
  rw [he] at hc
  have hlt : g < ((w.drewN q).setCells g 0 (flatS acc.reverse)).heap.size := World.block_lt_of_cell? _ ⟨g, k, none⟩ hc
  refine ⟨⟨g, 0, none⟩, rfl, hlt, fun j u hu => ?_⟩
  have hj : j = 0 := by
    rcases Nat.eq_zero_or_pos j with hz | hz
    · exact hz
    · rw [List.getElem?_eq_none (by simp only [strV, List.length_cons, List.length_nil]; omega)] at hu; cases hu
  subst hj
  simp only [strV, List.getElem?_cons_zero, Option.some.injEq] at hu
  subst hu
  rw [show ((⟨g, 0, none⟩ : Addr).add (k * 1)).add 0 = ⟨g, k, none⟩ by rw [add_of_add, Nat.add_zero, Nat.mul_one]; unfold Addr.add; split <;> simp_all]
  exact hc
theorem flatS_snoc (l : List (List UInt8)) (x : List UInt8) : flatS (l ++ [x]) = flatS l ++ [.string (bs x)] := by simp [flatS]
structure PaI (ls : List (List UInt8)) (i : Nat) (w : World) (t0 t6 : Value) (ik : Nat) (wr : World) (lk : List (List UInt8)) (f : Nat) (acc : List (List UInt8)) : Prop where
  at_ : TextsAt w t0 lk
  fit : ∀ x ∈ lk, x.length ≤ 100000000000
  path : acc ++ pathF f lk ik = pathF ls.length ls i
  own : OwnT wr w.heap.size t6 acc
  below : Below w.heap.size w wr
def PathR (ls : List (List UInt8)) (i : Nat) (w : World) (e : Ending) (w' : World) : Prop := ∃ v', e = .returned (.tuple #[v', .int .i64 0]) ∧ TextsAt w' v' (pathV ls i) ∧ Below w.heap.size w w'
/-- .. and the path lies in an array of its own -/
def PathO (ls : List (List UInt8)) (i : Nat) (w : World) (e : Ending) (w' : World) : Prop := ∃ v', e = .returned (.tuple #[v', .int .i64 0]) ∧ TextsAt w' v' (pathV ls i) ∧ Below w.heap.size w w' ∧ ∀ g, v'.ownBlock = some g → w.heap.size ≤ g ∧ g < w'.heap.size
set_option maxRecDepth 100000 in
set_option maxHeartbeats 600000 in
theorem Path_own (ls : List (List UInt8)) (hl : ls.length ≤ 1000000000) (hp : properT ls = true) (hx : ∀ x ∈ ls, x.length ≤ 100000000000) (i : Nat) (hi : i < ls.length) (v : Value) (w : World) (hv : TextsAt w v ls) (hg : Glob w) :
    Calls Tryz.prog 47 #[v, .int .i64 (i : Int)] w (PathO ls i w) := by
  have CP := tproper_any ls (by omega) hx v w hv
  rw [hp] at CP
  obtain ⟨i0, hi0, hz0, hz1, hz2⟩ := info_parts (show (Tryz.prog.info? 9).map (fun i => (i.zero, i.size, i.bytes)) = some (some (.string ⟨#[]⟩), 1, 16) by kernel_rfl)
  have HS0 := hide hv
  have HX0 := hide hx
  have HG := hide hg
  obtain ⟨A0, c0, rfl, _⟩ := hv.slice
  have q0 : decide ((i : Int) < 0) = false := decide_eq_false (by omega)
  have q1 : decide (ls.length ≤ i) = false := decide_eq_false (by omega)
  have q2 : ¬ ls.length ≤ i := by omega
  clear hv hx hg hp
  go_enter Tryz.func47, Tryz.ntmps47
  go_wp2_with fail
  refine CP.mono ?_
  rintro e w1 ⟨rfl, hb⟩
  have HB1 := hide hb
  have HS1 := hide (HS0.out.to hb)
  clear hb CP HS0
  go_wp2_with fail
  go_loopw [0, 1, 6, 7] (fun t0 t1 t6 _ wr => ∃ (lk : List (List UInt8)) (ik f : Nat) (acc : List (List UInt8)), t1 = .int .i64 (ik : Int) ∧ (∃ A c, t0 = .slice A lk.length c) ∧ (ik < lk.length ∧ lk.length ≤ ls.length ∧ lk.length ≤ f ∧ acc.length + lk.length ≤ ls.length) ∧ Aside (PaI ls i w1 t0 t6 ik wr lk f acc)) (fun t0 _ _ _ _ => lenOf t0)
  case atStart => exact ⟨ls, i, ls.length, [], rfl, ⟨_, _, rfl⟩, ⟨hi, Nat.le_refl _, Nat.le_refl _, by simp⟩, ⟨HS1.out, HX0.out, rfl, World.ownsRow_nil _ _ _ _, Below.refl _ _⟩⟩
  case round =>
    obtain ⟨lk, ik, f, acc, rfl, ⟨A, c, rfl⟩, ⟨h1, h2, h3, h4⟩, hI⟩ := hrel
    have HI : Hid (PaI ls i w1 (.slice A lk.length c) _ ik wr lk f acc) := hI
    clear hI
    by_cases hlt : 2 ≤ lk.length
    · have e1 : decide ((1 : Int) < (lk.length : Int)) = true := decide_eq_true (by omega)
      obtain ⟨f', rfl⟩ : ∃ f', f = f' + 1 := ⟨f - 1, by omega⟩
      have hh := half_lt hlt
      have CH := fun w => half_any lk.length (by omega) w
      obtain ⟨x0, hx0⟩ : ∃ x, lk[0]? = some x := ⟨_, List.getElem?_eq_getElem (by omega)⟩
      obtain ⟨a, rfl, ha, _⟩ := HI.out.at_.at_ hx0
      have hcap := HI.out.at_.cap
      have HPL := fun h : ik < halfN lk.length => pathF_lt (f := f') hlt h
      have HPG := fun h : ¬ ik < halfN lk.length => pathF_ge (f := f') hlt h
      clear hx0
      generalize hk : halfN lk.length = k at *
      clear hk
      have CT1 := total_any (lk.drop k) (by rw [List.length_drop]; omega) (fun x h => HI.out.fit x (List.mem_of_mem_drop h)) _ wr ((HI.out.at_.drop (k := k) (by omega) (c - k) (by omega)).to HI.out.below) (HG.out.to HB1.out |>.to HI.out.below)
      have CT2 := total_any (lk.take k) (by rw [List.length_take]; omega) (fun x h => HI.out.fit x (List.mem_of_mem_take h)) _ wr ((HI.out.at_.take (k := k) (by omega) c (by omega)).to HI.out.below) (HG.out.to HB1.out |>.to HI.out.below)
      have k1 : (k : Int) ≤ (c : Int) := by omega
      have k0 : (0 : Int) ≤ (k : Int) := by omega
      have k2 : (k : Int) ≤ (lk.length : Int) := by omega
      have k3 : ((k : Int) == (c : Int)) = false := by rw [beq_eq_false_iff_ne]; omega
      have k4 : k ≠ c := by omega
      have k5 : k ≤ lk.length := by omega
      have k6 : k ≤ c := by omega
      by_cases hik : ik < k
      · have e2 : decide ((ik : Int) < (k : Int)) = true := decide_eq_true (by omega)
        have HP := hide (HPL hik)
        clear HPL HPG CT2
        generalize totalT (lk.drop k) = d at *
        go_wp2_with ((with_reducible refine (CH _).mono ?_); rintro e w' ⟨rfl, rfl⟩)
        refine CT1.mono ?_
        rintro e w4 ⟨rfl, hb4⟩
        have HB4 := hide (below_to HI.out.below (Nat.le_refl _) hb4)
        have HO4 := hide (own_to4 HI.out.own hb4)
        have HSZ : Hid (w1.heap.size ≤ w4.heap.size) := HB4.out.size
        have HACC : acc.length ≤ 1000000000 := by omega
        clear hb4 CT1
        go_wp2_with (at_builtin; refine wpList_append_own _ rfl (.tmp 30) (.tmp 35) _ rfl w1.heap.size 9 i0 (.string ⟨#[]⟩) 1 16 Tryz.underlying22 hi0 hz0 hz1 hz2 rfl (by omega) _ acc.length (flatS acc) rfl ?c0 ⟨_, 0, none⟩ 1 1 [.string (bs d)] rfl rfl ?c1 ?c2 ?c4 ?c5 ?c3 ?_)
        case c0 => exact own_to4 HO4.out (below_one _ _)
        case c1 => exact cells_new4 (xs := [.string (bs d)]) (by simp)
        case c2 => intro u hu; simp only [List.mem_cons, List.not_mem_nil, or_false] at hu; rcases hu with rfl; rfl
        case c4 => simp only [maxLen]; omega
        case c5 => omega
        case c3 => have := HSZ.out; simp; omega
        intro v' w6 hown6 hgr6 _
        have HB6 := hide ((below_alloc HB4.out (Nat.le_refl _) _).grown hgr6 (by have := HSZ.out; simp; omega) (fun b hb => (HO4.out.lt b hb).1))
        have HO6 : Hid (OwnT w6 w1.heap.size v' (acc ++ [d])) := by
          show World.ownsRow _ _ _ _ _ _ _
          rw [flatS_snoc, List.length_append]
          exact hown6
        have HS6 : Hid (TextsAt w1 (.slice (some a) k c) (lk.take k)) := HI.out.at_.take k5 c k6
        clear hown6 hgr6
        go_wp2_with fail
        refine ⟨⟨lk.take k, ik, f', acc ++ [d], rfl, ⟨_, _, by rw [List.length_take, Nat.min_eq_left k5]⟩, ⟨by rw [List.length_take]; omega, by rw [List.length_take]; omega, by rw [List.length_take]; omega, by rw [List.length_append, List.length_take, List.length_cons, List.length_nil]; omega⟩, ⟨HS6.out, fun x h => HI.out.fit x (List.mem_of_mem_take h), by rw [List.append_assoc, List.singleton_append, ← HP.out]; exact HI.out.path, HO6.out, HB6.out⟩⟩, ?_⟩
        show k < lk.length
        omega
      · have e2 : decide ((ik : Int) < (k : Int)) = false := decide_eq_false (by omega)
        have HP := hide (HPG hik)
        clear HPL HPG CT1
        generalize totalT (lk.take k) = d at *
        go_wp2_with ((with_reducible refine (CH _).mono ?_); rintro e w' ⟨rfl, rfl⟩)
        refine CT2.mono ?_
        rintro e w4 ⟨rfl, hb4⟩
        have HB4 := hide (below_to HI.out.below (Nat.le_refl _) hb4)
        have HO4 := hide (own_to4 HI.out.own hb4)
        have HSZ : Hid (w1.heap.size ≤ w4.heap.size) := HB4.out.size
        have HACC : acc.length ≤ 1000000000 := by omega
        clear hb4 CT2
        go_wp2_with (at_builtin; refine wpList_append_own _ rfl (.tmp 40) (.tmp 45) _ rfl w1.heap.size 9 i0 (.string ⟨#[]⟩) 1 16 Tryz.underlying22 hi0 hz0 hz1 hz2 rfl (by omega) _ acc.length (flatS acc) rfl ?c0 ⟨_, 0, none⟩ 1 1 [.string (bs d)] rfl rfl ?c1 ?c2 ?c4 ?c5 ?c3 ?_)
        case c0 => exact own_to4 HO4.out (below_one _ _)
        case c1 => exact cells_new4 (xs := [.string (bs d)]) (by simp)
        case c2 => intro u hu; simp only [List.mem_cons, List.not_mem_nil, or_false] at hu; rcases hu with rfl; rfl
        case c4 => simp only [maxLen]; omega
        case c5 => omega
        case c3 => have := HSZ.out; simp; omega
        intro v' w6 hown6 hgr6 _
        have HB6 := hide ((below_alloc HB4.out (Nat.le_refl _) _).grown hgr6 (by have := HSZ.out; simp; omega) (fun b hb => (HO4.out.lt b hb).1))
        have HO6 : Hid (OwnT w6 w1.heap.size v' (acc ++ [d])) := by
          show World.ownsRow _ _ _ _ _ _ _
          rw [flatS_snoc, List.length_append]
          exact hown6
        have HS6 : Hid (TextsAt w1 (.slice (some (a.add k)) (lk.length - k) (c - k)) (lk.drop k)) := HI.out.at_.drop k5 (c - k) (by omega)
        clear hown6 hgr6
        go_wp2_with fail
        refine ⟨⟨lk.drop k, ik - k, f', acc ++ [d], by rw [show ((ik - k : Nat) : Int) = (ik : Int) - (k : Int) by omega], ⟨_, _, by rw [List.length_drop]⟩, ⟨by rw [List.length_drop]; omega, by rw [List.length_drop]; omega, by rw [List.length_drop]; omega, by rw [List.length_append, List.length_drop, List.length_cons, List.length_nil]; omega⟩, ⟨HS6.out, fun x h => HI.out.fit x (List.mem_of_mem_drop h), by rw [List.append_assoc, List.singleton_append, ← HP.out]; exact HI.out.path, HO6.out, HB6.out⟩⟩, ?_⟩
        show lk.length - k < lk.length
        omega
    · have e1 : decide ((1 : Int) < (lk.length : Int)) = false := decide_eq_false (by omega)
      have HPN : Hid (acc = pathF ls.length ls i) := by
        have := HI.out.path
        rw [pathF_one (by omega), List.append_nil] at this
        exact this
      have HO := hide HI.out.own
      obtain ⟨A2, c2, rfl⟩ := own_sl4 HI.out.own
      go_wp2_with fail
      cases hacc : acc with
      | nil =>
        rw [hacc] at HO HPN
        have CR : Calls Tryz.prog 85 #[.slice A2 ([] : List (List UInt8)).length c2] wr fun e w' => e = .returned (.tuple #[]) ∧ w' = wr := Tryz.slices_Reverse_string_empty A2 c2 wr
        refine CR.mono ?_
        rintro e w8 ⟨rfl, rfl⟩
        go_wp2_with fail
        go_ret2
        exact ⟨_, rfl, TextsAt.of_own (B := w1.heap.size) (by unfold pathV; rw [← HPN.out]; exact HO.out), below_to HB1.out (Nat.le_refl _) HI.out.below, fun g e => ⟨Nat.le_trans HB1.out.size (HO.out.lt g e).1, (HO.out.lt g e).2⟩⟩
      | cons x r =>
        rw [← hacc]
        have hne : 0 < acc.length := by rw [hacc]; simp
        clear hacc
        obtain ⟨g, rfl, hgB, cur, hblk, hcap2, htake⟩ := own_blk4 HO.out hne
        have hal : acc.length ≤ 1000000000 := by omega
        have CR := Tryz.slices_Reverse_string_cells g 0 acc.length c2 (fun j => bs (acc.getD j [])) wr (by omega) (fun j hj => by
          rw [Nat.zero_add]
          exact own_cell4 HO.out (by rw [List.getD_eq_getElem?_getD, List.getElem?_eq_getElem hj]; rfl)) (fun j hj => hblk.frozen _)
        refine CR.mono ?_
        rintro e w8 ⟨rfl, q, rfl⟩
        have HRV := hide (rev_texts HO.out q)
        have HBR : Hid (Below w1.heap.size wr ((wr.drewN q).setCells g 0 ((Lib.strsOf (fun j => bs (acc.getD j [])) acc.length).reverse.map encStr))) := below_setCells hgB _ _ _
        clear CR
        generalize (wr.drewN q).setCells g 0 ((Lib.strsOf (fun j => bs (acc.getD j [])) acc.length).reverse.map encStr) = w9 at *
        go_wp2_with fail
        go_ret2
        exact ⟨_, rfl, by unfold pathV; rw [← HPN.out]; exact HRV.out, below_to HB1.out (Nat.le_refl _) (HI.out.below.trans HBR.out), fun g' e => by cases e; exact ⟨Nat.le_trans HB1.out.size hgB, Nat.lt_of_lt_of_le hblk.lt HBR.out.size⟩⟩
theorem Path_any (ls : List (List UInt8)) (hl : ls.length ≤ 1000000000) (hp : properT ls = true) (hx : ∀ x ∈ ls, x.length ≤ 100000000000) (i : Nat) (hi : i < ls.length) (v : Value) (w : World) (hv : TextsAt w v ls) (hg : Glob w) :
    Calls Tryz.prog 47 #[v, .int .i64 (i : Int)] w (PathR ls i w) :=
  (Path_own ls hl hp hx i hi v w hv hg).mono fun e w' ⟨v', h1, h2, h3, _⟩ => ⟨v', h1, h2, h3⟩
end Go.Proofs.YtfhanbiifjiklaaGreatDoor
