/- Walks of package label: Pack at every label; Unpack at every text. -/
import Derived.Test.YtldicibhfmnjnaaGreatDoorF1
import Derived.Test.YtldicibhfmnjnaaGreatDoorD3
import Derived.Test.YtldicibhfmnjnaaGreatDoorY6
import Derived.Lib.AtoiTie
import Derived.Lib.AtoiBound
set_option linter.unusedVariables false
set_option linter.unusedSimpArgs false
namespace Go.Proofs.YtldicibhfmnjnaaGreatDoor
open Go.RowKit

def pkP (d : List UInt8) (o s h : Int) (b : Bool) : List UInt8 := if goodL d o s h then packP d o s h b else []
def pkE (d : List UInt8) (o s h : Int) : Int := if goodL d o s h then 0 else 1
theorem Pack_any (d : List UInt8) (hl : d.length ≤ 140737488355328) (o s h : Int) (b : Bool) (w : World) (hg : Glob w) : Calls Tryz.prog 12 #[lval d o s h b] w fun e w' => e = .returned (.tuple #[.string (bs (pkP d o s h b)), .int .i64 (pkE d o s h)]) ∧ Below w.heap.size w w' := by
  cases hgood : goodL d o s h with
  | true =>
    unfold pkP pkE
    rw [if_pos hgood, if_pos hgood]
    exact Pack_good d o s h b hgood w hg
  | false =>
    unfold pkP pkE
    rw [hgood]
    show Calls _ _ _ _ fun e w' => e = .returned (.tuple #[.string (bs []), .int .i64 1]) ∧ _
    by_cases hE' : (lexP d).2.1 ≠ 0
    · exact pk_e d hl o s h b _ rfl hE' w
    have hE : (lexP d).2.1 = 0 := Classical.byContradiction hE'
    by_cases hn' : (lexP d).1.length ≠ 1
    · exact pk_n d hl o s h b hE _ rfl hn' w
    have hn : (lexP d).1.length = 1 := Classical.byContradiction hn'
    obtain ⟨⟨xk, xa, xn, xs⟩, hx⟩ : ∃ x, (lexP d).1 = [x] := by
      match hl : (lexP d).1, hn with
      | [x], _ => exact ⟨x, rfl⟩
    by_cases hk' : xk ≠ 1
    · exact pk_k d hl o s h b hE xk xa xn xs hx hk' w
    obtain rfl : xk = 1 := Classical.byContradiction hk'
    by_cases ht' : xs ≠ d
    · exact pk_t d hl o s h b hE xa xn xs hx ht' w
    obtain rfl : xs = d := Classical.byContradiction ht'
    have hnm := nm_of_lex hE hx
    by_cases h12 : 12 < xs.length
    · exact pk_long xs hl o s h b hE xa xn hx h12 w
    have h12' : xs.length ≤ 12 := by omega
    cases hall : xs.all sym36 with
    | false => exact pk_trim xs hl o s h b hE xa xn hx h12' hall w
    | true =>
      by_cases hs : s < -1
      · exact pk_s0 xs hl o s h b hE xa xn hx h12' hall hs w
      by_cases hs' : 100000 < s
      · exact pk_s1 xs hl o s h b hE xa xn hx h12' hall hs' w
      have hs0 : -1 ≤ s := by omega
      have hs1 : s ≤ 100000 := by omega
      by_cases ho : o < 0
      · exact pk_o0 xs hl o s h b hE xa xn hx h12' hall hs0 hs1 ho w
      by_cases ho' : 64 ≤ o
      · exact pk_o1 xs hl o s h b hE xa xn hx h12' hall hs0 hs1 ho' w
      by_cases hh : h < 0
      · exact pk_h0 xs hl o s h b hE xa xn hx h12' hall hs0 hs1 ⟨by omega, by omega⟩ hh w
      by_cases hh' : 64 ≤ h
      · exact pk_h1 xs hl o s h b hE xa xn hx h12' hall hs0 hs1 ⟨by omega, by omega⟩ hh' w
      exfalso
      unfold goodL at hgood
      rw [hnm, hall, decide_eq_true h12', decide_eq_true hs0, decide_eq_true hs1, decide_eq_true (show 0 ≤ o by omega), decide_eq_true (show o < 64 by omega), decide_eq_true (show 0 ≤ h by omega), decide_eq_true (show h < 64 by omega)] at hgood
      cases hgood
def numV (l : List UInt8) : Int := (Lib.atoi l).getD 0
theorem numV_lt {l : List UInt8} (h : l.length ≤ 18) : -1000000000000000000 < numV l ∧ numV l < 1000000000000000000 := by
  unfold numV
  cases ha : Lib.atoi l with
  | none => simp
  | some v => exact Lib.atoi_bound ha h
theorem number_any (p : List UInt8) (a b : Nat) (hab : a ≤ b) (hb : b ≤ p.length) (h6 : b - a ≤ 6) (bx t : Nat) (w : World) (hg : Glob w) (hx : Blk w bx t #[.string (bs p)]) :
    Calls Tryz.prog 28 #[.int .i64 (a : Int), .int .i64 (b : Int), .pointer (some ⟨bx, 0, none⟩)] w fun e w' => e = .returned (.int .i64 (numV (sub p a b))) ∧ Below w.heap.size w w' := by
  have c0 := hx.cell 0
  have hsz : (bs p).size = p.length := bs_size p
  have he : (bs p).extract a b = bs (sub p a b) := bs_cut p a b
  have hsl : (sub p a b).length ≤ 6 := by unfold sub; rw [List.length_take]; omega
  have hsh := Lib.atoiAll_short (sub p a b) (by omega)
  have CA : ∀ w, Glob w → Calls Tryz.prog 29 #[.string (bs (sub p a b))] w fun e w' => ∃ err, e = .returned (.tuple #[.int .i64 (numV (sub p a b)), err]) ∧ Below w.heap.size w w' := fun w hg => by
    unfold numV
    cases ha : Lib.atoi (sub p a b) with
    | some v =>
      rw [ha] at hsh
      refine (Tryz.strconv_Atoi_ok (bs (sub p a b)) (by rw [bs_size]; omega) v (by rw [bs_list]; exact hsh) w).mono ?_
      rintro e w' ⟨rfl, hw⟩
      refine ⟨.nilIface, rfl, ?_⟩
      rcases hw with rfl | ⟨t, rfl⟩
      · exact Below.refl _ _
      · exact Lib.bytesWorld_below _ _ _
    | none =>
      rw [ha] at hsh
      obtain ⟨ev, h1, h2⟩ := hg.syn
      refine (Tryz.strconv_Atoi_bad (bs (sub p a b)) (by rw [bs_size]; omega) (by rw [bs_list, hsh]; intro v h; cases h) (by rw [bs_list, hsh]; intro h; cases h) ev w h1 h2).mono ?_
      rintro e w' ⟨N, rfl, _, _, hb⟩
      exact ⟨_, rfl, hb⟩
  clear hx hsl hsh
  generalize numV (sub p a b) = V at *
  generalize bs (sub p a b) = S at *
  generalize bs p = X at *
  have CA' := CA w hg
  clear CA
  go_enter Tryz.func28, Tryz.ntmps28
  go_wp2_with fail
  refine CA'.mono ?_
  rintro e w' ⟨err, rfl, hb'⟩
  have HB := hide hb'
  clear hb'
  go_wp2_with fail
  go_ret
  exact ⟨rfl, HB.out⟩
def uB (p : List UInt8) : Bool := match p[0]? with | some c => ((c.toNat : Int) == 49) | none => false
def unOk (p : List UInt8) : Bool := decide (12 ≤ p.length) && goodL (p.drop 11) (numV (sub p 1 3)) (numV (sub p 5 11) - 1) (numV (sub p 3 5)) && (packP (p.drop 11) (numV (sub p 1 3)) (numV (sub p 5 11) - 1) (numV (sub p 3 5)) (uB p) == p)
set_option maxRecDepth 100000 in
set_option maxHeartbeats 8000000 in
theorem Unpack_short (p : List UInt8) (h12 : p.length < 12) (w : World) : Calls Tryz.prog 14 #[.string (bs p)] w fun e w' => e = .returned (.tuple #[lval [] 0 0 0 false, .int .i64 5]) ∧ Below w.heap.size w w' := by
  have hsz : (bs p).size = p.length := bs_size p
  have e1 : decide ((p.length : Int) < 12) = true := by simp; omega
  generalize bs p = X at *
  have HB := hide (below_two w (.cells #[.string X] 9) (.cells #[.string ⟨#[]⟩, .int .i64 0, .int .i64 0, .int .i64 0, .bool false] 23))
  have HX : Hid (Blk ((w.alloc (.cells #[.string X] 9)).alloc (.cells #[.string ⟨#[]⟩, .int .i64 0, .int .i64 0, .int .i64 0, .bool false] 23)) w.heap.size 9 #[.string X]) := (Blk.new w _ _).alloc _
  have HR : Hid (Blk ((w.alloc (.cells #[.string X] 9)).alloc (.cells #[.string ⟨#[]⟩, .int .i64 0, .int .i64 0, .int .i64 0, .bool false] 23)) (w.heap.size + 1) 23 #[.string ⟨#[]⟩, .int .i64 0, .int .i64 0, .int .i64 0, .bool false]) := by have := Blk.new (w.alloc (.cells #[.string X] 9)) 23 #[.string ⟨#[]⟩, .int .i64 0, .int .i64 0, .int .i64 0, .bool false]; show Blk _ _ _ _; simpa using this
  go_enter Tryz.func14, Tryz.ntmps14
  go_wp2_with fail
  generalize (w.alloc (.cells #[.string X] 9)).alloc (.cells #[.string ⟨#[]⟩, .int .i64 0, .int .i64 0, .int .i64 0, .bool false] 23) = w1 at *
  obtain ⟨br, hbr⟩ : ∃ b, Hid (w.heap.size + 1 = b) := ⟨_, rfl⟩
  rw [hbr.out] at HR ⊢
  obtain ⟨bx, hbx⟩ : ∃ b, Hid (w.heap.size = b) := ⟨_, rfl⟩
  rw [hbx.out] at HX ⊢
  rw [hbx.out] at HB
  refine bodyPost_ret (results_c1 (p := 2) (u := 3) rfl _ _ br 23 _ _ rfl HR.out Tryz.underlying23 rfl (by kernel_rfl)) rfl ⟨rfl, ?_⟩
  exact HB.out

set_option maxRecDepth 100000 in
set_option maxHeartbeats 8000000 in
theorem Unpack_long (p d : List UInt8) (hd : p.drop 11 = d) (h12 : 12 ≤ p.length) (hl : p.length ≤ 1000000000) (o s h : Int) (hb : Bool) (S : List UInt8) (E : Int) (ho : numV (sub p 1 3) = o) (hs : numV (sub p 5 11) = s + 1) (hh : numV (sub p 3 5) = h) (hB : uB p = hb)
    (hS : pkP d o s h hb = S) (hE : pkE d o s h = E) (good : Bool) (hgood : good = decide (E = 0 ∧ S = p)) (w : World) (hg : Glob w) :
    Calls Tryz.prog 14 #[.string (bs p)] w fun e w' => e = .returned (.tuple #[if good then lval d o s h hb else lval [] 0 0 0 false, .int .i64 (if good then 0 else 5)]) ∧ Below w.heap.size w w' := by
  have CP := fun w hg => Pack_any d (by rw [← hd]; simp; omega) o s h hb w hg
  rw [hS, hE] at CP
  unfold lval at CP
  have hsz : (bs p).size = p.length := bs_size p
  have e1 : decide ((p.length : Int) < 12) = false := by simp; omega
  have h11 : (11 : Int) ≤ (p.length : Int) := by omega
  have hx : (bs p).extract 11 p.length = bs d := by rw [bs_from, hd]
  obtain ⟨c, hc⟩ : ∃ c, p[0]? = some c := ⟨_, List.getElem?_eq_getElem (by omega)⟩
  have hi0 : ∀ w, (Instr.index 9 (.string (bs p)) (.int .i64 0)).run Tryz.prog w = .ok (.int .u8 (c.toNat : Int)) w := index_bs p 0 c hc
  have e49 : ((c.toNat : Int) == 49) = hb := by rw [← hB]; unfold uB; rw [hc]
  have hbnd := numV_lt (l := sub p 5 11) (by unfold sub; rw [List.length_take]; omega)
  rw [hs] at hbnd
  have hws := w64 (x := s) (by omega) (by omega)
  have hws' : IntKind.i64.wrap (s + 1 - 1) = s := by rw [show s + 1 - 1 = s by omega]; exact hws
  have CN1 : ∀ (bx : Nat) w, Glob w → Blk w bx 9 #[.string (bs p)] → Calls Tryz.prog 28 #[.int .i64 1, .int .i64 3, .pointer (some ⟨bx, 0, none⟩)] w fun e w' => e = .returned (.int .i64 o) ∧ Below w.heap.size w w' := fun bx w hg hx => by rw [← ho]; exact number_any p 1 3 (by omega) (by omega) (by omega) bx _ w hg hx
  have CN2 : ∀ (bx : Nat) w, Glob w → Blk w bx 9 #[.string (bs p)] → Calls Tryz.prog 28 #[.int .i64 3, .int .i64 5, .pointer (some ⟨bx, 0, none⟩)] w fun e w' => e = .returned (.int .i64 h) ∧ Below w.heap.size w w' := fun bx w hg hx => by rw [← hh]; exact number_any p 3 5 (by omega) (by omega) (by omega) bx _ w hg hx
  have CN3 : ∀ (bx : Nat) w, Glob w → Blk w bx 9 #[.string (bs p)] → Calls Tryz.prog 28 #[.int .i64 5, .int .i64 11, .pointer (some ⟨bx, 0, none⟩)] w fun e w' => e = .returned (.int .i64 (s + 1)) ∧ Below w.heap.size w w' := fun bx w hg hx => by rw [← hs]; exact number_any p 5 11 (by omega) (by omega) (by omega) bx _ w hg hx
  have HSP : Hid (((bs S).toList == (bs p).toList) = decide (S = p)) := by show _ = _; rw [bs_toList, bs_toList]; by_cases h : S = p <;> simp [h]
  clear hd hc hB hS hE ho hs hh hbnd
  generalize bs S = Z at *
  generalize hX : bs p = X at *
  clear hX
  have HB := hide (below_two w (.cells #[.string X] 9) (.cells #[.string ⟨#[]⟩, .int .i64 0, .int .i64 0, .int .i64 0, .bool false] 23))
  have HG := hide ((hg.alloc (.cells #[.string X] 9)).alloc (.cells #[.string ⟨#[]⟩, .int .i64 0, .int .i64 0, .int .i64 0, .bool false] 23))
  clear hg
  have HX : Hid (Blk ((w.alloc (.cells #[.string X] 9)).alloc (.cells #[.string ⟨#[]⟩, .int .i64 0, .int .i64 0, .int .i64 0, .bool false] 23)) w.heap.size 9 #[.string X]) := (Blk.new w _ _).alloc _
  have HR : Hid (Blk ((w.alloc (.cells #[.string X] 9)).alloc (.cells #[.string ⟨#[]⟩, .int .i64 0, .int .i64 0, .int .i64 0, .bool false] 23)) (w.heap.size + 1) 23 #[.string ⟨#[]⟩, .int .i64 0, .int .i64 0, .int .i64 0, .bool false]) := by have := Blk.new (w.alloc (.cells #[.string X] 9)) 23 #[.string ⟨#[]⟩, .int .i64 0, .int .i64 0, .int .i64 0, .bool false]; show Blk _ _ _ _; simpa using this
  go_enter Tryz.func14, Tryz.ntmps14
  go_wp2_with fail
  generalize (w.alloc (.cells #[.string X] 9)).alloc (.cells #[.string ⟨#[]⟩, .int .i64 0, .int .i64 0, .int .i64 0, .bool false] 23) = w1 at *
  obtain ⟨br, hbr⟩ : ∃ b, Hid (w.heap.size + 1 = b) := ⟨_, rfl⟩
  rw [hbr.out] at HR ⊢
  obtain ⟨bx, hbx⟩ : ∃ b, Hid (w.heap.size = b) := ⟨_, rfl⟩
  rw [hbx.out] at HX ⊢
  obtain ⟨U, hU, g, u0, rfl, hgu, hi'⟩ := cls w1
  have x0 := blk_all hgu HX.out 0 rfl
  have N1 := fun u => CN1 bx (g u) (HG.out.to (hgu u)) (HX.out.to (hgu u))
  have N2 := fun u => CN2 bx (g u) (HG.out.to (hgu u)) (HX.out.to (hgu u))
  have N3 := fun u => CN3 bx (g u) (HG.out.to (hgu u)) (HX.out.to (hgu u))
  apply wp_region_looseG g (V := [some _, some _, some _, some _, some _, some _, some _, some _, some _, some _, some _, some _, some _, none, none]) (Fs := [(13, Box5 (g u0).heap.size 23 5), (14, BoxIs (g u0).heap.size 23 5 #[.string (bs d), .int .i64 o, .int .i64 s, .int .i64 h, .bool hb])]) (Rel := fun i w w' => if i = 14 then BoxRel (g u0).heap.size 23 w w' else Below w.heap.size w w')
  case hm => kernel_rfl
  case hB => kernel_rfl
  case hCw => exact hi' _ (Below.refl _ _).drew
  case hC =>
    rintro i uq w' hr
    by_cases hi14 : i = 14
    · exact hi' _ ((hgu uq).trans (by simpa [hi14] using hr : BoxRel (g u0).heap.size 23 _ _).1)
    exact hi' _ (below_to (hgu uq) (Nat.le_refl _) (by simpa [hi14] using hr))
  case hst =>
    refine keeps_cons (fun i a a' w w' hne hwt hs hr h => h.keep (hs 5 (by kernel_rfl)) (by by_cases e14 : i = 14; (left; simpa [e14] using hr); right; simpa [e14] using hr)) ?_
    refine keeps_cons (fun i a a' w w' hne hwt hs hr h => h.keep (hs 5 (by kernel_rfl)) (by simpa [hne] using hr)) ?_
    exact keeps_nil
  case hop =>
    refine ⟨?_, ?_, ?_, ?_, ?_, ?_, ?_, ?_, ?_, ?_, ?_, ?_, ?_, ?_, ?_, trivial⟩
    · intro a uq K hS hd hK
      have s1 := hS.at 1 (by kernel_rfl) rfl
      rw [if_pos (want_free rfl)]
      go_simp
      exact hK _ _ (Below.refl _ _) (vok rfl) (facts_cons (fun h => absurd h (by decide)) (facts_cons (fun h => absurd h (by decide)) facts_nil))
    · intro a uq K hS hd hK
      have s13 := (waits_on hd 0 (by kernel_rfl)).at (d := 13) rfl rfl rfl
      rw [if_pos (want_free rfl)]
      go_simp
      exact hK _ _ (Below.refl _ _) (vok rfl) (facts_cons (fun h => absurd h (by decide)) (facts_cons (fun h => absurd h (by decide)) facts_nil))
    · intro a uq K hS hd hK
      have s4 := hS.at 4 (by kernel_rfl) rfl
      rw [if_pos (want_free rfl)]
      go_simp
      exact hK _ _ (Below.refl _ _) (vok rfl) (facts_cons (fun h => absurd h (by decide)) (facts_cons (fun h => absurd h (by decide)) facts_nil))
    · intro a uq K hS hd hK
      have s15 := (waits_on hd 2 (by kernel_rfl)).at (d := 15) rfl rfl rfl
      rw [if_pos (want_free rfl)]
      go_simp
      with_reducible refine (N1 uq).mono ?_
      rintro e w' ⟨rfl, hb⟩
      exact hK _ _ hb (vok rfl) (facts_cons (fun h => absurd h (by decide)) (facts_cons (fun h => absurd h (by decide)) facts_nil))
    · intro a uq K hS hd hK
      have s4 := hS.at 4 (by kernel_rfl) rfl
      rw [if_pos (want_free rfl)]
      go_simp
      exact hK _ _ (Below.refl _ _) (vok rfl) (facts_cons (fun h => absurd h (by decide)) (facts_cons (fun h => absurd h (by decide)) facts_nil))
    · intro a uq K hS hd hK
      have s17 := (waits_on hd 4 (by kernel_rfl)).at (d := 17) rfl rfl rfl
      rw [if_pos (want_free rfl)]
      go_simp
      with_reducible refine (N2 uq).mono ?_
      rintro e w' ⟨rfl, hb⟩
      exact hK _ _ hb (vok rfl) (facts_cons (fun h => absurd h (by decide)) (facts_cons (fun h => absurd h (by decide)) facts_nil))
    · intro a uq K hS hd hK
      have s4 := hS.at 4 (by kernel_rfl) rfl
      rw [if_pos (want_free rfl)]
      go_simp
      exact hK _ _ (Below.refl _ _) (vok rfl) (facts_cons (fun h => absurd h (by decide)) (facts_cons (fun h => absurd h (by decide)) facts_nil))
    · intro a uq K hS hd hK
      have s19 := (waits_on hd 6 (by kernel_rfl)).at (d := 19) rfl rfl rfl
      rw [if_pos (want_free rfl)]
      go_simp
      with_reducible refine (N3 uq).mono ?_
      rintro e w' ⟨rfl, hb⟩
      exact hK _ _ hb (vok rfl) (facts_cons (fun h => absurd h (by decide)) (facts_cons (fun h => absurd h (by decide)) facts_nil))
    · intro a uq K hS hd hK
      have s20 := (waits_on hd 7 (by kernel_rfl)).at (d := 20) rfl rfl rfl
      rw [if_pos (want_free rfl)]
      go_simp
      exact hK _ _ (Below.refl _ _) (vok rfl) (facts_cons (fun h => absurd h (by decide)) (facts_cons (fun h => absurd h (by decide)) facts_nil))
    · intro a uq K hS hd hK
      have s1 := hS.at 1 (by kernel_rfl) rfl
      rw [if_pos (want_free rfl)]
      go_simp
      exact hK _ _ (Below.refl _ _) (vok rfl) (facts_cons (fun h => absurd h (by decide)) (facts_cons (fun h => absurd h (by decide)) facts_nil))
    · intro a uq K hS hd hK
      have s22 := (waits_on hd 9 (by kernel_rfl)).at (d := 22) rfl rfl rfl
      rw [if_pos (want_free rfl)]
      go_simp
      exact hK _ _ (Below.refl _ _) (vok rfl) (facts_cons (fun h => absurd h (by decide)) (facts_cons (fun h => absurd h (by decide)) facts_nil))
    · intro a uq K hS hd hK
      have s23 := (waits_on hd 10 (by kernel_rfl)).at (d := 23) rfl rfl rfl
      rw [if_pos (want_free rfl)]
      go_simp
      exact hK _ _ (Below.refl _ _) (vok rfl) (facts_cons (fun h => absurd h (by decide)) (facts_cons (fun h => absurd h (by decide)) facts_nil))
    · intro a uq K hS hd hK
      have s14 := (waits_on hd 1 (by kernel_rfl)).at (d := 14) rfl rfl rfl
      have s16 := (waits_on hd 3 (by kernel_rfl)).at (d := 16) rfl rfl rfl
      have s18 := (waits_on hd 5 (by kernel_rfl)).at (d := 18) rfl rfl rfl
      have s21 := (waits_on hd 8 (by kernel_rfl)).at (d := 21) rfl rfl rfl
      have s24 := (waits_on hd 11 (by kernel_rfl)).at (d := 24) rfl rfl rfl
      rw [if_pos (want_free rfl)]
      refine wp_built 23 _ #[.string (bs d), .int .i64 o, .int .i64 s, .int .i64 h, .bool hb] rfl ?_ (hK _ _ (Below.refl _ _) (vok rfl) (facts_cons (fun h => absurd h (by decide)) (facts_cons (fun h => absurd h (by decide)) facts_nil)))
      simp only [List.map_toArray, List.map_cons, List.map_nil]
      rw [evt s14, evt s16, evt s18, evt s21, evt s24]
      kernel_rfl
    · intro a uq K hS hd hK
      rw [if_pos (want_free rfl)]
      go_simp
      exact hK _ _ (below_one _ _) (vfree rfl) (facts_cons (fun _ => ⟨_, _, _, _, _, _, hS.put_at (by kernel_rfl) _, Nat.le_trans (Below.size (hgu uq)) (Nat.le_refl _), Blk.new _ _ _⟩) (facts_cons (fun h => absurd h (by decide)) facts_nil))
    · intro a uq K hS hd hK
      obtain ⟨b5, x5_0, x5_1, x5_2, x5_3, x5_4, s5, l5, r5⟩ := (waits_on hd 13 (by kernel_rfl)).2 _ (List.mem_cons_self ..) rfl
      have s25 := (waits_on hd 12 (by kernel_rfl)).at (d := 25) rfl rfl rfl
      rw [if_pos (want_free rfl)]
      have c0 := r5.cell 0
      have f0 := r5.frozen 0
      have c1 := r5.cell 1
      have f1 := r5.frozen 1
      have c2 := r5.cell 2
      have f2 := r5.frozen 2
      have c3 := r5.cell 3
      have f3 := r5.frozen 3
      have c4 := r5.cell 4
      have f4 := r5.frozen 4
      go_simp
      exact hK undef _ ((((((BoxRel.refl _ _ _).set_ r5 l5 0 _).set_ (r5.set_ 0 (.string (bs d))) l5 1 _).set_ ((r5.set_ 0 (.string (bs d))).set_ 1 (.int .i64 o)) l5 2 _).set_ (((r5.set_ 0 (.string (bs d))).set_ 1 (.int .i64 o)).set_ 2 (.int .i64 s)) l5 3 _).set_ ((((r5.set_ 0 (.string (bs d))).set_ 1 (.int .i64 o)).set_ 2 (.int .i64 s)).set_ 3 (.int .i64 h)) l5 4 _) (vfree rfl) (facts_cons (fun h => absurd h (by decide)) (facts_cons (fun _ => ⟨b5, s5, l5, (((((r5.set_ 0 (.string (bs d))).set_ 1 (.int .i64 o)).set_ 2 (.int .i64 s)).set_ 3 (.int .i64 h)).set_ 4 (.bool hb))⟩) facts_nil))
  case hfin =>
    intro a uq hS hk
    have s13 := (hk 0 (by decide)).at (d := 13) rfl rfl rfl
    have s14 := (hk 1 (by decide)).at (d := 14) rfl rfl rfl
    have s15 := (hk 2 (by decide)).at (d := 15) rfl rfl rfl
    have s16 := (hk 3 (by decide)).at (d := 16) rfl rfl rfl
    have s17 := (hk 4 (by decide)).at (d := 17) rfl rfl rfl
    have s18 := (hk 5 (by decide)).at (d := 18) rfl rfl rfl
    have s19 := (hk 6 (by decide)).at (d := 19) rfl rfl rfl
    have s20 := (hk 7 (by decide)).at (d := 20) rfl rfl rfl
    have s21 := (hk 8 (by decide)).at (d := 21) rfl rfl rfl
    have s22 := (hk 9 (by decide)).at (d := 22) rfl rfl rfl
    have s23 := (hk 10 (by decide)).at (d := 23) rfl rfl rfl
    have s24 := (hk 11 (by decide)).at (d := 24) rfl rfl rfl
    have s25 := (hk 12 (by decide)).at (d := 25) rfl rfl rfl
    obtain ⟨b5, s5, l5, r5⟩ := (hk 14 (by decide)).2 _ (List.mem_cons_of_mem _ (List.mem_cons_self ..)) rfl
    have hlit := hS.lit _ (by kernel_rfl) (lits_cons s13 (lits_cons s14 (lits_cons s15 (lits_cons s16 (lits_cons s17 (lits_cons s18 (lits_cons s19 (lits_cons s20 (lits_cons s21 (lits_cons s22 (lits_cons s23 (lits_cons s24 (lits_cons s25 (lits_cons s5 lits_nil))))))))))))))
    rw [hlit]
    clear hlit hk hS s13 s14 s15 s16 s17 s18 s19 s20 s21 s22 s23 s24 s25 s5
    simp only [litT, List.setIfInBounds_toArray, List.set_cons_succ, List.set_cons_zero]
    have HB2 := hide (below_to HB.out (Nat.le_refl _) (hgu uq))
    have HG2 := hide (HG.out.to (hgu uq))
    have HX2 := hide (HX.out.to (hgu uq))
    have HR2 := hide (HR.out.to (hgu uq))
    have HL2 := hide r5
    clear r5 HB HG HX HR N1 N2 N3 CN1 CN2 CN3 x0 hi0
    generalize g uq = w2 at *
    clear hgu hi' l5
    obtain ⟨U2, hU2, g2, u2, rfl, hgu2, hi2⟩ := cls w2
    have x0 := blk_all hgu2 HX2.out 0 rfl
    have y0 := blk_all hgu2 HL2.out 0 rfl
    have y1 := blk_all hgu2 HL2.out 1 rfl
    have y2 := blk_all hgu2 HL2.out 2 rfl
    have y3 := blk_all hgu2 HL2.out 3 rfl
    have y4 := blk_all hgu2 HL2.out 4 rfl
    have r0 := blk_all hgu2 HR2.out 0 rfl
    have r1 := blk_all hgu2 HR2.out 1 rfl
    have r2 := blk_all hgu2 HR2.out 2 rfl
    have r3 := blk_all hgu2 HR2.out 3 rfl
    have r4 := blk_all hgu2 HR2.out 4 rfl
    have rf : ∀ u i, (g2 u).frozen? ⟨br, i, none⟩ = false := fun u i => (HR2.out.to (hgu2 u)).frozen i
    have C2 := cls_call hgu2 hi2 (fun w hb => CP w (HG2.out.to hb))
    have HGU := hide hgu2
    clear hgu2 hi2 CP
    by_cases hE0 : E = 0
    · subst hE0
      by_cases hSp : S = p
      · obtain rfl : good = true := by rw [hgood]; simp [hSp]
        have eS : (Z.toList == X.toList) = true := by rw [HSP.out]; simp [hSp]
        clear hgood hSp HSP
        go_wp2_with ((with_reducible refine (C2 _).mono ?_); rintro e w' ⟨rfl, u, rfl⟩)
        have hbk := ((((((HR2.out.to (HGU.out u)).set_ 0 (.string (bs d))).set_ 1 (.int .i64 o)).set_ 2 (.int .i64 s)).set_ 3 (.int .i64 h)).set_ 4 (.bool hb))
        have hle : w.heap.size ≤ br := by have := hbr.out; omega
        refine bodyPost_ret (results_c1 (p := 2) (u := 3) rfl _ _ br 23 _ _ rfl hbk Tryz.underlying23 rfl (by kernel_rfl)) rfl ⟨rfl, ?_⟩
        exact ((((((below_to HB2.out (Nat.le_refl _) (HGU.out u)).setCell (p := ⟨br, 0, none⟩) hle _).setCell (p := ⟨br, 1, none⟩) hle _).setCell (p := ⟨br, 2, none⟩) hle _).setCell (p := ⟨br, 3, none⟩) hle _).setCell (p := ⟨br, 4, none⟩) hle _)
      · obtain rfl : good = false := by rw [hgood]; simp [hSp]
        have eS : (Z.toList == X.toList) = false := by rw [HSP.out]; simp [hSp]
        clear hgood hSp HSP
        go_wp2_with ((with_reducible refine (C2 _).mono ?_); rintro e w' ⟨rfl, u, rfl⟩)
        have hbk := ((((((HR2.out.to (HGU.out u)).set_ 0 (.string ⟨#[]⟩)).set_ 1 (.int .i64 0)).set_ 2 (.int .i64 0)).set_ 3 (.int .i64 0)).set_ 4 (.bool false))
        have hle : w.heap.size ≤ br := by have := hbr.out; omega
        refine bodyPost_ret (results_c1 (p := 2) (u := 3) rfl _ _ br 23 _ _ rfl hbk Tryz.underlying23 rfl (by kernel_rfl)) rfl ⟨rfl, ?_⟩
        exact ((((((below_to HB2.out (Nat.le_refl _) (HGU.out u)).setCell (p := ⟨br, 0, none⟩) hle _).setCell (p := ⟨br, 1, none⟩) hle _).setCell (p := ⟨br, 2, none⟩) hle _).setCell (p := ⟨br, 3, none⟩) hle _).setCell (p := ⟨br, 4, none⟩) hle _)
    · obtain rfl : good = false := by rw [hgood]; simp [hE0]
      have eE : (E != 0) = true := by rw [bne_iff_ne]; exact hE0
      clear hgood hE0 HSP
      go_wp2_with ((with_reducible refine (C2 _).mono ?_); rintro e w' ⟨rfl, u, rfl⟩)
      have hbk := ((((((HR2.out.to (HGU.out u)).set_ 0 (.string ⟨#[]⟩)).set_ 1 (.int .i64 0)).set_ 2 (.int .i64 0)).set_ 3 (.int .i64 0)).set_ 4 (.bool false))
      have hle : w.heap.size ≤ br := by have := hbr.out; omega
      refine bodyPost_ret (results_c1 (p := 2) (u := 3) rfl _ _ br 23 _ _ rfl hbk Tryz.underlying23 rfl (by kernel_rfl)) rfl ⟨rfl, ?_⟩
      exact ((((((below_to HB2.out (Nat.le_refl _) (HGU.out u)).setCell (p := ⟨br, 0, none⟩) hle _).setCell (p := ⟨br, 1, none⟩) hle _).setCell (p := ⟨br, 2, none⟩) hle _).setCell (p := ⟨br, 3, none⟩) hle _).setCell (p := ⟨br, 4, none⟩) hle _)
end Go.Proofs.YtldicibhfmnjnaaGreatDoor
