/- The reference of layer 18: Row. -/
import Derived.Test.YtnpdhbagfkilkaaUU
import Derived.Test.YtnpdhbagfkilkaaW11
import Derived.Test.YtnpdhbagfkilkaaW23
import Derived.Test.YtnpdhbagfkilkaaPlain8
import Derived.Test.YtnpdhbagfkilkaaCl2
import Derived.BigQuiet
import Derived.Deep.DeepCutAuto
import Derived.Test.YtnpdhbagfkilkaaLo4
set_option linter.unusedVariables false
set_option linter.unusedSimpArgs false
namespace Go.Proofs.Ytnpdhbagfkilkaa
open Go.RowKit

/-- the distances of the beginnings of x, the first k -/
def rowL (W : Wt) (x y : List UInt8) (k : Nat) : List Int := (List.range k).map fun i => Wt.F W x y y.length i
theorem rowL_succ (W : Wt) (x y : List UInt8) (k : Nat) : rowL W x y (k + 1) = rowL W x y k ++ [Wt.F W x y y.length k] := by unfold rowL; rw [List.range_succ, List.map_append]; rfl
theorem rowL_len (W : Wt) (x y : List UInt8) (k : Nat) : (rowL W x y k).length = k := by simp [rowL]
theorem ext_list (x : ByteArray) (i : Nat) : (x.extract 0 i).data.toList = x.data.toList.take i := by
  have e : bs x.data.toList = x := by cases x; simp [bs]
  have h := bs_cut x.data.toList 0 i
  rw [e] at h
  rw [h]; simp [bs]
theorem F_row {W : Wt} {x y : List UInt8} {i : Nat} : Wt.F W x y y.length i = W.D (x.take i) y 0 0 := by unfold Wt.F Wt.dl; rw [List.take_length]
theorem eval_at8 {a : Act} {s : Tmp} {v : Value} (h : a.tmps[s]? = some v) : a.eval (.tmp s) = v := by simp [Act.eval, h]
theorem FT.cells8 {wr w : World} {W : Wt} {A : Option Addr} {n c lo q p : Nat} {x y : ByteArray} {D : Nat → Nat → Int} (h : FT wr w W A n c x y D lo q p) {i j : Nat} (hl : lo ≤ i) (hi : i ≤ x.size) (hj : j ≤ y.size) (hq : q ≤ i ∨ (i + 1 = q ∧ p ≤ j)) :
    ∃ b, wr.cell? ⟨w.heap.size + 1, i, none⟩ = some (.slice (some ⟨b, 0, none⟩) (y.size + 1) (y.size + 1)) ∧ wr.cell? ⟨b, j, none⟩ = some (.int .i64 (D i j)) ∧ w.heap.size + 1 < wr.heap.size ∧ b < wr.heap.size ∧ w.heap.size + 1 < b := by
  obtain ⟨R, f, h1, h2⟩ := h
  exact ⟨R i, h1.slot hl hi, by rw [h1.cell hl hi hj, h2 i j hi hj hl hq], h1.top.lt, (h1.row i hl hi).lt, h1.hT i hl hi⟩
theorem wp_append8 {P : Program} {w : World} {o : Oper} {a : Act} {K : Act → World → Prop} {Q : Exit → Act → World → Prop} (s x : Operand) (t : TypeId)
    (ho : o.op = .call { callee := .builtin .append, args := #[s, x], argTypes := #[t, t] })
    (base : Nat) (e : TypeId) (i : TypeInfo) (z : Value) (size bytes : Nat) (ht : P.underlying t = some (.slice e)) (hi : P.info? e = some i) (hz : i.zero = some z)
    (hsize : i.size = size) (hby : i.bytes = bytes) (hzs : z.cells.size = size) (hsz : 0 < size)
    (v : Value) (n : Nat) (xs : List Value) (hs : a.eval s = v) (hown : w.ownsRow base e size v n xs)
    (ad : Addr) (m c : Nat) (news : List Value) (hx : a.eval x = .slice (some ad) m c) (hl : news.length = m * size) (hnews : ∀ j u, news[j]? = some u → w.cell? (ad.add j) = some u) (h1 : ∀ u ∈ news, u.oneCell' = true)
    (h63 : n + m ≤ maxLen) (hbytes : (n + m) * bytes ≤ 140737488355328) (hbase : base ≤ w.heap.size)
    (h : ∀ v' w', w'.ownsRow base e size v' (n + m) (xs ++ news) → w.grownBy w' v.ownBlock → K (a.put o.dst v') w') : Oper.wp P o a w K Q := by
  obtain ⟨v', w', hr, h2, h3, _, _⟩ := run_append_own_at (P := P) w base t o.type e i z size bytes ht hi hz hsize hby hzs hsz v n xs hown ad m c news hl hnews h1 h63 hbytes hbase
  unfold Oper.wp execOp
  simp only [ho, resolve, invoke, builtin, Sem.run_bind, Sem.run_pure, Result.andThen_ok, List.map_toArray, List.map_cons, List.map_nil, hs, hx, hr]
  exact h v' w' h2 h3
theorem own_to8 {w w' : World} {base : Nat} {e : TypeId} {size n : Nat} {v : Value} {xs : List Value} (h : w.ownsRow base e size v n xs) (hb : Below w.heap.size w w') : w'.ownsRow base e size v n xs :=
  h.kept (show w.grownBy w' none from ⟨hb.os, hb.tape, hb.output, hb.size, fun i hi _ => hb.block i hi⟩) (by cases v.ownBlock <;> simp)
set_option maxRecDepth 100000 in
set_option maxHeartbeats 8000000 in
theorem rrow_any (WW : Wt) (A : Option Addr) (n c X : Nat) (x y : ByteArray) (w : World) (hN : Near w X A n WW.near) (hX0 : X ≤ w.heap.size) (hn : n ≤ 140737488355328) (hv : WW.valid = true) (hxt : okText x.data.toList = true) (hyt : okText y.data.toList = true) :
    Calls Try.prog 35 #[wval WW A n c, .string x, .string y] w fun e w' => ∃ v, e = .returned v ∧ IntsV w' v (rowL WW x.data.toList y.data.toList (x.size + 1)) ∧ Below w.heap.size w w' := by
  have HN := hide hN
  have HV := hide hv
  have HB := hide (Box.start w WW A n c)
  have hx120 : x.size ≤ 120 := by simpa using okText_len hxt
  have hy120 : y.size ≤ 120 := by simpa using okText_len hyt
  have HD : Hid (∀ i, WW.IsDist (x.extract 0 i).data.toList y.data.toList (WW.D (x.extract 0 i).data.toList y.data.toList)) := fun i => Wt.isDist hv (by rw [ext_list]; have := okText_len hxt; rw [List.length_take]; omega) (okText_len hyt)
  obtain ⟨i0, hi0, hz0, hz1, hz2⟩ := info_parts info_int
  have wu : Try.prog.underlying 25 = some (.slice 3) := Try.underlying25
  clear hN hv hxt hyt
  go_enter Try.func35, Try.ntmps35
  unfold wval
  go_upto_region 1 with fail
  generalize w.alloc (.cells #[.int .i64 WW.ins, .int .i64 WW.del, .int .i64 WW.chg, .int .i64 WW.swp, .slice A n c] 24) = w1 at *
  go_wp2_with fail
  go_loopw [7, 8] (fun t7 t8 wr => ∃ k : Nat, t8 = .int .i64 (k : Int) ∧ k ≤ x.size + 1 ∧ wr.ownsRow w1.heap.size 3 1 t7 (rowL WW x.data.toList y.data.toList k).length ((rowL WW x.data.toList y.data.toList k).map (Value.int .i64)) ∧ Below w1.heap.size w1 wr) (fun _ t8 _ => x.size + 1 - (intOf t8).toNat)
  case atStart => exact ⟨0, rfl, Nat.zero_le _, ⟨by simp [rowL], .inl ⟨rfl, rfl⟩⟩, Below.refl _ _⟩
  case round =>
    obtain ⟨v, rfl⟩ : ∃ v : Value, v = u7 := ⟨_, rfl⟩
    obtain ⟨k, rfl, hk, hown, hB⟩ := hrel
    have HO := hide hown
    have HBk := hide hB
    clear hown hB
    by_cases hkx : k ≤ x.size
    · have e1 : decide ((k : Int) ≤ (x.size : Int)) = true := decide_eq_true (by omega)
      have e1' : decide (k ≤ x.size) = true := decide_eq_true hkx
      have HBx := hide (HB.out.next HBk.out)
      obtain ⟨d0, d1, d2, d3, d4⟩ := HBx.out.facts
      have k0 : (0 : Int) ≤ (k : Int) := by omega
      have k1 : (k : Int) ≤ (x.size : Int) := by omega
      have hes : (x.extract 0 k).size ≤ 120 := by have : (x.extract 0 k).data.toList.length ≤ 120 := by rw [ext_list, List.length_take]; simp; omega
                                                  simpa using this
      have HSZ : Hid (w1.heap.size ≤ wr.heap.size) := HBk.out.size
      have HLEN : Hid ((rowL WW x.data.toList y.data.toList k).length ≤ 1000) := by show _ ≤ _; rw [rowL_len]; omega
      have HFV : Hid (WW.D (x.extract 0 k).data.toList y.data.toList 0 0 = Wt.F WW x.data.toList y.data.toList y.data.toList.length k) := by show _ = _; rw [F_row, ext_list]
      have HRS := hide (rowL_succ WW x.data.toList y.data.toList k)
      go_upto_region 5 with fail
      have s1 : (0 : Int) < ((x.extract 0 k).size : Int) + 1 := by omega
      have s2 : (0 : Int) < (y.size : Int) + 1 := by omega
      generalize rowL WW x.data.toList y.data.toList k = L at *
      generalize Wt.F WW x.data.toList y.data.toList y.data.toList.length k = fv at *
      have CT : ∀ wv, Below wr.heap.size wr wv → Calls Try.prog 30 #[.agg #[.int .i64 WW.ins, .int .i64 WW.del, .int .i64 WW.chg, .int .i64 WW.swp, .slice A n c], .string (x.extract 0 k), .string y] wv fun e w' => e = .returned (.slice (some ⟨wv.heap.size + 1, 0, none⟩) ((x.extract 0 k).size + 1) ((x.extract 0 k).size + 1)) ∧ (∃ bR, w'.cell? ⟨wv.heap.size + 1, 0, none⟩ = some (.slice (some ⟨bR, 0, none⟩) (y.size + 1) (y.size + 1)) ∧ w'.cell? ⟨bR, 0, none⟩ = some (.int .i64 fv) ∧ wv.heap.size + 1 < w'.heap.size ∧ bR < w'.heap.size ∧ wr.heap.size ≤ wv.heap.size + 1 ∧ wr.heap.size ≤ bR) ∧ Below wv.heap.size wv w' := fun wv hb => by
        refine (rtable_any WW HV.out A n c X (x.extract 0 k) y wv (HN.out.below (HBx.out.bel.trans (hb.mono HBx.out.bel.size)) hX0) (by have := HBx.out.bel.size; have := hb.size; omega) hn hes hy120 _ (HD.out k)).mono ?_
        rintro e w' ⟨rfl, hF⟩
        obtain ⟨bR, p1, p2, p3, p4, p5⟩ := hF.cells8 (i := 0) (j := 0) (Nat.zero_le _) (Nat.zero_le _) (Nat.zero_le _) (.inl (Nat.zero_le _))
        rw [HFV.out] at p2
        exact ⟨rfl, ⟨bR, p1, p2, p3, p4, by have := hb.size; omega, by have := hb.size; omega⟩, hF.box.bel⟩
      have hlt : ∀ q, v.ownBlock = some q → w1.heap.size ≤ q ∧ q < wr.heap.size := own_block HO.out
      have hlen : L.length ≤ 1000 := HLEN.out
      have hsz : w1.heap.size ≤ wr.heap.size := HSZ.out
      apply wp_region_lo4 (C := fun W => Below w1.heap.size w1 W) (V := [some _, some _, some _, some _, some _, some _, none, none, none, none, some _, none, none, none]) (Fs := [(6, fun a W => ∃ T bR, a.tmps[21]? = some (.slice (some ⟨T, 0, none⟩) ((x.extract 0 k).size + 1) ((x.extract 0 k).size + 1)) ∧ W.cell? ⟨T, 0, none⟩ = some (.slice (some ⟨bR, 0, none⟩) (y.size + 1) (y.size + 1)) ∧ W.cell? ⟨bR, 0, none⟩ = some (.int .i64 fv) ∧ T < W.heap.size ∧ bR < W.heap.size ∧ wr.heap.size ≤ T ∧ wr.heap.size ≤ bR), (7, fun a W => ∃ T bR, a.tmps[22]? = some (.pointer (some ⟨T, 0, none⟩)) ∧ W.cell? ⟨T, 0, none⟩ = some (.slice (some ⟨bR, 0, none⟩) (y.size + 1) (y.size + 1)) ∧ W.cell? ⟨bR, 0, none⟩ = some (.int .i64 fv) ∧ T < W.heap.size ∧ bR < W.heap.size ∧ wr.heap.size ≤ T ∧ wr.heap.size ≤ bR), (8, fun a W => ∃ bR, a.tmps[23]? = some (.slice (some ⟨bR, 0, none⟩) (y.size + 1) (y.size + 1)) ∧ W.cell? ⟨bR, 0, none⟩ = some (.int .i64 fv) ∧ bR < W.heap.size ∧ wr.heap.size ≤ bR), (9, fun a W => ∃ bR, a.tmps[24]? = some (.pointer (some ⟨bR, 0, none⟩)) ∧ W.cell? ⟨bR, 0, none⟩ = some (.int .i64 fv) ∧ bR < W.heap.size ∧ wr.heap.size ≤ bR), (11, fun a W => ∃ g, a.tmps[26]? = some (.slice (some ⟨g, 0, none⟩) 1 1) ∧ Blk W g 3 #[.int .i64 fv] ∧ wr.heap.size ≤ g), (12, fun a W => ∃ v2, a.tmps[27]? = some v2 ∧ World.ownsRow W w1.heap.size 3 1 v2 (L.length + 1) (L.map (Value.int .i64) ++ [.int .i64 fv])), (13, fun a W => ∃ v2, a.tmps[7]? = some v2 ∧ World.ownsRow W w1.heap.size 3 1 v2 (L.length + 1) (L.map (Value.int .i64) ++ [.int .i64 fv]))]) (Ns := [(0, fun a (_ : World) => a.tmps[7]? = some v), (1, fun (_ : Act) W => Blk W w.heap.size 24 #[.int .i64 WW.ins, .int .i64 WW.del, .int .i64 WW.chg, .int .i64 WW.swp, .slice A n c]), (6, fun (_ : Act) W => Below wr.heap.size wr W), (11, fun (_ : Act) W => wr.heap.size ≤ W.heap.size), (12, fun (_ : Act) W => World.ownsRow W w1.heap.size 3 1 v L.length (L.map (Value.int .i64)) ∧ wr.heap.size ≤ W.heap.size)]) (Rel := fun i a0_ a1_ x x' => if i = 12 then (fun b0 b1 x x' => World.grownBy x x' (Value.ownBlock v)) a0_ a1_ x x' else if i = 13 then (fun b0 b1 x x' => Below x.heap.size x x') a0_ a1_ x x' else Below x.heap.size x x')
      case hm => kernel_rfl
      case hB => kernel_rfl
      case hCw => exact HBk.out.drew
      case hC =>
        intro i a a' w_ w' hw hr
        by_cases e12 : i = 12
        · subst e12
          have hr' : (fun b0 b1 x x' => World.grownBy x x' (Value.ownBlock v)) a a' w_ w' := hr
          exact hw.grown hr' hw.size (fun q e => (hlt q e).1)
        by_cases e13 : i = 13
        · subst e13
          have hr' : (fun b0 b1 x x' => Below x.heap.size x x') a a' w_ w' := hr
          exact below_to hw (Nat.le_refl _) hr'
        have hr' : Below w_.heap.size w_ w' := by simpa [e12, e13] using hr
        exact below_to hw (Nat.le_refl _) hr'
      case hst =>
        refine keeps4_cons (fun i a a' w_ w' hne hwt hs hput hr h => by
          by_cases e12 : i = 12
          · subst e12
            have hr' : (fun b0 b1 x x' => World.grownBy x x' (Value.ownBlock v)) a a' w_ w' := hr
            obtain ⟨T, bR, h1, h2, h3, h4, h5, h6, h7⟩ := h
            exact ⟨T, bR, (hs 21 (by kernel_rfl)).trans h1, (hr'.cell_far ⟨T, 0, none⟩ h4 (fun e => by have h8 : T < wr.heap.size := (hlt T e.symm).2; omega)).trans h2, (hr'.cell_far ⟨bR, 0, none⟩ h5 (fun e => by have h8 : bR < wr.heap.size := (hlt bR e.symm).2; omega)).trans h3, Nat.lt_of_lt_of_le h4 hr'.size, Nat.lt_of_lt_of_le h5 hr'.size, h6, h7⟩
          by_cases e13 : i = 13
          · subst e13
            have hr' : (fun b0 b1 x x' => Below x.heap.size x x') a a' w_ w' := hr
            obtain ⟨T, bR, h1, h2, h3, h4, h5, h6, h7⟩ := h
            exact ⟨T, bR, (hs 21 (by kernel_rfl)).trans h1, (hr'.cell (p := ⟨T, 0, none⟩) h4).trans h2, (hr'.cell (p := ⟨bR, 0, none⟩) h5).trans h3, Nat.lt_of_lt_of_le h4 hr'.size, Nat.lt_of_lt_of_le h5 hr'.size, h6, h7⟩
          have hr' : Below w_.heap.size w_ w' := by simpa [e12, e13] using hr
          obtain ⟨T, bR, h1, h2, h3, h4, h5, h6, h7⟩ := h
          exact ⟨T, bR, (hs 21 (by kernel_rfl)).trans h1, (hr'.cell (p := ⟨T, 0, none⟩) h4).trans h2, (hr'.cell (p := ⟨bR, 0, none⟩) h5).trans h3, Nat.lt_of_lt_of_le h4 hr'.size, Nat.lt_of_lt_of_le h5 hr'.size, h6, h7⟩) ?_
        refine keeps4_cons (fun i a a' w_ w' hne hwt hs hput hr h => by
          by_cases e12 : i = 12
          · subst e12
            have hr' : (fun b0 b1 x x' => World.grownBy x x' (Value.ownBlock v)) a a' w_ w' := hr
            obtain ⟨T, bR, h1, h2, h3, h4, h5, h6, h7⟩ := h
            exact ⟨T, bR, (hs 22 (by kernel_rfl)).trans h1, (hr'.cell_far ⟨T, 0, none⟩ h4 (fun e => by have h8 : T < wr.heap.size := (hlt T e.symm).2; omega)).trans h2, (hr'.cell_far ⟨bR, 0, none⟩ h5 (fun e => by have h8 : bR < wr.heap.size := (hlt bR e.symm).2; omega)).trans h3, Nat.lt_of_lt_of_le h4 hr'.size, Nat.lt_of_lt_of_le h5 hr'.size, h6, h7⟩
          by_cases e13 : i = 13
          · subst e13
            have hr' : (fun b0 b1 x x' => Below x.heap.size x x') a a' w_ w' := hr
            obtain ⟨T, bR, h1, h2, h3, h4, h5, h6, h7⟩ := h
            exact ⟨T, bR, (hs 22 (by kernel_rfl)).trans h1, (hr'.cell (p := ⟨T, 0, none⟩) h4).trans h2, (hr'.cell (p := ⟨bR, 0, none⟩) h5).trans h3, Nat.lt_of_lt_of_le h4 hr'.size, Nat.lt_of_lt_of_le h5 hr'.size, h6, h7⟩
          have hr' : Below w_.heap.size w_ w' := by simpa [e12, e13] using hr
          obtain ⟨T, bR, h1, h2, h3, h4, h5, h6, h7⟩ := h
          exact ⟨T, bR, (hs 22 (by kernel_rfl)).trans h1, (hr'.cell (p := ⟨T, 0, none⟩) h4).trans h2, (hr'.cell (p := ⟨bR, 0, none⟩) h5).trans h3, Nat.lt_of_lt_of_le h4 hr'.size, Nat.lt_of_lt_of_le h5 hr'.size, h6, h7⟩) ?_
        refine keeps4_cons (fun i a a' w_ w' hne hwt hs hput hr h => by
          by_cases e12 : i = 12
          · subst e12
            have hr' : (fun b0 b1 x x' => World.grownBy x x' (Value.ownBlock v)) a a' w_ w' := hr
            obtain ⟨bR, h1, h2, h3, h4⟩ := h
            exact ⟨bR, (hs 23 (by kernel_rfl)).trans h1, (hr'.cell_far ⟨bR, 0, none⟩ h3 (fun e => by have h8 : bR < wr.heap.size := (hlt bR e.symm).2; omega)).trans h2, Nat.lt_of_lt_of_le h3 hr'.size, h4⟩
          by_cases e13 : i = 13
          · subst e13
            have hr' : (fun b0 b1 x x' => Below x.heap.size x x') a a' w_ w' := hr
            obtain ⟨bR, h1, h2, h3, h4⟩ := h
            exact ⟨bR, (hs 23 (by kernel_rfl)).trans h1, (hr'.cell (p := ⟨bR, 0, none⟩) h3).trans h2, Nat.lt_of_lt_of_le h3 hr'.size, h4⟩
          have hr' : Below w_.heap.size w_ w' := by simpa [e12, e13] using hr
          obtain ⟨bR, h1, h2, h3, h4⟩ := h
          exact ⟨bR, (hs 23 (by kernel_rfl)).trans h1, (hr'.cell (p := ⟨bR, 0, none⟩) h3).trans h2, Nat.lt_of_lt_of_le h3 hr'.size, h4⟩) ?_
        refine keeps4_cons (fun i a a' w_ w' hne hwt hs hput hr h => by
          by_cases e12 : i = 12
          · subst e12
            have hr' : (fun b0 b1 x x' => World.grownBy x x' (Value.ownBlock v)) a a' w_ w' := hr
            obtain ⟨bR, h1, h2, h3, h4⟩ := h
            exact ⟨bR, (hs 24 (by kernel_rfl)).trans h1, (hr'.cell_far ⟨bR, 0, none⟩ h3 (fun e => by have h8 : bR < wr.heap.size := (hlt bR e.symm).2; omega)).trans h2, Nat.lt_of_lt_of_le h3 hr'.size, h4⟩
          by_cases e13 : i = 13
          · subst e13
            have hr' : (fun b0 b1 x x' => Below x.heap.size x x') a a' w_ w' := hr
            obtain ⟨bR, h1, h2, h3, h4⟩ := h
            exact ⟨bR, (hs 24 (by kernel_rfl)).trans h1, (hr'.cell (p := ⟨bR, 0, none⟩) h3).trans h2, Nat.lt_of_lt_of_le h3 hr'.size, h4⟩
          have hr' : Below w_.heap.size w_ w' := by simpa [e12, e13] using hr
          obtain ⟨bR, h1, h2, h3, h4⟩ := h
          exact ⟨bR, (hs 24 (by kernel_rfl)).trans h1, (hr'.cell (p := ⟨bR, 0, none⟩) h3).trans h2, Nat.lt_of_lt_of_le h3 hr'.size, h4⟩) ?_
        refine keeps4_cons (fun i a a' w_ w' hne hwt hs hput hr h => by
          by_cases e12 : i = 12
          · subst e12
            have hr' : (fun b0 b1 x x' => World.grownBy x x' (Value.ownBlock v)) a a' w_ w' := hr
            obtain ⟨g, h1, h2, h3⟩ := h
            exact ⟨g, (hs 26 (by kernel_rfl)).trans h1, (hr'.block g h2.lt (fun e => by have h8 : g < wr.heap.size := (hlt g e.symm).2; omega)).trans h2, h3⟩
          by_cases e13 : i = 13
          · subst e13
            have hr' : (fun b0 b1 x x' => Below x.heap.size x x') a a' w_ w' := hr
            obtain ⟨g, h1, h2, h3⟩ := h
            exact ⟨g, (hs 26 (by kernel_rfl)).trans h1, h2.to hr', h3⟩
          have hr' : Below w_.heap.size w_ w' := by simpa [e12, e13] using hr
          obtain ⟨g, h1, h2, h3⟩ := h
          exact ⟨g, (hs 26 (by kernel_rfl)).trans h1, h2.to hr', h3⟩) ?_
        refine keeps4_cons (fun i a a' w_ w' hne hwt hs hput hr h => by
          by_cases e12 : i = 12
          · exact absurd e12 hne
          by_cases e13 : i = 13
          · subst e13
            have hr' : (fun b0 b1 x x' => Below x.heap.size x x') a a' w_ w' := hr
            obtain ⟨v2, h1, h2⟩ := h
            exact ⟨v2, (hs 27 (by kernel_rfl)).trans h1, own_to8 h2 hr'⟩
          have hr' : Below w_.heap.size w_ w' := by simpa [e12, e13] using hr
          obtain ⟨v2, h1, h2⟩ := h
          exact ⟨v2, (hs 27 (by kernel_rfl)).trans h1, own_to8 h2 hr'⟩) ?_
        refine keeps4_cons (fun i a a' w_ w' hne hwt hs hput hr h => by
          by_cases e12 : i = 12
          · subst e12
            exact absurd (hwt.symm.trans (show waitsT .any _ _ 13 12 = true by kernel_rfl)) (by decide)
          by_cases e13 : i = 13
          · exact absurd e13 hne
          have hr' : Below w_.heap.size w_ w' := by simpa [e12, e13] using hr
          obtain ⟨v2, h1, h2⟩ := h
          exact ⟨v2, (hs 7 (by kernel_rfl)).trans h1, own_to8 h2 hr'⟩) ?_
        exact keeps4_nil
      case hN0 => exact pre0_cons (rfl) (pre0_cons (HBx.out.blk) (pre0_cons ((Below.refl _ _).drew) (pre0_cons (Nat.le_refl _) (pre0_cons (⟨HO.out, Nat.le_refl _⟩) (pre0_nil)))))
      case hNst =>
        refine prek_cons3 (fun i a a' w_ w' hne hwt hr h hput => by
          by_cases e12 : i = 12
          · subst e12
            exact absurd (hwt.symm.trans (show waitsT .any _ _ 12 0 = true by kernel_rfl)) (by decide)
          by_cases e13 : i = 13
          · subst e13
            exact absurd (hwt.symm.trans (show waitsT .any _ _ 13 0 = true by kernel_rfl)) (by decide)
          have hr' : Below w_.heap.size w_ w' := by simpa [e12, e13] using hr
          exact (other_slot (d := 7) (k := 13) (by kernel_rfl) hput e13).trans h) ?_
        refine prek_cons3 (fun i a a' w_ w' hne hwt hr h hput => by
          by_cases e12 : i = 12
          · subst e12
            exact absurd (hwt.symm.trans (show waitsT .any _ _ 12 1 = true by kernel_rfl)) (by decide)
          by_cases e13 : i = 13
          · subst e13
            exact absurd (hwt.symm.trans (show waitsT .any _ _ 13 1 = true by kernel_rfl)) (by decide)
          have hr' : Below w_.heap.size w_ w' := by simpa [e12, e13] using hr
          exact h.to hr') ?_
        refine prek_cons3 (fun i a a' w_ w' hne hwt hr h hput => by
          by_cases e12 : i = 12
          · subst e12
            exact absurd (hwt.symm.trans (show waitsT .any _ _ 12 6 = true by kernel_rfl)) (by decide)
          by_cases e13 : i = 13
          · subst e13
            exact absurd (hwt.symm.trans (show waitsT .any _ _ 13 6 = true by kernel_rfl)) (by decide)
          have hr' : Below w_.heap.size w_ w' := by simpa [e12, e13] using hr
          exact below_to h (Nat.le_refl _) hr') ?_
        refine prek_cons3 (fun i a a' w_ w' hne hwt hr h hput => by
          by_cases e12 : i = 12
          · subst e12
            exact absurd (hwt.symm.trans (show waitsT .any _ _ 12 11 = true by kernel_rfl)) (by decide)
          by_cases e13 : i = 13
          · subst e13
            exact absurd (hwt.symm.trans (show waitsT .any _ _ 13 11 = true by kernel_rfl)) (by decide)
          have hr' : Below w_.heap.size w_ w' := by simpa [e12, e13] using hr
          exact Nat.le_trans h hr'.size) ?_
        refine prek_cons3 (fun i a a' w_ w' hne hwt hr h hput => by
          by_cases e12 : i = 12
          · exact absurd e12 hne
          by_cases e13 : i = 13
          · subst e13
            exact absurd (hwt.symm.trans (show waitsT .any _ _ 13 12 = true by kernel_rfl)) (by decide)
          have hr' : Below w_.heap.size w_ w' := by simpa [e12, e13] using hr
          exact ⟨own_to8 h.1 hr', Nat.le_trans h.2 hr'.size⟩) ?_
        exact prek_nil3
      case hop =>
        refine ⟨?_, ?_, ?_, ?_, ?_, ?_, ?_, ?_, ?_, ?_, ?_, ?_, ?_, ?_, trivial⟩
        · intro a w_ K hw hS hd hN hK
          have s7 := hN _ (List.mem_cons_self ..) rfl
          rw [if_pos (want_free rfl)]
          replace s7 : a.tmps[7]? = some v := s7
          go_simp
          exact hK _ _ (Below.refl _ _) (vok rfl) (facts_cons (fun h => absurd h (by decide)) (facts_cons (fun h => absurd h (by decide)) (facts_cons (fun h => absurd h (by decide)) (facts_cons (fun h => absurd h (by decide)) (facts_cons (fun h => absurd h (by decide)) (facts_cons (fun h => absurd h (by decide)) (facts_cons (fun h => absurd h (by decide)) facts_nil)))))))
        · intro a w_ K hw hS hd hN hK
          have s3 := hS.at 3 (by kernel_rfl) rfl
          have hB1 := hN _ (List.mem_cons_of_mem _ (List.mem_cons_self ..)) rfl
          rw [if_pos (want_free rfl)]
          have c0 := (hB1.cell 0).trans (show _ = some (Value.int IntKind.i64 WW.ins) from rfl)
          have c1 := (hB1.cell 1).trans (show _ = some (Value.int IntKind.i64 WW.del) from rfl)
          have c2 := (hB1.cell 2).trans (show _ = some (Value.int IntKind.i64 WW.chg) from rfl)
          have c3 := (hB1.cell 3).trans (show _ = some (Value.int IntKind.i64 WW.swp) from rfl)
          have c4 := (hB1.cell 4).trans (show _ = some (Value.slice A n c) from rfl)
          go_simp
          exact hK _ _ (Below.refl _ _) (vok rfl) (facts_cons (fun h => absurd h (by decide)) (facts_cons (fun h => absurd h (by decide)) (facts_cons (fun h => absurd h (by decide)) (facts_cons (fun h => absurd h (by decide)) (facts_cons (fun h => absurd h (by decide)) (facts_cons (fun h => absurd h (by decide)) (facts_cons (fun h => absurd h (by decide)) facts_nil)))))))
        · intro a w_ K hw hS hd hN hK
          have s1 := hS.at 1 (by kernel_rfl) rfl
          rw [if_pos (want_free rfl)]
          go_simp
          exact hK _ _ (Below.refl _ _) (vok rfl) (facts_cons (fun h => absurd h (by decide)) (facts_cons (fun h => absurd h (by decide)) (facts_cons (fun h => absurd h (by decide)) (facts_cons (fun h => absurd h (by decide)) (facts_cons (fun h => absurd h (by decide)) (facts_cons (fun h => absurd h (by decide)) (facts_cons (fun h => absurd h (by decide)) facts_nil)))))))
        · intro a w_ K hw hS hd hN hK
          have s8 := hS.at 8 (by kernel_rfl) rfl
          rw [if_pos (want_free rfl)]
          go_simp
          exact hK _ _ (Below.refl _ _) (vok rfl) (facts_cons (fun h => absurd h (by decide)) (facts_cons (fun h => absurd h (by decide)) (facts_cons (fun h => absurd h (by decide)) (facts_cons (fun h => absurd h (by decide)) (facts_cons (fun h => absurd h (by decide)) (facts_cons (fun h => absurd h (by decide)) (facts_cons (fun h => absurd h (by decide)) facts_nil)))))))
        · intro a w_ K hw hS hd hN hK
          have s17 := (hd 2 (by kernel_rfl)).at (d := 17) rfl rfl rfl
          have s18 := (hd 3 (by kernel_rfl)).at (d := 18) rfl rfl rfl
          rw [if_pos (want_free rfl)]
          go_simp
          exact hK _ _ (Below.refl _ _) (vok rfl) (facts_cons (fun h => absurd h (by decide)) (facts_cons (fun h => absurd h (by decide)) (facts_cons (fun h => absurd h (by decide)) (facts_cons (fun h => absurd h (by decide)) (facts_cons (fun h => absurd h (by decide)) (facts_cons (fun h => absurd h (by decide)) (facts_cons (fun h => absurd h (by decide)) facts_nil)))))))
        · intro a w_ K hw hS hd hN hK
          have s2 := hS.at 2 (by kernel_rfl) rfl
          rw [if_pos (want_free rfl)]
          go_simp
          exact hK _ _ (Below.refl _ _) (vok rfl) (facts_cons (fun h => absurd h (by decide)) (facts_cons (fun h => absurd h (by decide)) (facts_cons (fun h => absurd h (by decide)) (facts_cons (fun h => absurd h (by decide)) (facts_cons (fun h => absurd h (by decide)) (facts_cons (fun h => absurd h (by decide)) (facts_cons (fun h => absurd h (by decide)) facts_nil)))))))
        · intro a w_ K hw hS hd hN hK
          have s16 := (hd 1 (by kernel_rfl)).at (d := 16) rfl rfl rfl
          have s19 := (hd 4 (by kernel_rfl)).at (d := 19) rfl rfl rfl
          have s20 := (hd 5 (by kernel_rfl)).at (d := 20) rfl rfl rfl
          have hB6 := hN _ (List.mem_cons_of_mem _ (List.mem_cons_of_mem _ (List.mem_cons_self ..))) rfl
          rw [if_pos (want_free rfl)]
          go_simp
          refine (CT w_ hB6).mono ?_
          rintro e w' ⟨rfl, ⟨bR, p1, p2, p3, p4, p5, p6⟩, hb⟩
          exact hK _ _ hb (vfree rfl) (facts_cons (fun _ => ⟨_, bR, hS.put_at (by kernel_rfl) _, p1, p2, p3, p4, p5, p6⟩) (facts_cons (fun h => absurd h (by decide)) (facts_cons (fun h => absurd h (by decide)) (facts_cons (fun h => absurd h (by decide)) (facts_cons (fun h => absurd h (by decide)) (facts_cons (fun h => absurd h (by decide)) (facts_cons (fun h => absurd h (by decide)) facts_nil)))))))
        · intro a w_ K hw hS hd hN hK
          obtain ⟨T, bR, s21, p1, p2, p3, p4, p5, p6⟩ := (hd 6 (by kernel_rfl)).2 _ (List.mem_cons_self ..) rfl
          rw [if_pos (want_free rfl)]
          go_simp
          exact hK _ _ (Below.refl _ _) (vfree rfl) (facts_cons (fun h => absurd h (by decide)) (facts_cons (fun _ => ⟨T, bR, hS.put_at (by kernel_rfl) _, p1, p2, p3, p4, p5, p6⟩) (facts_cons (fun h => absurd h (by decide)) (facts_cons (fun h => absurd h (by decide)) (facts_cons (fun h => absurd h (by decide)) (facts_cons (fun h => absurd h (by decide)) (facts_cons (fun h => absurd h (by decide)) facts_nil)))))))
        · intro a w_ K hw hS hd hN hK
          obtain ⟨T, bR, s22, p1, p2, p3, p4, p5, p6⟩ := (hd 7 (by kernel_rfl)).2 _ (List.mem_cons_of_mem _ (List.mem_cons_self ..)) rfl
          rw [if_pos (want_free rfl)]
          go_simp
          exact hK _ _ (Below.refl _ _) (vfree rfl) (facts_cons (fun h => absurd h (by decide)) (facts_cons (fun h => absurd h (by decide)) (facts_cons (fun _ => ⟨bR, hS.put_at (by kernel_rfl) _, p2, p4, p6⟩) (facts_cons (fun h => absurd h (by decide)) (facts_cons (fun h => absurd h (by decide)) (facts_cons (fun h => absurd h (by decide)) (facts_cons (fun h => absurd h (by decide)) facts_nil)))))))
        · intro a w_ K hw hS hd hN hK
          obtain ⟨bR, s23, p2, p4, p6⟩ := (hd 8 (by kernel_rfl)).2 _ (List.mem_cons_of_mem _ (List.mem_cons_of_mem _ (List.mem_cons_self ..))) rfl
          rw [if_pos (want_free rfl)]
          go_simp
          exact hK _ _ (Below.refl _ _) (vfree rfl) (facts_cons (fun h => absurd h (by decide)) (facts_cons (fun h => absurd h (by decide)) (facts_cons (fun h => absurd h (by decide)) (facts_cons (fun _ => ⟨bR, hS.put_at (by kernel_rfl) _, p2, p4, p6⟩) (facts_cons (fun h => absurd h (by decide)) (facts_cons (fun h => absurd h (by decide)) (facts_cons (fun h => absurd h (by decide)) facts_nil)))))))
        · intro a w_ K hw hS hd hN hK
          obtain ⟨bR, s24, p2, p4, p6⟩ := (hd 9 (by kernel_rfl)).2 _ (List.mem_cons_of_mem _ (List.mem_cons_of_mem _ (List.mem_cons_of_mem _ (List.mem_cons_self ..)))) rfl
          rw [if_pos (want_free rfl)]
          go_simp
          exact hK _ _ (Below.refl _ _) (vok rfl) (facts_cons (fun h => absurd h (by decide)) (facts_cons (fun h => absurd h (by decide)) (facts_cons (fun h => absurd h (by decide)) (facts_cons (fun h => absurd h (by decide)) (facts_cons (fun h => absurd h (by decide)) (facts_cons (fun h => absurd h (by decide)) (facts_cons (fun h => absurd h (by decide)) facts_nil)))))))
        · intro a w_ K hw hS hd hN hK
          have s25 := (hd 10 (by kernel_rfl)).at (d := 25) rfl rfl rfl
          have hB11 := hN _ (List.mem_cons_of_mem _ (List.mem_cons_of_mem _ (List.mem_cons_of_mem _ (List.mem_cons_self ..)))) rfl
          rw [if_pos (want_free rfl)]
          go_simp
          exact hK _ _ (below_one8 _ _) (vfree rfl) (facts_cons (fun h => absurd h (by decide)) (facts_cons (fun h => absurd h (by decide)) (facts_cons (fun h => absurd h (by decide)) (facts_cons (fun h => absurd h (by decide)) (facts_cons (fun _ => ⟨_, hS.put_at (by kernel_rfl) _, Blk.new _ _ _, hB11⟩) (facts_cons (fun h => absurd h (by decide)) (facts_cons (fun h => absurd h (by decide)) facts_nil)))))))
        · intro a w_ K hw hS hd hN hK
          have s15 := (hd 0 (by kernel_rfl)).at (d := 15) rfl rfl rfl
          obtain ⟨b26, s26, r26, g26⟩ := (hd 11 (by kernel_rfl)).2 _ (List.mem_cons_of_mem _ (List.mem_cons_of_mem _ (List.mem_cons_of_mem _ (List.mem_cons_of_mem _ (List.mem_cons_self ..))))) rfl
          obtain ⟨hOwn, hSz⟩ := hN _ (List.mem_cons_of_mem _ (List.mem_cons_of_mem _ (List.mem_cons_of_mem _ (List.mem_cons_of_mem _ (List.mem_cons_self ..))))) rfl
          rw [if_pos (want_free rfl)]
          refine wp_append8 (.tmp 15) (.tmp 26) 25 rfl w1.heap.size 3 i0 (.int .i64 0) 1 8 wu hi0 hz0 hz1 hz2 rfl (by decide) v L.length _ (eval_at8 s15) hOwn ⟨b26, 0, none⟩ 1 1 [.int .i64 fv] (eval_at8 s26) rfl (fun j u hj => by
            have := (r26.cell j).trans (show _ = some u by rw [← hj]; simp)
            unfold Addr.add
            split
            · rename_i h0; rw [h0] at this; exact this
            · simpa using this) (by intro u hu; rw [List.mem_singleton.1 hu]; rfl) (by unfold maxLen; omega) (by omega) (by omega) ?_
          intro v2 w' h2 h3
          exact hK v2 w' h3 (vfree rfl) (facts_cons (fun h => absurd h (by decide)) (facts_cons (fun h => absurd h (by decide)) (facts_cons (fun h => absurd h (by decide)) (facts_cons (fun h => absurd h (by decide)) (facts_cons (fun h => absurd h (by decide)) (facts_cons (fun _ => ⟨v2, hS.put_at (by kernel_rfl) _, h2⟩) (facts_cons (fun h => absurd h (by decide)) facts_nil)))))))
        · intro a w_ K hw hS hd hN hK
          obtain ⟨v27, s27, o27⟩ := (hd 12 (by kernel_rfl)).2 _ (List.mem_cons_of_mem _ (List.mem_cons_of_mem _ (List.mem_cons_of_mem _ (List.mem_cons_of_mem _ (List.mem_cons_of_mem _ (List.mem_cons_self ..)))))) rfl
          rw [if_pos (want_free rfl)]
          go_simp
          exact hK _ _ (Below.refl _ _) (vfree rfl) (facts_cons (fun h => absurd h (by decide)) (facts_cons (fun h => absurd h (by decide)) (facts_cons (fun h => absurd h (by decide)) (facts_cons (fun h => absurd h (by decide)) (facts_cons (fun h => absurd h (by decide)) (facts_cons (fun h => absurd h (by decide)) (facts_cons (fun _ => ⟨v27, hS.put_at (by kernel_rfl) _, o27⟩) facts_nil)))))))
      case hfin =>
        intro a w_ hw hS hk
        have s15 := (hk 0 (by decide)).at (d := 15) rfl rfl rfl
        have s16 := (hk 1 (by decide)).at (d := 16) rfl rfl rfl
        have s17 := (hk 2 (by decide)).at (d := 17) rfl rfl rfl
        have s18 := (hk 3 (by decide)).at (d := 18) rfl rfl rfl
        have s19 := (hk 4 (by decide)).at (d := 19) rfl rfl rfl
        have s20 := (hk 5 (by decide)).at (d := 20) rfl rfl rfl
        obtain ⟨T, bR, s21, p1, p2, p3, p4, p5, p6⟩ := (hk 6 (by decide)).2 _ (List.mem_cons_self ..) rfl
        obtain ⟨T, bR, s22, p1, p2, p3, p4, p5, p6⟩ := (hk 7 (by decide)).2 _ (List.mem_cons_of_mem _ (List.mem_cons_self ..)) rfl
        obtain ⟨bR, s23, p2, p4, p6⟩ := (hk 8 (by decide)).2 _ (List.mem_cons_of_mem _ (List.mem_cons_of_mem _ (List.mem_cons_self ..))) rfl
        obtain ⟨bR, s24, p2, p4, p6⟩ := (hk 9 (by decide)).2 _ (List.mem_cons_of_mem _ (List.mem_cons_of_mem _ (List.mem_cons_of_mem _ (List.mem_cons_self ..)))) rfl
        have s25 := (hk 10 (by decide)).at (d := 25) rfl rfl rfl
        obtain ⟨b26, s26, r26, g26⟩ := (hk 11 (by decide)).2 _ (List.mem_cons_of_mem _ (List.mem_cons_of_mem _ (List.mem_cons_of_mem _ (List.mem_cons_of_mem _ (List.mem_cons_self ..))))) rfl
        obtain ⟨v27, s27, o27⟩ := (hk 12 (by decide)).2 _ (List.mem_cons_of_mem _ (List.mem_cons_of_mem _ (List.mem_cons_of_mem _ (List.mem_cons_of_mem _ (List.mem_cons_of_mem _ (List.mem_cons_self ..)))))) rfl
        obtain ⟨v7, s7, o7⟩ := (hk 13 (by decide)).2 _ (List.mem_cons_of_mem _ (List.mem_cons_of_mem _ (List.mem_cons_of_mem _ (List.mem_cons_of_mem _ (List.mem_cons_of_mem _ (List.mem_cons_of_mem _ (List.mem_cons_self ..))))))) rfl
        have hlit := hS.lit _ (by kernel_rfl) (lits_cons s15 (lits_cons s16 (lits_cons s17 (lits_cons s18 (lits_cons s19 (lits_cons s20 (lits_cons s21 (lits_cons s22 (lits_cons s23 (lits_cons s24 (lits_cons s25 (lits_cons s26 (lits_cons s27 (lits_cons s7 lits_nil))))))))))))))
        rw [hlit]
        have HO9 : Hid (w_.ownsRow w1.heap.size 3 1 v7 (rowL WW x.data.toList y.data.toList (k + 1)).length ((rowL WW x.data.toList y.data.toList (k + 1)).map (Value.int .i64))) := by
          show World.ownsRow _ _ _ _ _ _ _
          rw [HRS.out, List.length_append, List.map_append]
          exact o7
        have HB9 := hide hw
        clear o7 o27 r26 g26 hw
        simp only [litT, List.setIfInBounds_toArray, List.set_cons_succ, List.set_cons_zero]
        clear hlit hk hS
        go_wp2_with fail
        go_roundw
        case rel => exact ⟨k + 1, by go_num, by omega, HO9.out, HB9.out⟩
        case measure => simp [intOf] <;> omega
    · obtain rfl : k = x.size + 1 := by omega
      have e1 : decide (((x.size + 1 : Nat) : Int) ≤ (x.size : Int)) = false := decide_eq_false (by omega)
      have e1' : decide (x.size + 1 ≤ x.size) = false := decide_eq_false (by omega)
      have HIV := hide (IntsV.of_own HO.out)
      have HBE := hide (HB.out.bel.trans (HBk.out.mono HB.out.bel.size))
      go_wp2_with fail
      go_ret
      exact ⟨_, rfl, HIV.out, HBE.out⟩
end Go.Proofs.Ytnpdhbagfkilkaa
