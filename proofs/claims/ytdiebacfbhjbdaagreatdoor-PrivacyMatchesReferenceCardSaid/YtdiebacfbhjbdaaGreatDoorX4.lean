/- Package lexer: Lex of a text that is one name. -/
import Derived.Test.YtdiebacfbhjbdaaGreatDoorX3
import Derived.Great.Walk
set_option linter.unusedVariables false
set_option linter.unusedSimpArgs false
namespace Go.Proofs.YtdiebacfbhjbdaaGreatDoor
open Go.RowKit

theorem scC_size (t : List UInt8) : (scC t).size = 257 := by unfold scC; rw [Array.size_append, intC_size, clsL_len]; rfl
theorem scC_one (t : List UInt8) : ∀ v ∈ (scC t).toList, v.oneCell' = true := by
  intro v hv
  unfold scC at hv
  rw [Array.toList_append, List.mem_append] at hv
  rcases hv with h | h
  · simp at h; subst h; rfl
  · exact intC_one _ v h
theorem info_token : (Tryz.prog.info? 107).map (fun i => (i.zero, i.size, i.bytes)) = some (some (.agg #[.int .i64 0, .int .i64 0, .int .i64 0, .string ⟨#[]⟩]), 4, 40) := by kernel_rfl
/-- a slice of one token -/
def TokAt (w : World) (v : Value) (x : Tk) : Prop := ∃ b c, v = .slice (some ⟨b, 0, none⟩) 1 c ∧ b < w.heap.size ∧ ∀ (j : Nat) u, (tcells x)[j]? = some u → w.cell? ⟨b, j, none⟩ = some u
theorem row_new {W : World} {a b c d : Value} {ty : TypeId} {n : Nat} (hb : n = W.heap.size) : ∀ (j : Nat) (u : Value), [a, b, c, d][j]? = some u → (W.alloc (.cells #[a, b, c, d] ty)).cell? ((⟨n, 0, none⟩ : Addr).add j) = some u := by
  subst hb
  intro j u hu
  rw [show (⟨W.heap.size, 0, none⟩ : Addr).add j = ⟨W.heap.size, j, none⟩ by unfold Addr.add; split <;> simp_all]
  refine ((Blk.new W ty #[a, b, c, d]).cell j).trans ?_
  simpa using hu
theorem own_to' {w w' : World} {base : Nat} {e : TypeId} {size n : Nat} {v : Value} {xs : List Value} (h : w.ownsRow base e size v n xs) (hb : Below w.heap.size w w') : w'.ownsRow base e size v n xs :=
  h.kept (show w.grownBy w' none from ⟨hb.os, hb.tape, hb.output, hb.size, fun i hi _ => hb.block i hi⟩) (by cases v.ownBlock <;> simp)
theorem tok_own {w : World} {B : Nat} {v : Value} {x : Tk} (h : w.ownsRow B 107 4 v 1 (tcells x).toList) : TokAt w v x := by
  obtain ⟨_, h⟩ := h
  rcases h with ⟨_, h0⟩ | ⟨g, cap, cur, hv, hB, hg, hn, _, hs, ht⟩
  · omega
  · refine ⟨g, cap, hv, ?_, fun k u hu => ?_⟩
    · rcases Nat.lt_or_ge g w.heap.size with h | h
      · exact h
      · rw [Array.getElem?_eq_none h] at hg; cases hg
    · rw [cell_of_row w g k cur 107 (0, 0) hg]
      have : (cur.toList.take (1 * 4))[k]? = some u := by rw [ht]; simpa using hu
      rw [List.getElem?_take] at this
      split at this
      · simpa using this
      · cases this
def LxI (t : List UInt8) (w0 wr : World) (v i : Value) : Prop := Below w0.heap.size w0 wr ∧
  ((v = .slice none 0 0 ∧ i = .int .i64 0) ∨ (i = .int .i64 (t.length : Int) ∧ wr.ownsRow w0.heap.size 107 4 v 1 (tcells ⟨1, 0, 0, t⟩).toList))
set_option maxRecDepth 100000 in
set_option maxHeartbeats 8000000 in
theorem Lex_name (t : List UInt8) (h : isNm t = true) (w : World) : Calls Tryz.prog 75 #[.string (bs t)] w fun e w' => ∃ v, e = .returned (.tuple #[v, .int .i64 0, .int .i64 0]) ∧ TokAt w' v ⟨1, 0, 0, t⟩ ∧ Below w.heap.size w w' := by
  obtain ⟨h1, h2, h3, h4⟩ := nm_facts h
  have hsz : (bs t).size = t.length := bs_size t
  have hi : (Tryz.prog.info? 132).map (·.size) = some (scC t).size := by rw [scC_size]; kernel_rfl
  have hs0 : 0 + (scC t).size ≤ (Tryz.zeroCells132).size := by rw [scC_size]; decide
  have hs1 : (scC t).size = (Tryz.zeroCells132).size := by rw [scC_size]; rfl
  have hend : atP t t.length = 0 := by unfold atP; rw [List.getElem?_eq_none (Nat.le_refl _)]
  obtain ⟨i0, hi0, hz0, hz1, hz2⟩ := info_parts info_token
  have HI := hide hi
  have HS0 := hide hs0
  have HS1 := hide hs1
  have H1 := hide h1
  have H2 := hide h2
  have HE := hide hend
  have e20 : decide ((20000 : Int) < (t.length : Int)) = false := by simp; omega
  clear hi hs0 hs1 h1 h2 hend h
  go_enter Tryz.func75, Tryz.ntmps75
  go_wp2_with fail
  refine (classes_any _).mono ?_
  rintro e w1 ⟨rfl, hb⟩
  have HSZ := hide hb.size
  have HB1 := hide (below_alloc hb (Nat.le_refl _) (.cells Tryz.zeroCells132 132))
  have HZ := hide (Blk.new w1 132 Tryz.zeroCells132)
  clear hb
  go_wp2_with (first | ((with_reducible show wpList _ _ _ (Oper.mk _ (Op.build 132 _) _ _ _ _ :: _) _ _); refine Great.wpList_readTo rfl _ rfl (.agg (scC t)) (by kernel_rfl) ?_) | ((with_reducible show wpList _ _ _ (Oper.mk _ (Op.store 132 _ _) _ _ _ _ :: _) _ _); refine wpList_store_part rfl 132 (.tmp 5) (.tmp 16) rfl w1.heap.size 0 (scC t) rfl rfl 132 Tryz.zeroCells132 HZ.out HI.out HS0.out (scC_one t) ?_; intro w2 ho hb2))
  have HS2 : Hid (Blk w2 w1.heap.size 132 (scC t)) := by have := hb2; rw [splice_all' HS1.out] at this; exact this
  have HB2 := hide (Only.below HB1.out ho HB1.out.size HSZ.out)
  clear hb2 ho HB1 HZ HI HS0 HS1 HSZ e20
  have HSC := hide HS2.out.lt
  generalize w1.heap.size = sc at *
  have hsub : sub t 0 t.length = t := by unfold sub; simp
  have CN := fun w h => next_name t (by omega) 0 t.length H1.out H2.out (by omega) (Nat.le_refl _) (by omega) sc 132 w h
  rw [hsub] at CN
  have C0 := fun w h => gap_none t (by omega) 0 (by omega) (by rw [H1.out]; decide) (by rw [H1.out]; decide) sc 132 w h
  have CE := fun w h => gap_none t (by omega) t.length (Nat.le_refl _) (by rw [HE.out]; decide) (by rw [HE.out]; decide) sc 132 w h
  refine (C0 _ HS2.out).mono ?_
  rintro e w3 ⟨rfl, hb⟩
  have HB3 := hide hb
  clear hb C0 hsub H1 H2 HE
  go_wp2_with fail
  go_loopw [6, 7] (fun v i wr => LxI t w2 wr v i) (fun _ i _ => t.length - (intOf i).toNat)
  case atStart => exact ⟨HB3.out, .inl ⟨rfl, rfl⟩⟩
  case round =>
    obtain ⟨hB, hst⟩ := hrel
    have HB := hide hB
    clear hB
    have HSr := hide (HS2.out.below HB.out HSC.out)
    rcases hst with ⟨rfl, rfl⟩ | ⟨rfl, hO⟩
    · have e1 : decide ((0 : Int) < (t.length : Int)) = true := by simp; omega
      have CN' : Calls Tryz.prog 105 #[.pointer (some ⟨sc, 0, none⟩), .int .i64 0] wr fun r w' => r = .returned (.tuple #[.agg #[.int .i64 1, .int .i64 0, .int .i64 0, .string (bs t)], .int .i64 (t.length : Int), .int .i64 0]) ∧ Below wr.heap.size wr w' := CN _ HSr.out
      have hsc := HSC.out
      go_wp2_with (first | ((with_reducible refine CN'.mono ?_); rintro e w4 ⟨rfl, hb4⟩) | (at_builtin; refine wpList_append_own _ rfl (.tmp 41) (.tmp 43) _ rfl w2.heap.size 107 i0 (.agg #[.int .i64 0, .int .i64 0, .int .i64 0, .string ⟨#[]⟩]) 4 40 Tryz.underlying103 hi0 hz0 hz1 hz2 rfl (by omega) _ 0 [] rfl (World.ownsRow_nil _ _ _ _) ⟨_, 0, none⟩ 1 1 [.int .i64 1, .int .i64 0, .int .i64 0, .string (bs t)] rfl rfl ?c1 ?c2 (by decide) (by decide) ?c3 ?_))
      case c1 => exact row_new (by simp)
      case c2 =>
        intro u hu
        simp only [List.mem_cons, List.not_mem_nil, or_false] at hu
        rcases hu with rfl | rfl | rfl | rfl <;> rfl
      case c3 =>
        have := HB.out.size
        have := hb4.size
        simp
        omega
      · intro v' w6 hown6 hgr6 _
        have HB5 := below_alloc (below_alloc (below_to HB.out (Nat.le_refl _) hb4) (Nat.le_refl _) (.cells #[.int .i64 1, .int .i64 0, .int .i64 0, .string (bs t)] 107)) (Nat.le_refl _) (.cells #[.int .i64 1, .int .i64 0, .int .i64 0, .string (bs t)] 107)
        have HB6 := hide (HB5.grown hgr6 HB5.size (fun k hk => by simp [Value.ownBlock] at hk))
        have HO6 : Hid (w6.ownsRow w2.heap.size 107 4 v' 1 (tcells ⟨1, 0, 0, t⟩).toList) := hown6
        have CG := CE w6 (HS2.out.below HB6.out HSC.out)
        clear hown6 hgr6 HB5 CN' CN CE hb4
        go_wp2_with ((with_reducible refine CG.mono ?_); rintro e w7 ⟨rfl, hb7⟩)
        refine ⟨⟨below_to HB6.out (Nat.le_refl _) hb7, .inr ⟨rfl, own_to' HO6.out hb7⟩⟩, ?_⟩
        simp [intOf]; omega
    · have e1 : decide ((t.length : Int) < (t.length : Int)) = false := by simp
      have HO := hide hO
      clear hO
      go_wp2_with fail
      go_ret3
      exact ⟨_, rfl, tok_own HO.out, below_to HB2.out (Nat.le_refl _) HB.out⟩
end Go.Proofs.YtdiebacfbhjbdaaGreatDoor
