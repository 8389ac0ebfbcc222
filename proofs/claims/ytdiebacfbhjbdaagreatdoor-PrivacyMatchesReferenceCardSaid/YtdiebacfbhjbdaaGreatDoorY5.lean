/- Package lexer: Lex at every text. -/
import Derived.Test.YtdiebacfbhjbdaaGreatDoorY4
import Derived.Test.YtdiebacfbhjbdaaGreatDoorX4
set_option linter.unusedVariables false
set_option linter.unusedSimpArgs false
namespace Go.Proofs.YtdiebacfbhjbdaaGreatDoor
open Go.RowKit

/-- a slice of tokens -/
def ToksAt (w : World) (v : Value) (l : List Tk) : Prop := (l = [] ∧ ∃ A c, v = .slice A 0 c) ∨
  ∃ b o c, v = .slice (some ⟨b, o, none⟩) l.length c ∧ b < w.heap.size ∧ ∀ (k : Nat) x, l[k]? = some x → ∀ (j : Nat) u, (tcells x)[j]? = some u → w.cell? ⟨b, o + 4 * k + j, none⟩ = some u
theorem ToksAt.to {w w' : World} {v : Value} {l : List Tk} (h : ToksAt w v l) (hb : Below w.heap.size w w') : ToksAt w' v l := by
  rcases h with h | ⟨b, o, c, h1, h2, h3⟩
  · exact .inl h
  · exact .inr ⟨b, o, c, h1, Nat.lt_of_lt_of_le h2 hb.size, fun k x hx j u hu => (hb.cell h2).trans (h3 k x hx j u hu)⟩
/-- the same at the head of a block -/
def TokRow (w : World) (v : Value) (l : List Tk) : Prop := (l = [] ∧ ∃ A c, v = .slice A 0 c) ∨
  ∃ b c, v = .slice (some ⟨b, 0, none⟩) l.length c ∧ b < w.heap.size ∧ ∀ (k : Nat) x, l[k]? = some x → ∀ (j : Nat) u, (tcells x)[j]? = some u → w.cell? ⟨b, 4 * k + j, none⟩ = some u
theorem TokRow.at {w : World} {v : Value} {l : List Tk} (h : TokRow w v l) : ToksAt w v l := by
  rcases h with h | ⟨b, c, h1, h2, h3⟩
  · exact .inl h
  · exact .inr ⟨b, 0, c, h1, h2, fun k x hx j u hu => by rw [Nat.zero_add]; exact h3 k x hx j u hu⟩
theorem TokRow.to {w w' : World} {v : Value} {l : List Tk} (h : TokRow w v l) (hb : Below w.heap.size w w') : TokRow w' v l := by
  rcases h with h | ⟨b, c, h1, h2, h3⟩
  · exact .inl h
  · exact .inr ⟨b, c, h1, Nat.lt_of_lt_of_le h2 hb.size, fun k x hx j u hu => (hb.cell h2).trans (h3 k x hx j u hu)⟩
def flatT (l : List Tk) : List Value := l.flatMap fun x => (tcells x).toList
theorem flatT_len : ∀ l : List Tk, (flatT l).length = l.length * 4
  | [] => rfl
  | x :: l => by
    have := flatT_len l
    unfold flatT at this ⊢
    rw [List.flatMap_cons, List.length_append, this, List.length_cons]
    show 4 + _ = _
    omega
theorem flatT_at : ∀ (l : List Tk) (k : Nat) (x : Tk) (j : Nat) (u : Value), l[k]? = some x → (tcells x)[j]? = some u → (flatT l)[4 * k + j]? = some u
  | [], k, x, j, u, h, _ => by simp at h
  | y :: l, 0, x, j, u, h, hu => by
    simp at h
    subst h
    have hj : j < 4 := by
      rcases Nat.lt_or_ge j (tcells y).size with h | h
      · exact h
      · rw [Array.getElem?_eq_none h] at hu; cases hu
    unfold flatT
    rw [List.flatMap_cons, List.getElem?_append_left (by show 4 * 0 + j < 4; omega)]
    simpa using hu
  | y :: l, k + 1, x, j, u, h, hu => by
    have ih := flatT_at l k x j u (by simpa using h) hu
    unfold flatT at ih ⊢
    rw [List.flatMap_cons, List.getElem?_append_right (by show 4 ≤ _; omega)]
    have : 4 * (k + 1) + j - (tcells y).toList.length = 4 * k + j := by show 4 * (k + 1) + j - 4 = _; omega
    rw [this]; exact ih
theorem flatT_snoc (l : List Tk) (x : Tk) : flatT (l ++ [x]) = flatT l ++ [.int .i64 x.k, .int .i64 x.a, .int .i64 x.n, .string (bs x.s)] := by simp [flatT, tcells]
theorem toks_own {w : World} {B : Nat} {v : Value} {l : List Tk} (h : w.ownsRow B 107 4 v l.length (flatT l)) : TokRow w v l := by
  obtain ⟨_, h⟩ := h
  rcases h with ⟨hv, h0⟩ | ⟨g, cap, cur, hv, hB, hg, hn, _, hs, ht⟩
  · exact .inl ⟨List.eq_nil_of_length_eq_zero h0, _, _, hv⟩
  · refine .inr ⟨g, cap, hv, ?_, fun k x hx j u hu => ?_⟩
    · rcases Nat.lt_or_ge g w.heap.size with h | h
      · exact h
      · rw [Array.getElem?_eq_none h] at hg; cases hg
    · rw [cell_of_row w g _ cur 107 (0, 0) hg]
      have h1 := flatT_at l k x j u hx hu
      rw [← ht, List.getElem?_take] at h1
      split at h1
      · simpa using h1
      · cases h1
theorem own_slice {w : World} {B : Nat} {e : TypeId} {s n : Nat} {v : Value} {xs : List Value} (h : w.ownsRow B e s v n xs) : ∃ A c, v = .slice A n c := by
  obtain ⟨_, h⟩ := h
  rcases h with ⟨hv, h0⟩ | ⟨g, cap, cur, hv, _⟩
  · exact ⟨none, 0, by rw [hv, h0]⟩
  · exact ⟨_, _, hv⟩
def LexI (t : List UInt8) (w0 wr : World) (v i : Value) : Prop := Below w0.heap.size w0 wr ∧
  ∃ (f k : Nat) (acc : List Tk), i = .int .i64 (k : Int) ∧ (k ≤ t.length ∧ t.length - k < f ∧ acc.length ≤ 5000) ∧ lexA f t k acc = lexA (t.length + 1) t (gapP t 0) [] ∧ wr.ownsRow w0.heap.size 107 4 v acc.length (flatT acc)
set_option maxRecDepth 100000 in
set_option maxHeartbeats 8000000 in
theorem Lex_any (t : List UInt8) (ht' : t.length ≤ 140737488355328) (w : World) : Calls Tryz.prog 75 #[.string (bs t)] w fun e w' => ∃ v, e = .returned (.tuple #[v, .int .i64 (lexP t).2.1, .int .i64 (lexP t).2.2]) ∧ TokRow w' v (lexP t).1 ∧ Below w.heap.size w w' := by
  have hsz : (bs t).size = t.length := bs_size t
  by_cases hlim : t.length > 20000
  · have e20 : decide ((20000 : Int) < (t.length : Int)) = true := by simp; omega
    have HL : Hid (lexP t = ([], 2, -1)) := by show _ = _; unfold lexP; rw [if_pos hlim]
    rw [HL.out]
    go_enter Tryz.func75, Tryz.ntmps75
    go_wp2_with fail
    go_ret3
    exact ⟨_, rfl, .inl ⟨rfl, _, _, rfl⟩, Below.refl _ _⟩
  have ht2 : t.length ≤ 20000 := by omega
  have HL : Hid (lexP t = lexA (t.length + 1) t (gapP t 0) []) := by show _ = _; unfold lexP; rw [if_neg hlim]
  rw [HL.out]
  have hi : (Tryz.prog.info? 132).map (·.size) = some (scC t).size := by rw [scC_size]; kernel_rfl
  have hs0 : 0 + (scC t).size ≤ (Tryz.zeroCells132).size := by rw [scC_size]; decide
  have hs1 : (scC t).size = (Tryz.zeroCells132).size := by rw [scC_size]; rfl
  obtain ⟨i0, hi0, hz0, hz1, hz2⟩ := info_parts info_token
  have HI := hide hi
  have HS0 := hide hs0
  have HS1 := hide hs1
  have e20 : decide ((20000 : Int) < (t.length : Int)) = false := by simp; omega
  clear hi hs0 hs1 HL hlim
  go_enter Tryz.func75, Tryz.ntmps75
  go_wp2_with fail
  refine (classes_any _).mono ?_
  rintro e w1 ⟨rfl, hb⟩
  have HSZ := hide hb.size
  have HB1 := hide (below_alloc hb (Nat.le_refl _) (.cells Tryz.zeroCells132 132))
  have HZ := hide (Blk.new w1 132 Tryz.zeroCells132)
  clear hb
  go_wp2_with (first | ((with_reducible show wpList _ _ _ (Oper.mk _ (Op.build 132 _) _ _ _ _ :: _) _ _); refine Great.wpList_readTo rfl _ rfl (.agg (scC t)) (by kernel_rfl) ?_) | ((with_reducible show wpList _ _ _ (Oper.mk _ (Op.store 132 _ _) _ _ _ _ :: _) _ _); refine wpList_store_part rfl 132 (.tmp 5) (.tmp 16) rfl w1.heap.size 0 (scC t) rfl rfl 132 Tryz.zeroCells132 HZ.out HI.out HS0.out (scC_one t) ?_; intro w2 ho hb2))
  have HS2 : Hid (Blk w2 w1.heap.size 132 (scC t)) := by have := hb2; rw [splice_all' HS1.out] at this; exact this
  have HB2 := hide (Only.below HB1.out ho HB1.out.size HSZ.out)
  clear hb2 ho HB1 HZ HI HS0 HS1 HSZ e20
  have HSC := hide HS2.out.lt
  generalize w1.heap.size = sc at *
  have CG := fun k hk w h => gap_any t (by omega) k hk sc 132 w h
  have CN := fun k hk w h => next_any t (by omega) k hk sc 132 w h
  have C0 := CG 0 (Nat.zero_le _)
  have hg0 := gapP_le (Nat.zero_le t.length)
  refine (C0 _ HS2.out).mono ?_
  rintro e w3 ⟨rfl, hb⟩
  have HB3 := hide hb
  clear hb C0
  generalize hg : gapP t 0 = k0 at *
  have HK0 := hide hg
  clear hg
  go_wp2_with fail
  go_loopw [6, 7, 8, 9, 10] (fun v i _ _ _ wr => LexI t w2 wr v i) (fun _ i _ _ _ _ => t.length - (intOf i).toNat)
  case atStart => exact ⟨HB3.out, t.length + 1, k0, [], rfl, ⟨hg0, by omega, by simp⟩, by rw [HK0.out], World.ownsRow_nil _ _ _ _⟩
  case round =>
    obtain ⟨hB, f, k, acc, rfl, ⟨hk, hf, ha5⟩, hE, hO⟩ := hrel
    have HB := hide hB
    have HE := hide hE
    have HO := hide hO
    have HSr := hide (HS2.out.below HB.out HSC.out)
    obtain ⟨A, c, rfl⟩ := own_slice hO
    clear hB hE hO
    by_cases hlt : k < t.length
    · have e1 : decide ((k : Int) < (t.length : Int)) = true := by simp; omega
      obtain ⟨f', rfl⟩ : ∃ f', f = f' + 1 := ⟨f - 1, by omega⟩
      have hE2 := HE.out
      rw [lexA, if_pos hlt] at hE2
      have CN1 := CN k hlt
      have HOK := hide (fun h => next_ok (t := t) (i := k) h)
      generalize nextP t k = r at *
      obtain ⟨E, x, en⟩ := r
      have CN' : Calls Tryz.prog 105 #[.pointer (some ⟨sc, 0, none⟩), .int .i64 (k : Int)] wr fun r w' => r = .returned (.tuple #[.agg #[.int .i64 x.k, .int .i64 x.a, .int .i64 x.n, .string (bs x.s)], .int .i64 (en : Int), .int .i64 E]) ∧ Below wr.heap.size wr w' := CN1 _ HSr.out
      simp only [] at hE2
      clear CN CN1
      by_cases hE0 : E = 0
      · subst hE0
        by_cases h5 : acc.length = 5000
        · have e2 : ((acc.length : Int) == 5000) = true := by rw [h5]; rfl
          rw [if_pos ⟨rfl, h5⟩] at hE2
          have HE2 := hide hE2
          clear hE2 h5 HOK
          go_wp2_with ((with_reducible refine CN'.mono ?_); rintro e w4 ⟨rfl, hb4⟩)
          go_ret3
          rw [← HE2.out]
          exact ⟨_, rfl, .inl ⟨rfl, _, _, rfl⟩, below_alloc (below_to (below_to HB2.out (Nat.le_refl _) HB.out) (Nat.le_refl _) hb4) (Nat.le_refl _) _⟩
        · have e2 : ((acc.length : Int) == 5000) = false := by rw [beq_eq_false_iff_ne]; omega
          rw [if_neg (fun h => h5 h.2), if_neg (by simp)] at hE2
          have HE2 := hide hE2
          have ha4 : acc.length < 5000 := by omega
          obtain ⟨hen1, hen2⟩ := HOK.out rfl
          simp only [] at hen1 hen2
          have hge := gapP_ge t en
          have hgl := gapP_le hen2
          have CE := CG en hen2
          generalize hgp : gapP t en = m at *
          clear hE2 h5 HOK CG hgp
          have hsc := HSC.out
          have HXS := hide (flatT_snoc acc x)
          obtain ⟨xk, xa, xn, xs⟩ := x
          simp only [] at CN' HXS
          go_wp2_with (first | ((with_reducible refine CN'.mono ?_); rintro e w4 ⟨rfl, hb4⟩) | (at_builtin; refine wpList_append_own _ rfl (.tmp 41) (.tmp 43) _ rfl w2.heap.size 107 i0 (.agg #[.int .i64 0, .int .i64 0, .int .i64 0, .string ⟨#[]⟩]) 4 40 Tryz.underlying103 hi0 hz0 hz1 hz2 rfl (by omega) _ acc.length (flatT acc) rfl ?c0 ⟨_, 0, none⟩ 1 1 [.int .i64 xk, .int .i64 xa, .int .i64 xn, .string (bs xs)] rfl rfl ?c1 ?c2 ?c4 ?c5 ?c3 ?_))
          case c0 => exact own_to' HO.out (below_alloc (below_alloc hb4 (Nat.le_refl _) _) (by simp) _)
          case c1 => exact row_new (by simp)
          case c2 =>
            intro u hu
            simp only [List.mem_cons, List.not_mem_nil, or_false] at hu
            rcases hu with rfl | rfl | rfl | rfl <;> rfl
          case c4 => simp only [maxLen]; omega
          case c5 => omega
          case c3 =>
            have := HB.out.size
            have := hb4.size
            simp
            omega
          · intro v' w6 hown6 hgr6 _
            have HB5 := below_alloc (below_alloc (below_to HB.out (Nat.le_refl _) hb4) (Nat.le_refl _) (.cells #[.int .i64 xk, .int .i64 xa, .int .i64 xn, .string (bs xs)] 107)) (Nat.le_refl _) (.cells #[.int .i64 xk, .int .i64 xa, .int .i64 xn, .string (bs xs)] 107)
            have HB6 := hide (HB5.grown hgr6 HB5.size (fun k hk => (HO.out.lt k hk).1))
            have HO6 : Hid (w6.ownsRow w2.heap.size 107 4 v' (acc ++ [(⟨xk, xa, xn, xs⟩ : Tk)]).length (flatT (acc ++ [(⟨xk, xa, xn, xs⟩ : Tk)]))) := by show World.ownsRow _ _ _ _ _ _ _; rw [HXS.out, List.length_append]; exact hown6
            have CG' := CE w6 (HS2.out.below HB6.out HSC.out)
            clear hown6 hgr6 HB5 CN' CE hb4
            go_wp2_with ((with_reducible refine CG'.mono ?_); rintro e w7 ⟨rfl, hb7⟩)
            refine ⟨⟨below_to HB6.out (Nat.le_refl _) hb7, f', m, acc ++ [(⟨xk, xa, xn, xs⟩ : Tk)], rfl, ⟨hgl, by omega, by simp; omega⟩, HE2.out.trans (by rfl), own_to' HO6.out hb7⟩, ?_⟩
            simp [intOf]; omega
      · have e2 : (E == 0) = false := by rw [beq_eq_false_iff_ne]; exact hE0
        have e3 : (E != 0) = true := by rw [bne_iff_ne]; exact hE0
        rw [if_neg (fun h => hE0 h.1), if_pos hE0] at hE2
        have HE2 := hide hE2
        clear hE2 HOK hE0
        go_wp2_with ((with_reducible refine CN'.mono ?_); rintro e w4 ⟨rfl, hb4⟩)
        go_ret3
        rw [← HE2.out]
        exact ⟨_, rfl, .inl ⟨rfl, _, _, rfl⟩, below_alloc (below_to (below_to HB2.out (Nat.le_refl _) HB.out) (Nat.le_refl _) hb4) (Nat.le_refl _) _⟩
    · have e1 : decide ((k : Int) < (t.length : Int)) = false := by simp; omega
      obtain ⟨f', rfl⟩ : ∃ f', f = f' + 1 := ⟨f - 1, by omega⟩
      have hE2 := HE.out
      rw [lexA, if_neg hlt] at hE2
      have HE2 := hide hE2
      clear hE2
      go_wp2_with fail
      go_ret3
      rw [← HE2.out]
      exact ⟨_, rfl, toks_own HO.out, below_to HB2.out (Nat.le_refl _) HB.out⟩
end Go.Proofs.YtdiebacfbhjbdaaGreatDoor
