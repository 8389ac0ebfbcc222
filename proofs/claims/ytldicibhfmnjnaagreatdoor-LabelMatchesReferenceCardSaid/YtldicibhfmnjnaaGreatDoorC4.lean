/- Walks of package label: values. -/
import Derived.Test.YtldicibhfmnjnaaGreatDoorC3
set_option linter.unusedVariables false
set_option linter.unusedSimpArgs false
namespace Go.Proofs.YtldicibhfmnjnaaGreatDoor
open Go.RowKit

theorem info_int : (Tryz.prog.info? 3).map (fun i => (i.zero, i.size, i.bytes)) = some (some (.int .i64 0), 1, 8) := by kernel_rfl
theorem one_new {W : World} {a : Value} {ty : TypeId} {b : Nat} (hb : b = W.heap.size) : ∀ (j : Nat) (u : Value), [a][j]? = some u → (W.alloc (.cells #[a] ty)).cell? ((⟨b, 0, none⟩ : Addr).add j) = some u := by
  subst hb
  exact cell_one_new _ _ _
theorem own_block {w : World} {base : Nat} {e : TypeId} {size n : Nat} {v : Value} {xs : List Value} (h : w.ownsRow base e size v n xs) : ∀ k, v.ownBlock = some k → base ≤ k ∧ k < w.heap.size := by
  intro k hk
  rcases h.2 with ⟨rfl, _⟩ | ⟨g, cap, cur, rfl, hb, hg, _⟩
  · simp [Value.ownBlock] at hk
  · simp [Value.ownBlock] at hk
    subst hk
    refine ⟨hb, ?_⟩
    rcases Nat.lt_or_ge g w.heap.size with h' | h'
    · exact h'
    · rw [Array.getElem?_eq_none h'] at hg; cases hg
/-- all the bytes of a text so far are of a seen text; its values -/
def intV (l : List Int) : List Value := l.map (Value.int .i64)
theorem intV_len (l : List Int) : (intV l).length = l.length := by simp [intV]
def VaI (s : List UInt8) (w2 wr : World) (v i : Value) : Prop := ∃ k : Nat, k ≤ s.length ∧ i = .int .i64 (k : Int) ∧ (∀ (j : Nat) (c : UInt8), j < k → s[j]? = some c → okC c = true) ∧ wr.ownsRow w2.heap.size 3 1 v k (intV ((vals s).take k)) ∧ Below w2.heap.size w2 wr
def VaR (s : List UInt8) (w : World) (e : Ending) (w' : World) : Prop :=
  if s.all okC then ∃ v, e = .returned (.tuple #[v, .bool true]) ∧ w'.ownsRow w.heap.size 3 1 v s.length (intV (vals s)) ∧ Below w.heap.size w w'
  else e = .returned (.tuple #[.slice none 0 0, .bool false]) ∧ Below w.heap.size w w'
theorem vals_take {s : List UInt8} {k : Nat} {c : UInt8} (h : s[k]? = some c) : intV ((vals s).take (k + 1)) = intV ((vals s).take k) ++ [.int .i64 (symV c)] := by
  unfold intV
  rw [List.take_add_one, vals_at, h]
  simp
theorem all_bad {s : List UInt8} {k : Nat} {c : UInt8} (h : s[k]? = some c) (hc : okC c = false) : s.all okC = false := by
  rw [← Bool.not_eq_true, List.all_eq_true]
  intro h'
  rw [h' c (List.mem_of_getElem? h)] at hc
  cases hc
theorem own_mono {w : World} {B B' : Nat} {e : TypeId} {size n : Nat} {v : Value} {xs : List Value} (h : w.ownsRow B e size v n xs) (hB : B' ≤ B) : w.ownsRow B' e size v n xs := by
  refine ⟨h.1, ?_⟩
  rcases h.2 with hn | ⟨g, cap, cur, hv, hb, r⟩
  · exact .inl hn
  · exact .inr ⟨g, cap, cur, hv, by omega, r⟩
set_option maxRecDepth 100000 in
set_option maxHeartbeats 8000000 in
theorem values_any (s : List UInt8) (hs : s.length ≤ 1099511627776) (w : World) : Calls Tryz.prog 31 #[.string (bs s)] w (VaR s w) := by
  obtain ⟨i0, hi0, hz0, hz1, hz2⟩ := info_parts info_int
  have hi : (Tryz.prog.info? 83).map (·.size) = some labT.size := by rw [show labT.size = 256 from tabC_size 256]; kernel_rfl
  have hs0 : 0 + labT.size ≤ (Tryz.zeroCells83).size := by rw [show labT.size = 256 from tabC_size 256]; decide
  have hs1 : labT.size = (Tryz.zeroCells83).size := by rw [show labT.size = 256 from tabC_size 256]; rfl
  have HL := hide hs
  clear hs
  go_enter Tryz.func31, Tryz.ntmps31
  go_wp2_with fail
  refine (open_any _).mono ?_
  rintro e w1 ⟨rfl, hb⟩
  have HSZ := hide hb.size
  have HB1 := hide (below_alloc hb (Nat.le_refl _) (.cells Tryz.zeroCells83 83))
  have HZ := hide (Blk.new w1 83 Tryz.zeroCells83)
  clear hb
  go_wp2_with ((with_reducible show wpList _ _ _ (Oper.mk _ (Op.store 83 _ _) _ _ _ _ :: _) _ _); refine wpList_store_part rfl 83 (.tmp 4) (.tmp 7) rfl w1.heap.size 0 labT rfl rfl 83 Tryz.zeroCells83 HZ.out hi hs0 labT_one ?_; intro w2 ho hb2)
  have HT := hide hb2
  rw [splice_all hs1] at HT
  have HB2 := hide (Only.below HB1.out ho HB1.out.size HSZ.out)
  clear hb2 ho HB1 HZ hs0 hs1 hi
  generalize w1.heap.size = bt at *
  clear HSZ
  have hsz : (bs s).size = s.length := bs_size s
  go_loopw [5, 6] (fun v i wr => VaI s w2 wr v i) (fun _ i _ => s.length - (intOf i).toNat)
  case atStart => exact ⟨0, by omega, rfl, fun j c hj => by omega, World.ownsRow_nil _ _ _ _, Below.refl _ _⟩
  case round =>
    obtain ⟨k, hk, rfl, hA, hO, hB⟩ := hrel
    have HA := hide hA
    have HO := hide hO
    have HB := hide hB
    clear hA hO hB
    by_cases hlt : k < s.length
    · obtain ⟨c, hc⟩ : ∃ c, s[k]? = some c := ⟨_, List.getElem?_eq_getElem hlt⟩
      have ci := index_bs s k c hc
      have ct : wr.cell? ⟨bt, c.toNat, none⟩ = some (.int .i64 (symV c)) := ((HT.out.to HB.out).cell c.toNat).trans (labT_at c)
      have c0 := c.toNat_lt
      have hkb : k < 1099511627776 := by have := HL.out; omega
      have HC := hide hc
      have hr := symV_range c
      clear hc
      have next : okC c = true → Hid (∀ (j : Nat) (d : UInt8), j < k + 1 → s[j]? = some d → okC d = true) := fun hok j d hj hd => by
        rcases Nat.lt_or_ge j k with h | h
        · exact HA.out j d h hd
        · obtain rfl : j = k := by omega
          rw [HC.out] at hd
          cases hd; exact hok
      by_cases h1 : symV c < 0
      · have e1 : decide (symV c < 0) = true := by simpa using h1
        by_cases h2 : c = 63
        · have NX := next (by subst h2; decide)
          have e2 : ((c.toNat : Int) == 63) = true := by subst h2; decide
          clear next h2
          go_wp2_with (at_builtin; refine wpList_append_own _ rfl (.tmp 26) (.tmp 32) _ rfl w2.heap.size 3 i0 (.int .i64 0) 1 8 Tryz.underlying46 hi0 hz0 hz1 hz2 rfl (by omega) _ k (intV ((vals s).take k)) rfl (HO.out.alloc _) ⟨_, 0, none⟩ 1 1 [.int .i64 (symV c)] rfl rfl (one_new (by simp)) (by intro u hu; rw [List.mem_singleton.1 hu]; rfl) (by have := HL.out; simp only [maxLen]; omega) (by have := HL.out; omega) (by have := HB.out.size; simp; omega) ?_; intro v' w6 hown6 hgr6 _)
          have HB6 := hide ((below_alloc HB.out (Nat.le_refl _) (.cells #[.int .i64 (symV c)] 3)).grown hgr6 (Nat.le_trans HB.out.size (below_one wr _).size) (fun b hb => (own_block HO.out b hb).1))
          rw [← vals_take HC.out] at hown6
          have HO6 := hide hown6
          clear hown6 hgr6
          go_wp2_with fail
          go_roundw
          case rel => exact ⟨k + 1, by omega, by go_num, NX.out, HO6.out, HB6.out⟩
          case measure => simp [intOf]; omega
        · have e2 : ((c.toNat : Int) == 63) = false := by
            simp
            intro h
            exact h2 (UInt8.toNat_inj.1 (by show c.toNat = 63; omega))
          have HBAD : Hid (s.all okC = false) := all_bad HC.out (by unfold okC isSym; simp [h2]; omega)
          clear next
          go_wp2_with fail
          go_ret2
          show VaR s w _ _
          unfold VaR
          rw [HBAD.out]
          exact ⟨rfl, below_to HB2.out (Nat.le_refl _) HB.out⟩
      · have e1 : decide (symV c < 0) = false := by simpa using h1
        have NX := next (by unfold okC isSym; simp; left; omega)
        clear next
        go_wp2_with (at_builtin; refine wpList_append_own _ rfl (.tmp 26) (.tmp 32) _ rfl w2.heap.size 3 i0 (.int .i64 0) 1 8 Tryz.underlying46 hi0 hz0 hz1 hz2 rfl (by omega) _ k (intV ((vals s).take k)) rfl (HO.out.alloc _) ⟨_, 0, none⟩ 1 1 [.int .i64 (symV c)] rfl rfl (one_new (by simp)) (by intro u hu; rw [List.mem_singleton.1 hu]; rfl) (by have := HL.out; simp only [maxLen]; omega) (by have := HL.out; omega) (by have := HB.out.size; simp; omega) ?_; intro v' w6 hown6 hgr6 _)
        have HB6 := hide ((below_alloc HB.out (Nat.le_refl _) (.cells #[.int .i64 (symV c)] 3)).grown hgr6 (Nat.le_trans HB.out.size (below_one wr _).size) (fun b hb => (own_block HO.out b hb).1))
        rw [← vals_take HC.out] at hown6
        have HO6 := hide hown6
        clear hown6 hgr6
        go_wp2_with fail
        go_roundw
        case rel => exact ⟨k + 1, by omega, by go_num, NX.out, HO6.out, HB6.out⟩
        case measure => simp [intOf]; omega
    · obtain rfl : k = s.length := by omega
      rw [List.take_of_length_le (by simp [vals])] at HO
      have HALL : Hid (s.all okC = true) := by
        show _ = _
        rw [List.all_eq_true]
        intro c hc
        obtain ⟨j, hj, rfl⟩ := List.getElem_of_mem hc
        exact HA.out j _ hj (List.getElem?_eq_getElem hj)
      go_wp2_with fail
      go_ret2
      show VaR s w _ _
      unfold VaR
      rw [HALL.out]
      exact ⟨_, rfl, own_mono HO.out HB2.out.size, below_to HB2.out (Nat.le_refl _) HB.out⟩
end Go.Proofs.YtldicibhfmnjnaaGreatDoor
