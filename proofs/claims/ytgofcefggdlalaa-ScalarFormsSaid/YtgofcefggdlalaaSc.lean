/-
  The walks of layer 3: words as bytes.
-/
import Derived.Test.YtgofcefggdlalaaSb
import Derived.Test.YtgofcefggdlalaaBl
namespace Go.Proofs.Ytgofcefggdlalaa
open Go.RowKit

theorem tyB : RowTy Try.prog 22 5 1 1 := rowTy_of (z := .int .u8 0) Try.underlying22 (by kernel_rfl) rfl (by decide)
theorem bvs_snoc (l : List UInt8) (m : Nat) (h : m < 256) : bvs (l ++ [UInt8.ofNat m]) = bvs l ++ [.int .u8 (m : Int)] := by
  simp only [bvs, List.map_append, List.map_cons, List.map_nil, bv, UInt8.toNat_ofNat']
  rw [Nat.mod_eq_of_lt (by omega)]
def SpRel (w : World) (xs : List Nat) (v i : Value) (wr : World) : Prop :=
  ∃ (k : Nat) (B : Option Addr) (d : Nat) (l : List UInt8), k ≤ xs.length ∧ i = .int .i64 (k : Int) ∧ v = .slice B l.length d ∧ l = spB (xs.take k) ∧ St w NoB wr [.row (.slice B l.length d) 5 1 l.length (bvs l)]
def SpRel2 (w : World) (T : List UInt8) (v x i : Value) (wr : World) : Prop :=
  ∃ (j f y : Nat) (B : Option Addr) (d : Nat) (l : List UInt8), i = .int .i64 (j : Int) ∧ x = .int .u64 (y : Int) ∧ j + f = 8 ∧ v = .slice B l.length d ∧ l ++ leB f y = T ∧ St w NoB wr [.row (.slice B l.length d) 5 1 l.length (bvs l)]
set_option maxRecDepth 100000 in
set_option maxHeartbeats 800000 in
theorem spelt_walk (A : Option Addr) (n c : Nat) (xs : List Nat) (w : World) (hn : xs.length = n) (hn2 : n ≤ 100) (hr : Rd w (.slice A n c) 1 n (uvs xs)) :
    Calls Try.prog 27 #[.slice A n c] w (ResB 5 w (spB xs)) := by
  have HN := hide hn
  have HR := hide hr
  have HS0 := hide ((St.init w NoB).row (Below.refl _ _) (World.ownsRow_nil _ _ 5 1))
  clear hn hr
  go_enter Try.func27, Try.ntmps27
  go_wp2_with fail
  go_loopw [3, 8] (fun v i wr => SpRel w xs v i wr) (fun _ i _ => n - (intOf i).toNat)
  case atStart => exact ⟨0, none, 0, [], by omega, rfl, rfl, rfl, HS0.out⟩
  case round =>
    obtain ⟨k, B, d, l, hk, rfl, rfl, hl, hS⟩ := hrel
    rw [HN.out] at hk
    by_cases hlt : k < n
    · obtain ⟨x, hx⟩ : ∃ x, xs[k]? = some x := ⟨xs[k]'(by rw [HN.out]; exact hlt), List.getElem?_eq_getElem _⟩
      rcases HR.out.cases with ⟨_, h0, _⟩ | ⟨b, o, sp, c', hA, hb, _, _, _, hsp, hc⟩
      · omega
      injection hA with hA1 _ hA3
      subst hA1 hA3
      obtain rfl : sp = none := hsp (by omega)
      replace hb := hb (by omega)
      have hcx : wr.cell? ⟨b, o + k, none⟩ = some (.int .u64 (x : Int)) := by
        rw [hS.below.cell (p := ⟨b, o + k, none⟩) hb]
        exact hc k _ (by simp only [uvs, List.getElem?_map, hx]; rfl)
      have hT := spB_take xs k x hx
      rw [← hl] at hT
      have HT := hide hT
      have hll : l.length = 8 * k := by rw [hl, spB_len, List.length_take, HN.out]; omega
      have HLL := hide hll
      have HSK := hide hS
      clear hS hT hl hx hc hsp hll
      go_wp2_with fail
      go_loopw [3, 5, 12] (fun v x i wr => SpRel2 w (spB (xs.take (k + 1))) v x i wr) (fun _ _ i _ => 8 - (intOf i).toNat)
      case atStart => exact ⟨0, 8, x, B, d, l, rfl, rfl, rfl, rfl, HT.out.symm, HSK.out⟩
      case round =>
        obtain ⟨j, f, y, B2, d2, l2, rfl, rfl, hjf, rfl, hl2, hS2⟩ := hrel
        have HL2 := hide hl2
        have hbd : l2.length ≤ 8 * k + 8 := by
          have := congrArg List.length hl2
          rw [spB_len, List.length_append, List.length_take, HN.out] at this
          omega
        clear hl2 HSK
        by_cases hj : j < 8
        · go_wp2_with (at_builtin; refine wl_append1 rfl rfl tyB hS2 0 rfl rfl (us := [_]) rfl rfl ?_ ?_ (by decide) ?_; (intro u hu; simp only [List.mem_singleton] at hu; subst hu; rfl); (simp only [List.length_singleton]; omega); intro B3 d3 w3 hS3)
          go_roundw
          case rel =>
            cases f with
            | zero => omega
            | succ f =>
              refine ⟨j + 1, f, y / 256, B3, d3, l2 ++ [UInt8.ofNat (y % 256)], by go_num, by simp, by omega, by simp, ?_, ?_⟩
              · rw [← HL2.out]
                simp [leB]
              · rw [bvs_snoc _ _ (by omega), List.length_append, List.length_singleton]
                exact hS3
          case measure => simp [intOf]; omega
        · obtain rfl : f = 0 := by omega
          have h8 : j = 8 := by omega
          subst h8
          have hfin := HL2.out
          simp only [leB, List.append_nil] at hfin
          have HFIN := hide hfin
          clear hfin
          go_wp2_with fail
          go_roundw
          case rel => exact ⟨k + 1, B2, d2, l2, by rw [HN.out]; omega, by go_num, rfl, HFIN.out, hS2⟩
          case measure => simp [intOf]; omega
    · obtain rfl : k = n := by omega
      have hfin : l = spB xs := by rw [hl, ← HN.out, List.take_length]
      have HFIN := hide hfin
      clear hl hfin
      go_wp2_with fail
      go_ret
      exact resB_of hS 0 rfl (by rw [HFIN.out])
set_option maxRecDepth 100000 in
set_option maxHeartbeats 800000 in
theorem bytes_walk (a0 a1 a2 a3 : Nat) (w : World) (ha : Words [a0, a1, a2, a3]) :
    Calls Try.prog 21 #[.agg #[.int .u64 (a0 : Int), .int .u64 (a1 : Int), .int .u64 (a2 : Int), .int .u64 (a3 : Int)]] w (ResB 5 w (leB 32 (lv [a0, a1, a2, a3]))) := by
  have e : leB 32 (lv [a0, a1, a2, a3]) = spB [a0, a1, a2, a3] := (spB_eq _ ha).symm
  rw [e]
  have S := fun w1 => spelt_walk (some ⟨w.heap.size, 0, none⟩) 4 4 [a0, a1, a2, a3] w1 rfl (by omega)
  have HS0 := hide ((St.init w NoB).alloc (uvs [a0, a1, a2, a3]).toArray 35)
  have HS := hide S
  clear S e ha
  go_enter Try.func21, Try.ntmps21
  go_wp2_with (go_at_call 27; refine (HS.out _ (rd_cells HS0.out 0 rfl 4 (by rfl) (by decide))).mono ?_; rintro e w2 ⟨B, d, rfl, hb, ho⟩)
  go_ret
  exact ⟨B, d, rfl, ((Below.refl _ _).alloc (Nat.le_refl _) _).trans (hb.mono (by simp)), ho.base_le (by simp)⟩
end Go.Proofs.Ytgofcefggdlalaa
