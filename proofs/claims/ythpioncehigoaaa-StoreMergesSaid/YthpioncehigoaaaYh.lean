/-
  Layer 18: one element put into a row of one's own (slices.Insert).
-/
import Derived.Test.YthpioncehigoaaaYg
set_option linter.unusedVariables false
namespace Go.Proofs.Ythpioncehigoaaa
open Go.RowKit
set_option linter.unusedSimpArgs false

theorem szFc (W : World) : (sizeOf (Try.prog.elem 29)).run Try.prog W = .ok 3 W := by kernel_rfl
theorem rowFc : RowTy Try.prog 29 27 3 48 := rowTy_of (z := .agg #[.string ⟨#[]⟩, .slice none 0 0, .int .u32 0]) (by kernel_rfl) (by kernel_rfl) rfl (by decide)
theorem stop_ {p : Prop} (h : Hid p) : p := h
theorem St.anyM {w w' : World} {M : Nat → Prop} {H : List Chunk} (h : St w NoB w' H) : St w M w' H :=
  ⟨ext_of_below h.below, h.sat, fun i c k hc hb => by
    rcases h.own i c k hc hb with h1 | h1
    · exact .inl h1
    · exact h1.elim, h.apart⟩
theorem one_app {a b : List Value} (ha : ∀ u ∈ a, u.oneCell' = true) (hb : ∀ u ∈ b, u.oneCell' = true) : ∀ u ∈ a ++ b, u.oneCell' = true := fun u hu => by
  rcases List.mem_append.1 hu with h | h
  · exact ha u h
  · exact hb u h
theorem one_drop {a : List Value} (ha : ∀ u ∈ a, u.oneCell' = true) (k : Nat) : ∀ u ∈ a.drop k, u.oneCell' = true := fun u hu => ha u (List.mem_of_mem_drop hu)
theorem one_take {a : List Value} (ha : ∀ u ∈ a, u.oneCell' = true) (k : Nat) : ∀ u ∈ a.take k, u.oneCell' = true := fun u hu => ha u (List.mem_of_mem_take hu)
theorem putC_at {pre mid post vs : List Value} {k : Nat} (hk : k = pre.length) (hm : mid.length = vs.length) : putC (pre ++ (mid ++ post)).toArray k vs = (pre ++ (vs ++ post)).toArray := by
  subst hk
  exact putC_list vs mid pre post hm
theorem ov_any (g b la ca lb cb o : Nat) (W : World) {cg cb' : Array Value} (hg : W.heap[g]? = some (.cells cg 27 (0, 0))) (hb : W.heap[b]? = some (.cells cb' 27 (0, 0))) (hne : g ≠ b) (h0 : cb'.size ≠ 0) :
    (callFunc 64 #[.slice (some ⟨g, 0, none⟩) la ca, .slice (some ⟨b, o, none⟩) lb cb]).run Try.prog W = .ok (.value (.bool false)) W := by
  have hsa : W.shape? g = some (27, cg.size) := by unfold World.shape?; rw [hg]
  have hsb : W.shape? b = some (27, cb'.size) := by unfold World.shape?; rw [hb]
  rw [run_callFunc_extern Try.func64 (by kernel_rfl) (by kernel_rfl) (by kernel_rfl) (e := Extern.SlicesOverlaps.overlaps #[29, 29] #[4]) (by kernel_rfl),
    Go.Lib.run_overlaps_apart (P := Try.prog) W 29 4 27 Try.underlying29 3 (fun w => by kernel_rfl) ⟨g, 0, none⟩ ⟨b, o, none⟩ la ca lb cb hne _ _ _ _ hsa hsb h0 (frozen_of_row W g 0 cg 27 hg) (frozen_of_row W g cg.size cg 27 hg)]
  rfl
/-- A row with one more has come back; of what was there only the row's own block was written. -/
def InsR (v : Value) (n : Nat) (zs : List Value) (w : World) (e : Ending) (w' : World) : Prop :=
  ∃ A' c', e = .returned (.slice A' (n + 1) c') ∧ St w (fun k => v.ownBlock = some k) w' [.row (.slice A' (n + 1) c') 27 3 (n + 1) zs]
set_option maxRecDepth 100000 in
set_option maxHeartbeats 1600000 in
theorem insert_any {w w0 : World} {M : Nat → Prop} {H : List Chunk} (A : Option Addr) (n c j : Nat) (xs ys : List Value) (g : Nat) (hS : St w0 M w (.row (.slice A n c) 27 3 n xs :: .cells g ys.toArray 27 :: H))
    (hj : j ≤ n) (hn6 : n ≤ 1000000) (hy : ys.length = 3) (h1x : ∀ u ∈ xs, u.oneCell' = true) (h1y : ∀ u ∈ ys, u.oneCell' = true) :
    Calls Try.prog 42 #[.slice A n c, .int .i64 (j : Int), .slice (some ⟨g, 0, none⟩) 1 1] w fun e w' => InsR (.slice A n c) n (xs.take (j * 3) ++ ys ++ xs.drop (j * 3)) w e w' := by
  have hgr : w.heap[g]? = some (.cells ys.toArray 27 (0, 0)) := hS.heap 1 rfl
  have hxl : xs.length = n * 3 := (hS.sat 0 _ rfl : w.ownsRow 0 27 3 (.slice A n c) n xs).1
  have hvr : Rd w (.slice (some ⟨g, 0, none⟩) 1 1) 3 1 ys := by
    have e : (.cells g ys.toArray 27 : Chunk) = .cells g (ys ++ []).toArray 27 := by rw [List.append_nil]
    have h2 := hS
    rw [e] at h2
    exact rd_pre h2 1 rfl (by omega) (Nat.le_refl _) (by decide)
  have hrx : Rd w (.slice A n c) 3 n xs := hS.rd 0 rfl
  have hcap := rd_nilcap hrx
  have dr := fun W => run_dropG (t := 29) (P := Try.prog) Try.underlying29 szFc A n c j hj W
  obtain ⟨sv, hsv⟩ : ∃ v, v = sliced A j n c 3 := ⟨_, rfl⟩
  rw [← hsv] at dr
  have HSV := hide hsv
  clear hsv
  have HSo := hide (hS.soloC 0 rfl)
  have HV := hide hvr
  by_cases hjn : j = n
  · subst hjn
    have e1 : xs.take (j * 3) ++ ys ++ xs.drop (j * 3) = xs ++ ys := by rw [← hxl, List.take_length, List.drop_length, List.append_nil]
    rw [e1]
    have q1 : ((j : Int) == (j : Int)) = true := by simp
    clear hS hgr hrx e1 hvr hxl hcap
    go_enter Try.func42, Try.ntmps42
    go_wp2_with (refine wl_append rfl rfl rowFc HSo.out 0 rfl rfl rfl HV.out h1y (by omega) (by decide) ?_; intro A' c' w' h2; have HS2 := hide h2; clear h2)
    go_ret
    exact ⟨A', c', rfl, HS2.out⟩
  · have hlt : j < n := by omega
    have q1 : ((j : Int) == (n : Int)) = false := by simp; omega
    have q1' : (j == n) = false := by simp; omega
    have hgo : (Value.slice A n c).ownBlock ≠ some g := hS.apart 1 0 _ _ g (by decide) rfl rfl rfl
    obtain ⟨b, rest, rfl, hnc, hcm, _, hcl, hSc⟩ := St.cells_ofG HSo.out (by omega)
    have hgb : g ≠ b := fun e => hgo (by rw [e]; rfl)
    have hgrest : 3 * (c - n) = rest.length := by rw [List.length_append, hxl] at hcl; omega
    have HCC := hide hcl
    have hb0 : w.heap[b]? = some (.cells (xs ++ rest).toArray 27 (0, 0)) := hSc.heap 0 rfl
    have HSC := hide hSc
    have HG := hide hgr
    have hcm' : (c : Int) ≤ 9223372036854775807 := by unfold maxLen at hcm; omega
    -- the three parts of the row
    have e0 : xs = xs.take (j * 3) ++ xs.drop (j * 3) := (List.take_append_drop _ _).symm
    have l1 : (xs.take (j * 3)).length = j * 3 := by rw [List.length_take, hxl]; omega
    have l2 : (xs.drop (j * 3)).length = (n - j) * 3 := by rw [List.length_drop, hxl]; omega
    by_cases hroom : n + 1 ≤ c
    · have d1 : decide ((c : Int) < (n : Int) + 1) = false := by simp; omega
      have d1' : decide (c < n + 1) = false := by simp; omega
      have s1 := fun W => run_takeG (t := 29) (P := Try.prog) Try.underlying29 szFc (some ⟨b, 0, none⟩) n c (n + 1) hroom hcap.2 W
      have s2 := fun W => run_dropG (t := 29) (P := Try.prog) Try.underlying29 szFc (some ⟨b, 0, none⟩) (n + 1) c (j + 1) (by omega) W
      have s3 := fun W => run_dropG (t := 29) (P := Try.prog) Try.underlying29 szFc (some ⟨b, 0, none⟩) (n + 1) c j (by omega) W
      rw [sliced_lt (show j + 1 < c by omega)] at s2
      rw [sliced_lt (show j < c by omega)] at s3
      have z0 : 0 + (j + 1) * 3 = (j + 1) * 3 := Nat.zero_add _
      have z1 : 0 + j * 3 = j * 3 := Nat.zero_add _
      rw [z0] at s2
      rw [z1] at s3
      have c1 : ((n + 1 : Nat) : Int) = (n : Int) + 1 := by omega
      have c2 : ((j + 1 : Nat) : Int) = (j : Int) + 1 := by omega
      rw [c1] at s1
      rw [c2] at s2
      have hov := fun lb cb => ov_any g b 1 1 lb cb ((j + 1) * 3) w hgr hb0 hgb (by rw [List.size_toArray, hcl]; omega)
      -- what is copied
      have hR1 : Rd w.drew (.slice (some ⟨b, j * 3, none⟩) (n + 1 - j) (c - j)) 3 (n + 1 - j) (xs.drop (j * 3) ++ rest.take 3) := by
        have h1 : Rd w.drew (.slice (some ⟨b, 0, none⟩) (n + 1) c) 3 (n + 1) (xs ++ rest.take 3) := by
          have hh := hSc.drew
          have e4 : xs ++ rest = (xs ++ rest.take 3) ++ rest.drop 3 := by rw [List.append_assoc, List.take_append_drop]
          rw [e4] at hh
          exact rd_pre hh 0 rfl (by rw [List.length_append, hxl, List.length_take]; omega) hroom hcm
        have h2 := rd_dropG h1 j (by omega) (by decide)
        rw [sliced_lt (show j < c by omega), z1, List.drop_append, show j * 3 - xs.length = 0 by omega, List.drop_zero] at h2
        exact h2
      have p1 : putC (xs ++ rest).toArray ((j + 1) * 3) ((xs.drop (j * 3) ++ rest.take 3).take ((n - j) * 3)) = (xs.take (j * 3) ++ ((xs.drop (j * 3)).take 3 ++ (xs.drop (j * 3) ++ rest.drop 3))).toArray := by
        have t1 : (xs.drop (j * 3) ++ rest.take 3).take ((n - j) * 3) = xs.drop (j * 3) := by rw [← l2]; exact List.take_left
        rw [t1]
        have e5 : xs ++ rest = (xs.take (j * 3) ++ (xs.drop (j * 3)).take 3) ++ (((xs.drop (j * 3)).drop 3 ++ rest.take 3) ++ rest.drop 3) := by
          rw [List.append_assoc, List.append_assoc, List.take_append_drop, ← List.append_assoc ((xs.drop (j * 3)).take 3), List.take_append_drop, ← List.append_assoc, ← e0]
        rw [e5, putC_at (by rw [List.length_append, l1, List.length_take, l2]; omega) (by rw [List.length_append, List.length_drop, l2, List.length_take]; omega), List.append_assoc]
      have p2 : putC (xs.take (j * 3) ++ ((xs.drop (j * 3)).take 3 ++ (xs.drop (j * 3) ++ rest.drop 3))).toArray (j * 3) (ys.take (1 * 3)) = (xs.take (j * 3) ++ ys ++ xs.drop (j * 3) ++ rest.drop 3).toArray := by
        have t2 : ys.take (1 * 3) = ys := List.take_of_length_le (by omega)
        rw [t2, putC_at l1.symm (by rw [List.length_take, l2]; omega)]
        simp only [List.append_assoc]
      have sz1 : (xs ++ rest).toArray.size = c * 3 := by rw [List.size_toArray]; exact hcl
      have sz2 : (xs.take (j * 3) ++ ((xs.drop (j * 3)).take 3 ++ (xs.drop (j * 3) ++ rest.drop 3))).toArray.size = c * 3 := by
        have h8 := hcl
        rw [List.length_append, hxl] at h8
        rw [List.size_toArray, List.length_append, List.length_append, List.length_append, l1, List.length_take, l2, List.length_drop]
        omega
      have HR1 := hide hR1
      have HT1 : Hid ((xs.drop (j * 3) ++ rest.take 3).take ((n - j) * 3) = xs.drop (j * 3)) := hide (by rw [← l2]; exact List.take_left)
      have HGB2 : Hid (∀ k, (Value.slice (some ⟨g, 0, none⟩) 1 1).ownBlock = some k → (Value.slice (some ⟨b, 0, none⟩) n c).ownBlock = some k → g = b) := hide (fun k hk hm => by
        have h1 : g = k := by injection hk
        have h2 : b = k := by injection hm
        omega)
      have P1 := hide p1
      have P2 := hide p2
      have HL1 := hide l1
      have HL2 := hide l2
      have HXL := hide hxl
      have HGR := hide hgrest
      have nj : (n : Int) + 1 - ((j : Int) + 1) = ((n - j : Nat) : Int) := by omega
      clear hS hgr hrx hvr hxl hcap hSc hb0 hgrest e0 l1 l2 hR1 p1 p2 hcl dr HSV hgo
      go_enter Try.func42, Try.ntmps42
      go_wp2_with (simp only [hov])
      refine wp_region_T [(0, 1), (1, 1), (2, 1), (3, 1), (4, 1), (5, 1), (6, 1), (7, 1), (8, 3)] (by kernel_rfl) (by kernel_rfl) (fun _ _ _ _ h => h) ?_
      go_wp2_with (first
        | (refine wpT_late rfl rfl ?_; intro K hK; refine wp_copyC (size := 3) (q := n - j) rfl Try.underlying29 (by kernel_rfl) HSC.out.drew 0 rfl rfl rfl HR1.out (by omega) (by rw [sz1]; omega) (by rw [HT1.out]; exact one_drop h1x _) ?_; intro w7 hS7; rw [P1.out] at hS7; have HS7 := hide hS7; clear hS7)
        | (refine wl_copyC (size := 3) (q := 1) rfl rfl Try.underlying29 (by kernel_rfl) HS7.out 0 rfl rfl rfl (HV.out.stM HS7.out (fun k hk hm => hgb (HGB2.out k hk hm))) (by omega) (by rw [sz2]; omega) (one_take h1y _) ?_; intro w8 hS8; rw [P2.out] at hS8; have HS8 := hide hS8; clear hS8)
        | (refine wpT_nil ?_)   | ((with_reducible refine fromT_refl ?_); (try simp only [Act.put, nq1, nq2, nq3, nq4, nq5, nq6]))   | ((with_reducible refine fromT_mk (by assumption) ?_); (try simp only [Act.put, nq1, nq2, nq3, nq4, nq5, nq6]))   | (refine wpT_pure (v := ?_) rfl rfl ?_ ?_; rotate_left; (intro wx; go_simp; try go_bits) <;> (with_reducible rfl); (try simp only [Act.put, nq1, nq2, nq3, nq4, nq5, nq6]))   | (refine wpT_load (v := ?_) rfl rfl rfl ?_ ?_; rotate_left; (go_simp; try go_bits) <;> (with_reducible rfl); (try simp only [Act.put, nq1, nq2, nq3, nq4, nq5, nq6]))   | (refine wpT_read (v := ?_) rfl rfl ?_ ?_; rotate_left; (intro wx hx; go_simp; try go_bits) <;> (with_reducible rfl); (try simp only [Act.put, nq1, nq2, nq3, nq4, nq5, nq6]))   | (refine wpT_call rfl rfl ?_; intro K hK)   | (refine wpT_late rfl rfl ?_; intro K hK)   | (refine wpT_any rfl rfl ?_; intro K hK)   | (refine wpT_skip rfl rfl ?_; (try simp only [Act.put, nq1, nq2, nq3, nq4, nq5, nq6])))
      go_ret
      refine ⟨some ⟨b, 0, none⟩, c, rfl, HS8.out.as_row ?_ ?_ hroom hcm⟩
      · rw [List.length_append, List.length_append, HL1.out, HL2.out, hy]; omega
      · have := HCC.out
        rw [List.length_append] at this
        rw [List.length_append, List.length_append, List.length_append, HL1.out, HL2.out, hy, List.length_drop]
        have := HXL.out
        omega
    · have d1 : decide ((c : Int) < (n : Int) + 1) = true := by simp; omega
      have d1' : decide (c < n + 1) = true := by simp; omega
      have hcn : c = n := by omega
      have s1 := fun W => run_takeG (t := 29) (P := Try.prog) Try.underlying29 szFc (some ⟨b, 0, none⟩) n c j (by omega) hcap.2 W
      have s3 := fun W => run_dropG (t := 29) (P := Try.prog) Try.underlying29 szFc (some ⟨b, 0, none⟩) n c j (by omega) W
      rw [sliced_lt (show j < c by omega)] at s3
      have z1 : 0 + j * 3 = j * 3 := Nat.zero_add _
      rw [z1] at s3
      have hR1 : ∀ W, Below w.heap.size w W → Rd W (.slice (some ⟨b, j * 3, none⟩) (n - j) (c - j)) 3 (n - j) (xs.drop (j * 3)) := fun W hW => by
        have h2 := rd_dropG (hrx.below hW) j (by omega) (by decide)
        rw [sliced_lt (show j < c by omega), z1] at h2
        exact h2
      have hold : ∀ i u, (xs.take (j * 3))[i]? = some u → w.cell? ⟨b, 0 + i, none⟩ = some u := fun i u hu => by
        have hil := (List.getElem?_eq_some_iff.1 hu).1
        rw [l1] at hil
        rw [List.getElem?_take_of_lt hil] at hu
        rw [Nat.zero_add, hSc.cell 0 rfl i, List.getElem?_toArray, List.getElem?_append_left (by rw [hxl]; omega)]
        exact hu
      have hinf : (Try.prog.info? 27).map (fun i => (i.zero, i.size, i.bytes)) = some (some (.agg #[.string ⟨#[]⟩, .slice none 0 0, .int .u32 0]), 3, 48) := by kernel_rfl
      have ek : (n : Int) + 1 - (j : Int) = ((n + 1 - j : Nat) : Int) := by omega
      have HR1 := hide hR1
      have HO := hide hold
      have ej : j + (n + 1 - j) = n + 1 := by omega
      have z0 : 0 + (j + 1) * 3 = (j + 1) * 3 := Nat.zero_add _
      have cj : ((j + 1 : Nat) : Int) = (j : Int) + 1 := by omega
      have nj : (n : Int) + 1 - ((j : Int) + 1) = ((n - j : Nat) : Int) := by omega
      have HCN := hide hcn
      clear hcn
      have HL1 := hide l1
      have HL2 := hide l2
      have HXL := hide hxl
      clear hS hgr hrx hvr hxl hcap hSc hb0 hgrest e0 l1 l2 hR1 hcl dr HSV hgo hold
      go_enter Try.func42, Try.ntmps42
      go_wp2_with (at_builtin; refine stop_ ?_)
      show Hid _
      refine hide ?_
      refine wl_appendZF (size := 3) (bytes := 48) (m := j) (c := c) (k := n + 1 - j) rfl rfl Try.underlying29 Try.underlying3 hinf rfl (by decide) rfl HL1.out HO.out rfl (by omega) (by omega) (by decide) (by omega) ?_
      intro g2 c2 Z R w7 hz hzr hc2 hm2 hg2 hb7 hw7
      have HZ := hide hz
      have HZR := hide hzr
      have HB7 := hide hb7
      have HW7 := hide hw7
      have HG2 := hide hg2
      clear hz hzr hg2 hb7 hw7
      rw [ej]
      have hc2' : n + 1 ≤ c2 := by omega
      have s4 := fun W => run_dropG (t := 29) (P := Try.prog) Try.underlying29 szFc (some ⟨g2, 0, none⟩) (n + 1) c2 j (by omega) W
      rw [sliced_lt (show j < c2 by omega), z1] at s4
      have s5 := fun W => run_dropG (t := 29) (P := Try.prog) Try.underlying29 szFc (some ⟨g2, 0, none⟩) (n + 1) c2 (j + 1) (by omega) W
      rw [sliced_lt (show j + 1 < c2 by omega), z0, cj] at s5
      have hS7 : St w NoB w7 [.cells g2 (xs.take (j * 3) ++ (Z ++ R)).toArray 27] := (St.init w NoB).add HB7.out (c := .cells g2 (xs.take (j * 3) ++ (Z ++ R)).toArray 27) HW7.out (fun k hk => by
        have h1 : g2 = k := by injection hk
        have h2 := HG2.out
        omega)
      have hzl := HZ.out
      have hzr := HZR.out
      rw [List.length_append, List.length_append, HL1.out, hzl] at hzr
      have p1 : putC (xs.take (j * 3) ++ (Z ++ R)).toArray (j * 3) (ys.take (1 * 3)) = (xs.take (j * 3) ++ (ys ++ (Z.drop 3 ++ R))).toArray := by
        have t2 : ys.take (1 * 3) = ys := List.take_of_length_le (by omega)
        have e5 : xs.take (j * 3) ++ (Z ++ R) = xs.take (j * 3) ++ (Z.take 3 ++ (Z.drop 3 ++ R)) := by rw [← List.append_assoc (Z.take 3), List.take_append_drop]
        rw [t2, e5, putC_at HL1.out.symm (by rw [List.length_take]; omega)]
      have p2 : putC (xs.take (j * 3) ++ (ys ++ (Z.drop 3 ++ R))).toArray ((j + 1) * 3) ((xs.drop (j * 3)).take ((n - j) * 3)) = (xs.take (j * 3) ++ ys ++ xs.drop (j * 3) ++ R).toArray := by
        have t2 : (xs.drop (j * 3)).take ((n - j) * 3) = xs.drop (j * 3) := List.take_of_length_le (by rw [HL2.out]; exact Nat.le_refl _)
        have h1 := HL1.out
        have h2 := HL2.out
        rw [t2, ← List.append_assoc, putC_at (by rw [List.length_append, h1]; omega) (by rw [List.length_drop, h2]; omega)]
        simp only [List.append_assoc]
      have P1 := hide p1
      have P2 := hide p2
      have HS7 := hide hS7
      have ht2 : ∀ u ∈ (xs.drop (j * 3)).take ((n - j) * 3), u.oneCell' = true := one_take (one_drop h1x _) _
      have HT2 := hide ht2
      have HZS : Hid ((n + 1 - j) * 3 + R.length = c2 * 3 - j * 3) := hide (by omega)
      have sz7 : (xs.take (j * 3) ++ (Z ++ R)).toArray.size = c2 * 3 := by rw [List.size_toArray, List.length_append, List.length_append, HL1.out, hzl]; omega
      have sz8 : (xs.take (j * 3) ++ (ys ++ (Z.drop 3 ++ R))).toArray.size = c2 * 3 := by rw [List.size_toArray, List.length_append, List.length_append, List.length_append, HL1.out, List.length_drop, hzl]; omega
      clear p1 p2 hS7 ht2 hzl hzr
      go_wp2_with (refine wl_copyC (size := 3) (q := 1) rfl rfl Try.underlying29 (by kernel_rfl) HS7.out 0 rfl rfl rfl (HV.out.below HB7.out) (by omega) (by rw [sz7]; omega) (one_take h1y _) ?_; intro w8 hS8; rw [P1.out] at hS8; have HS8 := hide hS8; clear hS8)
      refine wp_region_T [(0, 1), (1, 1), (2, 1), (3, 1), (4, 1), (5, 1), (6, 1), (7, 1), (8, 3)] (by kernel_rfl) (by kernel_rfl) (fun _ _ _ _ h => h) ?_
      go_wp2_with (first
        | (refine wpT_late rfl rfl ?_; intro K hK; refine wp_copyC (size := 3) (q := n - j) rfl Try.underlying29 (by kernel_rfl) HS8.out.drew 0 rfl rfl rfl (HR1.out _ HS8.out.drew.below) (by omega) (by rw [sz8]; omega) HT2.out ?_; intro w9 hS9; rw [P2.out] at hS9; have HS9 := hide hS9; clear hS9)
        | (refine wpT_nil ?_)   | ((with_reducible refine fromT_refl ?_); (try simp only [Act.put, nq1, nq2, nq3, nq4, nq5, nq6]))   | ((with_reducible refine fromT_mk (by assumption) ?_); (try simp only [Act.put, nq1, nq2, nq3, nq4, nq5, nq6]))   | (refine wpT_pure (v := ?_) rfl rfl ?_ ?_; rotate_left; (intro wx; go_simp; try go_bits) <;> (with_reducible rfl); (try simp only [Act.put, nq1, nq2, nq3, nq4, nq5, nq6]))   | (refine wpT_load (v := ?_) rfl rfl rfl ?_ ?_; rotate_left; (go_simp; try go_bits) <;> (with_reducible rfl); (try simp only [Act.put, nq1, nq2, nq3, nq4, nq5, nq6]))   | (refine wpT_read (v := ?_) rfl rfl ?_ ?_; rotate_left; (intro wx hx; go_simp; try go_bits) <;> (with_reducible rfl); (try simp only [Act.put, nq1, nq2, nq3, nq4, nq5, nq6]))   | (refine wpT_call rfl rfl ?_; intro K hK)   | (refine wpT_late rfl rfl ?_; intro K hK)   | (refine wpT_any rfl rfl ?_; intro K hK)   | (refine wpT_skip rfl rfl ?_; (try simp only [Act.put, nq1, nq2, nq3, nq4, nq5, nq6])))
      go_ret
      refine ⟨some ⟨g2, 0, none⟩, c2, rfl, St.anyM (HS9.out.as_row ?_ ?_ hc2' hm2)⟩
      · rw [List.length_append, List.length_append, HL1.out, HL2.out, hy]; omega
      · have h8 := HZS.out
        rw [List.length_append, List.length_append, List.length_append, HL1.out, HL2.out, hy]
        omega
end Go.Proofs.Ythpioncehigoaaa
