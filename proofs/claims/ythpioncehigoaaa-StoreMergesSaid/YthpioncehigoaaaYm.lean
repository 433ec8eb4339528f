/-
  Layer 18: the page's Add; Has, Len, All of both.
-/
import Derived.Test.YthpioncehigoaaaYl
set_option linter.unusedVariables false
namespace Go.Proofs.Ythpioncehigoaaa
open Go.RowKit
set_option linter.unusedSimpArgs false

theorem St.mono {w0 w : World} {M M' : Nat → Prop} {H : List Chunk} (h : St w0 M w H) (hm : ∀ k, M k → M' k) : St w0 M' w H :=
  ⟨⟨h.ext.os, h.ext.tape, h.ext.output, h.ext.size, fun k hk hn => h.ext.block k hk fun x => hn (hm k x)⟩, h.sat, fun i c k hc hb => by
    rcases h.own i c k hc hb with h1 | h1
    · exact .inl h1
    · exact .inr (hm k h1), h.apart⟩
/-- What the page's Add answers. -/
def RAdR (q : Nat) (X : List Fc) (f : Fc) (w : World) (e : Ending) (w' : World) : Prop :=
  (addB X f = false ∧ e = .returned (.bool false) ∧ Below w.heap.size w w') ∨
  (addB X f = true ∧ ∃ B' d', e = .returned (.bool true) ∧ St w (OneB q) w' [.cells q #[.slice B' (X.take (plc (fun x => cmpF x f) X) ++ f :: X.drop (plc (fun x => cmpF x f) X)).length d'] 45, .row (.slice B' (X.take (plc (fun x => cmpF x f) X) ++ f :: X.drop (plc (fun x => cmpF x f) X)).length d') 27 3 (X.take (plc (fun x => cmpF x f) X) ++ f :: X.drop (plc (fun x => cmpF x f) X)).length (fcCells (X.take (plc (fun x => cmpF x f) X) ++ f :: X.drop (plc (fun x => cmpF x f) X)))])
set_option maxRecDepth 100000 in
set_option maxHeartbeats 3200000 in
theorem radd_any {w w0 : World} {M0 : Nat → Prop} {H : List Chunk} (q : Nat) (B : Option Addr) (d : Nat) (X : List Fc) (f : Fc) (hS : St w0 M0 w (.cells q #[.slice B X.length d] 45 :: H)) (hv : FcsAt w (.slice B X.length d) X) (hf : FcOK w f) (h6 : X.length ≤ 999999) (hr : RisF X) :
    Calls Try.prog 21 #[.pointer (some ⟨q, 0, none⟩), f.val] w fun e w' => RAdR q X f w e w' := by
  have hSo := hS.solo 0 rfl
  have HS1 := hide (hSo.alloc #[.string (strOf f.name), .slice f.A f.ts.length f.c, .int .u32 f.o] 27)
  have HB1 := hide ((Below.refl w.heap.size w).al (.cells #[.string (strOf f.name), .slice f.A f.ts.length f.c, .int .u32 f.o] 27))
  have hq := hS.cell 0 rfl 0
  have hqb : q < w.heap.size := Chunk.lt (hS.sat 0 _ rfl) rfl
  have hj := plc_le (fun x => cmpF x f) X
  have HPL := hide (fun W (h : Below w.heap.size w W) => place_any q B d X f W ((h.cell (p := ⟨q, 0, none⟩) hqb).trans hq) (hv.on h) (hf.on h) (by omega))
  have HMF := hide (fun W (h : Below w.heap.size w W) => mayR18_any f W (hf.on h))
  have HAB : Hid (addB X f = (okF f && !(fndF (fun x => cmpF x f) X (plc (fun x => cmpF x f) X)))) := hide (by unfold addB; rw [fnd_has hr])
  have HRD := hide (fun W (h : Below w.heap.size w W) => hv.1.below h)
  have hnc := rd_nilcap hv.1
  obtain ⟨fd, hfd⟩ : ∃ b, b = fndF (fun x => cmpF x f) X (plc (fun x => cmpF x f) X) := ⟨_, rfl⟩
  rw [← hfd] at HPL HAB
  obtain ⟨ok, hok⟩ : ∃ b, b = okF f := ⟨_, rfl⟩
  rw [← hok] at HMF HAB
  obtain ⟨j, hjj⟩ : ∃ j, j = plc (fun x => cmpF x f) X := ⟨_, rfl⟩
  have HJ := hide hjj
  rw [← hjj] at HPL hj
  obtain ⟨n, hn⟩ : ∃ n, n = X.length := ⟨_, rfl⟩
  have HNN := hide hn
  rw [← hn] at HS1 HRD hnc h6 hj
  clear hS hSo hv hf hr hfd hok hjj hn hq
  unfold Fc.val Fc.row at *
  have f0 := HS1.out.cell 0 rfl 0
  have f1 := HS1.out.cell 0 rfl 1
  have f2 := HS1.out.cell 0 rfl 2
  cases fd with
  | true =>
    go_enter Try.func21, Try.ntmps21
    go_wp2_with (first
      | (go_at_call 37; (with_reducible refine (HPL.out _ HB1.out).mono ?_); rintro e w2 ⟨rfl, hb⟩; have HB2 := hide (HB1.out.trans (hb.mono HB1.out.size))))
    go_ret
    exact .inl ⟨by rw [HAB.out]; cases ok <;> rfl, rfl, HB2.out⟩
  | false =>
    cases ok with
    | false =>
      go_enter Try.func21, Try.ntmps21
      go_wp2_with (first
        | (go_at_call 37; (with_reducible refine (HPL.out _ HB1.out).mono ?_); rintro e w2 ⟨rfl, hb⟩; have HB2 := hide (HB1.out.trans (hb.mono HB1.out.size)); have HS2 := hide (HS1.out.call hb); have f0 := HS2.out.cell 0 rfl 0; have f1 := HS2.out.cell 0 rfl 1; have f2 := HS2.out.cell 0 rfl 2)
        | (go_at_call 16; (with_reducible refine (HMF.out _ HB2.out).mono ?_); rintro e w3 ⟨rfl, hb⟩; have HB3 := hide (HB2.out.trans (hb.mono HB2.out.size))))
      go_ret
      exact .inl ⟨by rw [HAB.out]; rfl, rfl, HB3.out⟩
    | true =>
      go_enter Try.func21, Try.ntmps21
      go_wp2_with (first
        | (go_at_call 37; (with_reducible refine (HPL.out _ HB1.out).mono ?_); rintro e w2 ⟨rfl, hb⟩; have HB2 := hide (HB1.out.trans (hb.mono HB1.out.size)); have HS2 := hide (HS1.out.call hb); have f0 := HS2.out.cell 0 rfl 0; have f1 := HS2.out.cell 0 rfl 1; have f2 := HS2.out.cell 0 rfl 2)
        | (go_at_call 16; (with_reducible refine (HMF.out _ HB2.out).mono ?_); rintro e w3 ⟨rfl, hb⟩; have HB3 := hide (HB2.out.trans (hb.mono HB2.out.size)).drew; have HS3 := hide (HS2.out.call hb).drew))
      refine wp_region_S (.op 0 1 (.op 1 1 (.op 2 1 (.op 3 1 (.op 4 0 (.op 5 1 (.op 6 1 (.op 8 0 (.op 11 1 (.op 12 1 (.op 13 1 (.op 14 0 (.op 15 1 (.op 16 1 (.two 7 9 (.op 9 2 (.op 10 2 (.op 17 2 (.op 18 1 (.op 19 1 (.op 20 3 (.nil))))))) (.op 7 2 (.op 10 2 (.op 17 2 (.op 18 1 (.op 19 1 (.op 20 3 (.nil)))))))))))))))))))))) (by kernel_rfl) (by kernel_rfl) (fun _ _ _ _ h => h) ?_
      generalize hwm : World.drew _ = wm at HS3 HB3 ⊢
      clear hwm f0 f1 f2
      have f0 := HS3.out.cell 0 rfl 0
      have f1 := HS3.out.cell 0 rfl 1
      have f2 := HS3.out.cell 0 rfl 2
      have q3 := HS3.out.cell 1 rfl 0
      have rd1 := HRD.out wm HB3.out
      have tk := fun W => run_takeG (t := 29) (P := Try.prog) Try.underlying29 szFc B n d j (by have := hnc.1; omega) hnc.2 W
      have dr := fun W => run_dropG (t := 29) (P := Try.prog) Try.underlying29 szFc B n d j hj W
      obtain ⟨sv, hsv⟩ : ∃ v, v = sliced B j n d 3 := ⟨_, rfl⟩
      rw [← hsv] at dr
      have HRT := hide (rd_takeG rd1 j hj)
      have HRP := hide (rd_dropG rd1 j hj (by decide))
      rw [← hsv] at HRP
      clear hsv rd1 hnc
      have hbx : Below wm.heap.size wm (wm.alloc (.cells #[.string (strOf f.name), .slice f.A f.ts.length f.c, .int .u32 f.o] 27)) := (Below.refl _ _).al _
      have HX1 := hide (one_take (fcCells_one X) (j * 3))
      have HX2 := hide (one_drop (fcCells_one X) (j * 3))
      have HFIN : Hid (∀ (w10 : World) (A3 : Option Addr) (c3 : Nat), Below wm.heap.size wm w10 → w10.ownsRow wm.heap.size 27 3 (.slice A3 (j + 1 + (n - j)) c3) (j + 1 + (n - j)) ((fcCells X).take (j * 3) ++ f.cells ++ (fcCells X).drop (j * 3)) →
          St w (OneB q) w10 [.row (.slice A3 (n + 1) c3) 27 3 (n + 1) ((fcCells X).take (j * 3) ++ f.cells ++ (fcCells X).drop (j * 3)), .cells w.heap.size #[.string (strOf f.name), .slice f.A f.ts.length f.c, .int .u32 f.o] 27, .cells q #[.slice B n d] 45] ∧ j + 1 + (n - j) = n + 1) := hide (fun w10 A3 c3 hb ho => by
        have l11 : j + 1 + (n - j) = n + 1 := by omega
        rw [l11] at ho
        exact ⟨HS3.out.row hb ho, l11⟩)
      go_wp2_with (first
        | (refine wpS_nil ?_)   | ((with_reducible refine fromT_refl ?_); (try simp only [Act.put, nq1, nq2, nq3, nq4, nq5, nq6]))   | ((with_reducible refine fromT_mk (by assumption) ?_); (try simp only [Act.put, nq1, nq2, nq3, nq4, nq5, nq6]))   | (refine wpS_pure (v := ?_) rfl rfl ?_ ?_; rotate_left; (intro wx; go_simp; try go_bits) <;> (with_reducible rfl); (try simp only [Act.put, nq1, nq2, nq3, nq4, nq5, nq6]))   | (refine wpS_load (v := ?_) rfl rfl rfl ?_ ?_; rotate_left; (go_simp; try go_bits) <;> (with_reducible rfl); (try simp only [Act.put, nq1, nq2, nq3, nq4, nq5, nq6]))   | (refine wpS_read (v := ?_) rfl rfl ?_ ?_; rotate_left; (intro wx hx; go_simp; try go_bits) <;> (with_reducible rfl); (try simp only [Act.put, nq1, nq2, nq3, nq4, nq5, nq6]))   | (refine wpS_call rfl rfl ?_; intro K hK)   | (refine wpS_late rfl rfl ?_; intro K hK)   | (refine wpS_any rfl rfl ?_; intro K hK)   | (refine wpS_skip rfl rfl ?_; (try simp only [Act.put, nq1, nq2, nq3, nq4, nq5, nq6])))
      refine wpS_two ?_ ?_
      · have HS0 := hide (show St wm NoB wm [.row (.slice none 0 0) 27 3 0 []] from (St.init wm NoB).row (Below.refl _ _) (World.ownsRow_nil _ _ 27 3))
        go_wp2_with (first
          | (refine wpS_call rfl rfl ?_; intro K hK; refine wp_append rfl rowFc HS0.out 0 rfl rfl rfl HRT.out HX1.out (by omega) (by decide) ?_; intro A1 c1' w8 hS8; rw [Nat.zero_add, List.nil_append] at hS8; have HS8 := hide hS8; have hb8 := hS8.below; have hb8a : Below wm.heap.size wm (w8.alloc (.cells #[.string (strOf f.name), .slice f.A f.ts.length f.c, .int .u32 f.o] 27)) := hb8.al _; clear hS8; rw [Nat.zero_add])
          | (refine wpS_call rfl rfl ?_; intro K hK; refine wp_append (n := j) rfl rowFc (HS8.out.skip _) 0 rfl rfl rfl (rd_new w8 f.cells 27 3 1 rfl (by decide)) f.one (by omega) (by decide) ?_; intro A2 c2' w9 hS9; have HS9 := hide hS9; have hb9 := hS9.below; clear hS9)
          | (refine wpS_call rfl rfl ?_; intro K hK; refine wp_append (n := j + 1) rfl rowFc HS9.out 0 rfl rfl rfl (HRP.out.below HS9.out.below) HX2.out (by omega) (by decide) ?_; intro A3 c3' w10 hS10; have hb10 := hS10.below; obtain ⟨h10, l10⟩ := HFIN.out _ _ _ hS10.below (hS10.ownsRow 0 rfl); have q3' := h10.cell 2 rfl 0; have g3' := h10.free 2 rfl 0; have HS10 := hide h10; clear h10 hS10)
          | (refine wpS_nil ?_)   | ((with_reducible refine fromT_refl ?_); (try simp only [Act.put, nq1, nq2, nq3, nq4, nq5, nq6]))   | ((with_reducible refine fromT_mk (by assumption) ?_); (try simp only [Act.put, nq1, nq2, nq3, nq4, nq5, nq6]))   | (refine wpS_pure (v := ?_) rfl rfl ?_ ?_; rotate_left; (intro wx; go_simp; try go_bits) <;> (with_reducible rfl); (try simp only [Act.put, nq1, nq2, nq3, nq4, nq5, nq6]))   | (refine wpS_load (v := ?_) rfl rfl rfl ?_ ?_; rotate_left; (go_simp; try go_bits) <;> (with_reducible rfl); (try simp only [Act.put, nq1, nq2, nq3, nq4, nq5, nq6]))   | (refine wpS_read (v := ?_) rfl rfl ?_ ?_; rotate_left; (intro wx hx; go_simp; try go_bits) <;> (with_reducible rfl); (try simp only [Act.put, nq1, nq2, nq3, nq4, nq5, nq6]))   | (refine wpS_call rfl rfl ?_; intro K hK)   | (refine wpS_late rfl rfl ?_; intro K hK)   | (refine wpS_any rfl rfl ?_; intro K hK)   | (refine wpS_skip rfl rfl ?_; (try simp only [Act.put, nq1, nq2, nq3, nq4, nq5, nq6])))
        try rw [l10]
        go_ret
        have h11 := HS10.out.setCell 2 rfl 0 (.slice A3 (n + 1) c3')
        have hsl : (X.take j ++ f :: X.drop j).length = n + 1 := by
          rw [List.length_append, List.length_cons, List.length_take, List.length_drop, ← HNN.out]
          omega
        have hsc : fcCells (X.take j ++ f :: X.drop j) = (fcCells X).take (j * 3) ++ f.cells ++ (fcCells X).drop (j * 3) := by
          rw [fcCells_append, fcCells_cons, fcCells_take, fcCells_drop, List.append_assoc]
        refine .inr ⟨HAB.out, A3, c3', rfl, ?_⟩
        rw [← HJ.out, hsl, hsc]
        exact h11.pickL [2, 0] (by decide) rfl
      · have HS0 := hide (show St (wm.alloc (.cells #[.string (strOf f.name), .slice f.A f.ts.length f.c, .int .u32 f.o] 27)) NoB (wm.alloc (.cells #[.string (strOf f.name), .slice f.A f.ts.length f.c, .int .u32 f.o] 27)) [.row (.slice none 0 0) 27 3 0 []] from (St.init _ NoB).row (Below.refl _ _) (World.ownsRow_nil _ _ 27 3))
        go_wp2_with (first
          | (refine wpS_call rfl rfl ?_; intro K hK; refine wp_append rfl rowFc HS0.out 0 rfl rfl rfl (HRT.out.below hbx) HX1.out (by omega) (by decide) ?_; intro A1 c1' w8 hS8; rw [Nat.zero_add, List.nil_append] at hS8; have HS8 := hide hS8; have hb8 := hbx.trans (hS8.below.mono hbx.size); clear hS8; rw [Nat.zero_add])
          | (refine wpS_call rfl rfl ?_; intro K hK; refine wp_append (n := j) rfl rowFc HS8.out 0 rfl rfl rfl ((rd_new wm f.cells 27 3 1 rfl (by decide)).below HS8.out.below) f.one (by omega) (by decide) ?_; intro A2 c2' w9 hS9; have HS9 := hide hS9; have hb9 := hbx.trans (hS9.below.mono hbx.size); clear hS9)
          | (refine wpS_call rfl rfl ?_; intro K hK; refine wp_append (n := j + 1) rfl rowFc HS9.out 0 rfl rfl rfl (HRP.out.below hb9) HX2.out (by omega) (by decide) ?_; intro A3 c3' w10 hS10; have hb10 := hbx.trans (hS10.below.mono hbx.size); obtain ⟨h10, l10⟩ := HFIN.out _ _ _ hb10 ((hS10.ownsRow 0 rfl).mono hbx.size); have q3' := h10.cell 2 rfl 0; have g3' := h10.free 2 rfl 0; have HS10 := hide h10; clear h10 hS10)
          | (refine wpS_nil ?_)   | ((with_reducible refine fromT_refl ?_); (try simp only [Act.put, nq1, nq2, nq3, nq4, nq5, nq6]))   | ((with_reducible refine fromT_mk (by assumption) ?_); (try simp only [Act.put, nq1, nq2, nq3, nq4, nq5, nq6]))   | (refine wpS_pure (v := ?_) rfl rfl ?_ ?_; rotate_left; (intro wx; go_simp; try go_bits) <;> (with_reducible rfl); (try simp only [Act.put, nq1, nq2, nq3, nq4, nq5, nq6]))   | (refine wpS_load (v := ?_) rfl rfl rfl ?_ ?_; rotate_left; (go_simp; try go_bits) <;> (with_reducible rfl); (try simp only [Act.put, nq1, nq2, nq3, nq4, nq5, nq6]))   | (refine wpS_read (v := ?_) rfl rfl ?_ ?_; rotate_left; (intro wx hx; go_simp; try go_bits) <;> (with_reducible rfl); (try simp only [Act.put, nq1, nq2, nq3, nq4, nq5, nq6]))   | (refine wpS_call rfl rfl ?_; intro K hK)   | (refine wpS_late rfl rfl ?_; intro K hK)   | (refine wpS_any rfl rfl ?_; intro K hK)   | (refine wpS_skip rfl rfl ?_; (try simp only [Act.put, nq1, nq2, nq3, nq4, nq5, nq6])))
        try rw [l10]
        go_ret
        have h11 := HS10.out.setCell 2 rfl 0 (.slice A3 (n + 1) c3')
        have hsl : (X.take j ++ f :: X.drop j).length = n + 1 := by
          rw [List.length_append, List.length_cons, List.length_take, List.length_drop, ← HNN.out]
          omega
        have hsc : fcCells (X.take j ++ f :: X.drop j) = (fcCells X).take (j * 3) ++ f.cells ++ (fcCells X).drop (j * 3) := by
          rw [fcCells_append, fcCells_cons, fcCells_take, fcCells_drop, List.append_assoc]
        refine .inr ⟨HAB.out, A3, c3', rfl, ?_⟩
        rw [← HJ.out, hsl, hsc]
        exact h11.pickL [2, 0] (by decide) rfl
end Go.Proofs.Ythpioncehigoaaa
