/-
  Layer 18: the law's awake.
-/
import Derived.Test.YthpioncehigoaaaYo
import Derived.Test.YthpioncehigoaaaZs
set_option linter.unusedVariables false
namespace Go.Proofs.Ythpioncehigoaaa
open Go.RowKit
set_option linter.unusedSimpArgs false

def fO (o : Int) : Fc := ⟨[112], none, 0, [], o⟩
theorem fO_ok (W : World) {o : Int} (h : U32 o) : FcOK W (fO o) := ⟨⟨rd_nil W 4, fun x hx => by cases hx⟩, ⟨by simp [fO], by simp [fO], h⟩⟩
theorem fO_okF {o : Int} (h : o ≠ 0) : okF (fO o) = true := by
  unfold okF
  have h1 : nameT (fO o).name = true := by show nameT [112] = true; kernel_rfl
  have h2 : (fO o).ts = [] := rfl
  have h3 : (fO o).o = o := rfl
  rw [h1, h2, h3, decide_eq_true h]
  rfl
theorem fO_val (o : Int) : (fO o).val = .agg #[.string ⟨#[112]⟩, .slice none 0 0, .int .u32 o] := by
  unfold Fc.val Fc.row
  show Value.agg #[.string (strOf [112]), .slice none 0 0, .int .u32 o] = _
  rw [strOf_eq]
theorem fO_sh (o : Int) : shF (fO o) = fO o := rfl
theorem cmp_11 : cmpF (fO 1) (fO 1) = 0 := cmpF_ord.self _
theorem cmp_12 : cmpF (fO 1) (fO 2) = -1 := by kernel_rfl
theorem cmp_22 : cmpF (fO 2) (fO 2) = 0 := cmpF_ord.self _
theorem add_x1 : addX [] (fO 1) = [fO 1] := by
  unfold addX
  rw [if_pos (fO_okF (by decide)), fO_sh]
  rfl
theorem add_x2 : addX [fO 1] (fO 2) = [fO 1, fO 2] := by
  unfold addX
  rw [if_pos (fO_okF (by decide)), fO_sh, insF, if_pos (by rw [cmp_12]; decide)]
  rfl
theorem map_len {S : List Fc} {X : List Fc} (h : S.map shF = X) : S.length = X.length := by rw [← h, List.length_map]
theorem sh_self {S X : List Fc} (h : S.map shF = X) : S.map shF = X.map shF := by
  rw [← h, List.map_map]
  congr 1
  funext x
  exact (shF_shF x).symm
theorem addB_sh {S X : List Fc} (h : S.map shF = X) (f : Fc) : addB S f = addB X f := by
  unfold addB
  rw [has_sh (f := f) (f' := f) rfl (sh_self h)]
theorem b_1 : addB [] (fO 1) = true := by unfold addB; rw [fO_okF (by decide)]; rfl
theorem b_2 : addB [fO 1] (fO 1) = false := by
  unfold addB hasX
  rw [fO_okF (by decide), List.any_cons, List.any_nil, cmp_11]
  rfl
theorem b_3 : addB [fO 1] (fO 2) = true := by
  unfold addB hasX
  rw [fO_okF (by decide), List.any_cons, List.any_nil, cmp_12]
  rfl
theorem add_x1n : addX [fO 1] (fO 1) = [fO 1] := by
  unfold addX
  rw [if_pos (fO_okF (by decide)), fO_sh, insF, cmp_11, if_neg (by decide)]
  unfold samF
  rw [cmp_11]
  rfl
theorem has_x2 : hasX [fO 1, fO 2] (fO 2) = true := by
  unfold hasX
  rw [List.any_cons, List.any_cons, cmp_22]
  simp
theorem FcOK.bare {V W : World} {f : Fc} (h : FcOK V f) (h0 : f.ts = []) : FcOK W f := by
  obtain ⟨⟨hr, hk⟩, hb⟩ := h
  refine ⟨⟨?_, fun x hx => by rw [h0] at hx; cases hx⟩, hb⟩
  rw [h0] at hr ⊢
  obtain ⟨A, c, e, h1, h2, h3, h4, _⟩ := hr
  exact ⟨A, c, e, h1, h2, h3, h4, fun b o sp _ => ⟨fun h => absurd h (by simp), fun j u hu => by simp [tmCells] at hu⟩⟩
theorem bare_of {S : List Fc} {o : Int} (h : S.map shF = [fO o]) {g : Fc} (hg : g ∈ S) : g.ts = [] := by
  have h1 : shF g ∈ S.map shF := List.mem_map_of_mem hg
  rw [h, List.mem_singleton] at h1
  have h2 : (shF g).ts = [] := by rw [h1]; rfl
  have h3 : g.ts.map shT = [] := h2
  exact List.map_eq_nil_iff.1 h3
def AwS (g : Nat) (x : World) : Prop := x.cell? ⟨g, 0, none⟩ = some (.string ⟨#[112]⟩) ∧ x.cell? ⟨g, 1, none⟩ = some (.slice none 0 0) ∧ x.cell? ⟨g, 2, none⟩ = some (.int .u32 1)
theorem StoI.at {w w' : World} {p : Nat} {A : Option Addr} {c : Nat} {S : List Fc} (h : StoI w p A c S) (hb : Below w.heap.size w w') : StoI w' p A c S := ⟨fun g hg => (h.ok g hg).csub (mask_ext fun k hk hm => ⟨hm, hb.block k hk⟩), h.ris, h.may⟩
set_option maxRecDepth 100000 in
set_option maxHeartbeats 1600000 in
theorem awake18_any (w : World) : Calls Try.prog 10 #[] w fun e w' => e = .returned (.bool true) ∧ Below w.heap.size w w' := by
  have h0 := ((St.init w NoB).alloc #[.slice none 0 0] 67).alloc #[.string ⟨#[112]⟩, .slice none 0 0, .int .u32 1] 27
  rw [size_alloc1] at h0
  have h1 := (h0.row (Below.refl _ _) (World.ownsRow_nil _ _ 27 3))
  have HS := hide (show St w NoB _ (StoC w.heap.size none 0 [] ++ [.cells (w.heap.size + 1) #[.string ⟨#[112]⟩, .slice none 0 0, .int .u32 1] 27]) from h1.drew.pickL [2, 0, 1] (by decide) rfl)
  have HI : Hid (∀ W, StoI W w.heap.size none 0 []) := hide (fun W => ⟨fun g hg => (by cases hg), trivial, fun g hg => (by cases hg)⟩)
  have HA1 := hide (fun W w0 M0 B (h : St w0 M0 W (StoC w.heap.size none 0 [] ++ B)) => add_step w.heap.size none 0 [] (fO 1) h (HI.out W) (by simp) (fO_ok _ ⟨by decide, by decide⟩))
  have HAN := hide (fun W A c S w0 M0 B (hS6 : S.length ≤ 999999) (h : St w0 M0 W (StoC w.heap.size A c S ++ B)) (hI : StoI W w.heap.size A c S) => add_step w.heap.size A c S (fO 1) h hI hS6 (fO_ok _ ⟨by decide, by decide⟩))
  have HAM := hide (fun W A c S w0 M0 B (hS6 : S.length ≤ 999999) (h : St w0 M0 W (StoC w.heap.size A c S ++ B)) (hI : StoI W w.heap.size A c S) => add_step w.heap.size A c S (fO 2) h hI hS6 (fO_ok _ ⟨by decide, by decide⟩))
  have HNW := hide (fun W => new_any W)
  clear h0 h1
  have HG : Hid (∀ W H, St w NoB W (H ++ [.cells (w.heap.size + 1) #[.string ⟨#[112]⟩, .slice none 0 0, .int .u32 1] 27]) → AwS (w.heap.size + 1) W) := hide (fun W H h => by
    have hi : (H ++ [Chunk.cells (w.heap.size + 1) #[.string ⟨#[112]⟩, .slice none 0 0, .int .u32 1] 27])[H.length]? = some (.cells (w.heap.size + 1) #[.string ⟨#[112]⟩, .slice none 0 0, .int .u32 1] 27) := by rw [List.getElem?_append_right (Nat.le_refl _), Nat.sub_self]; rfl
    exact ⟨h.cell H.length hi 0, h.cell H.length hi 1, h.cell H.length hi 2⟩)
  have hcond := HG.out _ _ HS.out
  simp only [fO_val] at HA1 HAN HAM
  go_enter Try.func10, Try.ntmps10
  go_wp2_with (go_at_call 18; (with_reducible refine (HNW.out _).mono ?_); rintro e w1 ⟨rfl, rfl⟩)
  refine wp_region_C (.op 0 1 (.op 1 0 (.op 3 1 (.op 4 0 (.op 2 2 (.op 5 2 (.op 6 1 (.op 7 1 (.nil))))))))) (AwS (w.heap.size + 1)) hcond (by kernel_rfl) (by kernel_rfl) (fun _ _ _ _ h => h) ?_
  go_wp2_with (first
    | (go_at_call 20; (with_reducible refine (HA1.out _ _ _ _ HS.out).mono ?_); rintro e w2 ⟨A1, c1, S1, rfl, hx1, hl1, hst1, hi1, hE1⟩; rw [b_1]; have HS2 := hide (hst1 _ _ _ HS.out); have HI2 := hide hi1; have HX1 := hide (hx1.trans add_x1); have hcond2 := HG.out _ _ HS2.out; have HL1 := hide (map_len HX1.out); clear hx1 hl1 hst1 hi1 hE1)
    | (go_at_call 20; (with_reducible refine (HAN.out _ A1 c1 S1 _ _ _ (by rw [HL1.out]; decide) HS2.out HI2.out).mono ?_); rintro e w3 ⟨A2, c2, S2, rfl, hx2, hl2, hst2, hi2, hE2⟩; rw [addB_sh HX1.out, b_2]; have HS3 := hide (hst2 _ _ _ HS2.out); have HI3 := hide hi2; have HX2 := hide (hx2.trans ((congrArg (fun X => addX X (fO 1)) HX1.out).trans add_x1n)); have HL2 := hide (map_len HX2.out); have hcond3 := HG.out _ _ HS3.out; have g2 := HS3.out.cell 2 rfl 2; have gf := HS3.out.free 2 rfl 2; have HS4 := hide (HS3.out.setCell 2 rfl 2 (.int .u32 2)); have HI4 : Hid (StoI (w3.setCell ⟨w.heap.size + 1, 2, none⟩ (.int .u32 2)) w.heap.size A2 c2 S2) := hide ⟨fun g hg => (HI3.out.ok g hg).bare (bare_of HX2.out hg), HI3.out.ris, HI3.out.may⟩; have e0 := HS4.out.cell 2 rfl 0; have e1 := HS4.out.cell 2 rfl 1; have e2 := HS4.out.cell 2 rfl 2; clear hx2 hl2 hst2 hi2 hE2)
    | (go_at_call 20; (with_reducible refine (HAM.out _ A2 c2 S2 _ _ _ (by rw [HL2.out]; decide) HS4.out HI4.out).mono ?_); rintro e w5 ⟨A3, c3, S3, rfl, hx3, hl3, hst3, hi3, hE3⟩; rw [addB_sh HX2.out, b_3]; have HS5 := hide (hst3 _ _ _ HS4.out); have HI5 := hide hi3; have HX3 := hide (hx3.trans ((congrArg (fun X => addX X (fO 2)) HX2.out).trans add_x2)); have hl3 := map_len HX3.out; have p5 := HS5.out.cell 0 rfl 0; have e0 := HS5.out.cell 2 rfl 0; have e1 := HS5.out.cell 2 rfl 1; have e2 := HS5.out.cell 2 rfl 2; have HLN := hide (len_any w.heap.size A3 S3.length c3 w5 p5); have HHS := hide (has18_any w.heap.size A3 c3 S3 (fO 2) w5 p5 ⟨HS5.out.rd 1 rfl, fun g hg => (HI5.out.ok g hg).csub (csub_mask _ _)⟩ HI5.out.ris (fO_ok _ ⟨by decide, by decide⟩) (by rw [hl3]; decide)); rw [has_sh (f := fO 2) (f' := fO 2) rfl (sh_self HX3.out), has_x2, fO_val] at HHS; rw [hl3] at HLN; clear hx3 hst3 hi3 hE3)
    | (go_at_call 15; (with_reducible refine HLN.out.mono ?_); rintro e w6 ⟨rfl, rfl⟩)
    | (go_at_call 17; (with_reducible refine HHS.out.mono ?_); rintro e w7 ⟨rfl, hb7⟩; have HS7 := hide (HS5.out.call hb7))
    | (refine wpC_nil ?_)   | ((with_reducible refine cond_mk (by assumption) ?_); (try simp only [Act.put, nq1, nq2, nq3, nq4, nq5, nq6]))   | (refine wpC_pure (v := ?_) rfl rfl ?_ ?_; rotate_left; (intro wx; go_simp; try go_bits) <;> (with_reducible rfl); (try simp only [Act.put, nq1, nq2, nq3, nq4, nq5, nq6]))   | (refine wpC_read (v := ?_) rfl rfl ?_ ?_; rotate_left; (intro wx hx; obtain ⟨hx0, hx1, hx2⟩ := hx; go_simp; try go_bits) <;> (with_reducible rfl); (try simp only [Act.put, nq1, nq2, nq3, nq4, nq5, nq6]))   | (refine wpC_call rfl rfl ?_; intro K hK)   | (refine wpC_late rfl rfl ?_; intro K hK)   | (refine wpC_any rfl rfl ?_; intro K hK)   | (refine wpC_skip rfl rfl ?_; (try simp only [Act.put, nq1, nq2, nq3, nq4, nq5, nq6])))
  go_ret
  exact ⟨rfl, HS7.out.below⟩
end Go.Proofs.Ythpioncehigoaaa
