/-
  Layer 7: the walk of TermForms.
-/
import Derived.Test.YtjamoifenkdneaaTw
namespace Go.Proofs.Ytjamoifenkdneaa
open Go.RowKit
set_option linter.unusedSimpArgs false

set_option maxRecDepth 100000 in
set_option maxHeartbeats 1600000 in
theorem termForms_walk (a b : Tm) (s : List UInt8) (hl : s.length ≤ 9223372036854775807) (w : World) (ha : TmOK w a) (hb : TmOK w b) : Calls Try.prog 6 #[a.val, b.val, .string (strOf s)] w fun e w' => e = .returned (.bool true) ∧ Below w.heap.size w w' := by
  have hS0 := ((St.init w NoB).alloc (bx a) 24).alloc (bx b) 24
  rw [size_alloc1] at hS0
  have HF : Hid (∀ W, St w NoB W [.cells (w.heap.size + 1) (bx b) 24, .cells w.heap.size (bx a) 24] →
      (W.cell? ⟨w.heap.size, 0, none⟩ = some (.int .i64 a.k) ∧ W.cell? ⟨w.heap.size, 1, none⟩ = some (.int .i64 a.n) ∧ W.cell? ⟨w.heap.size, 2, none⟩ = some (.string (strOf a.s)) ∧ W.cell? ⟨w.heap.size, 3, none⟩ = some (.slice a.A a.l.length a.c)) ∧
      (W.cell? ⟨w.heap.size + 1, 0, none⟩ = some (.int .i64 b.k) ∧ W.cell? ⟨w.heap.size + 1, 1, none⟩ = some (.int .i64 b.n) ∧ W.cell? ⟨w.heap.size + 1, 2, none⟩ = some (.string (strOf b.s)) ∧ W.cell? ⟨w.heap.size + 1, 3, none⟩ = some (.slice b.A b.l.length b.c))) :=
    hide (fun W h => ⟨⟨h.cell 1 rfl 0, h.cell 1 rfl 1, h.cell 1 rfl 2, h.cell 1 rfl 3⟩, ⟨h.cell 0 rfl 0, h.cell 0 rfl 1, h.cell 0 rfl 2, h.cell 0 rfl 3⟩⟩)
  have HS := hide hS0
  clear hS0
  have Hsa := hide (fun W (h : Below w.heap.size w W) => Size_any a W (ha.on h))
  have Hsb := hide (fun W (h : Below w.heap.size w W) => Size_any b W (hb.on h))
  have Hc := hide (fun W (h : Below w.heap.size w W) => compare_any a b W (ha.on h) (hb.on h))
  have HcR := hide (fun W (h : Below w.heap.size w W) => compareR_any a b W (ha.on h) (hb.on h))
  have Hm := hide (fun W (h : Below w.heap.size w W) => same_any a b W (ha.on h) (hb.on h))
  have HmR := hide (fun W (h : Below w.heap.size w W) => sameR_any a b W (ha.on h) (hb.on h))
  have Hy := hide (fun W (h : Below w.heap.size w W) => may_any ha W h)
  have HyR := hide (fun W (h : Below w.heap.size w W) => mayR_any ha W h)
  have Hx := hide (fun W (h : Below w.heap.size w W) => fixed_any ha W h)
  have HxR := hide (fun W (h : Below w.heap.size w W) => fixedR_any ha W h)
  have Hh := hide (fun W (h : Below w.heap.size w W) => has_any a b W (ha.on h) (hb.on h))
  have HhR := hide (fun W (h : Below w.heap.size w W) => hasR_any a b W (ha.on h) (hb.on h))
  have Hn := hide (fun W => name_any s hl W)
  have HnR := hide (fun W => nameR_any s hl W)
  have HAW := hide (fun W => awake7_any W)
  have hsa : sizT a ≤ 100 := szT_le 6 [a] 0 (by omega)
  have hsb : sizT b ≤ 100 := szT_le 6 [b] 0 (by omega)
  clear ha hb
  generalize cmpA a b = x at *
  generalize samT a b = y at *
  generalize mayT a = m at *
  generalize fixT a = f at *
  generalize hasT a b = hh at *
  generalize nameT s = nm at *
  generalize sizT a = sa at *
  generalize sizT b = sb at *
  unfold bx at *
  unfold Tm.val Tm.row at *
  by_cases h1 : 100 ≤ sa
  · have d1 : decide ((100 : Int) ≤ (sa : Int)) = true := by simp; omega
    have d1' : decide (100 ≤ sa) = true := by simp; omega
    go_enter Try.func6, Try.ntmps6
    go_wp2_with (first
      | (go_at_call 9; (with_reducible refine (Hsa.out _ HS.out.below).mono ?_); rintro e w' ⟨rfl, hb⟩; have HS := hide (HS.out.call hb); obtain ⟨⟨a0, a1, a2, a3⟩, ⟨b0, b1, b2, b3⟩⟩ := HF.out _ HS.out)
      | (go_at_call 9; (with_reducible refine (Hsb.out _ HS.out.below).mono ?_); rintro e w' ⟨rfl, hb⟩; have HS := hide (HS.out.call hb); obtain ⟨⟨a0, a1, a2, a3⟩, ⟨b0, b1, b2, b3⟩⟩ := HF.out _ HS.out)
      | (go_at_call 11; (with_reducible refine (Hc.out _ HS.out.below).mono ?_); rintro e w' ⟨rfl, hb⟩; have HS := hide (HS.out.call hb); obtain ⟨⟨a0, a1, a2, a3⟩, ⟨b0, b1, b2, b3⟩⟩ := HF.out _ HS.out)
      | (go_at_call 16; (with_reducible refine (HcR.out _ HS.out.below).mono ?_); rintro e w' ⟨rfl, hb⟩; have HS := hide (HS.out.call hb); obtain ⟨⟨a0, a1, a2, a3⟩, ⟨b0, b1, b2, b3⟩⟩ := HF.out _ HS.out)
      | (go_at_call 12; (with_reducible refine (Hm.out _ HS.out.below).mono ?_); rintro e w' ⟨rfl, hb⟩; have HS := hide (HS.out.call hb); obtain ⟨⟨a0, a1, a2, a3⟩, ⟨b0, b1, b2, b3⟩⟩ := HF.out _ HS.out)
      | (go_at_call 17; (with_reducible refine (HmR.out _ HS.out.below).mono ?_); rintro e w' ⟨rfl, hb⟩; have HS := hide (HS.out.call hb); obtain ⟨⟨a0, a1, a2, a3⟩, ⟨b0, b1, b2, b3⟩⟩ := HF.out _ HS.out)
      | (go_at_call 14; (with_reducible refine (Hy.out _ HS.out.below).mono ?_); rintro e w' ⟨rfl, hb⟩; have HS := hide (HS.out.call hb); obtain ⟨⟨a0, a1, a2, a3⟩, ⟨b0, b1, b2, b3⟩⟩ := HF.out _ HS.out)
      | (go_at_call 18; (with_reducible refine (HyR.out _ HS.out.below).mono ?_); rintro e w' ⟨rfl, hb⟩; have HS := hide (HS.out.call hb); obtain ⟨⟨a0, a1, a2, a3⟩, ⟨b0, b1, b2, b3⟩⟩ := HF.out _ HS.out)
      | (go_at_call 15; (with_reducible refine (Hx.out _ HS.out.below).mono ?_); rintro e w' ⟨rfl, hb⟩; have HS := hide (HS.out.call hb); obtain ⟨⟨a0, a1, a2, a3⟩, ⟨b0, b1, b2, b3⟩⟩ := HF.out _ HS.out)
      | (go_at_call 19; (with_reducible refine (HxR.out _ HS.out.below).mono ?_); rintro e w' ⟨rfl, hb⟩; have HS := hide (HS.out.call hb); obtain ⟨⟨a0, a1, a2, a3⟩, ⟨b0, b1, b2, b3⟩⟩ := HF.out _ HS.out)
      | (go_at_call 20; (with_reducible refine (Hh.out _ HS.out.below).mono ?_); rintro e w' ⟨rfl, hb⟩; have HS := hide (HS.out.call hb); obtain ⟨⟨a0, a1, a2, a3⟩, ⟨b0, b1, b2, b3⟩⟩ := HF.out _ HS.out)
      | (go_at_call 21; (with_reducible refine (HhR.out _ HS.out.below).mono ?_); rintro e w' ⟨rfl, hb⟩; have HS := hide (HS.out.call hb); obtain ⟨⟨a0, a1, a2, a3⟩, ⟨b0, b1, b2, b3⟩⟩ := HF.out _ HS.out)
      | (go_at_call 13; (with_reducible refine (Hn.out _).mono ?_); rintro e w' ⟨rfl, rfl⟩)
      | (go_at_call 22; (with_reducible refine (HnR.out _).mono ?_); rintro e w' ⟨rfl, rfl⟩)
      | (go_at_call 10; (with_reducible refine (HAW.out _).mono ?_); rintro e w' ⟨rfl, hb⟩; have HB := hide (HS.out.below.trans (hb.mono HS.out.below.size))))
    go_ret
    exact ⟨rfl, HB.out⟩
  have d1 : decide ((100 : Int) ≤ (sa : Int)) = false := by simp; omega
  have d1' : decide (100 ≤ sa) = false := by simp; omega
  by_cases h2 : 100 ≤ sb
  · have d2 : decide ((100 : Int) ≤ (sb : Int)) = true := by simp; omega
    have d2' : decide (100 ≤ sb) = true := by simp; omega
    go_enter Try.func6, Try.ntmps6
    go_wp2_with (first
      | (go_at_call 9; (with_reducible refine (Hsa.out _ HS.out.below).mono ?_); rintro e w' ⟨rfl, hb⟩; have HS := hide (HS.out.call hb); obtain ⟨⟨a0, a1, a2, a3⟩, ⟨b0, b1, b2, b3⟩⟩ := HF.out _ HS.out)
      | (go_at_call 9; (with_reducible refine (Hsb.out _ HS.out.below).mono ?_); rintro e w' ⟨rfl, hb⟩; have HS := hide (HS.out.call hb); obtain ⟨⟨a0, a1, a2, a3⟩, ⟨b0, b1, b2, b3⟩⟩ := HF.out _ HS.out)
      | (go_at_call 11; (with_reducible refine (Hc.out _ HS.out.below).mono ?_); rintro e w' ⟨rfl, hb⟩; have HS := hide (HS.out.call hb); obtain ⟨⟨a0, a1, a2, a3⟩, ⟨b0, b1, b2, b3⟩⟩ := HF.out _ HS.out)
      | (go_at_call 16; (with_reducible refine (HcR.out _ HS.out.below).mono ?_); rintro e w' ⟨rfl, hb⟩; have HS := hide (HS.out.call hb); obtain ⟨⟨a0, a1, a2, a3⟩, ⟨b0, b1, b2, b3⟩⟩ := HF.out _ HS.out)
      | (go_at_call 12; (with_reducible refine (Hm.out _ HS.out.below).mono ?_); rintro e w' ⟨rfl, hb⟩; have HS := hide (HS.out.call hb); obtain ⟨⟨a0, a1, a2, a3⟩, ⟨b0, b1, b2, b3⟩⟩ := HF.out _ HS.out)
      | (go_at_call 17; (with_reducible refine (HmR.out _ HS.out.below).mono ?_); rintro e w' ⟨rfl, hb⟩; have HS := hide (HS.out.call hb); obtain ⟨⟨a0, a1, a2, a3⟩, ⟨b0, b1, b2, b3⟩⟩ := HF.out _ HS.out)
      | (go_at_call 14; (with_reducible refine (Hy.out _ HS.out.below).mono ?_); rintro e w' ⟨rfl, hb⟩; have HS := hide (HS.out.call hb); obtain ⟨⟨a0, a1, a2, a3⟩, ⟨b0, b1, b2, b3⟩⟩ := HF.out _ HS.out)
      | (go_at_call 18; (with_reducible refine (HyR.out _ HS.out.below).mono ?_); rintro e w' ⟨rfl, hb⟩; have HS := hide (HS.out.call hb); obtain ⟨⟨a0, a1, a2, a3⟩, ⟨b0, b1, b2, b3⟩⟩ := HF.out _ HS.out)
      | (go_at_call 15; (with_reducible refine (Hx.out _ HS.out.below).mono ?_); rintro e w' ⟨rfl, hb⟩; have HS := hide (HS.out.call hb); obtain ⟨⟨a0, a1, a2, a3⟩, ⟨b0, b1, b2, b3⟩⟩ := HF.out _ HS.out)
      | (go_at_call 19; (with_reducible refine (HxR.out _ HS.out.below).mono ?_); rintro e w' ⟨rfl, hb⟩; have HS := hide (HS.out.call hb); obtain ⟨⟨a0, a1, a2, a3⟩, ⟨b0, b1, b2, b3⟩⟩ := HF.out _ HS.out)
      | (go_at_call 20; (with_reducible refine (Hh.out _ HS.out.below).mono ?_); rintro e w' ⟨rfl, hb⟩; have HS := hide (HS.out.call hb); obtain ⟨⟨a0, a1, a2, a3⟩, ⟨b0, b1, b2, b3⟩⟩ := HF.out _ HS.out)
      | (go_at_call 21; (with_reducible refine (HhR.out _ HS.out.below).mono ?_); rintro e w' ⟨rfl, hb⟩; have HS := hide (HS.out.call hb); obtain ⟨⟨a0, a1, a2, a3⟩, ⟨b0, b1, b2, b3⟩⟩ := HF.out _ HS.out)
      | (go_at_call 13; (with_reducible refine (Hn.out _).mono ?_); rintro e w' ⟨rfl, rfl⟩)
      | (go_at_call 22; (with_reducible refine (HnR.out _).mono ?_); rintro e w' ⟨rfl, rfl⟩)
      | (go_at_call 10; (with_reducible refine (HAW.out _).mono ?_); rintro e w' ⟨rfl, hb⟩; have HB := hide (HS.out.below.trans (hb.mono HS.out.below.size))))
    go_ret
    exact ⟨rfl, HB.out⟩
  have d2 : decide ((100 : Int) ≤ (sb : Int)) = false := by simp; omega
  have d2' : decide (100 ≤ sb) = false := by simp; omega
  clear h1 h2
  go_enter Try.func6, Try.ntmps6
  go_wp2_with (first
    | (go_at_call 9; (with_reducible refine (Hsa.out _ HS.out.below).mono ?_); rintro e w' ⟨rfl, hb⟩; have HS := hide (HS.out.call hb); obtain ⟨⟨a0, a1, a2, a3⟩, ⟨b0, b1, b2, b3⟩⟩ := HF.out _ HS.out)
    | (go_at_call 9; (with_reducible refine (Hsb.out _ HS.out.below).mono ?_); rintro e w' ⟨rfl, hb⟩; have HS := hide (HS.out.call hb); obtain ⟨⟨a0, a1, a2, a3⟩, ⟨b0, b1, b2, b3⟩⟩ := HF.out _ HS.out)
    | (go_at_call 11; (with_reducible refine (Hc.out _ HS.out.below).mono ?_); rintro e w' ⟨rfl, hb⟩; have HS := hide (HS.out.call hb); obtain ⟨⟨a0, a1, a2, a3⟩, ⟨b0, b1, b2, b3⟩⟩ := HF.out _ HS.out)
    | (go_at_call 16; (with_reducible refine (HcR.out _ HS.out.below).mono ?_); rintro e w' ⟨rfl, hb⟩; have HS := hide (HS.out.call hb); obtain ⟨⟨a0, a1, a2, a3⟩, ⟨b0, b1, b2, b3⟩⟩ := HF.out _ HS.out)
    | (go_at_call 12; (with_reducible refine (Hm.out _ HS.out.below).mono ?_); rintro e w' ⟨rfl, hb⟩; have HS := hide (HS.out.call hb); obtain ⟨⟨a0, a1, a2, a3⟩, ⟨b0, b1, b2, b3⟩⟩ := HF.out _ HS.out)
    | (go_at_call 17; (with_reducible refine (HmR.out _ HS.out.below).mono ?_); rintro e w' ⟨rfl, hb⟩; have HS := hide (HS.out.call hb); obtain ⟨⟨a0, a1, a2, a3⟩, ⟨b0, b1, b2, b3⟩⟩ := HF.out _ HS.out)
    | (go_at_call 14; (with_reducible refine (Hy.out _ HS.out.below).mono ?_); rintro e w' ⟨rfl, hb⟩; have HS := hide (HS.out.call hb); obtain ⟨⟨a0, a1, a2, a3⟩, ⟨b0, b1, b2, b3⟩⟩ := HF.out _ HS.out)
    | (go_at_call 18; (with_reducible refine (HyR.out _ HS.out.below).mono ?_); rintro e w' ⟨rfl, hb⟩; have HS := hide (HS.out.call hb); obtain ⟨⟨a0, a1, a2, a3⟩, ⟨b0, b1, b2, b3⟩⟩ := HF.out _ HS.out)
    | (go_at_call 15; (with_reducible refine (Hx.out _ HS.out.below).mono ?_); rintro e w' ⟨rfl, hb⟩; have HS := hide (HS.out.call hb); obtain ⟨⟨a0, a1, a2, a3⟩, ⟨b0, b1, b2, b3⟩⟩ := HF.out _ HS.out)
    | (go_at_call 19; (with_reducible refine (HxR.out _ HS.out.below).mono ?_); rintro e w' ⟨rfl, hb⟩; have HS := hide (HS.out.call hb); obtain ⟨⟨a0, a1, a2, a3⟩, ⟨b0, b1, b2, b3⟩⟩ := HF.out _ HS.out)
    | (go_at_call 20; (with_reducible refine (Hh.out _ HS.out.below).mono ?_); rintro e w' ⟨rfl, hb⟩; have HS := hide (HS.out.call hb); obtain ⟨⟨a0, a1, a2, a3⟩, ⟨b0, b1, b2, b3⟩⟩ := HF.out _ HS.out)
    | (go_at_call 21; (with_reducible refine (HhR.out _ HS.out.below).mono ?_); rintro e w' ⟨rfl, hb⟩; have HS := hide (HS.out.call hb); obtain ⟨⟨a0, a1, a2, a3⟩, ⟨b0, b1, b2, b3⟩⟩ := HF.out _ HS.out)
    | (go_at_call 13; (with_reducible refine (Hn.out _).mono ?_); rintro e w' ⟨rfl, rfl⟩)
    | (go_at_call 22; (with_reducible refine (HnR.out _).mono ?_); rintro e w' ⟨rfl, rfl⟩)
    | (go_at_call 10; (with_reducible refine (HAW.out _).mono ?_); rintro e w' ⟨rfl, hb⟩; have HB := hide (HS.out.below.trans (hb.mono HS.out.below.size))))
  refine wp_region_T [(0, 0), (1, 0), (3, 0), (4, 0), (2, 2), (5, 2), (6, 1), (7, 1), (8, 0), (9, 0), (11, 0), (12, 0), (10, 2), (13, 2), (14, 1), (15, 1), (16, 1), (17, 0), (19, 0), (18, 2), (20, 2), (21, 1), (22, 1), (23, 1), (24, 0), (26, 0), (25, 2), (27, 2), (28, 1), (29, 1), (30, 1), (31, 0), (32, 0), (34, 0), (35, 0), (33, 2), (36, 2), (37, 1), (38, 1), (39, 1), (40, 1), (42, 1), (41, 2), (43, 2), (44, 1), (45, 1), (46, 1), (47, 2), (48, 1), (49, 1)] (by kernel_rfl) (by kernel_rfl) (fun _ _ _ _ h => h) ?_
  have HS := hide HS.out.drew
  obtain ⟨⟨a0, a1, a2, a3⟩, ⟨b0, b1, b2, b3⟩⟩ := HF.out _ HS.out
  go_wp2_with (first
    | (refine wpT_nil ?_)   | ((with_reducible refine fromT_refl ?_); (try simp only [Act.put, List.setIfInBounds_toArray, List.set_cons_zero, List.set_cons_succ, List.getElem_toArray, List.getElem_cons_succ, List.getElem_cons_zero]))   | ((with_reducible refine fromT_mk (by assumption) ?_); (try simp only [Act.put, List.setIfInBounds_toArray, List.set_cons_zero, List.set_cons_succ, List.getElem_toArray, List.getElem_cons_succ, List.getElem_cons_zero]))   | (refine wpT_pure (v := ?_) rfl rfl ?_ ?_; rotate_left; (intro wx; go_simp; try go_bits) <;> (with_reducible rfl); (try simp only [Act.put, List.setIfInBounds_toArray, List.set_cons_zero, List.set_cons_succ, List.getElem_toArray, List.getElem_cons_succ, List.getElem_cons_zero]))   | (refine wpT_load (v := ?_) rfl rfl rfl ?_ ?_; rotate_left; (go_simp; try go_bits) <;> (with_reducible rfl); (try simp only [Act.put, List.setIfInBounds_toArray, List.set_cons_zero, List.set_cons_succ, List.getElem_toArray, List.getElem_cons_succ, List.getElem_cons_zero]))   | (refine wpT_read (v := ?_) rfl rfl ?_ ?_; rotate_left; (intro wx hx; go_simp; try go_bits) <;> (with_reducible rfl); (try simp only [Act.put, List.setIfInBounds_toArray, List.set_cons_zero, List.set_cons_succ, List.getElem_toArray, List.getElem_cons_succ, List.getElem_cons_zero]))   | (refine wpT_call rfl rfl ?_; intro K hK)   | (refine wpT_late rfl rfl ?_; intro K hK)   | (refine wpT_any rfl rfl ?_; intro K hK)   | (refine wpT_skip rfl rfl ?_; (try simp only [Act.put, List.setIfInBounds_toArray, List.set_cons_zero, List.set_cons_succ, List.getElem_toArray, List.getElem_cons_succ, List.getElem_cons_zero]))
    | (go_at_call 9; (with_reducible refine (Hsa.out _ HS.out.below).mono ?_); rintro e w' ⟨rfl, hb⟩; have HS := hide (HS.out.call hb); obtain ⟨⟨a0, a1, a2, a3⟩, ⟨b0, b1, b2, b3⟩⟩ := HF.out _ HS.out)
    | (go_at_call 9; (with_reducible refine (Hsb.out _ HS.out.below).mono ?_); rintro e w' ⟨rfl, hb⟩; have HS := hide (HS.out.call hb); obtain ⟨⟨a0, a1, a2, a3⟩, ⟨b0, b1, b2, b3⟩⟩ := HF.out _ HS.out)
    | (go_at_call 11; (with_reducible refine (Hc.out _ HS.out.below).mono ?_); rintro e w' ⟨rfl, hb⟩; have HS := hide (HS.out.call hb); obtain ⟨⟨a0, a1, a2, a3⟩, ⟨b0, b1, b2, b3⟩⟩ := HF.out _ HS.out)
    | (go_at_call 16; (with_reducible refine (HcR.out _ HS.out.below).mono ?_); rintro e w' ⟨rfl, hb⟩; have HS := hide (HS.out.call hb); obtain ⟨⟨a0, a1, a2, a3⟩, ⟨b0, b1, b2, b3⟩⟩ := HF.out _ HS.out)
    | (go_at_call 12; (with_reducible refine (Hm.out _ HS.out.below).mono ?_); rintro e w' ⟨rfl, hb⟩; have HS := hide (HS.out.call hb); obtain ⟨⟨a0, a1, a2, a3⟩, ⟨b0, b1, b2, b3⟩⟩ := HF.out _ HS.out)
    | (go_at_call 17; (with_reducible refine (HmR.out _ HS.out.below).mono ?_); rintro e w' ⟨rfl, hb⟩; have HS := hide (HS.out.call hb); obtain ⟨⟨a0, a1, a2, a3⟩, ⟨b0, b1, b2, b3⟩⟩ := HF.out _ HS.out)
    | (go_at_call 14; (with_reducible refine (Hy.out _ HS.out.below).mono ?_); rintro e w' ⟨rfl, hb⟩; have HS := hide (HS.out.call hb); obtain ⟨⟨a0, a1, a2, a3⟩, ⟨b0, b1, b2, b3⟩⟩ := HF.out _ HS.out)
    | (go_at_call 18; (with_reducible refine (HyR.out _ HS.out.below).mono ?_); rintro e w' ⟨rfl, hb⟩; have HS := hide (HS.out.call hb); obtain ⟨⟨a0, a1, a2, a3⟩, ⟨b0, b1, b2, b3⟩⟩ := HF.out _ HS.out)
    | (go_at_call 15; (with_reducible refine (Hx.out _ HS.out.below).mono ?_); rintro e w' ⟨rfl, hb⟩; have HS := hide (HS.out.call hb); obtain ⟨⟨a0, a1, a2, a3⟩, ⟨b0, b1, b2, b3⟩⟩ := HF.out _ HS.out)
    | (go_at_call 19; (with_reducible refine (HxR.out _ HS.out.below).mono ?_); rintro e w' ⟨rfl, hb⟩; have HS := hide (HS.out.call hb); obtain ⟨⟨a0, a1, a2, a3⟩, ⟨b0, b1, b2, b3⟩⟩ := HF.out _ HS.out)
    | (go_at_call 20; (with_reducible refine (Hh.out _ HS.out.below).mono ?_); rintro e w' ⟨rfl, hb⟩; have HS := hide (HS.out.call hb); obtain ⟨⟨a0, a1, a2, a3⟩, ⟨b0, b1, b2, b3⟩⟩ := HF.out _ HS.out)
    | (go_at_call 21; (with_reducible refine (HhR.out _ HS.out.below).mono ?_); rintro e w' ⟨rfl, hb⟩; have HS := hide (HS.out.call hb); obtain ⟨⟨a0, a1, a2, a3⟩, ⟨b0, b1, b2, b3⟩⟩ := HF.out _ HS.out)
    | (go_at_call 13; (with_reducible refine (Hn.out _).mono ?_); rintro e w' ⟨rfl, rfl⟩)
    | (go_at_call 22; (with_reducible refine (HnR.out _).mono ?_); rintro e w' ⟨rfl, rfl⟩)
    | (go_at_call 10; (with_reducible refine (HAW.out _).mono ?_); rintro e w' ⟨rfl, hb⟩; have HB := hide (HS.out.below.trans (hb.mono HS.out.below.size))))
  go_ret
  exact ⟨rfl, HB.out⟩
theorem termForms_str (a b : Tm) (s : ByteArray) (hs : s.size ≤ maxLen) (w : World) (ha : TmOK w a) (hb : TmOK w b) : Calls Try.prog 6 #[a.val, b.val, .string s] w fun e w' => e = .returned (.bool true) ∧ Below w.heap.size w w' := by
  have h := termForms_walk a b s.data.toList (by rw [Array.length_toList]; unfold maxLen at hs; exact hs) w ha hb
  have es : (⟨s.data.toList.toArray⟩ : ByteArray) = s := by cases s; rfl
  rw [strOf_eq, es] at h
  exact h
end Go.Proofs.Ytjamoifenkdneaa
