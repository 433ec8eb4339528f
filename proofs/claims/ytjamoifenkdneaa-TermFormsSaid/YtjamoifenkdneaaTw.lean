/-
  Layer 7: the walk of TermOrder.
-/
import Derived.Test.YtjamoifenkdneaaTv
namespace Go.Proofs.Ytjamoifenkdneaa
open Go.RowKit
set_option linter.unusedSimpArgs false

def bx (t : Tm) : Array Value := #[.int .i64 t.k, .int .i64 t.n, .string (strOf t.s), .slice t.A t.l.length t.c]
set_option maxRecDepth 100000 in
set_option maxHeartbeats 1600000 in
theorem termOrder_walk (a b c : Tm) (w : World) (ha : TmOK w a) (hb : TmOK w b) (hc : TmOK w c) : Calls Try.prog 3 #[a.val, b.val, c.val] w fun e w' => e = .returned (.bool true) ∧ Below w.heap.size w w' := by
  have hS0 := (((St.init w NoB).alloc (bx a) 24).alloc (bx b) 24).alloc (bx c) 24
  rw [size_alloc1, size_alloc1] at hS0
  have HF : Hid (∀ W, St w NoB W [.cells (w.heap.size + 1 + 1) (bx c) 24, .cells (w.heap.size + 1) (bx b) 24, .cells w.heap.size (bx a) 24] →
      (W.cell? ⟨w.heap.size, 0, none⟩ = some (.int .i64 a.k) ∧ W.cell? ⟨w.heap.size, 1, none⟩ = some (.int .i64 a.n) ∧ W.cell? ⟨w.heap.size, 2, none⟩ = some (.string (strOf a.s)) ∧ W.cell? ⟨w.heap.size, 3, none⟩ = some (.slice a.A a.l.length a.c)) ∧
      (W.cell? ⟨w.heap.size + 1, 0, none⟩ = some (.int .i64 b.k) ∧ W.cell? ⟨w.heap.size + 1, 1, none⟩ = some (.int .i64 b.n) ∧ W.cell? ⟨w.heap.size + 1, 2, none⟩ = some (.string (strOf b.s)) ∧ W.cell? ⟨w.heap.size + 1, 3, none⟩ = some (.slice b.A b.l.length b.c)) ∧
      (W.cell? ⟨w.heap.size + 1 + 1, 0, none⟩ = some (.int .i64 c.k) ∧ W.cell? ⟨w.heap.size + 1 + 1, 1, none⟩ = some (.int .i64 c.n) ∧ W.cell? ⟨w.heap.size + 1 + 1, 2, none⟩ = some (.string (strOf c.s)) ∧ W.cell? ⟨w.heap.size + 1 + 1, 3, none⟩ = some (.slice c.A c.l.length c.c))) :=
    hide (fun W h => ⟨⟨h.cell 2 rfl 0, h.cell 2 rfl 1, h.cell 2 rfl 2, h.cell 2 rfl 3⟩, ⟨h.cell 1 rfl 0, h.cell 1 rfl 1, h.cell 1 rfl 2, h.cell 1 rfl 3⟩, ⟨h.cell 0 rfl 0, h.cell 0 rfl 1, h.cell 0 rfl 2, h.cell 0 rfl 3⟩⟩)
  have HS := hide hS0
  clear hS0
  have Hsa := hide (fun W (h : Below w.heap.size w W) => Size_any a W (ha.on h))
  have Hsb := hide (fun W (h : Below w.heap.size w W) => Size_any b W (hb.on h))
  have Hsc := hide (fun W (h : Below w.heap.size w W) => Size_any c W (hc.on h))
  have Hab := hide (fun W (h : Below w.heap.size w W) => compare_any a b W (ha.on h) (hb.on h))
  have Hbc := hide (fun W (h : Below w.heap.size w W) => compare_any b c W (hb.on h) (hc.on h))
  have Hac := hide (fun W (h : Below w.heap.size w W) => compare_any a c W (ha.on h) (hc.on h))
  have Hba := hide (fun W (h : Below w.heap.size w W) => compare_any b a W (hb.on h) (ha.on h))
  have Haa := hide (fun W (h : Below w.heap.size w W) => compare_any a a W (ha.on h) (ha.on h))
  have Hsm := hide (fun W (h : Below w.heap.size w W) => same_any a b W (ha.on h) (hb.on h))
  have HAW := hide (fun W => awake7_any W)
  have o1 := cmpA_ord.tri a b
  have o2 := cmpA_ord.tri b c
  have o3 := cmpA_ord.tri a c
  have o4 := cmpA_ord.anti b a
  have o5 := cmpA_ord.self a
  have o6 := cmpA_ord.lt a b c
  have o7 := cmpA_ord.lt' a b c
  have o8 : samT a b = decide (cmpA a b = 0) := rfl
  rw [o8] at Hsm
  rw [o4] at Hba
  rw [o5] at Haa
  have hsa : sizT a ≤ 100 := szT_le 6 [a] 0 (by omega)
  have hsb : sizT b ≤ 100 := szT_le 6 [b] 0 (by omega)
  have hsc : sizT c ≤ 100 := szT_le 6 [c] 0 (by omega)
  clear ha hb hc o4 o5 o8
  generalize cmpA a b = x at *
  generalize cmpA b c = y at *
  generalize cmpA a c = z at *
  generalize sizT a = sa at *
  generalize sizT b = sb at *
  generalize sizT c = sc at *
  unfold bx at *
  unfold Tm.val Tm.row at *
  --END
  by_cases h1 : 100 ≤ sa
  · have d1 : decide ((100 : Int) ≤ (sa : Int)) = true := by simp; omega
    have d1' : decide (100 ≤ sa) = true := by simp; omega
    go_enter Try.func3, Try.ntmps3
    go_wp2_with (first
      | (go_at_call 9; (with_reducible refine (Hsa.out _ HS.out.below).mono ?_); rintro e w' ⟨rfl, hb⟩; have HS := hide (HS.out.call hb); obtain ⟨⟨a0, a1, a2, a3⟩, ⟨b0, b1, b2, b3⟩, ⟨c0, c1, c2, c3⟩⟩ := HF.out _ HS.out)
      | (go_at_call 9; (with_reducible refine (Hsb.out _ HS.out.below).mono ?_); rintro e w' ⟨rfl, hb⟩; have HS := hide (HS.out.call hb); obtain ⟨⟨a0, a1, a2, a3⟩, ⟨b0, b1, b2, b3⟩, ⟨c0, c1, c2, c3⟩⟩ := HF.out _ HS.out)
      | (go_at_call 9; (with_reducible refine (Hsc.out _ HS.out.below).mono ?_); rintro e w' ⟨rfl, hb⟩; have HS := hide (HS.out.call hb); obtain ⟨⟨a0, a1, a2, a3⟩, ⟨b0, b1, b2, b3⟩, ⟨c0, c1, c2, c3⟩⟩ := HF.out _ HS.out)
      | (go_at_call 11; (with_reducible refine (Hab.out _ HS.out.below).mono ?_); rintro e w' ⟨rfl, hb⟩; have HS := hide (HS.out.call hb); obtain ⟨⟨a0, a1, a2, a3⟩, ⟨b0, b1, b2, b3⟩, ⟨c0, c1, c2, c3⟩⟩ := HF.out _ HS.out)
      | (go_at_call 11; (with_reducible refine (Hbc.out _ HS.out.below).mono ?_); rintro e w' ⟨rfl, hb⟩; have HS := hide (HS.out.call hb); obtain ⟨⟨a0, a1, a2, a3⟩, ⟨b0, b1, b2, b3⟩, ⟨c0, c1, c2, c3⟩⟩ := HF.out _ HS.out)
      | (go_at_call 11; (with_reducible refine (Hac.out _ HS.out.below).mono ?_); rintro e w' ⟨rfl, hb⟩; have HS := hide (HS.out.call hb); obtain ⟨⟨a0, a1, a2, a3⟩, ⟨b0, b1, b2, b3⟩, ⟨c0, c1, c2, c3⟩⟩ := HF.out _ HS.out)
      | (go_at_call 11; (with_reducible refine (Hba.out _ HS.out.below).mono ?_); rintro e w' ⟨rfl, hb⟩; have HS := hide (HS.out.call hb); obtain ⟨⟨a0, a1, a2, a3⟩, ⟨b0, b1, b2, b3⟩, ⟨c0, c1, c2, c3⟩⟩ := HF.out _ HS.out)
      | (go_at_call 11; (with_reducible refine (Haa.out _ HS.out.below).mono ?_); rintro e w' ⟨rfl, hb⟩; have HS := hide (HS.out.call hb); obtain ⟨⟨a0, a1, a2, a3⟩, ⟨b0, b1, b2, b3⟩, ⟨c0, c1, c2, c3⟩⟩ := HF.out _ HS.out)
      | (go_at_call 12; (with_reducible refine (Hsm.out _ HS.out.below).mono ?_); rintro e w' ⟨rfl, hb⟩; have HS := hide (HS.out.call hb); obtain ⟨⟨a0, a1, a2, a3⟩, ⟨b0, b1, b2, b3⟩, ⟨c0, c1, c2, c3⟩⟩ := HF.out _ HS.out)
      | (go_at_call 10; (with_reducible refine (HAW.out _).mono ?_); rintro e w' ⟨rfl, hb⟩; have HB := hide (HS.out.below.trans (hb.mono HS.out.below.size))))
    go_ret
    exact ⟨rfl, HB.out⟩
  have d1 : decide ((100 : Int) ≤ (sa : Int)) = false := by simp; omega
  have d1' : decide (100 ≤ sa) = false := by simp; omega
  by_cases h2 : 100 ≤ sb
  · have d2 : decide ((100 : Int) ≤ (sb : Int)) = true := by simp; omega
    have d2' : decide (100 ≤ sb) = true := by simp; omega
    go_enter Try.func3, Try.ntmps3
    go_wp2_with (first
      | (go_at_call 9; (with_reducible refine (Hsa.out _ HS.out.below).mono ?_); rintro e w' ⟨rfl, hb⟩; have HS := hide (HS.out.call hb); obtain ⟨⟨a0, a1, a2, a3⟩, ⟨b0, b1, b2, b3⟩, ⟨c0, c1, c2, c3⟩⟩ := HF.out _ HS.out)
      | (go_at_call 9; (with_reducible refine (Hsb.out _ HS.out.below).mono ?_); rintro e w' ⟨rfl, hb⟩; have HS := hide (HS.out.call hb); obtain ⟨⟨a0, a1, a2, a3⟩, ⟨b0, b1, b2, b3⟩, ⟨c0, c1, c2, c3⟩⟩ := HF.out _ HS.out)
      | (go_at_call 9; (with_reducible refine (Hsc.out _ HS.out.below).mono ?_); rintro e w' ⟨rfl, hb⟩; have HS := hide (HS.out.call hb); obtain ⟨⟨a0, a1, a2, a3⟩, ⟨b0, b1, b2, b3⟩, ⟨c0, c1, c2, c3⟩⟩ := HF.out _ HS.out)
      | (go_at_call 11; (with_reducible refine (Hab.out _ HS.out.below).mono ?_); rintro e w' ⟨rfl, hb⟩; have HS := hide (HS.out.call hb); obtain ⟨⟨a0, a1, a2, a3⟩, ⟨b0, b1, b2, b3⟩, ⟨c0, c1, c2, c3⟩⟩ := HF.out _ HS.out)
      | (go_at_call 11; (with_reducible refine (Hbc.out _ HS.out.below).mono ?_); rintro e w' ⟨rfl, hb⟩; have HS := hide (HS.out.call hb); obtain ⟨⟨a0, a1, a2, a3⟩, ⟨b0, b1, b2, b3⟩, ⟨c0, c1, c2, c3⟩⟩ := HF.out _ HS.out)
      | (go_at_call 11; (with_reducible refine (Hac.out _ HS.out.below).mono ?_); rintro e w' ⟨rfl, hb⟩; have HS := hide (HS.out.call hb); obtain ⟨⟨a0, a1, a2, a3⟩, ⟨b0, b1, b2, b3⟩, ⟨c0, c1, c2, c3⟩⟩ := HF.out _ HS.out)
      | (go_at_call 11; (with_reducible refine (Hba.out _ HS.out.below).mono ?_); rintro e w' ⟨rfl, hb⟩; have HS := hide (HS.out.call hb); obtain ⟨⟨a0, a1, a2, a3⟩, ⟨b0, b1, b2, b3⟩, ⟨c0, c1, c2, c3⟩⟩ := HF.out _ HS.out)
      | (go_at_call 11; (with_reducible refine (Haa.out _ HS.out.below).mono ?_); rintro e w' ⟨rfl, hb⟩; have HS := hide (HS.out.call hb); obtain ⟨⟨a0, a1, a2, a3⟩, ⟨b0, b1, b2, b3⟩, ⟨c0, c1, c2, c3⟩⟩ := HF.out _ HS.out)
      | (go_at_call 12; (with_reducible refine (Hsm.out _ HS.out.below).mono ?_); rintro e w' ⟨rfl, hb⟩; have HS := hide (HS.out.call hb); obtain ⟨⟨a0, a1, a2, a3⟩, ⟨b0, b1, b2, b3⟩, ⟨c0, c1, c2, c3⟩⟩ := HF.out _ HS.out)
      | (go_at_call 10; (with_reducible refine (HAW.out _).mono ?_); rintro e w' ⟨rfl, hb⟩; have HB := hide (HS.out.below.trans (hb.mono HS.out.below.size))))
    go_ret
    exact ⟨rfl, HB.out⟩
  have d2 : decide ((100 : Int) ≤ (sb : Int)) = false := by simp; omega
  have d2' : decide (100 ≤ sb) = false := by simp; omega
  by_cases h3 : 100 ≤ sc
  · have d3 : decide ((100 : Int) ≤ (sc : Int)) = true := by simp; omega
    have d3' : decide (100 ≤ sc) = true := by simp; omega
    go_enter Try.func3, Try.ntmps3
    go_wp2_with (first
      | (go_at_call 9; (with_reducible refine (Hsa.out _ HS.out.below).mono ?_); rintro e w' ⟨rfl, hb⟩; have HS := hide (HS.out.call hb); obtain ⟨⟨a0, a1, a2, a3⟩, ⟨b0, b1, b2, b3⟩, ⟨c0, c1, c2, c3⟩⟩ := HF.out _ HS.out)
      | (go_at_call 9; (with_reducible refine (Hsb.out _ HS.out.below).mono ?_); rintro e w' ⟨rfl, hb⟩; have HS := hide (HS.out.call hb); obtain ⟨⟨a0, a1, a2, a3⟩, ⟨b0, b1, b2, b3⟩, ⟨c0, c1, c2, c3⟩⟩ := HF.out _ HS.out)
      | (go_at_call 9; (with_reducible refine (Hsc.out _ HS.out.below).mono ?_); rintro e w' ⟨rfl, hb⟩; have HS := hide (HS.out.call hb); obtain ⟨⟨a0, a1, a2, a3⟩, ⟨b0, b1, b2, b3⟩, ⟨c0, c1, c2, c3⟩⟩ := HF.out _ HS.out)
      | (go_at_call 11; (with_reducible refine (Hab.out _ HS.out.below).mono ?_); rintro e w' ⟨rfl, hb⟩; have HS := hide (HS.out.call hb); obtain ⟨⟨a0, a1, a2, a3⟩, ⟨b0, b1, b2, b3⟩, ⟨c0, c1, c2, c3⟩⟩ := HF.out _ HS.out)
      | (go_at_call 11; (with_reducible refine (Hbc.out _ HS.out.below).mono ?_); rintro e w' ⟨rfl, hb⟩; have HS := hide (HS.out.call hb); obtain ⟨⟨a0, a1, a2, a3⟩, ⟨b0, b1, b2, b3⟩, ⟨c0, c1, c2, c3⟩⟩ := HF.out _ HS.out)
      | (go_at_call 11; (with_reducible refine (Hac.out _ HS.out.below).mono ?_); rintro e w' ⟨rfl, hb⟩; have HS := hide (HS.out.call hb); obtain ⟨⟨a0, a1, a2, a3⟩, ⟨b0, b1, b2, b3⟩, ⟨c0, c1, c2, c3⟩⟩ := HF.out _ HS.out)
      | (go_at_call 11; (with_reducible refine (Hba.out _ HS.out.below).mono ?_); rintro e w' ⟨rfl, hb⟩; have HS := hide (HS.out.call hb); obtain ⟨⟨a0, a1, a2, a3⟩, ⟨b0, b1, b2, b3⟩, ⟨c0, c1, c2, c3⟩⟩ := HF.out _ HS.out)
      | (go_at_call 11; (with_reducible refine (Haa.out _ HS.out.below).mono ?_); rintro e w' ⟨rfl, hb⟩; have HS := hide (HS.out.call hb); obtain ⟨⟨a0, a1, a2, a3⟩, ⟨b0, b1, b2, b3⟩, ⟨c0, c1, c2, c3⟩⟩ := HF.out _ HS.out)
      | (go_at_call 12; (with_reducible refine (Hsm.out _ HS.out.below).mono ?_); rintro e w' ⟨rfl, hb⟩; have HS := hide (HS.out.call hb); obtain ⟨⟨a0, a1, a2, a3⟩, ⟨b0, b1, b2, b3⟩, ⟨c0, c1, c2, c3⟩⟩ := HF.out _ HS.out)
      | (go_at_call 10; (with_reducible refine (HAW.out _).mono ?_); rintro e w' ⟨rfl, hb⟩; have HB := hide (HS.out.below.trans (hb.mono HS.out.below.size))))
    go_ret
    exact ⟨rfl, HB.out⟩
  have d3 : decide ((100 : Int) ≤ (sc : Int)) = false := by simp; omega
  have d3' : decide (100 ≤ sc) = false := by simp; omega
  clear h1 h2 h3
  by_cases hy : 0 < y
  · have q2 : decide (0 < y) = true := decide_eq_true hy
    clear o2 o3 o6 o7 hy
    rcases o1 with rfl | rfl | rfl
    all_goals
      go_enter Try.func3, Try.ntmps3
      go_wp2_with (first
        | (go_at_call 9; (with_reducible refine (Hsa.out _ HS.out.below).mono ?_); rintro e w' ⟨rfl, hb⟩; have HS := hide (HS.out.call hb); obtain ⟨⟨a0, a1, a2, a3⟩, ⟨b0, b1, b2, b3⟩, ⟨c0, c1, c2, c3⟩⟩ := HF.out _ HS.out)
        | (go_at_call 9; (with_reducible refine (Hsb.out _ HS.out.below).mono ?_); rintro e w' ⟨rfl, hb⟩; have HS := hide (HS.out.call hb); obtain ⟨⟨a0, a1, a2, a3⟩, ⟨b0, b1, b2, b3⟩, ⟨c0, c1, c2, c3⟩⟩ := HF.out _ HS.out)
        | (go_at_call 9; (with_reducible refine (Hsc.out _ HS.out.below).mono ?_); rintro e w' ⟨rfl, hb⟩; have HS := hide (HS.out.call hb); obtain ⟨⟨a0, a1, a2, a3⟩, ⟨b0, b1, b2, b3⟩, ⟨c0, c1, c2, c3⟩⟩ := HF.out _ HS.out)
        | (go_at_call 11; (with_reducible refine (Hab.out _ HS.out.below).mono ?_); rintro e w' ⟨rfl, hb⟩; have HS := hide (HS.out.call hb); obtain ⟨⟨a0, a1, a2, a3⟩, ⟨b0, b1, b2, b3⟩, ⟨c0, c1, c2, c3⟩⟩ := HF.out _ HS.out)
        | (go_at_call 11; (with_reducible refine (Hbc.out _ HS.out.below).mono ?_); rintro e w' ⟨rfl, hb⟩; have HS := hide (HS.out.call hb); obtain ⟨⟨a0, a1, a2, a3⟩, ⟨b0, b1, b2, b3⟩, ⟨c0, c1, c2, c3⟩⟩ := HF.out _ HS.out)
        | (go_at_call 11; (with_reducible refine (Hac.out _ HS.out.below).mono ?_); rintro e w' ⟨rfl, hb⟩; have HS := hide (HS.out.call hb); obtain ⟨⟨a0, a1, a2, a3⟩, ⟨b0, b1, b2, b3⟩, ⟨c0, c1, c2, c3⟩⟩ := HF.out _ HS.out)
        | (go_at_call 11; (with_reducible refine (Hba.out _ HS.out.below).mono ?_); rintro e w' ⟨rfl, hb⟩; have HS := hide (HS.out.call hb); obtain ⟨⟨a0, a1, a2, a3⟩, ⟨b0, b1, b2, b3⟩, ⟨c0, c1, c2, c3⟩⟩ := HF.out _ HS.out)
        | (go_at_call 11; (with_reducible refine (Haa.out _ HS.out.below).mono ?_); rintro e w' ⟨rfl, hb⟩; have HS := hide (HS.out.call hb); obtain ⟨⟨a0, a1, a2, a3⟩, ⟨b0, b1, b2, b3⟩, ⟨c0, c1, c2, c3⟩⟩ := HF.out _ HS.out)
        | (go_at_call 12; (with_reducible refine (Hsm.out _ HS.out.below).mono ?_); rintro e w' ⟨rfl, hb⟩; have HS := hide (HS.out.call hb); obtain ⟨⟨a0, a1, a2, a3⟩, ⟨b0, b1, b2, b3⟩, ⟨c0, c1, c2, c3⟩⟩ := HF.out _ HS.out)
        | (go_at_call 10; (with_reducible refine (HAW.out _).mono ?_); rintro e w' ⟨rfl, hb⟩; have HB := hide (HS.out.below.trans (hb.mono HS.out.below.size))))
      refine wp_region_T [(0, 0), (1, 0), (3, 0), (4, 0), (6, 0), (7, 0), (2, 2), (5, 2), (8, 2), (9, 1), (10, 1), (11, 1)] (by kernel_rfl) (by kernel_rfl) (fun _ _ _ _ h => h) ?_
      have HS := hide HS.out.drew
      obtain ⟨⟨a0, a1, a2, a3⟩, ⟨b0, b1, b2, b3⟩, ⟨c0, c1, c2, c3⟩⟩ := HF.out _ HS.out
      go_wp2_with (first
        | (refine wpT_nil ?_)   | ((with_reducible refine fromT_refl ?_); (try simp only [Act.put, List.setIfInBounds_toArray, List.set_cons_zero, List.set_cons_succ, List.getElem_toArray, List.getElem_cons_succ, List.getElem_cons_zero]))   | ((with_reducible refine fromT_mk (by assumption) ?_); (try simp only [Act.put, List.setIfInBounds_toArray, List.set_cons_zero, List.set_cons_succ, List.getElem_toArray, List.getElem_cons_succ, List.getElem_cons_zero]))   | (refine wpT_pure (v := ?_) rfl rfl ?_ ?_; rotate_left; (intro wx; go_simp; try go_bits) <;> (with_reducible rfl); (try simp only [Act.put, List.setIfInBounds_toArray, List.set_cons_zero, List.set_cons_succ, List.getElem_toArray, List.getElem_cons_succ, List.getElem_cons_zero]))   | (refine wpT_load (v := ?_) rfl rfl rfl ?_ ?_; rotate_left; (go_simp; try go_bits) <;> (with_reducible rfl); (try simp only [Act.put, List.setIfInBounds_toArray, List.set_cons_zero, List.set_cons_succ, List.getElem_toArray, List.getElem_cons_succ, List.getElem_cons_zero]))   | (refine wpT_read (v := ?_) rfl rfl ?_ ?_; rotate_left; (intro wx hx; go_simp; try go_bits) <;> (with_reducible rfl); (try simp only [Act.put, List.setIfInBounds_toArray, List.set_cons_zero, List.set_cons_succ, List.getElem_toArray, List.getElem_cons_succ, List.getElem_cons_zero]))   | (refine wpT_call rfl rfl ?_; intro K hK)   | (refine wpT_late rfl rfl ?_; intro K hK)   | (refine wpT_any rfl rfl ?_; intro K hK)   | (refine wpT_skip rfl rfl ?_; (try simp only [Act.put, List.setIfInBounds_toArray, List.set_cons_zero, List.set_cons_succ, List.getElem_toArray, List.getElem_cons_succ, List.getElem_cons_zero]))
        | (go_at_call 9; (with_reducible refine (Hsa.out _ HS.out.below).mono ?_); rintro e w' ⟨rfl, hb⟩; have HS := hide (HS.out.call hb); obtain ⟨⟨a0, a1, a2, a3⟩, ⟨b0, b1, b2, b3⟩, ⟨c0, c1, c2, c3⟩⟩ := HF.out _ HS.out)
        | (go_at_call 9; (with_reducible refine (Hsb.out _ HS.out.below).mono ?_); rintro e w' ⟨rfl, hb⟩; have HS := hide (HS.out.call hb); obtain ⟨⟨a0, a1, a2, a3⟩, ⟨b0, b1, b2, b3⟩, ⟨c0, c1, c2, c3⟩⟩ := HF.out _ HS.out)
        | (go_at_call 9; (with_reducible refine (Hsc.out _ HS.out.below).mono ?_); rintro e w' ⟨rfl, hb⟩; have HS := hide (HS.out.call hb); obtain ⟨⟨a0, a1, a2, a3⟩, ⟨b0, b1, b2, b3⟩, ⟨c0, c1, c2, c3⟩⟩ := HF.out _ HS.out)
        | (go_at_call 11; (with_reducible refine (Hab.out _ HS.out.below).mono ?_); rintro e w' ⟨rfl, hb⟩; have HS := hide (HS.out.call hb); obtain ⟨⟨a0, a1, a2, a3⟩, ⟨b0, b1, b2, b3⟩, ⟨c0, c1, c2, c3⟩⟩ := HF.out _ HS.out)
        | (go_at_call 11; (with_reducible refine (Hbc.out _ HS.out.below).mono ?_); rintro e w' ⟨rfl, hb⟩; have HS := hide (HS.out.call hb); obtain ⟨⟨a0, a1, a2, a3⟩, ⟨b0, b1, b2, b3⟩, ⟨c0, c1, c2, c3⟩⟩ := HF.out _ HS.out)
        | (go_at_call 11; (with_reducible refine (Hac.out _ HS.out.below).mono ?_); rintro e w' ⟨rfl, hb⟩; have HS := hide (HS.out.call hb); obtain ⟨⟨a0, a1, a2, a3⟩, ⟨b0, b1, b2, b3⟩, ⟨c0, c1, c2, c3⟩⟩ := HF.out _ HS.out)
        | (go_at_call 11; (with_reducible refine (Hba.out _ HS.out.below).mono ?_); rintro e w' ⟨rfl, hb⟩; have HS := hide (HS.out.call hb); obtain ⟨⟨a0, a1, a2, a3⟩, ⟨b0, b1, b2, b3⟩, ⟨c0, c1, c2, c3⟩⟩ := HF.out _ HS.out)
        | (go_at_call 11; (with_reducible refine (Haa.out _ HS.out.below).mono ?_); rintro e w' ⟨rfl, hb⟩; have HS := hide (HS.out.call hb); obtain ⟨⟨a0, a1, a2, a3⟩, ⟨b0, b1, b2, b3⟩, ⟨c0, c1, c2, c3⟩⟩ := HF.out _ HS.out)
        | (go_at_call 12; (with_reducible refine (Hsm.out _ HS.out.below).mono ?_); rintro e w' ⟨rfl, hb⟩; have HS := hide (HS.out.call hb); obtain ⟨⟨a0, a1, a2, a3⟩, ⟨b0, b1, b2, b3⟩, ⟨c0, c1, c2, c3⟩⟩ := HF.out _ HS.out)
        | (go_at_call 10; (with_reducible refine (HAW.out _).mono ?_); rintro e w' ⟨rfl, hb⟩; have HB := hide (HS.out.below.trans (hb.mono HS.out.below.size))))
      go_ret
      exact ⟨rfl, HB.out⟩
  · have q2 : decide (0 < y) = false := decide_eq_false hy
    rcases o1 with rfl | rfl | rfl
    · have q3 : decide (z ≤ 0) = true := decide_eq_true (by omega)
      have q5 : decide (z < 0) = true := decide_eq_true (by omega)
      clear o2 o3 o6 o7 hy
      go_enter Try.func3, Try.ntmps3
      go_wp2_with (first
        | (go_at_call 9; (with_reducible refine (Hsa.out _ HS.out.below).mono ?_); rintro e w' ⟨rfl, hb⟩; have HS := hide (HS.out.call hb); obtain ⟨⟨a0, a1, a2, a3⟩, ⟨b0, b1, b2, b3⟩, ⟨c0, c1, c2, c3⟩⟩ := HF.out _ HS.out)
        | (go_at_call 9; (with_reducible refine (Hsb.out _ HS.out.below).mono ?_); rintro e w' ⟨rfl, hb⟩; have HS := hide (HS.out.call hb); obtain ⟨⟨a0, a1, a2, a3⟩, ⟨b0, b1, b2, b3⟩, ⟨c0, c1, c2, c3⟩⟩ := HF.out _ HS.out)
        | (go_at_call 9; (with_reducible refine (Hsc.out _ HS.out.below).mono ?_); rintro e w' ⟨rfl, hb⟩; have HS := hide (HS.out.call hb); obtain ⟨⟨a0, a1, a2, a3⟩, ⟨b0, b1, b2, b3⟩, ⟨c0, c1, c2, c3⟩⟩ := HF.out _ HS.out)
        | (go_at_call 11; (with_reducible refine (Hab.out _ HS.out.below).mono ?_); rintro e w' ⟨rfl, hb⟩; have HS := hide (HS.out.call hb); obtain ⟨⟨a0, a1, a2, a3⟩, ⟨b0, b1, b2, b3⟩, ⟨c0, c1, c2, c3⟩⟩ := HF.out _ HS.out)
        | (go_at_call 11; (with_reducible refine (Hbc.out _ HS.out.below).mono ?_); rintro e w' ⟨rfl, hb⟩; have HS := hide (HS.out.call hb); obtain ⟨⟨a0, a1, a2, a3⟩, ⟨b0, b1, b2, b3⟩, ⟨c0, c1, c2, c3⟩⟩ := HF.out _ HS.out)
        | (go_at_call 11; (with_reducible refine (Hac.out _ HS.out.below).mono ?_); rintro e w' ⟨rfl, hb⟩; have HS := hide (HS.out.call hb); obtain ⟨⟨a0, a1, a2, a3⟩, ⟨b0, b1, b2, b3⟩, ⟨c0, c1, c2, c3⟩⟩ := HF.out _ HS.out)
        | (go_at_call 11; (with_reducible refine (Hba.out _ HS.out.below).mono ?_); rintro e w' ⟨rfl, hb⟩; have HS := hide (HS.out.call hb); obtain ⟨⟨a0, a1, a2, a3⟩, ⟨b0, b1, b2, b3⟩, ⟨c0, c1, c2, c3⟩⟩ := HF.out _ HS.out)
        | (go_at_call 11; (with_reducible refine (Haa.out _ HS.out.below).mono ?_); rintro e w' ⟨rfl, hb⟩; have HS := hide (HS.out.call hb); obtain ⟨⟨a0, a1, a2, a3⟩, ⟨b0, b1, b2, b3⟩, ⟨c0, c1, c2, c3⟩⟩ := HF.out _ HS.out)
        | (go_at_call 12; (with_reducible refine (Hsm.out _ HS.out.below).mono ?_); rintro e w' ⟨rfl, hb⟩; have HS := hide (HS.out.call hb); obtain ⟨⟨a0, a1, a2, a3⟩, ⟨b0, b1, b2, b3⟩, ⟨c0, c1, c2, c3⟩⟩ := HF.out _ HS.out)
        | (go_at_call 10; (with_reducible refine (HAW.out _).mono ?_); rintro e w' ⟨rfl, hb⟩; have HB := hide (HS.out.below.trans (hb.mono HS.out.below.size))))
      refine wp_region_T [(0, 0), (1, 0), (3, 0), (4, 0), (6, 0), (7, 0), (2, 2), (5, 2), (8, 2), (9, 1), (10, 1), (11, 1)] (by kernel_rfl) (by kernel_rfl) (fun _ _ _ _ h => h) ?_
      have HS := hide HS.out.drew
      obtain ⟨⟨a0, a1, a2, a3⟩, ⟨b0, b1, b2, b3⟩, ⟨c0, c1, c2, c3⟩⟩ := HF.out _ HS.out
      go_wp2_with (first
        | (refine wpT_nil ?_)   | ((with_reducible refine fromT_refl ?_); (try simp only [Act.put, List.setIfInBounds_toArray, List.set_cons_zero, List.set_cons_succ, List.getElem_toArray, List.getElem_cons_succ, List.getElem_cons_zero]))   | ((with_reducible refine fromT_mk (by assumption) ?_); (try simp only [Act.put, List.setIfInBounds_toArray, List.set_cons_zero, List.set_cons_succ, List.getElem_toArray, List.getElem_cons_succ, List.getElem_cons_zero]))   | (refine wpT_pure (v := ?_) rfl rfl ?_ ?_; rotate_left; (intro wx; go_simp; try go_bits) <;> (with_reducible rfl); (try simp only [Act.put, List.setIfInBounds_toArray, List.set_cons_zero, List.set_cons_succ, List.getElem_toArray, List.getElem_cons_succ, List.getElem_cons_zero]))   | (refine wpT_load (v := ?_) rfl rfl rfl ?_ ?_; rotate_left; (go_simp; try go_bits) <;> (with_reducible rfl); (try simp only [Act.put, List.setIfInBounds_toArray, List.set_cons_zero, List.set_cons_succ, List.getElem_toArray, List.getElem_cons_succ, List.getElem_cons_zero]))   | (refine wpT_read (v := ?_) rfl rfl ?_ ?_; rotate_left; (intro wx hx; go_simp; try go_bits) <;> (with_reducible rfl); (try simp only [Act.put, List.setIfInBounds_toArray, List.set_cons_zero, List.set_cons_succ, List.getElem_toArray, List.getElem_cons_succ, List.getElem_cons_zero]))   | (refine wpT_call rfl rfl ?_; intro K hK)   | (refine wpT_late rfl rfl ?_; intro K hK)   | (refine wpT_any rfl rfl ?_; intro K hK)   | (refine wpT_skip rfl rfl ?_; (try simp only [Act.put, List.setIfInBounds_toArray, List.set_cons_zero, List.set_cons_succ, List.getElem_toArray, List.getElem_cons_succ, List.getElem_cons_zero]))
        | (go_at_call 9; (with_reducible refine (Hsa.out _ HS.out.below).mono ?_); rintro e w' ⟨rfl, hb⟩; have HS := hide (HS.out.call hb); obtain ⟨⟨a0, a1, a2, a3⟩, ⟨b0, b1, b2, b3⟩, ⟨c0, c1, c2, c3⟩⟩ := HF.out _ HS.out)
        | (go_at_call 9; (with_reducible refine (Hsb.out _ HS.out.below).mono ?_); rintro e w' ⟨rfl, hb⟩; have HS := hide (HS.out.call hb); obtain ⟨⟨a0, a1, a2, a3⟩, ⟨b0, b1, b2, b3⟩, ⟨c0, c1, c2, c3⟩⟩ := HF.out _ HS.out)
        | (go_at_call 9; (with_reducible refine (Hsc.out _ HS.out.below).mono ?_); rintro e w' ⟨rfl, hb⟩; have HS := hide (HS.out.call hb); obtain ⟨⟨a0, a1, a2, a3⟩, ⟨b0, b1, b2, b3⟩, ⟨c0, c1, c2, c3⟩⟩ := HF.out _ HS.out)
        | (go_at_call 11; (with_reducible refine (Hab.out _ HS.out.below).mono ?_); rintro e w' ⟨rfl, hb⟩; have HS := hide (HS.out.call hb); obtain ⟨⟨a0, a1, a2, a3⟩, ⟨b0, b1, b2, b3⟩, ⟨c0, c1, c2, c3⟩⟩ := HF.out _ HS.out)
        | (go_at_call 11; (with_reducible refine (Hbc.out _ HS.out.below).mono ?_); rintro e w' ⟨rfl, hb⟩; have HS := hide (HS.out.call hb); obtain ⟨⟨a0, a1, a2, a3⟩, ⟨b0, b1, b2, b3⟩, ⟨c0, c1, c2, c3⟩⟩ := HF.out _ HS.out)
        | (go_at_call 11; (with_reducible refine (Hac.out _ HS.out.below).mono ?_); rintro e w' ⟨rfl, hb⟩; have HS := hide (HS.out.call hb); obtain ⟨⟨a0, a1, a2, a3⟩, ⟨b0, b1, b2, b3⟩, ⟨c0, c1, c2, c3⟩⟩ := HF.out _ HS.out)
        | (go_at_call 11; (with_reducible refine (Hba.out _ HS.out.below).mono ?_); rintro e w' ⟨rfl, hb⟩; have HS := hide (HS.out.call hb); obtain ⟨⟨a0, a1, a2, a3⟩, ⟨b0, b1, b2, b3⟩, ⟨c0, c1, c2, c3⟩⟩ := HF.out _ HS.out)
        | (go_at_call 11; (with_reducible refine (Haa.out _ HS.out.below).mono ?_); rintro e w' ⟨rfl, hb⟩; have HS := hide (HS.out.call hb); obtain ⟨⟨a0, a1, a2, a3⟩, ⟨b0, b1, b2, b3⟩, ⟨c0, c1, c2, c3⟩⟩ := HF.out _ HS.out)
        | (go_at_call 12; (with_reducible refine (Hsm.out _ HS.out.below).mono ?_); rintro e w' ⟨rfl, hb⟩; have HS := hide (HS.out.call hb); obtain ⟨⟨a0, a1, a2, a3⟩, ⟨b0, b1, b2, b3⟩, ⟨c0, c1, c2, c3⟩⟩ := HF.out _ HS.out)
        | (go_at_call 10; (with_reducible refine (HAW.out _).mono ?_); rintro e w' ⟨rfl, hb⟩; have HB := hide (HS.out.below.trans (hb.mono HS.out.below.size))))
      go_ret
      exact ⟨rfl, HB.out⟩
    · have q3 : decide (z ≤ 0) = true := decide_eq_true (by omega)
      clear o2 o3 o6 o7 hy
      go_enter Try.func3, Try.ntmps3
      go_wp2_with (first
        | (go_at_call 9; (with_reducible refine (Hsa.out _ HS.out.below).mono ?_); rintro e w' ⟨rfl, hb⟩; have HS := hide (HS.out.call hb); obtain ⟨⟨a0, a1, a2, a3⟩, ⟨b0, b1, b2, b3⟩, ⟨c0, c1, c2, c3⟩⟩ := HF.out _ HS.out)
        | (go_at_call 9; (with_reducible refine (Hsb.out _ HS.out.below).mono ?_); rintro e w' ⟨rfl, hb⟩; have HS := hide (HS.out.call hb); obtain ⟨⟨a0, a1, a2, a3⟩, ⟨b0, b1, b2, b3⟩, ⟨c0, c1, c2, c3⟩⟩ := HF.out _ HS.out)
        | (go_at_call 9; (with_reducible refine (Hsc.out _ HS.out.below).mono ?_); rintro e w' ⟨rfl, hb⟩; have HS := hide (HS.out.call hb); obtain ⟨⟨a0, a1, a2, a3⟩, ⟨b0, b1, b2, b3⟩, ⟨c0, c1, c2, c3⟩⟩ := HF.out _ HS.out)
        | (go_at_call 11; (with_reducible refine (Hab.out _ HS.out.below).mono ?_); rintro e w' ⟨rfl, hb⟩; have HS := hide (HS.out.call hb); obtain ⟨⟨a0, a1, a2, a3⟩, ⟨b0, b1, b2, b3⟩, ⟨c0, c1, c2, c3⟩⟩ := HF.out _ HS.out)
        | (go_at_call 11; (with_reducible refine (Hbc.out _ HS.out.below).mono ?_); rintro e w' ⟨rfl, hb⟩; have HS := hide (HS.out.call hb); obtain ⟨⟨a0, a1, a2, a3⟩, ⟨b0, b1, b2, b3⟩, ⟨c0, c1, c2, c3⟩⟩ := HF.out _ HS.out)
        | (go_at_call 11; (with_reducible refine (Hac.out _ HS.out.below).mono ?_); rintro e w' ⟨rfl, hb⟩; have HS := hide (HS.out.call hb); obtain ⟨⟨a0, a1, a2, a3⟩, ⟨b0, b1, b2, b3⟩, ⟨c0, c1, c2, c3⟩⟩ := HF.out _ HS.out)
        | (go_at_call 11; (with_reducible refine (Hba.out _ HS.out.below).mono ?_); rintro e w' ⟨rfl, hb⟩; have HS := hide (HS.out.call hb); obtain ⟨⟨a0, a1, a2, a3⟩, ⟨b0, b1, b2, b3⟩, ⟨c0, c1, c2, c3⟩⟩ := HF.out _ HS.out)
        | (go_at_call 11; (with_reducible refine (Haa.out _ HS.out.below).mono ?_); rintro e w' ⟨rfl, hb⟩; have HS := hide (HS.out.call hb); obtain ⟨⟨a0, a1, a2, a3⟩, ⟨b0, b1, b2, b3⟩, ⟨c0, c1, c2, c3⟩⟩ := HF.out _ HS.out)
        | (go_at_call 12; (with_reducible refine (Hsm.out _ HS.out.below).mono ?_); rintro e w' ⟨rfl, hb⟩; have HS := hide (HS.out.call hb); obtain ⟨⟨a0, a1, a2, a3⟩, ⟨b0, b1, b2, b3⟩, ⟨c0, c1, c2, c3⟩⟩ := HF.out _ HS.out)
        | (go_at_call 10; (with_reducible refine (HAW.out _).mono ?_); rintro e w' ⟨rfl, hb⟩; have HB := hide (HS.out.below.trans (hb.mono HS.out.below.size))))
      refine wp_region_T [(0, 0), (1, 0), (3, 0), (4, 0), (6, 0), (7, 0), (2, 2), (5, 2), (8, 2), (9, 1), (10, 1), (11, 1)] (by kernel_rfl) (by kernel_rfl) (fun _ _ _ _ h => h) ?_
      have HS := hide HS.out.drew
      obtain ⟨⟨a0, a1, a2, a3⟩, ⟨b0, b1, b2, b3⟩, ⟨c0, c1, c2, c3⟩⟩ := HF.out _ HS.out
      go_wp2_with (first
        | (refine wpT_nil ?_)   | ((with_reducible refine fromT_refl ?_); (try simp only [Act.put, List.setIfInBounds_toArray, List.set_cons_zero, List.set_cons_succ, List.getElem_toArray, List.getElem_cons_succ, List.getElem_cons_zero]))   | ((with_reducible refine fromT_mk (by assumption) ?_); (try simp only [Act.put, List.setIfInBounds_toArray, List.set_cons_zero, List.set_cons_succ, List.getElem_toArray, List.getElem_cons_succ, List.getElem_cons_zero]))   | (refine wpT_pure (v := ?_) rfl rfl ?_ ?_; rotate_left; (intro wx; go_simp; try go_bits) <;> (with_reducible rfl); (try simp only [Act.put, List.setIfInBounds_toArray, List.set_cons_zero, List.set_cons_succ, List.getElem_toArray, List.getElem_cons_succ, List.getElem_cons_zero]))   | (refine wpT_load (v := ?_) rfl rfl rfl ?_ ?_; rotate_left; (go_simp; try go_bits) <;> (with_reducible rfl); (try simp only [Act.put, List.setIfInBounds_toArray, List.set_cons_zero, List.set_cons_succ, List.getElem_toArray, List.getElem_cons_succ, List.getElem_cons_zero]))   | (refine wpT_read (v := ?_) rfl rfl ?_ ?_; rotate_left; (intro wx hx; go_simp; try go_bits) <;> (with_reducible rfl); (try simp only [Act.put, List.setIfInBounds_toArray, List.set_cons_zero, List.set_cons_succ, List.getElem_toArray, List.getElem_cons_succ, List.getElem_cons_zero]))   | (refine wpT_call rfl rfl ?_; intro K hK)   | (refine wpT_late rfl rfl ?_; intro K hK)   | (refine wpT_any rfl rfl ?_; intro K hK)   | (refine wpT_skip rfl rfl ?_; (try simp only [Act.put, List.setIfInBounds_toArray, List.set_cons_zero, List.set_cons_succ, List.getElem_toArray, List.getElem_cons_succ, List.getElem_cons_zero]))
        | (go_at_call 9; (with_reducible refine (Hsa.out _ HS.out.below).mono ?_); rintro e w' ⟨rfl, hb⟩; have HS := hide (HS.out.call hb); obtain ⟨⟨a0, a1, a2, a3⟩, ⟨b0, b1, b2, b3⟩, ⟨c0, c1, c2, c3⟩⟩ := HF.out _ HS.out)
        | (go_at_call 9; (with_reducible refine (Hsb.out _ HS.out.below).mono ?_); rintro e w' ⟨rfl, hb⟩; have HS := hide (HS.out.call hb); obtain ⟨⟨a0, a1, a2, a3⟩, ⟨b0, b1, b2, b3⟩, ⟨c0, c1, c2, c3⟩⟩ := HF.out _ HS.out)
        | (go_at_call 9; (with_reducible refine (Hsc.out _ HS.out.below).mono ?_); rintro e w' ⟨rfl, hb⟩; have HS := hide (HS.out.call hb); obtain ⟨⟨a0, a1, a2, a3⟩, ⟨b0, b1, b2, b3⟩, ⟨c0, c1, c2, c3⟩⟩ := HF.out _ HS.out)
        | (go_at_call 11; (with_reducible refine (Hab.out _ HS.out.below).mono ?_); rintro e w' ⟨rfl, hb⟩; have HS := hide (HS.out.call hb); obtain ⟨⟨a0, a1, a2, a3⟩, ⟨b0, b1, b2, b3⟩, ⟨c0, c1, c2, c3⟩⟩ := HF.out _ HS.out)
        | (go_at_call 11; (with_reducible refine (Hbc.out _ HS.out.below).mono ?_); rintro e w' ⟨rfl, hb⟩; have HS := hide (HS.out.call hb); obtain ⟨⟨a0, a1, a2, a3⟩, ⟨b0, b1, b2, b3⟩, ⟨c0, c1, c2, c3⟩⟩ := HF.out _ HS.out)
        | (go_at_call 11; (with_reducible refine (Hac.out _ HS.out.below).mono ?_); rintro e w' ⟨rfl, hb⟩; have HS := hide (HS.out.call hb); obtain ⟨⟨a0, a1, a2, a3⟩, ⟨b0, b1, b2, b3⟩, ⟨c0, c1, c2, c3⟩⟩ := HF.out _ HS.out)
        | (go_at_call 11; (with_reducible refine (Hba.out _ HS.out.below).mono ?_); rintro e w' ⟨rfl, hb⟩; have HS := hide (HS.out.call hb); obtain ⟨⟨a0, a1, a2, a3⟩, ⟨b0, b1, b2, b3⟩, ⟨c0, c1, c2, c3⟩⟩ := HF.out _ HS.out)
        | (go_at_call 11; (with_reducible refine (Haa.out _ HS.out.below).mono ?_); rintro e w' ⟨rfl, hb⟩; have HS := hide (HS.out.call hb); obtain ⟨⟨a0, a1, a2, a3⟩, ⟨b0, b1, b2, b3⟩, ⟨c0, c1, c2, c3⟩⟩ := HF.out _ HS.out)
        | (go_at_call 12; (with_reducible refine (Hsm.out _ HS.out.below).mono ?_); rintro e w' ⟨rfl, hb⟩; have HS := hide (HS.out.call hb); obtain ⟨⟨a0, a1, a2, a3⟩, ⟨b0, b1, b2, b3⟩, ⟨c0, c1, c2, c3⟩⟩ := HF.out _ HS.out)
        | (go_at_call 10; (with_reducible refine (HAW.out _).mono ?_); rintro e w' ⟨rfl, hb⟩; have HB := hide (HS.out.below.trans (hb.mono HS.out.below.size))))
      go_ret
      exact ⟨rfl, HB.out⟩
    · clear o2 o3 o6 o7 hy
      go_enter Try.func3, Try.ntmps3
      go_wp2_with (first
        | (go_at_call 9; (with_reducible refine (Hsa.out _ HS.out.below).mono ?_); rintro e w' ⟨rfl, hb⟩; have HS := hide (HS.out.call hb); obtain ⟨⟨a0, a1, a2, a3⟩, ⟨b0, b1, b2, b3⟩, ⟨c0, c1, c2, c3⟩⟩ := HF.out _ HS.out)
        | (go_at_call 9; (with_reducible refine (Hsb.out _ HS.out.below).mono ?_); rintro e w' ⟨rfl, hb⟩; have HS := hide (HS.out.call hb); obtain ⟨⟨a0, a1, a2, a3⟩, ⟨b0, b1, b2, b3⟩, ⟨c0, c1, c2, c3⟩⟩ := HF.out _ HS.out)
        | (go_at_call 9; (with_reducible refine (Hsc.out _ HS.out.below).mono ?_); rintro e w' ⟨rfl, hb⟩; have HS := hide (HS.out.call hb); obtain ⟨⟨a0, a1, a2, a3⟩, ⟨b0, b1, b2, b3⟩, ⟨c0, c1, c2, c3⟩⟩ := HF.out _ HS.out)
        | (go_at_call 11; (with_reducible refine (Hab.out _ HS.out.below).mono ?_); rintro e w' ⟨rfl, hb⟩; have HS := hide (HS.out.call hb); obtain ⟨⟨a0, a1, a2, a3⟩, ⟨b0, b1, b2, b3⟩, ⟨c0, c1, c2, c3⟩⟩ := HF.out _ HS.out)
        | (go_at_call 11; (with_reducible refine (Hbc.out _ HS.out.below).mono ?_); rintro e w' ⟨rfl, hb⟩; have HS := hide (HS.out.call hb); obtain ⟨⟨a0, a1, a2, a3⟩, ⟨b0, b1, b2, b3⟩, ⟨c0, c1, c2, c3⟩⟩ := HF.out _ HS.out)
        | (go_at_call 11; (with_reducible refine (Hac.out _ HS.out.below).mono ?_); rintro e w' ⟨rfl, hb⟩; have HS := hide (HS.out.call hb); obtain ⟨⟨a0, a1, a2, a3⟩, ⟨b0, b1, b2, b3⟩, ⟨c0, c1, c2, c3⟩⟩ := HF.out _ HS.out)
        | (go_at_call 11; (with_reducible refine (Hba.out _ HS.out.below).mono ?_); rintro e w' ⟨rfl, hb⟩; have HS := hide (HS.out.call hb); obtain ⟨⟨a0, a1, a2, a3⟩, ⟨b0, b1, b2, b3⟩, ⟨c0, c1, c2, c3⟩⟩ := HF.out _ HS.out)
        | (go_at_call 11; (with_reducible refine (Haa.out _ HS.out.below).mono ?_); rintro e w' ⟨rfl, hb⟩; have HS := hide (HS.out.call hb); obtain ⟨⟨a0, a1, a2, a3⟩, ⟨b0, b1, b2, b3⟩, ⟨c0, c1, c2, c3⟩⟩ := HF.out _ HS.out)
        | (go_at_call 12; (with_reducible refine (Hsm.out _ HS.out.below).mono ?_); rintro e w' ⟨rfl, hb⟩; have HS := hide (HS.out.call hb); obtain ⟨⟨a0, a1, a2, a3⟩, ⟨b0, b1, b2, b3⟩, ⟨c0, c1, c2, c3⟩⟩ := HF.out _ HS.out)
        | (go_at_call 10; (with_reducible refine (HAW.out _).mono ?_); rintro e w' ⟨rfl, hb⟩; have HB := hide (HS.out.below.trans (hb.mono HS.out.below.size))))
      refine wp_region_T [(0, 0), (1, 0), (3, 0), (4, 0), (6, 0), (7, 0), (2, 2), (5, 2), (8, 2), (9, 1), (10, 1), (11, 1)] (by kernel_rfl) (by kernel_rfl) (fun _ _ _ _ h => h) ?_
      have HS := hide HS.out.drew
      obtain ⟨⟨a0, a1, a2, a3⟩, ⟨b0, b1, b2, b3⟩, ⟨c0, c1, c2, c3⟩⟩ := HF.out _ HS.out
      go_wp2_with (first
        | (refine wpT_nil ?_)   | ((with_reducible refine fromT_refl ?_); (try simp only [Act.put, List.setIfInBounds_toArray, List.set_cons_zero, List.set_cons_succ, List.getElem_toArray, List.getElem_cons_succ, List.getElem_cons_zero]))   | ((with_reducible refine fromT_mk (by assumption) ?_); (try simp only [Act.put, List.setIfInBounds_toArray, List.set_cons_zero, List.set_cons_succ, List.getElem_toArray, List.getElem_cons_succ, List.getElem_cons_zero]))   | (refine wpT_pure (v := ?_) rfl rfl ?_ ?_; rotate_left; (intro wx; go_simp; try go_bits) <;> (with_reducible rfl); (try simp only [Act.put, List.setIfInBounds_toArray, List.set_cons_zero, List.set_cons_succ, List.getElem_toArray, List.getElem_cons_succ, List.getElem_cons_zero]))   | (refine wpT_load (v := ?_) rfl rfl rfl ?_ ?_; rotate_left; (go_simp; try go_bits) <;> (with_reducible rfl); (try simp only [Act.put, List.setIfInBounds_toArray, List.set_cons_zero, List.set_cons_succ, List.getElem_toArray, List.getElem_cons_succ, List.getElem_cons_zero]))   | (refine wpT_read (v := ?_) rfl rfl ?_ ?_; rotate_left; (intro wx hx; go_simp; try go_bits) <;> (with_reducible rfl); (try simp only [Act.put, List.setIfInBounds_toArray, List.set_cons_zero, List.set_cons_succ, List.getElem_toArray, List.getElem_cons_succ, List.getElem_cons_zero]))   | (refine wpT_call rfl rfl ?_; intro K hK)   | (refine wpT_late rfl rfl ?_; intro K hK)   | (refine wpT_any rfl rfl ?_; intro K hK)   | (refine wpT_skip rfl rfl ?_; (try simp only [Act.put, List.setIfInBounds_toArray, List.set_cons_zero, List.set_cons_succ, List.getElem_toArray, List.getElem_cons_succ, List.getElem_cons_zero]))
        | (go_at_call 9; (with_reducible refine (Hsa.out _ HS.out.below).mono ?_); rintro e w' ⟨rfl, hb⟩; have HS := hide (HS.out.call hb); obtain ⟨⟨a0, a1, a2, a3⟩, ⟨b0, b1, b2, b3⟩, ⟨c0, c1, c2, c3⟩⟩ := HF.out _ HS.out)
        | (go_at_call 9; (with_reducible refine (Hsb.out _ HS.out.below).mono ?_); rintro e w' ⟨rfl, hb⟩; have HS := hide (HS.out.call hb); obtain ⟨⟨a0, a1, a2, a3⟩, ⟨b0, b1, b2, b3⟩, ⟨c0, c1, c2, c3⟩⟩ := HF.out _ HS.out)
        | (go_at_call 9; (with_reducible refine (Hsc.out _ HS.out.below).mono ?_); rintro e w' ⟨rfl, hb⟩; have HS := hide (HS.out.call hb); obtain ⟨⟨a0, a1, a2, a3⟩, ⟨b0, b1, b2, b3⟩, ⟨c0, c1, c2, c3⟩⟩ := HF.out _ HS.out)
        | (go_at_call 11; (with_reducible refine (Hab.out _ HS.out.below).mono ?_); rintro e w' ⟨rfl, hb⟩; have HS := hide (HS.out.call hb); obtain ⟨⟨a0, a1, a2, a3⟩, ⟨b0, b1, b2, b3⟩, ⟨c0, c1, c2, c3⟩⟩ := HF.out _ HS.out)
        | (go_at_call 11; (with_reducible refine (Hbc.out _ HS.out.below).mono ?_); rintro e w' ⟨rfl, hb⟩; have HS := hide (HS.out.call hb); obtain ⟨⟨a0, a1, a2, a3⟩, ⟨b0, b1, b2, b3⟩, ⟨c0, c1, c2, c3⟩⟩ := HF.out _ HS.out)
        | (go_at_call 11; (with_reducible refine (Hac.out _ HS.out.below).mono ?_); rintro e w' ⟨rfl, hb⟩; have HS := hide (HS.out.call hb); obtain ⟨⟨a0, a1, a2, a3⟩, ⟨b0, b1, b2, b3⟩, ⟨c0, c1, c2, c3⟩⟩ := HF.out _ HS.out)
        | (go_at_call 11; (with_reducible refine (Hba.out _ HS.out.below).mono ?_); rintro e w' ⟨rfl, hb⟩; have HS := hide (HS.out.call hb); obtain ⟨⟨a0, a1, a2, a3⟩, ⟨b0, b1, b2, b3⟩, ⟨c0, c1, c2, c3⟩⟩ := HF.out _ HS.out)
        | (go_at_call 11; (with_reducible refine (Haa.out _ HS.out.below).mono ?_); rintro e w' ⟨rfl, hb⟩; have HS := hide (HS.out.call hb); obtain ⟨⟨a0, a1, a2, a3⟩, ⟨b0, b1, b2, b3⟩, ⟨c0, c1, c2, c3⟩⟩ := HF.out _ HS.out)
        | (go_at_call 12; (with_reducible refine (Hsm.out _ HS.out.below).mono ?_); rintro e w' ⟨rfl, hb⟩; have HS := hide (HS.out.call hb); obtain ⟨⟨a0, a1, a2, a3⟩, ⟨b0, b1, b2, b3⟩, ⟨c0, c1, c2, c3⟩⟩ := HF.out _ HS.out)
        | (go_at_call 10; (with_reducible refine (HAW.out _).mono ?_); rintro e w' ⟨rfl, hb⟩; have HB := hide (HS.out.below.trans (hb.mono HS.out.below.size))))
      go_ret
      exact ⟨rfl, HB.out⟩
end Go.Proofs.Ytjamoifenkdneaa
