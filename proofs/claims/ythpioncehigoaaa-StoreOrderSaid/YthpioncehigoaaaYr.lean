/-
  Layer 18: the walks of StoreNil and StoreOrder.
-/
import Derived.Test.YthpioncehigoaaaYp
namespace Go.Proofs.Ythpioncehigoaaa
open Go.RowKit
set_option linter.unusedSimpArgs false

set_option maxRecDepth 100000 in
set_option maxHeartbeats 800000 in
theorem storeNil_walk (f : Fc) (s : List UInt8) (n : Int) (w : World) (hf : FcOK w f) :
    Calls Try.prog 6 #[f.val, .string (strOf s), .int .i64 n] w fun e w' => e = .returned (.bool true) ∧ Below w.heap.size w w' := by
  have hS0 := (St.init w NoB).alloc #[.string (strOf f.name), .slice f.A f.ts.length f.c, .int .u32 f.o] 27
  have hr := rd_new (w.alloc (.cells #[.string (strOf f.name), .slice f.A f.ts.length f.c, .int .u32 f.o] 27)) f.cells 27 3 1 rfl (by decide)
  have hc : f.cells = fcCells [f] := by unfold fcCells; simp
  rw [hc] at hr
  have HFW := hide (few18_any (.slice (some ⟨w.heap.size + 1, 0, none⟩) 1 1) [f] ((w.alloc (.cells #[.string (strOf f.name), .slice f.A f.ts.length f.c, .int .u32 f.o] 27)).alloc (.cells #[.string (strOf f.name), .slice f.A f.ts.length f.c, .int .u32 f.o] 27)) ⟨by rw [← hc] at hr ⊢; rw [size_alloc1] at hr; exact hr, fun x hx => by rw [List.mem_singleton.1 hx]; exact hf.on (((Below.refl _ _).al _).al _)⟩ (by simp))
  have HAW := hide (fun W => awake18_any W)
  have HA := hide (fun W => add_nil f W)
  have HH := hide (fun W => has_nil f W)
  have HL := hide (fun W => len_nil W)
  have HAL := hide (fun W => all_nil W)
  have HN := hide (fun W => named_nil s n W)
  have HS := hide hS0
  clear hS0 hr hc hf
  generalize fewF 0 [f] = b at HFW
  unfold Fc.val Fc.row at *
  have a0 := HS.out.cell 0 rfl 0
  have a1 := HS.out.cell 0 rfl 1
  have a2 := HS.out.cell 0 rfl 2
  cases b with
  | false =>
    go_enter Try.func6, Try.ntmps6
    go_wp2_with (first
      | (go_at_call 9; (with_reducible refine HFW.out.mono ?_); rintro e w1 ⟨rfl, hb⟩; have HS := hide ((HS.out.skip _).call hb))
      | (go_at_call 10; (with_reducible refine (HAW.out _).mono ?_); rintro e w' ⟨rfl, hb⟩; have HB := hide (HS.out.below.trans (hb.mono HS.out.below.size))))
    go_ret
    exact ⟨rfl, HB.out⟩
  | true =>
    go_enter Try.func6, Try.ntmps6
    go_wp2_with (first
      | (go_at_call 9; (with_reducible refine HFW.out.mono ?_); rintro e w1 ⟨rfl, hb⟩; have HS := hide ((HS.out.skip _).call hb); have a0 := HS.out.cell 0 rfl 0; have a1 := HS.out.cell 0 rfl 1; have a2 := HS.out.cell 0 rfl 2)
      | (go_at_call 20; (with_reducible refine (HA.out _).mono ?_); rintro e w2 ⟨rfl, hb⟩; have HS := hide (HS.out.call hb); have a0 := HS.out.cell 0 rfl 0; have a1 := HS.out.cell 0 rfl 1; have a2 := HS.out.cell 0 rfl 2)
      | (go_at_call 17; (with_reducible refine (HH.out _).mono ?_); rintro e w3 ⟨rfl, hb⟩; have HS := hide (HS.out.call hb))
      | (go_at_call 15; (with_reducible refine (HL.out _).mono ?_); rintro e w4 ⟨rfl, rfl⟩)
      | (go_at_call 13; (with_reducible refine (HAL.out _).mono ?_); rintro e w5 ⟨rfl, rfl⟩)
      | (go_at_call 23; (with_reducible refine (HN.out _).mono ?_); rintro e w6 ⟨rfl, hb⟩; have HS := hide (HS.out.call hb))
      | (go_at_call 10; (with_reducible refine (HAW.out _).mono ?_); rintro e w' ⟨rfl, hb⟩; have HB := hide (HS.out.below.trans (hb.mono HS.out.below.size))))
    go_ret
    exact ⟨rfl, HB.out⟩
set_option maxRecDepth 100000 in
set_option maxHeartbeats 1600000 in
theorem storeOrder_walk (a b c : Fc) (w : World) (ha : FcOK w a) (hb : FcOK w b) (hc : FcOK w c) :
    Calls Try.prog 3 #[a.val, b.val, c.val] w fun e w' => e = .returned (.bool true) ∧ Below w.heap.size w w' := by
  have hS0 := (((St.init w NoB).alloc #[.string (strOf a.name), .slice a.A a.ts.length a.c, .int .u32 a.o] 27).alloc #[.string (strOf b.name), .slice b.A b.ts.length b.c, .int .u32 b.o] 27).alloc #[.string (strOf c.name), .slice c.A c.ts.length c.c, .int .u32 c.o] 27
  rw [size_alloc1, size_alloc1] at hS0
  have hr := rd_new (((w.alloc (.cells #[.string (strOf a.name), .slice a.A a.ts.length a.c, .int .u32 a.o] 27)).alloc (.cells #[.string (strOf b.name), .slice b.A b.ts.length b.c, .int .u32 b.o] 27)).alloc (.cells #[.string (strOf c.name), .slice c.A c.ts.length c.c, .int .u32 c.o] 27)) (fcCells [a, b, c]) 27 3 3 rfl (by decide)
  have HFW := hide (few18_any (.slice (some ⟨w.heap.size + 1 + 1 + 1, 0, none⟩) 3 3) [a, b, c] _ ⟨by rw [size_alloc1, size_alloc1, size_alloc1] at hr; exact hr, fun x hx => by
    have hbl : Below w.heap.size w ((((w.alloc (.cells #[.string (strOf a.name), .slice a.A a.ts.length a.c, .int .u32 a.o] 27)).alloc (.cells #[.string (strOf b.name), .slice b.A b.ts.length b.c, .int .u32 b.o] 27)).alloc (.cells #[.string (strOf c.name), .slice c.A c.ts.length c.c, .int .u32 c.o] 27)).alloc (.cells (fcCells [a, b, c]).toArray 27)) := ((((Below.refl _ _).al _).al _).al _).al _
    simp only [List.mem_cons, List.not_mem_nil, or_false] at hx
    rcases hx with rfl | rfl | rfl
    · exact ha.on hbl
    · exact hb.on hbl
    · exact hc.on hbl⟩ (by simp))
  have HAW := hide (fun W => awake18_any W)
  have Hab := hide (fun W (h : Below w.heap.size w W) => cmpFc_any a b W (ha.on h) (hb.on h))
  have Hbc := hide (fun W (h : Below w.heap.size w W) => cmpFc_any b c W (hb.on h) (hc.on h))
  have Hac := hide (fun W (h : Below w.heap.size w W) => cmpFc_any a c W (ha.on h) (hc.on h))
  have Hba := hide (fun W (h : Below w.heap.size w W) => cmpFc_any b a W (hb.on h) (ha.on h))
  have Haa := hide (fun W (h : Below w.heap.size w W) => cmpFc_any a a W (ha.on h) (ha.on h))
  have o1 := cmpF_ord.tri a b
  have o2 := cmpF_ord.tri b c
  have o3 := cmpF_ord.tri a c
  have o4 := cmpF_ord.anti b a
  have o5 := cmpF_ord.self a
  have o6 := cmpF_ord.lt a b c
  have o7 := cmpF_ord.lt' a b c
  rw [o4] at Hba
  rw [o5] at Haa
  have HS := hide hS0
  have ec : (fcCells [a, b, c]).toArray = #[.string (strOf a.name), .slice a.A a.ts.length a.c, .int .u32 a.o, .string (strOf b.name), .slice b.A b.ts.length b.c, .int .u32 b.o, .string (strOf c.name), .slice c.A c.ts.length c.c, .int .u32 c.o] := rfl
  rw [ec] at HFW
  clear hS0 hr ha hb hc o4 o5 ec
  generalize cmpF a b = x at *
  generalize cmpF b c = y at *
  generalize cmpF a c = z at *
  generalize fewF 0 [a, b, c] = few at HFW
  unfold Fc.val Fc.row at *
  have a0 := HS.out.cell 2 rfl 0
  have a1 := HS.out.cell 2 rfl 1
  have a2 := HS.out.cell 2 rfl 2
  have b0 := HS.out.cell 1 rfl 0
  have b1 := HS.out.cell 1 rfl 1
  have b2 := HS.out.cell 1 rfl 2
  have c0 := HS.out.cell 0 rfl 0
  have c1 := HS.out.cell 0 rfl 1
  have c2 := HS.out.cell 0 rfl 2
  cases few with
  | false =>
    go_enter Try.func3, Try.ntmps3
    go_wp2_with (first
      | (go_at_call 9; (with_reducible refine HFW.out.mono ?_); rintro e w1 ⟨rfl, hb⟩; have HS := hide ((HS.out.skip _).call hb))
      | (go_at_call 10; (with_reducible refine (HAW.out _).mono ?_); rintro e w' ⟨rfl, hb⟩; have HB := hide (HS.out.below.trans (hb.mono HS.out.below.size))))
    go_ret
    exact ⟨rfl, HB.out⟩
  | true =>
    by_cases hy : 0 < y
    · have dy : decide (0 < y) = true := decide_eq_true hy
      clear o2 o3 o6 o7 hy
      rcases o1 with rfl | rfl | rfl
      all_goals
        go_enter Try.func3, Try.ntmps3
        go_wp2_with (go_at_call 9; (with_reducible refine HFW.out.mono ?_); rintro e w1 ⟨rfl, hb⟩; have HS := hide ((HS.out.skip _).call hb); have a0 := HS.out.cell 2 rfl 0; have a1 := HS.out.cell 2 rfl 1; have a2 := HS.out.cell 2 rfl 2; have b0 := HS.out.cell 1 rfl 0; have b1 := HS.out.cell 1 rfl 1; have b2 := HS.out.cell 1 rfl 2; have c0 := HS.out.cell 0 rfl 0; have c1 := HS.out.cell 0 rfl 1; have c2 := HS.out.cell 0 rfl 2)
        refine wp_region_T [(0, 0), (1, 0), (3, 0), (4, 0), (6, 0), (7, 0), (2, 2), (5, 2), (8, 2), (9, 1), (10, 1), (11, 1)] (by kernel_rfl) (by kernel_rfl) (fun _ _ _ _ h => h) ?_
        have HS := hide HS.out.drew
        have a0 := HS.out.cell 2 rfl 0
        have a1 := HS.out.cell 2 rfl 1
        have a2 := HS.out.cell 2 rfl 2
        have b0 := HS.out.cell 1 rfl 0
        have b1 := HS.out.cell 1 rfl 1
        have b2 := HS.out.cell 1 rfl 2
        have c0 := HS.out.cell 0 rfl 0
        have c1 := HS.out.cell 0 rfl 1
        have c2 := HS.out.cell 0 rfl 2
        go_wp2_with (first
          | (refine wpT_nil ?_)   | ((with_reducible refine fromT_refl ?_); (try simp only [Act.put, List.setIfInBounds_toArray, List.set_cons_zero, List.set_cons_succ, List.getElem_toArray, List.getElem_cons_succ, List.getElem_cons_zero]))   | ((with_reducible refine fromT_mk (by assumption) ?_); (try simp only [Act.put, List.setIfInBounds_toArray, List.set_cons_zero, List.set_cons_succ, List.getElem_toArray, List.getElem_cons_succ, List.getElem_cons_zero]))   | (refine wpT_pure (v := ?_) rfl rfl ?_ ?_; rotate_left; (intro wx; go_simp; try go_bits) <;> (with_reducible rfl); (try simp only [Act.put, List.setIfInBounds_toArray, List.set_cons_zero, List.set_cons_succ, List.getElem_toArray, List.getElem_cons_succ, List.getElem_cons_zero]))   | (refine wpT_load (v := ?_) rfl rfl rfl ?_ ?_; rotate_left; (go_simp; try go_bits) <;> (with_reducible rfl); (try simp only [Act.put, List.setIfInBounds_toArray, List.set_cons_zero, List.set_cons_succ, List.getElem_toArray, List.getElem_cons_succ, List.getElem_cons_zero]))   | (refine wpT_read (v := ?_) rfl rfl ?_ ?_; rotate_left; (intro wx hx; go_simp; try go_bits) <;> (with_reducible rfl); (try simp only [Act.put, List.setIfInBounds_toArray, List.set_cons_zero, List.set_cons_succ, List.getElem_toArray, List.getElem_cons_succ, List.getElem_cons_zero]))   | (refine wpT_call rfl rfl ?_; intro K hK)   | (refine wpT_late rfl rfl ?_; intro K hK)   | (refine wpT_any rfl rfl ?_; intro K hK)   | (refine wpT_skip rfl rfl ?_; (try simp only [Act.put, List.setIfInBounds_toArray, List.set_cons_zero, List.set_cons_succ, List.getElem_toArray, List.getElem_cons_succ, List.getElem_cons_zero]))
            | (go_at_call 11; (with_reducible refine (Hab.out _ HS.out.below).mono ?_); rintro e w' ⟨rfl, hb⟩; have HS := hide (HS.out.call hb); have a0 := HS.out.cell 2 rfl 0; have a1 := HS.out.cell 2 rfl 1; have a2 := HS.out.cell 2 rfl 2; have b0 := HS.out.cell 1 rfl 0; have b1 := HS.out.cell 1 rfl 1; have b2 := HS.out.cell 1 rfl 2; have c0 := HS.out.cell 0 rfl 0; have c1 := HS.out.cell 0 rfl 1; have c2 := HS.out.cell 0 rfl 2)
          | (go_at_call 11; (with_reducible refine (Hbc.out _ HS.out.below).mono ?_); rintro e w' ⟨rfl, hb⟩; have HS := hide (HS.out.call hb); have a0 := HS.out.cell 2 rfl 0; have a1 := HS.out.cell 2 rfl 1; have a2 := HS.out.cell 2 rfl 2; have b0 := HS.out.cell 1 rfl 0; have b1 := HS.out.cell 1 rfl 1; have b2 := HS.out.cell 1 rfl 2; have c0 := HS.out.cell 0 rfl 0; have c1 := HS.out.cell 0 rfl 1; have c2 := HS.out.cell 0 rfl 2)
          | (go_at_call 11; (with_reducible refine (Hac.out _ HS.out.below).mono ?_); rintro e w' ⟨rfl, hb⟩; have HS := hide (HS.out.call hb); have a0 := HS.out.cell 2 rfl 0; have a1 := HS.out.cell 2 rfl 1; have a2 := HS.out.cell 2 rfl 2; have b0 := HS.out.cell 1 rfl 0; have b1 := HS.out.cell 1 rfl 1; have b2 := HS.out.cell 1 rfl 2; have c0 := HS.out.cell 0 rfl 0; have c1 := HS.out.cell 0 rfl 1; have c2 := HS.out.cell 0 rfl 2)
          | (go_at_call 11; (with_reducible refine (Hba.out _ HS.out.below).mono ?_); rintro e w' ⟨rfl, hb⟩; have HS := hide (HS.out.call hb); have a0 := HS.out.cell 2 rfl 0; have a1 := HS.out.cell 2 rfl 1; have a2 := HS.out.cell 2 rfl 2; have b0 := HS.out.cell 1 rfl 0; have b1 := HS.out.cell 1 rfl 1; have b2 := HS.out.cell 1 rfl 2; have c0 := HS.out.cell 0 rfl 0; have c1 := HS.out.cell 0 rfl 1; have c2 := HS.out.cell 0 rfl 2)
          | (go_at_call 11; (with_reducible refine (Haa.out _ HS.out.below).mono ?_); rintro e w' ⟨rfl, hb⟩; have HS := hide (HS.out.call hb); have a0 := HS.out.cell 2 rfl 0; have a1 := HS.out.cell 2 rfl 1; have a2 := HS.out.cell 2 rfl 2; have b0 := HS.out.cell 1 rfl 0; have b1 := HS.out.cell 1 rfl 1; have b2 := HS.out.cell 1 rfl 2; have c0 := HS.out.cell 0 rfl 0; have c1 := HS.out.cell 0 rfl 1; have c2 := HS.out.cell 0 rfl 2)
          | (go_at_call 10; (with_reducible refine (HAW.out _).mono ?_); rintro e w' ⟨rfl, hb⟩; have HB := hide (HS.out.below.trans (hb.mono HS.out.below.size))))
        go_ret
        exact ⟨rfl, HB.out⟩

    · have dy : decide (0 < y) = false := decide_eq_false hy
      rcases o1 with rfl | rfl | rfl
      · have dz1 : decide (z ≤ 0) = true := decide_eq_true (by omega)
        have dz2 : decide (z < 0) = true := decide_eq_true (by omega)
        clear o2 o3 o6 o7 hy
        go_enter Try.func3, Try.ntmps3
        go_wp2_with (go_at_call 9; (with_reducible refine HFW.out.mono ?_); rintro e w1 ⟨rfl, hb⟩; have HS := hide ((HS.out.skip _).call hb); have a0 := HS.out.cell 2 rfl 0; have a1 := HS.out.cell 2 rfl 1; have a2 := HS.out.cell 2 rfl 2; have b0 := HS.out.cell 1 rfl 0; have b1 := HS.out.cell 1 rfl 1; have b2 := HS.out.cell 1 rfl 2; have c0 := HS.out.cell 0 rfl 0; have c1 := HS.out.cell 0 rfl 1; have c2 := HS.out.cell 0 rfl 2)
        refine wp_region_T [(0, 0), (1, 0), (3, 0), (4, 0), (6, 0), (7, 0), (2, 2), (5, 2), (8, 2), (9, 1), (10, 1), (11, 1)] (by kernel_rfl) (by kernel_rfl) (fun _ _ _ _ h => h) ?_
        have HS := hide HS.out.drew
        have a0 := HS.out.cell 2 rfl 0
        have a1 := HS.out.cell 2 rfl 1
        have a2 := HS.out.cell 2 rfl 2
        have b0 := HS.out.cell 1 rfl 0
        have b1 := HS.out.cell 1 rfl 1
        have b2 := HS.out.cell 1 rfl 2
        have c0 := HS.out.cell 0 rfl 0
        have c1 := HS.out.cell 0 rfl 1
        have c2 := HS.out.cell 0 rfl 2
        go_wp2_with (first
          | (refine wpT_nil ?_)   | ((with_reducible refine fromT_refl ?_); (try simp only [Act.put, List.setIfInBounds_toArray, List.set_cons_zero, List.set_cons_succ, List.getElem_toArray, List.getElem_cons_succ, List.getElem_cons_zero]))   | ((with_reducible refine fromT_mk (by assumption) ?_); (try simp only [Act.put, List.setIfInBounds_toArray, List.set_cons_zero, List.set_cons_succ, List.getElem_toArray, List.getElem_cons_succ, List.getElem_cons_zero]))   | (refine wpT_pure (v := ?_) rfl rfl ?_ ?_; rotate_left; (intro wx; go_simp; try go_bits) <;> (with_reducible rfl); (try simp only [Act.put, List.setIfInBounds_toArray, List.set_cons_zero, List.set_cons_succ, List.getElem_toArray, List.getElem_cons_succ, List.getElem_cons_zero]))   | (refine wpT_load (v := ?_) rfl rfl rfl ?_ ?_; rotate_left; (go_simp; try go_bits) <;> (with_reducible rfl); (try simp only [Act.put, List.setIfInBounds_toArray, List.set_cons_zero, List.set_cons_succ, List.getElem_toArray, List.getElem_cons_succ, List.getElem_cons_zero]))   | (refine wpT_read (v := ?_) rfl rfl ?_ ?_; rotate_left; (intro wx hx; go_simp; try go_bits) <;> (with_reducible rfl); (try simp only [Act.put, List.setIfInBounds_toArray, List.set_cons_zero, List.set_cons_succ, List.getElem_toArray, List.getElem_cons_succ, List.getElem_cons_zero]))   | (refine wpT_call rfl rfl ?_; intro K hK)   | (refine wpT_late rfl rfl ?_; intro K hK)   | (refine wpT_any rfl rfl ?_; intro K hK)   | (refine wpT_skip rfl rfl ?_; (try simp only [Act.put, List.setIfInBounds_toArray, List.set_cons_zero, List.set_cons_succ, List.getElem_toArray, List.getElem_cons_succ, List.getElem_cons_zero]))
            | (go_at_call 11; (with_reducible refine (Hab.out _ HS.out.below).mono ?_); rintro e w' ⟨rfl, hb⟩; have HS := hide (HS.out.call hb); have a0 := HS.out.cell 2 rfl 0; have a1 := HS.out.cell 2 rfl 1; have a2 := HS.out.cell 2 rfl 2; have b0 := HS.out.cell 1 rfl 0; have b1 := HS.out.cell 1 rfl 1; have b2 := HS.out.cell 1 rfl 2; have c0 := HS.out.cell 0 rfl 0; have c1 := HS.out.cell 0 rfl 1; have c2 := HS.out.cell 0 rfl 2)
          | (go_at_call 11; (with_reducible refine (Hbc.out _ HS.out.below).mono ?_); rintro e w' ⟨rfl, hb⟩; have HS := hide (HS.out.call hb); have a0 := HS.out.cell 2 rfl 0; have a1 := HS.out.cell 2 rfl 1; have a2 := HS.out.cell 2 rfl 2; have b0 := HS.out.cell 1 rfl 0; have b1 := HS.out.cell 1 rfl 1; have b2 := HS.out.cell 1 rfl 2; have c0 := HS.out.cell 0 rfl 0; have c1 := HS.out.cell 0 rfl 1; have c2 := HS.out.cell 0 rfl 2)
          | (go_at_call 11; (with_reducible refine (Hac.out _ HS.out.below).mono ?_); rintro e w' ⟨rfl, hb⟩; have HS := hide (HS.out.call hb); have a0 := HS.out.cell 2 rfl 0; have a1 := HS.out.cell 2 rfl 1; have a2 := HS.out.cell 2 rfl 2; have b0 := HS.out.cell 1 rfl 0; have b1 := HS.out.cell 1 rfl 1; have b2 := HS.out.cell 1 rfl 2; have c0 := HS.out.cell 0 rfl 0; have c1 := HS.out.cell 0 rfl 1; have c2 := HS.out.cell 0 rfl 2)
          | (go_at_call 11; (with_reducible refine (Hba.out _ HS.out.below).mono ?_); rintro e w' ⟨rfl, hb⟩; have HS := hide (HS.out.call hb); have a0 := HS.out.cell 2 rfl 0; have a1 := HS.out.cell 2 rfl 1; have a2 := HS.out.cell 2 rfl 2; have b0 := HS.out.cell 1 rfl 0; have b1 := HS.out.cell 1 rfl 1; have b2 := HS.out.cell 1 rfl 2; have c0 := HS.out.cell 0 rfl 0; have c1 := HS.out.cell 0 rfl 1; have c2 := HS.out.cell 0 rfl 2)
          | (go_at_call 11; (with_reducible refine (Haa.out _ HS.out.below).mono ?_); rintro e w' ⟨rfl, hb⟩; have HS := hide (HS.out.call hb); have a0 := HS.out.cell 2 rfl 0; have a1 := HS.out.cell 2 rfl 1; have a2 := HS.out.cell 2 rfl 2; have b0 := HS.out.cell 1 rfl 0; have b1 := HS.out.cell 1 rfl 1; have b2 := HS.out.cell 1 rfl 2; have c0 := HS.out.cell 0 rfl 0; have c1 := HS.out.cell 0 rfl 1; have c2 := HS.out.cell 0 rfl 2)
          | (go_at_call 10; (with_reducible refine (HAW.out _).mono ?_); rintro e w' ⟨rfl, hb⟩; have HB := hide (HS.out.below.trans (hb.mono HS.out.below.size))))
        go_ret
        exact ⟨rfl, HB.out⟩

      · have dz1 : decide (z ≤ 0) = true := decide_eq_true (by omega)
        clear o2 o3 o6 o7 hy
        go_enter Try.func3, Try.ntmps3
        go_wp2_with (go_at_call 9; (with_reducible refine HFW.out.mono ?_); rintro e w1 ⟨rfl, hb⟩; have HS := hide ((HS.out.skip _).call hb); have a0 := HS.out.cell 2 rfl 0; have a1 := HS.out.cell 2 rfl 1; have a2 := HS.out.cell 2 rfl 2; have b0 := HS.out.cell 1 rfl 0; have b1 := HS.out.cell 1 rfl 1; have b2 := HS.out.cell 1 rfl 2; have c0 := HS.out.cell 0 rfl 0; have c1 := HS.out.cell 0 rfl 1; have c2 := HS.out.cell 0 rfl 2)
        refine wp_region_T [(0, 0), (1, 0), (3, 0), (4, 0), (6, 0), (7, 0), (2, 2), (5, 2), (8, 2), (9, 1), (10, 1), (11, 1)] (by kernel_rfl) (by kernel_rfl) (fun _ _ _ _ h => h) ?_
        have HS := hide HS.out.drew
        have a0 := HS.out.cell 2 rfl 0
        have a1 := HS.out.cell 2 rfl 1
        have a2 := HS.out.cell 2 rfl 2
        have b0 := HS.out.cell 1 rfl 0
        have b1 := HS.out.cell 1 rfl 1
        have b2 := HS.out.cell 1 rfl 2
        have c0 := HS.out.cell 0 rfl 0
        have c1 := HS.out.cell 0 rfl 1
        have c2 := HS.out.cell 0 rfl 2
        go_wp2_with (first
          | (refine wpT_nil ?_)   | ((with_reducible refine fromT_refl ?_); (try simp only [Act.put, List.setIfInBounds_toArray, List.set_cons_zero, List.set_cons_succ, List.getElem_toArray, List.getElem_cons_succ, List.getElem_cons_zero]))   | ((with_reducible refine fromT_mk (by assumption) ?_); (try simp only [Act.put, List.setIfInBounds_toArray, List.set_cons_zero, List.set_cons_succ, List.getElem_toArray, List.getElem_cons_succ, List.getElem_cons_zero]))   | (refine wpT_pure (v := ?_) rfl rfl ?_ ?_; rotate_left; (intro wx; go_simp; try go_bits) <;> (with_reducible rfl); (try simp only [Act.put, List.setIfInBounds_toArray, List.set_cons_zero, List.set_cons_succ, List.getElem_toArray, List.getElem_cons_succ, List.getElem_cons_zero]))   | (refine wpT_load (v := ?_) rfl rfl rfl ?_ ?_; rotate_left; (go_simp; try go_bits) <;> (with_reducible rfl); (try simp only [Act.put, List.setIfInBounds_toArray, List.set_cons_zero, List.set_cons_succ, List.getElem_toArray, List.getElem_cons_succ, List.getElem_cons_zero]))   | (refine wpT_read (v := ?_) rfl rfl ?_ ?_; rotate_left; (intro wx hx; go_simp; try go_bits) <;> (with_reducible rfl); (try simp only [Act.put, List.setIfInBounds_toArray, List.set_cons_zero, List.set_cons_succ, List.getElem_toArray, List.getElem_cons_succ, List.getElem_cons_zero]))   | (refine wpT_call rfl rfl ?_; intro K hK)   | (refine wpT_late rfl rfl ?_; intro K hK)   | (refine wpT_any rfl rfl ?_; intro K hK)   | (refine wpT_skip rfl rfl ?_; (try simp only [Act.put, List.setIfInBounds_toArray, List.set_cons_zero, List.set_cons_succ, List.getElem_toArray, List.getElem_cons_succ, List.getElem_cons_zero]))
            | (go_at_call 11; (with_reducible refine (Hab.out _ HS.out.below).mono ?_); rintro e w' ⟨rfl, hb⟩; have HS := hide (HS.out.call hb); have a0 := HS.out.cell 2 rfl 0; have a1 := HS.out.cell 2 rfl 1; have a2 := HS.out.cell 2 rfl 2; have b0 := HS.out.cell 1 rfl 0; have b1 := HS.out.cell 1 rfl 1; have b2 := HS.out.cell 1 rfl 2; have c0 := HS.out.cell 0 rfl 0; have c1 := HS.out.cell 0 rfl 1; have c2 := HS.out.cell 0 rfl 2)
          | (go_at_call 11; (with_reducible refine (Hbc.out _ HS.out.below).mono ?_); rintro e w' ⟨rfl, hb⟩; have HS := hide (HS.out.call hb); have a0 := HS.out.cell 2 rfl 0; have a1 := HS.out.cell 2 rfl 1; have a2 := HS.out.cell 2 rfl 2; have b0 := HS.out.cell 1 rfl 0; have b1 := HS.out.cell 1 rfl 1; have b2 := HS.out.cell 1 rfl 2; have c0 := HS.out.cell 0 rfl 0; have c1 := HS.out.cell 0 rfl 1; have c2 := HS.out.cell 0 rfl 2)
          | (go_at_call 11; (with_reducible refine (Hac.out _ HS.out.below).mono ?_); rintro e w' ⟨rfl, hb⟩; have HS := hide (HS.out.call hb); have a0 := HS.out.cell 2 rfl 0; have a1 := HS.out.cell 2 rfl 1; have a2 := HS.out.cell 2 rfl 2; have b0 := HS.out.cell 1 rfl 0; have b1 := HS.out.cell 1 rfl 1; have b2 := HS.out.cell 1 rfl 2; have c0 := HS.out.cell 0 rfl 0; have c1 := HS.out.cell 0 rfl 1; have c2 := HS.out.cell 0 rfl 2)
          | (go_at_call 11; (with_reducible refine (Hba.out _ HS.out.below).mono ?_); rintro e w' ⟨rfl, hb⟩; have HS := hide (HS.out.call hb); have a0 := HS.out.cell 2 rfl 0; have a1 := HS.out.cell 2 rfl 1; have a2 := HS.out.cell 2 rfl 2; have b0 := HS.out.cell 1 rfl 0; have b1 := HS.out.cell 1 rfl 1; have b2 := HS.out.cell 1 rfl 2; have c0 := HS.out.cell 0 rfl 0; have c1 := HS.out.cell 0 rfl 1; have c2 := HS.out.cell 0 rfl 2)
          | (go_at_call 11; (with_reducible refine (Haa.out _ HS.out.below).mono ?_); rintro e w' ⟨rfl, hb⟩; have HS := hide (HS.out.call hb); have a0 := HS.out.cell 2 rfl 0; have a1 := HS.out.cell 2 rfl 1; have a2 := HS.out.cell 2 rfl 2; have b0 := HS.out.cell 1 rfl 0; have b1 := HS.out.cell 1 rfl 1; have b2 := HS.out.cell 1 rfl 2; have c0 := HS.out.cell 0 rfl 0; have c1 := HS.out.cell 0 rfl 1; have c2 := HS.out.cell 0 rfl 2)
          | (go_at_call 10; (with_reducible refine (HAW.out _).mono ?_); rintro e w' ⟨rfl, hb⟩; have HB := hide (HS.out.below.trans (hb.mono HS.out.below.size))))
        go_ret
        exact ⟨rfl, HB.out⟩

      · clear o2 o3 o6 o7 hy
        go_enter Try.func3, Try.ntmps3
        go_wp2_with (go_at_call 9; (with_reducible refine HFW.out.mono ?_); rintro e w1 ⟨rfl, hb⟩; have HS := hide ((HS.out.skip _).call hb); have a0 := HS.out.cell 2 rfl 0; have a1 := HS.out.cell 2 rfl 1; have a2 := HS.out.cell 2 rfl 2; have b0 := HS.out.cell 1 rfl 0; have b1 := HS.out.cell 1 rfl 1; have b2 := HS.out.cell 1 rfl 2; have c0 := HS.out.cell 0 rfl 0; have c1 := HS.out.cell 0 rfl 1; have c2 := HS.out.cell 0 rfl 2)
        refine wp_region_T [(0, 0), (1, 0), (3, 0), (4, 0), (6, 0), (7, 0), (2, 2), (5, 2), (8, 2), (9, 1), (10, 1), (11, 1)] (by kernel_rfl) (by kernel_rfl) (fun _ _ _ _ h => h) ?_
        have HS := hide HS.out.drew
        have a0 := HS.out.cell 2 rfl 0
        have a1 := HS.out.cell 2 rfl 1
        have a2 := HS.out.cell 2 rfl 2
        have b0 := HS.out.cell 1 rfl 0
        have b1 := HS.out.cell 1 rfl 1
        have b2 := HS.out.cell 1 rfl 2
        have c0 := HS.out.cell 0 rfl 0
        have c1 := HS.out.cell 0 rfl 1
        have c2 := HS.out.cell 0 rfl 2
        go_wp2_with (first
          | (refine wpT_nil ?_)   | ((with_reducible refine fromT_refl ?_); (try simp only [Act.put, List.setIfInBounds_toArray, List.set_cons_zero, List.set_cons_succ, List.getElem_toArray, List.getElem_cons_succ, List.getElem_cons_zero]))   | ((with_reducible refine fromT_mk (by assumption) ?_); (try simp only [Act.put, List.setIfInBounds_toArray, List.set_cons_zero, List.set_cons_succ, List.getElem_toArray, List.getElem_cons_succ, List.getElem_cons_zero]))   | (refine wpT_pure (v := ?_) rfl rfl ?_ ?_; rotate_left; (intro wx; go_simp; try go_bits) <;> (with_reducible rfl); (try simp only [Act.put, List.setIfInBounds_toArray, List.set_cons_zero, List.set_cons_succ, List.getElem_toArray, List.getElem_cons_succ, List.getElem_cons_zero]))   | (refine wpT_load (v := ?_) rfl rfl rfl ?_ ?_; rotate_left; (go_simp; try go_bits) <;> (with_reducible rfl); (try simp only [Act.put, List.setIfInBounds_toArray, List.set_cons_zero, List.set_cons_succ, List.getElem_toArray, List.getElem_cons_succ, List.getElem_cons_zero]))   | (refine wpT_read (v := ?_) rfl rfl ?_ ?_; rotate_left; (intro wx hx; go_simp; try go_bits) <;> (with_reducible rfl); (try simp only [Act.put, List.setIfInBounds_toArray, List.set_cons_zero, List.set_cons_succ, List.getElem_toArray, List.getElem_cons_succ, List.getElem_cons_zero]))   | (refine wpT_call rfl rfl ?_; intro K hK)   | (refine wpT_late rfl rfl ?_; intro K hK)   | (refine wpT_any rfl rfl ?_; intro K hK)   | (refine wpT_skip rfl rfl ?_; (try simp only [Act.put, List.setIfInBounds_toArray, List.set_cons_zero, List.set_cons_succ, List.getElem_toArray, List.getElem_cons_succ, List.getElem_cons_zero]))
            | (go_at_call 11; (with_reducible refine (Hab.out _ HS.out.below).mono ?_); rintro e w' ⟨rfl, hb⟩; have HS := hide (HS.out.call hb); have a0 := HS.out.cell 2 rfl 0; have a1 := HS.out.cell 2 rfl 1; have a2 := HS.out.cell 2 rfl 2; have b0 := HS.out.cell 1 rfl 0; have b1 := HS.out.cell 1 rfl 1; have b2 := HS.out.cell 1 rfl 2; have c0 := HS.out.cell 0 rfl 0; have c1 := HS.out.cell 0 rfl 1; have c2 := HS.out.cell 0 rfl 2)
          | (go_at_call 11; (with_reducible refine (Hbc.out _ HS.out.below).mono ?_); rintro e w' ⟨rfl, hb⟩; have HS := hide (HS.out.call hb); have a0 := HS.out.cell 2 rfl 0; have a1 := HS.out.cell 2 rfl 1; have a2 := HS.out.cell 2 rfl 2; have b0 := HS.out.cell 1 rfl 0; have b1 := HS.out.cell 1 rfl 1; have b2 := HS.out.cell 1 rfl 2; have c0 := HS.out.cell 0 rfl 0; have c1 := HS.out.cell 0 rfl 1; have c2 := HS.out.cell 0 rfl 2)
          | (go_at_call 11; (with_reducible refine (Hac.out _ HS.out.below).mono ?_); rintro e w' ⟨rfl, hb⟩; have HS := hide (HS.out.call hb); have a0 := HS.out.cell 2 rfl 0; have a1 := HS.out.cell 2 rfl 1; have a2 := HS.out.cell 2 rfl 2; have b0 := HS.out.cell 1 rfl 0; have b1 := HS.out.cell 1 rfl 1; have b2 := HS.out.cell 1 rfl 2; have c0 := HS.out.cell 0 rfl 0; have c1 := HS.out.cell 0 rfl 1; have c2 := HS.out.cell 0 rfl 2)
          | (go_at_call 11; (with_reducible refine (Hba.out _ HS.out.below).mono ?_); rintro e w' ⟨rfl, hb⟩; have HS := hide (HS.out.call hb); have a0 := HS.out.cell 2 rfl 0; have a1 := HS.out.cell 2 rfl 1; have a2 := HS.out.cell 2 rfl 2; have b0 := HS.out.cell 1 rfl 0; have b1 := HS.out.cell 1 rfl 1; have b2 := HS.out.cell 1 rfl 2; have c0 := HS.out.cell 0 rfl 0; have c1 := HS.out.cell 0 rfl 1; have c2 := HS.out.cell 0 rfl 2)
          | (go_at_call 11; (with_reducible refine (Haa.out _ HS.out.below).mono ?_); rintro e w' ⟨rfl, hb⟩; have HS := hide (HS.out.call hb); have a0 := HS.out.cell 2 rfl 0; have a1 := HS.out.cell 2 rfl 1; have a2 := HS.out.cell 2 rfl 2; have b0 := HS.out.cell 1 rfl 0; have b1 := HS.out.cell 1 rfl 1; have b2 := HS.out.cell 1 rfl 2; have c0 := HS.out.cell 0 rfl 0; have c1 := HS.out.cell 0 rfl 1; have c2 := HS.out.cell 0 rfl 2)
          | (go_at_call 10; (with_reducible refine (HAW.out _).mono ?_); rintro e w' ⟨rfl, hb⟩; have HB := hide (HS.out.below.trans (hb.mono HS.out.below.size))))
        go_ret
        exact ⟨rfl, HB.out⟩
end Go.Proofs.Ythpioncehigoaaa
