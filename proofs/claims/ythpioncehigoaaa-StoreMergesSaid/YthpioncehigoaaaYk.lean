/-
  Layer 18: a fact that may be there added to a store.
-/
import Derived.Test.YthpioncehigoaaaYj
set_option linter.unusedVariables false
namespace Go.Proofs.Ythpioncehigoaaa
open Go.RowKit
set_option linter.unusedSimpArgs false

theorem fcCells_take (l : List Fc) (k : Nat) : fcCells (l.take k) = (fcCells l).take (k * 3) := by
  induction k generalizing l with
  | zero => simp [fcCells]
  | succ k ih =>
    cases l with
    | nil => simp [fcCells]
    | cons x l =>
      rw [List.take_succ_cons, Nat.succ_mul, fcCells_cons, fcCells_cons, ih l, List.take_append, List.take_of_length_le (l := x.cells) (by rw [Fc.cells_length]; omega), Fc.cells_length, Nat.add_sub_cancel]
theorem fcCells_drop (l : List Fc) (k : Nat) : fcCells (l.drop k) = (fcCells l).drop (k * 3) := by
  induction k generalizing l with
  | zero => simp
  | succ k ih =>
    cases l with
    | nil => simp [fcCells]
    | cons x l =>
      rw [List.drop_succ_cons, Nat.succ_mul, fcCells_cons, ih l, List.drop_append, List.drop_of_length_le (l := x.cells) (by rw [Fc.cells_length]; omega), Fc.cells_length, Nat.add_sub_cancel, List.nil_append]
theorem own_len (A : Option Addr) (n m c d : Nat) : (Value.slice A n c).ownBlock = (Value.slice A m d).ownBlock := by cases A <;> rfl
theorem stoC_blk {p : Nat} {A : Option Addr} {c : Nat} {S : List Fc} {k : Nat} : (∃ d ∈ StoC p A c S, d.block = some k) ↔ k = p ∨ (Value.slice A S.length c).ownBlock = some k := by
  unfold StoC
  simp only [List.mem_cons, List.not_mem_nil, or_false]
  constructor
  · rintro ⟨d, rfl | rfl, h⟩
    · simp only [Chunk.block, Option.some.injEq] at h
      exact .inl h.symm
    · exact .inr h
  · rintro (h | h)
    · exact ⟨_, .inl rfl, by rw [h]; rfl⟩
    · exact ⟨_, .inr rfl, h⟩
set_option maxRecDepth 100000 in
set_option maxHeartbeats 3200000 in
theorem add_ok {w w0 : World} {M0 : Nat → Prop} {B : List Chunk} (p : Nat) (A : Option Addr) (c : Nat) (S : List Fc) (f : Fc) (Mk : Nat → Prop) (hS : St w0 M0 w (StoC p A c S ++ B)) (hMo : ∀ k, Mk k → k < w.heap.size)
    (hMs : ∀ k, (k = p ∨ (Value.slice A S.length c).ownBlock = some k) → Mk k) (hok : ∀ g ∈ S, FcOK (mask Mk w) g) (hS6 : S.length ≤ 999999) (hr : RisF S) (hf : FcOK (mask Mk w) f) (h : okF f = true) :
    Calls Try.prog 20 #[.pointer (some ⟨p, 0, none⟩), f.val] w fun e w' => AddR Mk p A c S f w e w' := by
  have hSo := St.soloL (StoC p A c S) hS
  have hS1 := hSo.alloc #[.string (strOf f.name), .slice f.A f.ts.length f.c, .int .u32 f.o] 27
  have HW1 := hide ((Below.refl w.heap.size w).al (.cells #[.string (strOf f.name), .slice f.A f.ts.length f.c, .int .u32 f.o] 27))
  have HS1 := hide hS1
  have hnil := fun W => nilS p W
  have hfw := hf.csub (csub_mask Mk w)
  have HN := hide (fun W => name_any f.name hf.bd.1 W)
  have HC := hide (fun W (h : Below w.heap.size w W) => contF_any 40 enAdd1 #[] (fun t => !fixT t) f.row f.ts W (hfw.ts.1.below h) hf.bd.2.1 (fun W2 hW2 x hx => add1_any x W2 ((hfw.ts.2 x hx).on (h.trans (hW2.mono h.size)))))
  have eany : f.ts.any (fun t => !fixT t) = !(f.ts.all fixT) := by rw [List.any_eq_not_all_not]; simp
  have hall := h
  unfold okF at hall
  simp only [Bool.and_eq_true, decide_eq_true_eq] at hall
  obtain ⟨k1, k2, k3, k4⟩ := hall
  rw [eany, k4] at HC
  rw [k2] at HN
  obtain ⟨j, hj⟩ : ∃ j, j = plc (fun x => cmpF x f) S := ⟨_, rfl⟩
  have hjn : j ≤ S.length := by rw [hj]; exact plc_le _ S
  have HBS := hide (fun W (hb : Below w.heap.size w W) (hR : Rd W (.slice A S.length c) 3 S.length (fcCells S)) => bs_any (.slice A S.length c) S f (plc (fun x => cmpF x f) S) W ⟨hR, fun g hg => ((hok g hg).csub (csub_mask Mk w)).on hb⟩ (hfw.on hb) (by omega) (part_of hr f))
  rw [fnd_has hr f] at HBS
  have HAB : Hid (addB S f = !hasX S f) := hide (by unfold addB; rw [h, Bool.true_and])
  have HCP := hide (fun W (hb : Below w.heap.size w W) (hm : ∀ k, k < w.heap.size → ¬ Mk k → W.heap[k]? = w.heap[k]?) => copied_any Mk f W (fun k hk => Nat.lt_of_lt_of_le (hMo k hk) hb.size) (hf.csub (mask_ext fun k hk hn => ⟨hn, hm k hk hn⟩)) (ok_sm h))
  have HOK := hide hok
  have HMO := hide hMo
  have HMS := hide hMs
  have HJ := hide hj
  rw [← hj] at HBS
  obtain ⟨n, hn⟩ : ∃ n, n = S.length := ⟨_, rfl⟩
  have HNN := hide hn
  have q1 : (f.o == 0) = false := by rw [beq_eq_false_iff_ne]; exact k1
  have q3 : decide ((8 : Int) < (f.ts.length : Int)) = false := by simp; omega
  have q3' : decide (8 < f.ts.length) = false := by simp; omega
  obtain ⟨fd, hfd⟩ : ∃ b, b = hasX S f := ⟨_, rfl⟩
  rw [← hfd] at HBS HAB
  have hS1' := HS1.out
  unfold StoC at hS1'
  rw [← hn] at hS1' HBS hS6 hjn
  have HS1 := hide hS1'
  clear hS hMo hMs hok hf h hSo hS1 hfw k1 k2 k3 k4 hj hn hfd hS1' eany hr
  unfold Fc.val Fc.row at *
  have a0 := HS1.out.cell 0 rfl 0
  have a1 := HS1.out.cell 0 rfl 1
  have a2 := HS1.out.cell 0 rfl 2
  have p0 := HS1.out.cell 1 rfl 0
  cases fd with
  | true =>
    go_enter Try.func20, Try.ntmps20
    go_wp2_with (first
      | (go_at_call 38; (with_reducible refine (HN.out _).mono ?_); rintro e w' ⟨rfl, rfl⟩)
      | (go_at_call 39; (with_reducible refine (HC.out _ HW1.out).mono ?_); rintro e w2 ⟨rfl, hb⟩; have HS2 := hide (HS1.out.call hb).drew; have HW2 := hide (HW1.out.trans (hb.mono HW1.out.size)).drew))
    clear a0 a1 a2 p0
    have a0 := HS2.out.cell 0 rfl 0
    have a1 := HS2.out.cell 0 rfl 1
    have a2 := HS2.out.cell 0 rfl 2
    have p0 := HS2.out.cell 1 rfl 0
    refine wp_region_T [(0, 1), (1, 1), (2, 1), (3, 0), (4, 0), (5, 2), (6, 1), (7, 1), (8, 1), (9, 1), (10, 1)] (by kernel_rfl) (by kernel_rfl) (fun _ _ _ _ h => h) ?_
    go_wp2_with (first
      | (go_at_call 36; (with_reducible refine (HBS.out _ HW2.out (HS2.out.rd 2 rfl)).mono ?_); rintro e w3 ⟨rfl, hb⟩; have HW3 := hide (HW2.out.trans (hb.mono HW2.out.size)))
      | (refine wpT_nil ?_)   | ((with_reducible refine fromT_refl ?_); (try simp only [Act.put, nq1, nq2, nq3, nq4, nq5, nq6]))   | ((with_reducible refine fromT_mk (by assumption) ?_); (try simp only [Act.put, nq1, nq2, nq3, nq4, nq5, nq6]))   | (refine wpT_pure (v := ?_) rfl rfl ?_ ?_; rotate_left; (intro wx; go_simp; try go_bits) <;> (with_reducible rfl); (try simp only [Act.put, nq1, nq2, nq3, nq4, nq5, nq6]))   | (refine wpT_load (v := ?_) rfl rfl rfl ?_ ?_; rotate_left; (go_simp; try go_bits) <;> (with_reducible rfl); (try simp only [Act.put, nq1, nq2, nq3, nq4, nq5, nq6]))   | (refine wpT_read (v := ?_) rfl rfl ?_ ?_; rotate_left; (intro wx hx; go_simp; try go_bits) <;> (with_reducible rfl); (try simp only [Act.put, nq1, nq2, nq3, nq4, nq5, nq6]))   | (refine wpT_call rfl rfl ?_; intro K hK)   | (refine wpT_late rfl rfl ?_; intro K hK)   | (refine wpT_any rfl rfl ?_; intro K hK)   | (refine wpT_skip rfl rfl ?_; (try simp only [Act.put, nq1, nq2, nq3, nq4, nq5, nq6])))
    go_ret
    exact .inl ⟨HAB.out, rfl, HW3.out⟩
  | false =>
    go_enter Try.func20, Try.ntmps20
    go_wp2_with (first
      | (go_at_call 38; (with_reducible refine (HN.out _).mono ?_); rintro e w' ⟨rfl, rfl⟩)
      | (go_at_call 39; (with_reducible refine (HC.out _ HW1.out).mono ?_); rintro e w2 ⟨rfl, hb⟩; have HS2 := hide (HS1.out.call hb).drew; have HW2 := hide (HW1.out.trans (hb.mono HW1.out.size)).drew))
    clear a0 a1 a2 p0
    have a0 := HS2.out.cell 0 rfl 0
    have a1 := HS2.out.cell 0 rfl 1
    have a2 := HS2.out.cell 0 rfl 2
    have p0 := HS2.out.cell 1 rfl 0
    refine wp_region_T [(0, 1), (1, 1), (2, 1), (3, 0), (4, 0), (5, 2), (6, 1), (7, 1), (8, 1), (9, 1), (10, 1)] (by kernel_rfl) (by kernel_rfl) (fun _ _ _ _ h => h) ?_
    go_wp2_with (first
      | (go_at_call 36; (with_reducible refine (HBS.out _ HW2.out (HS2.out.rd 2 rfl)).mono ?_); rintro e w3 ⟨rfl, hb⟩; have HS3 := hide (HS2.out.call hb).drew; have HW3 := hide (HW2.out.trans (hb.mono HW2.out.size)).drew)
      | (refine wpT_nil ?_)   | ((with_reducible refine fromT_refl ?_); (try simp only [Act.put, nq1, nq2, nq3, nq4, nq5, nq6]))   | ((with_reducible refine fromT_mk (by assumption) ?_); (try simp only [Act.put, nq1, nq2, nq3, nq4, nq5, nq6]))   | (refine wpT_pure (v := ?_) rfl rfl ?_ ?_; rotate_left; (intro wx; go_simp; try go_bits) <;> (with_reducible rfl); (try simp only [Act.put, nq1, nq2, nq3, nq4, nq5, nq6]))   | (refine wpT_load (v := ?_) rfl rfl rfl ?_ ?_; rotate_left; (go_simp; try go_bits) <;> (with_reducible rfl); (try simp only [Act.put, nq1, nq2, nq3, nq4, nq5, nq6]))   | (refine wpT_read (v := ?_) rfl rfl ?_ ?_; rotate_left; (intro wx hx; go_simp; try go_bits) <;> (with_reducible rfl); (try simp only [Act.put, nq1, nq2, nq3, nq4, nq5, nq6]))   | (refine wpT_call rfl rfl ?_; intro K hK)   | (refine wpT_late rfl rfl ?_; intro K hK)   | (refine wpT_any rfl rfl ?_; intro K hK)   | (refine wpT_skip rfl rfl ?_; (try simp only [Act.put, nq1, nq2, nq3, nq4, nq5, nq6])))
    clear a0 a1 a2 p0
    refine wp_region_S (.op 0 1 (.op 1 1 (.op 2 1 (.op 3 1 (.op 4 0 (.op 5 1 (.op 6 2 (.op 7 2 (.op 8 2 (.op 9 3 (.op 10 1 (.op 11 1 (.op 12 4 (.nil)))))))))))))) (by kernel_rfl) (by kernel_rfl) (fun _ _ _ _ h => h) ?_
    have a0 := HS3.out.cell 0 rfl 0
    have a1 := HS3.out.cell 0 rfl 1
    have a2 := HS3.out.cell 0 rfl 2
    have p0 := HS3.out.cell 1 rfl 0
    have HCQ := hide (HCP.out w3.drew HW3.out (fun k hk _ => HW3.out.block k hk))
    go_wp2_with (first
      | (go_at_call 43; (with_reducible refine HCQ.out.mono ?_); rintro e w4 ⟨f', rfl, hsh, hof, hb4⟩; have hb5 : Below w3.drew.heap.size w3.drew (w4.alloc (.cells #[.string (strOf f'.name), .slice f'.A f'.ts.length f'.c, .int .u32 f'.o] 27)) := hb4.al _; have HS4 := hide ((HS3.out.call hb4).alloc f'.cells.toArray 27); have HSH := hide hsh; have HOF := hide hof; have HB4 := hide hb4; clear hsh hof; unfold Fc.val Fc.row; have HINS := hide (insert_any A n c j (fcCells S) f'.cells w4.heap.size (HS4.out.pickL (H' := [.row (.slice A n c) 27 3 n (fcCells S), .cells w4.heap.size f'.cells.toArray 27]) [3, 0] (by decide) rfl) hjn (by omega) f'.cells_length (fcCells_one S) f'.one))
      | (go_at_call 42; refine HINS.out.mono ?_; rintro e w5 ⟨A', c', rfl, hS5⟩; have HI5 := hide hS5; have HS5 := hide (HS4.out.backC 3 rfl hS5); clear hS5; have p5 := HS5.out.cell 2 rfl 0; have g5 := HS5.out.free 2 rfl 0)
      | (refine wpS_nil ?_)   | ((with_reducible refine fromT_refl ?_); (try simp only [Act.put, nq1, nq2, nq3, nq4, nq5, nq6]))   | ((with_reducible refine fromT_mk (by assumption) ?_); (try simp only [Act.put, nq1, nq2, nq3, nq4, nq5, nq6]))   | (refine wpS_pure (v := ?_) rfl rfl ?_ ?_; rotate_left; (intro wx; go_simp; try go_bits) <;> (with_reducible rfl); (try simp only [Act.put, nq1, nq2, nq3, nq4, nq5, nq6]))   | (refine wpS_load (v := ?_) rfl rfl rfl ?_ ?_; rotate_left; (go_simp; try go_bits) <;> (with_reducible rfl); (try simp only [Act.put, nq1, nq2, nq3, nq4, nq5, nq6]))   | (refine wpS_read (v := ?_) rfl rfl ?_ ?_; rotate_left; (intro wx hx; go_simp; try go_bits) <;> (with_reducible rfl); (try simp only [Act.put, nq1, nq2, nq3, nq4, nq5, nq6]))   | (refine wpS_call rfl rfl ?_; intro K hK)   | (refine wpS_late rfl rfl ?_; intro K hK)   | (refine wpS_any rfl rfl ?_; intro K hK)   | (refine wpS_skip rfl rfl ?_; (try simp only [Act.put, nq1, nq2, nq3, nq4, nq5, nq6])))
    go_ret
    have h6 := HS5.out.setCell 2 rfl 0 (.slice A' (n + 1) c')
    have HMB : ∀ k, (∃ d ∈ [Chunk.cells p #[.slice A n c] 67, Chunk.row (.slice A n c) 27 3 n (fcCells S)], d.block = some k) → Mk k := fun k hk => by
      refine HMS.out k ((stoC_blk (A := A) (c := c) (S := S)).1 ?_)
      unfold StoC
      rw [← HNN.out]
      exact hk
    have hown : ∀ k, (Value.slice A' (S.length + 1) c').ownBlock = some k → w.heap.size ≤ k ∨ Mk k := fun k hk => by
      rcases HS5.out.own 3 _ k rfl ((own_len A' (n + 1) (S.length + 1) c' c').trans hk) with h1 | h1
      · exact .inl h1
      · exact .inr (HMB k h1)
    have hp : Mk p := HMS.out p (.inl rfl)
    have hsl : (S.take j ++ f' :: S.drop j).length = n + 1 := by
      rw [List.length_append, List.length_cons, List.length_take, List.length_drop, ← HNN.out]
      omega
    have hsc : fcCells (S.take j ++ f' :: S.drop j) = (fcCells S).take (j * 3) ++ f'.cells ++ (fcCells S).drop (j * 3) := by
      rw [fcCells_append, fcCells_cons, fcCells_take, fcCells_drop, List.append_assoc]
    refine .inr ⟨HAB.out, A', c', f', rfl, HSH.out, ?_, fun g hg => ?_⟩
    · rw [← HJ.out]
      unfold StoC
      rw [hsl, hsc, ← HNN.out]
      exact h6.pickL [2, 3] (by decide) rfl
    · rw [← HJ.out] at hg
      have hold : ∀ g ∈ S, FcOK (mask (fun k => Mk k ∨ (Value.slice A' (S.length + 1) c').ownBlock = some k) (w5.setCell ⟨p, 0, none⟩ (.slice A' (n + 1) c'))) g := fun g hg => (HOK.out g hg).csub (mask_ext fun k hk hm => ⟨fun h => by
          rcases h with h | h
          · exact hm h
          · rcases hown k h with h1 | h1
            · omega
            · exact hm h1, h6.ext.block k hk (fun h => hm (HMB k h))⟩)
      rcases List.mem_append.1 hg with h | h
      · exact hold g (List.mem_of_mem_take h)
      · rcases List.mem_cons.1 h with h | h
        · rw [h]
          refine HOF.out.csub (mask_ext fun k hk hm => ⟨fun h => ?_, ?_⟩)
          · rcases h with h | h
            · exact hm h
            · have h' : (Value.slice A' (n + 1) c').ownBlock = some k := (own_len A' (n + 1) (S.length + 1) c' c').trans h
              rcases HI5.out.own 0 _ k rfl h' with h1 | h1
              · rw [size_alloc1] at h1; omega
              · exact hm (HMS.out k (.inr ((own_len A S.length n c c).trans h1)))
          · rw [heap_setCell_other w5 ⟨p, 0, none⟩ k _ (fun e => hm (by have e : k = p := e; rw [e]; exact hp)), HI5.out.ext.block k (by rw [size_alloc1]; omega) (fun h => hm (HMS.out k (.inr ((own_len A S.length n c c).trans h))))]
            exact ((Below.refl w4.heap.size w4).al _).block k hk
        · exact hold g (List.mem_of_mem_drop h)
theorem add_any {w w0 : World} {M0 : Nat → Prop} {B : List Chunk} (p : Nat) (A : Option Addr) (c : Nat) (S : List Fc) (f : Fc) (Mk : Nat → Prop) (hS : St w0 M0 w (StoC p A c S ++ B)) (hMo : ∀ k, Mk k → k < w.heap.size)
    (hMs : ∀ k, (k = p ∨ (Value.slice A S.length c).ownBlock = some k) → Mk k) (hok : ∀ g ∈ S, FcOK (mask Mk w) g) (hS6 : S.length ≤ 999999) (hr : RisF S) (hf : FcOK (mask Mk w) f) :
    Calls Try.prog 20 #[.pointer (some ⟨p, 0, none⟩), f.val] w fun e w' => AddR Mk p A c S f w e w' := by
  cases h : okF f with
  | true => exact add_ok p A c S f Mk hS hMo hMs hok hS6 hr hf h
  | false => exact (add_no p f (hf.csub (csub_mask Mk w)) h).mono fun e w' hh => .inl ⟨by unfold addB; rw [h]; rfl, hh.1, hh.2⟩
end Go.Proofs.Ythpioncehigoaaa
