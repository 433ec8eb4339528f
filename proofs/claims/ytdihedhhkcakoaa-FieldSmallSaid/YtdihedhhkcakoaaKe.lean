/-
  The walks of layer 2: are two rows the same; Same, IsZero, Small.
-/
import Derived.Test.YtdihedhhkcakoaaKd
import Derived.Test.YtdihedhhkcakoaaAz
namespace Go.Proofs.Ytdihedhhkcakoaa
open Go.RowKit

theorem rd_at {w : World} {b o n c size : Nat} {xs : List Value} (h : Rd w (.slice (some ⟨b, o, none⟩) n c) size n xs) {j : Nat} {u : Value} (hu : xs[j]? = some u) : w.cell? ⟨b, o + j, none⟩ = some u := by
  obtain ⟨A', c', e, _, _, _, _, h5⟩ := h
  injection e with e1 _ _
  subst e1
  exact (h5 b o none rfl).2 j u hu
theorem take_ne {x y : List UInt8} {k : Nat} {a b : UInt8} (hx : x[k]? = some a) (hy : y[k]? = some b) (h : a ≠ b) : x ≠ y := fun e => by
  rw [e, hy] at hx
  injection hx with hx
  exact h hx.symm
theorem take_next {x y : List UInt8} {k : Nat} {a : UInt8} (hx : x[k]? = some a) (hy : y[k]? = some a) (h : x.take k = y.take k) : x.take (k + 1) = y.take (k + 1) := by
  rw [List.take_add_one, List.take_add_one, hx, hy, h]
set_option maxRecDepth 100000 in
set_option maxHeartbeats 800000 in
theorem equal_walk (A B : Option Addr) (n ca cb : Nat) (x y : List UInt8) (w : World) (hx : x.length = n) (hy : y.length = n) (hn : n ≤ 1000) (rx : Rd w (.slice A n ca) 1 n (bvs x)) (ry : Rd w (.slice B n cb) 1 n (bvs y)) :
    Calls Try.prog 32 #[.slice A n ca, .slice B n cb] w fun e w' => e = .returned (.bool (decide (x = y))) ∧ Below w.heap.size w w' := by
  have HX := hide hx
  have HY := hide hy
  have RX := hide rx
  have RY := hide ry
  clear hx hy rx ry
  go_enter Try.func32, Try.ntmps32
  go_wp2_with fail
  go_loopw [13] (fun i wr => ∃ k : Nat, k ≤ n ∧ i = .int .i64 (k : Int) ∧ x.take k = y.take k ∧ St w NoB wr []) (fun i _ => n - (intOf i).toNat)
  case atStart => exact ⟨0, by omega, rfl, rfl, St.init w NoB⟩
  case round =>
    obtain ⟨k, hk, rfl, htk, hS⟩ := hrel
    by_cases hlt : k < n
    · obtain ⟨a, ha⟩ : ∃ a, x[k]? = some a := ⟨x[k]'(by rw [HX.out]; exact hlt), List.getElem?_eq_getElem _⟩
      obtain ⟨b, hb⟩ : ∃ b, y[k]? = some b := ⟨y[k]'(by rw [HY.out]; exact hlt), List.getElem?_eq_getElem _⟩
      obtain ⟨b1, o1, rfl⟩ : ∃ b o, A = some ⟨b, o, none⟩ := by
        rcases RX.out.cases with ⟨_, h, _⟩ | ⟨b, o, sp, c', hv, _, _, _, _, h4, _⟩
        · omega
        · injection hv with hv1 _ _
          have := h4 (by omega)
          subst this hv1
          exact ⟨b, o, rfl⟩
      obtain ⟨b2, o2, rfl⟩ : ∃ b o, B = some ⟨b, o, none⟩ := by
        rcases RY.out.cases with ⟨_, h, _⟩ | ⟨b, o, sp, c', hv, _, _, _, _, h4, _⟩
        · omega
        · injection hv with hv1 _ _
          have := h4 (by omega)
          subst this hv1
          exact ⟨b, o, rfl⟩
      have R1 := hide (RX.out.st hS.drew)
      have R2 := hide (RY.out.st hS.drew)
      have ca1 : ∀ z, From wr.drew z → z.cell? ⟨b1, o1 + k, none⟩ = some (.int .u8 (a.toNat : Int)) := fun z hz => rd_at (R1.out.below hz) (bvs_get ha)
      have cb1 : ∀ z, From wr.drew z → z.cell? ⟨b2, o2 + k, none⟩ = some (.int .u8 (b.toNat : Int)) := fun z hz => rd_at (R2.out.below hz) (bvs_get hb)
      have hi1 : (k : Int) < (n : Int) := by omega
      have HS := hide hS
      by_cases hab : a = b
      · subst hab
        have HT := hide (take_next ha hb htk)
        clear ha hb htk hS
        go_wp2_with fail
        refine wp_region_F (by kernel_rfl) ?_
        (refine wpG_take (i := 0) (v := ?_) rfl (by kernel_rfl) (by kernel_rfl) (by kernel_rfl) (fun _ _ _ h => h) (From.refl _) (Or.inl ⟨by first | kernel_rfl | rfl, ?_⟩) ?_; rotate_left; (intro wx hx; go_simp) <;> (with_reducible rfl); (try simp only [Act.put, List.setIfInBounds_toArray, List.set_cons_zero, List.set_cons_succ, List.getElem_toArray, List.getElem_cons_succ, List.getElem_cons_zero])); (refine wpG_take (i := 1) (v := ?_) rfl (by kernel_rfl) (by kernel_rfl) (by kernel_rfl) (fun _ _ _ h => h) (From.refl _) (Or.inl ⟨by first | kernel_rfl | rfl, ?_⟩) ?_; rotate_left; (intro wx hx; go_simp) <;> (with_reducible rfl); (try simp only [Act.put, List.setIfInBounds_toArray, List.set_cons_zero, List.set_cons_succ, List.getElem_toArray, List.getElem_cons_succ, List.getElem_cons_zero])); (refine wpG_take (i := 2) (v := ?_) rfl (by kernel_rfl) (by kernel_rfl) (by kernel_rfl) (fun _ _ _ h => h) (From.refl _) (Or.inl ⟨by first | kernel_rfl | rfl, ?_⟩) ?_; rotate_left; (intro wx hx; go_simp) <;> (with_reducible rfl); (try simp only [Act.put, List.setIfInBounds_toArray, List.set_cons_zero, List.set_cons_succ, List.getElem_toArray, List.getElem_cons_succ, List.getElem_cons_zero])); (refine wpG_take (i := 3) (v := ?_) rfl (by kernel_rfl) (by kernel_rfl) (by kernel_rfl) (fun _ _ _ h => h) (From.refl _) (Or.inl ⟨by first | kernel_rfl | rfl, ?_⟩) ?_; rotate_left; (intro wx hx; go_simp) <;> (with_reducible rfl); (try simp only [Act.put, List.setIfInBounds_toArray, List.set_cons_zero, List.set_cons_succ, List.getElem_toArray, List.getElem_cons_succ, List.getElem_cons_zero])); (refine wpG_take (i := 4) (v := ?_) rfl (by kernel_rfl) (by kernel_rfl) (by kernel_rfl) (fun _ _ _ h => h) (From.refl _) (Or.inl ⟨by first | kernel_rfl | rfl, ?_⟩) ?_; rotate_left; (intro wx hx; go_simp) <;> (with_reducible rfl); (try simp only [Act.put, List.setIfInBounds_toArray, List.set_cons_zero, List.set_cons_succ, List.getElem_toArray, List.getElem_cons_succ, List.getElem_cons_zero])); (refine wpG_take (i := 5) (v := ?_) rfl (by kernel_rfl) (by kernel_rfl) (by kernel_rfl) (fun _ _ _ h => h) (From.refl _) (Or.inl ⟨by first | kernel_rfl | rfl, ?_⟩) ?_; rotate_left; (intro wx hx; go_simp) <;> (with_reducible rfl); (try simp only [Act.put, List.setIfInBounds_toArray, List.set_cons_zero, List.set_cons_succ, List.getElem_toArray, List.getElem_cons_succ, List.getElem_cons_zero])); (refine wpG_take (i := 6) (v := ?_) rfl (by kernel_rfl) (by kernel_rfl) (by kernel_rfl) (fun _ _ _ h => h) (From.refl _) (Or.inl ⟨by first | kernel_rfl | rfl, ?_⟩) ?_; rotate_left; (intro wx hx; go_simp) <;> (with_reducible rfl); (try simp only [Act.put, List.setIfInBounds_toArray, List.set_cons_zero, List.set_cons_succ, List.getElem_toArray, List.getElem_cons_succ, List.getElem_cons_zero])); (refine wpG_take (i := 7) (v := ?_) rfl (by kernel_rfl) (by kernel_rfl) (by kernel_rfl) (fun _ _ _ h => h) (From.refl _) (Or.inl ⟨by first | kernel_rfl | rfl, ?_⟩) ?_; rotate_left; (intro wx hx; go_simp) <;> (with_reducible rfl); (try simp only [Act.put, List.setIfInBounds_toArray, List.set_cons_zero, List.set_cons_succ, List.getElem_toArray, List.getElem_cons_succ, List.getElem_cons_zero])); (refine wpG_take (i := 8) (v := ?_) rfl (by kernel_rfl) (by kernel_rfl) (by kernel_rfl) (fun _ _ _ h => h) (From.refl _) (Or.inl ⟨by first | kernel_rfl | rfl, ?_⟩) ?_; rotate_left; (intro wx hx; go_simp) <;> (with_reducible rfl); (try simp only [Act.put, List.setIfInBounds_toArray, List.set_cons_zero, List.set_cons_succ, List.getElem_toArray, List.getElem_cons_succ, List.getElem_cons_zero]))
        refine wpG_done (by kernel_rfl) ?_ _
        go_wp2_with fail
        go_roundw
        case rel => exact ⟨k + 1, by omega, by go_num, HT.out, HS.out.drew⟩
        case measure => simp [intOf]; omega
      · have hne : ((a.toNat : Int) != (b.toNat : Int)) = true := by
          rw [bne_iff_ne]
          intro h
          exact hab (UInt8.toNat_inj.1 (by omega))
        have HT : Hid (x ≠ y) := hide (take_ne ha hb hab)
        clear ha hb htk hS hab
        go_wp2_with fail
        refine wp_region_F (by kernel_rfl) ?_
        (refine wpG_take (i := 0) (v := ?_) rfl (by kernel_rfl) (by kernel_rfl) (by kernel_rfl) (fun _ _ _ h => h) (From.refl _) (Or.inl ⟨by first | kernel_rfl | rfl, ?_⟩) ?_; rotate_left; (intro wx hx; go_simp) <;> (with_reducible rfl); (try simp only [Act.put, List.setIfInBounds_toArray, List.set_cons_zero, List.set_cons_succ, List.getElem_toArray, List.getElem_cons_succ, List.getElem_cons_zero])); (refine wpG_take (i := 1) (v := ?_) rfl (by kernel_rfl) (by kernel_rfl) (by kernel_rfl) (fun _ _ _ h => h) (From.refl _) (Or.inl ⟨by first | kernel_rfl | rfl, ?_⟩) ?_; rotate_left; (intro wx hx; go_simp) <;> (with_reducible rfl); (try simp only [Act.put, List.setIfInBounds_toArray, List.set_cons_zero, List.set_cons_succ, List.getElem_toArray, List.getElem_cons_succ, List.getElem_cons_zero])); (refine wpG_take (i := 2) (v := ?_) rfl (by kernel_rfl) (by kernel_rfl) (by kernel_rfl) (fun _ _ _ h => h) (From.refl _) (Or.inl ⟨by first | kernel_rfl | rfl, ?_⟩) ?_; rotate_left; (intro wx hx; go_simp) <;> (with_reducible rfl); (try simp only [Act.put, List.setIfInBounds_toArray, List.set_cons_zero, List.set_cons_succ, List.getElem_toArray, List.getElem_cons_succ, List.getElem_cons_zero])); (refine wpG_take (i := 3) (v := ?_) rfl (by kernel_rfl) (by kernel_rfl) (by kernel_rfl) (fun _ _ _ h => h) (From.refl _) (Or.inl ⟨by first | kernel_rfl | rfl, ?_⟩) ?_; rotate_left; (intro wx hx; go_simp) <;> (with_reducible rfl); (try simp only [Act.put, List.setIfInBounds_toArray, List.set_cons_zero, List.set_cons_succ, List.getElem_toArray, List.getElem_cons_succ, List.getElem_cons_zero])); (refine wpG_take (i := 4) (v := ?_) rfl (by kernel_rfl) (by kernel_rfl) (by kernel_rfl) (fun _ _ _ h => h) (From.refl _) (Or.inl ⟨by first | kernel_rfl | rfl, ?_⟩) ?_; rotate_left; (intro wx hx; go_simp) <;> (with_reducible rfl); (try simp only [Act.put, List.setIfInBounds_toArray, List.set_cons_zero, List.set_cons_succ, List.getElem_toArray, List.getElem_cons_succ, List.getElem_cons_zero])); (refine wpG_take (i := 5) (v := ?_) rfl (by kernel_rfl) (by kernel_rfl) (by kernel_rfl) (fun _ _ _ h => h) (From.refl _) (Or.inl ⟨by first | kernel_rfl | rfl, ?_⟩) ?_; rotate_left; (intro wx hx; go_simp) <;> (with_reducible rfl); (try simp only [Act.put, List.setIfInBounds_toArray, List.set_cons_zero, List.set_cons_succ, List.getElem_toArray, List.getElem_cons_succ, List.getElem_cons_zero])); (refine wpG_take (i := 6) (v := ?_) rfl (by kernel_rfl) (by kernel_rfl) (by kernel_rfl) (fun _ _ _ h => h) (From.refl _) (Or.inl ⟨by first | kernel_rfl | rfl, ?_⟩) ?_; rotate_left; (intro wx hx; go_simp) <;> (with_reducible rfl); (try simp only [Act.put, List.setIfInBounds_toArray, List.set_cons_zero, List.set_cons_succ, List.getElem_toArray, List.getElem_cons_succ, List.getElem_cons_zero])); (refine wpG_take (i := 7) (v := ?_) rfl (by kernel_rfl) (by kernel_rfl) (by kernel_rfl) (fun _ _ _ h => h) (From.refl _) (Or.inl ⟨by first | kernel_rfl | rfl, ?_⟩) ?_; rotate_left; (intro wx hx; go_simp) <;> (with_reducible rfl); (try simp only [Act.put, List.setIfInBounds_toArray, List.set_cons_zero, List.set_cons_succ, List.getElem_toArray, List.getElem_cons_succ, List.getElem_cons_zero])); (refine wpG_take (i := 8) (v := ?_) rfl (by kernel_rfl) (by kernel_rfl) (by kernel_rfl) (fun _ _ _ h => h) (From.refl _) (Or.inl ⟨by first | kernel_rfl | rfl, ?_⟩) ?_; rotate_left; (intro wx hx; go_simp) <;> (with_reducible rfl); (try simp only [Act.put, List.setIfInBounds_toArray, List.set_cons_zero, List.set_cons_succ, List.getElem_toArray, List.getElem_cons_succ, List.getElem_cons_zero]))
        refine wpG_done (by kernel_rfl) ?_ _
        go_wp2_with fail
        go_ret
        exact ⟨by rw [decide_eq_false HT.out]; rfl, HS.out.drew.below⟩
    · obtain rfl : k = n := by omega
      have HT : Hid (x = y) := hide (by rwa [List.take_of_length_le (by rw [HX.out]; omega), List.take_of_length_le (by rw [HY.out]; omega)] at htk)
      have HS := hide hS
      clear htk hS
      go_wp2_with fail
      go_ret
      exact ⟨by rw [decide_eq_true HT.out]; rfl, HS.out.below⟩
theorem leB_inj {m n : Nat} (hm : m < 256 ^ 32) (hn : n < 256 ^ 32) (h : leB 32 m = leB 32 n) : m = n := by
  have := congrArg bval h
  rwa [bval_leB, bval_leB, Nat.mod_eq_of_lt hm, Nat.mod_eq_of_lt hn] at this
theorem ev_256 (xs : List Nat) : ev xs < 256 ^ 32 := Nat.lt_trans (ev_lt xs) Pq_256.1
theorem leB_ev (xs ys : List Nat) : decide (leB 32 (ev xs) = leB 32 (ev ys)) = decide (ev xs = ev ys) := by
  by_cases h : ev xs = ev ys
  · rw [h, decide_eq_true rfl, decide_eq_true rfl]
  · rw [decide_eq_false h, decide_eq_false fun e => h (leB_inj (ev_256 xs) (ev_256 ys) e)]
theorem enBytes (args : Array Value) (w : World) : (callFunc 11 args).run Try.prog w = .ok (.enter 11 args) w := by kernel_rfl
theorem enEqual (args : Array Value) (w : World) : (callFunc 32 args).run Try.prog w = .ok (.enter 32 args) w := by kernel_rfl
theorem enSame (args : Array Value) (w : World) : (callFunc 12 args).run Try.prog w = .ok (.enter 12 args) w := by kernel_rfl
theorem bytes32 (a b c d e : Nat) (w : World) (hb : Low [a, b, c, d, e]) :
    Calls Try.prog 11 #[(.agg #[.int .u64 (a : Int), .int .u64 (b : Int), .int .u64 (c : Int), .int .u64 (d : Int), .int .u64 (e : Int)])] w fun r w' => ∃ A k, r = .returned (.slice A 32 k) ∧ Below w.heap.size w w' ∧ Rd w' (.slice A 32 k) 1 32 (bvs (leB 32 (ev [a, b, c, d, e]))) := by
  refine (bytes_walk a b c d e w hb).mono ?_
  rintro r w' ⟨A, k, he, h1, h2⟩
  rw [leB_len] at he h2
  exact ⟨A, k, he, h1, rd_own h2⟩
set_option maxRecDepth 100000 in
set_option maxHeartbeats 800000 in
theorem same_walk (a b c d e a' b' c' d' e' : Nat) (w : World) (h1 : Low [a, b, c, d, e]) (h2 : Low [a', b', c', d', e']) :
    Calls Try.prog 12 #[(.agg #[.int .u64 (a : Int), .int .u64 (b : Int), .int .u64 (c : Int), .int .u64 (d : Int), .int .u64 (e : Int)]), (.agg #[.int .u64 (a' : Int), .int .u64 (b' : Int), .int .u64 (c' : Int), .int .u64 (d' : Int), .int .u64 (e' : Int)])] w fun r w' => r = .returned (.bool (decide (ev [a, b, c, d, e] = ev [a', b', c', d', e']))) ∧ Below w.heap.size w w' := by
  have HC1 := hide (fun W => bytes32 a b c d e W h1)
  have HC2 := hide (fun W => bytes32 a' b' c' d' e' W h2)
  have hS0 := (((St.init w NoB).alloc #[.int .u64 (a : Int), .int .u64 (b : Int), .int .u64 (c : Int), .int .u64 (d : Int), .int .u64 (e : Int)] 27).alloc #[.int .u64 (a' : Int), .int .u64 (b' : Int), .int .u64 (c' : Int), .int .u64 (d' : Int), .int .u64 (e' : Int)] 27).drew
  simp only [size_alloc1] at hS0
  have HEQ := hide (leB_ev [a, b, c, d, e] [a', b', c', d', e'])
  have HS0 := hide hS0
  clear hS0 h1 h2
  go_enter Try.func12, Try.ntmps12
  go_upto_region 1 with fail
  generalize hW : (w.alloc (.cells #[.int .u64 (a : Int), .int .u64 (b : Int), .int .u64 (c : Int), .int .u64 (d : Int), .int .u64 (e : Int)] 27)).alloc (.cells #[.int .u64 (a' : Int), .int .u64 (b' : Int), .int .u64 (c' : Int), .int .u64 (d' : Int), .int .u64 (e' : Int)] 27) = wr
  rw [hW] at HS0
  clear hW
  have p00 : ∀ z, From wr.drew z → z.cell? ⟨w.heap.size, 0, none⟩ = some (.int .u64 (a : Int)) := fun z hz => by rw [hz.cell (p := ⟨w.heap.size, 0, none⟩) (Chunk.lt (HS0.out.sat 1 _ rfl) rfl)]; exact HS0.out.cell 1 rfl 0
  have p01 : ∀ z, From wr.drew z → z.cell? ⟨w.heap.size, 1, none⟩ = some (.int .u64 (b : Int)) := fun z hz => by rw [hz.cell (p := ⟨w.heap.size, 1, none⟩) (Chunk.lt (HS0.out.sat 1 _ rfl) rfl)]; exact HS0.out.cell 1 rfl 1
  have p02 : ∀ z, From wr.drew z → z.cell? ⟨w.heap.size, 2, none⟩ = some (.int .u64 (c : Int)) := fun z hz => by rw [hz.cell (p := ⟨w.heap.size, 2, none⟩) (Chunk.lt (HS0.out.sat 1 _ rfl) rfl)]; exact HS0.out.cell 1 rfl 2
  have p03 : ∀ z, From wr.drew z → z.cell? ⟨w.heap.size, 3, none⟩ = some (.int .u64 (d : Int)) := fun z hz => by rw [hz.cell (p := ⟨w.heap.size, 3, none⟩) (Chunk.lt (HS0.out.sat 1 _ rfl) rfl)]; exact HS0.out.cell 1 rfl 3
  have p04 : ∀ z, From wr.drew z → z.cell? ⟨w.heap.size, 4, none⟩ = some (.int .u64 (e : Int)) := fun z hz => by rw [hz.cell (p := ⟨w.heap.size, 4, none⟩) (Chunk.lt (HS0.out.sat 1 _ rfl) rfl)]; exact HS0.out.cell 1 rfl 4
  have p10 : ∀ z, From wr.drew z → z.cell? ⟨w.heap.size + 1, 0, none⟩ = some (.int .u64 (a' : Int)) := fun z hz => by rw [hz.cell (p := ⟨w.heap.size + 1, 0, none⟩) (Chunk.lt (HS0.out.sat 0 _ rfl) rfl)]; exact HS0.out.cell 0 rfl 0
  have p11 : ∀ z, From wr.drew z → z.cell? ⟨w.heap.size + 1, 1, none⟩ = some (.int .u64 (b' : Int)) := fun z hz => by rw [hz.cell (p := ⟨w.heap.size + 1, 1, none⟩) (Chunk.lt (HS0.out.sat 0 _ rfl) rfl)]; exact HS0.out.cell 0 rfl 1
  have p12 : ∀ z, From wr.drew z → z.cell? ⟨w.heap.size + 1, 2, none⟩ = some (.int .u64 (c' : Int)) := fun z hz => by rw [hz.cell (p := ⟨w.heap.size + 1, 2, none⟩) (Chunk.lt (HS0.out.sat 0 _ rfl) rfl)]; exact HS0.out.cell 0 rfl 2
  have p13 : ∀ z, From wr.drew z → z.cell? ⟨w.heap.size + 1, 3, none⟩ = some (.int .u64 (d' : Int)) := fun z hz => by rw [hz.cell (p := ⟨w.heap.size + 1, 3, none⟩) (Chunk.lt (HS0.out.sat 0 _ rfl) rfl)]; exact HS0.out.cell 0 rfl 3
  have p14 : ∀ z, From wr.drew z → z.cell? ⟨w.heap.size + 1, 4, none⟩ = some (.int .u64 (e' : Int)) := fun z hz => by rw [hz.cell (p := ⟨w.heap.size + 1, 4, none⟩) (Chunk.lt (HS0.out.sat 0 _ rfl) rfl)]; exact HS0.out.cell 0 rfl 4
  refine wp_region_F (by kernel_rfl) ?_
  (refine wpG_take (i := 0) (v := ?_) rfl (by kernel_rfl) (by kernel_rfl) (by kernel_rfl) (fun _ _ _ h => h) (From.refl _) (Or.inl ⟨by first | kernel_rfl | rfl, ?_⟩) ?_; rotate_left; (intro wx hx; go_simp) <;> (with_reducible rfl); (try simp only [Act.put, List.setIfInBounds_toArray, List.set_cons_zero, List.set_cons_succ, List.getElem_toArray, List.getElem_cons_succ, List.getElem_cons_zero])); (refine wpG_take (i := 2) (v := ?_) rfl (by kernel_rfl) (by kernel_rfl) (by kernel_rfl) (fun _ _ _ h => h) (From.refl _) (Or.inl ⟨by first | kernel_rfl | rfl, ?_⟩) ?_; rotate_left; (intro wx hx; go_simp) <;> (with_reducible rfl); (try simp only [Act.put, List.setIfInBounds_toArray, List.set_cons_zero, List.set_cons_succ, List.getElem_toArray, List.getElem_cons_succ, List.getElem_cons_zero]))
  (refine wpG_one (i := 1) (by kernel_rfl) rfl ?_; intro K hK; (try simp only [Act.put, List.setIfInBounds_toArray, List.set_cons_zero, List.set_cons_succ, List.getElem_toArray, List.getElem_cons_succ, List.getElem_cons_zero]))
  refine step_call rfl rfl enBytes rfl (HC1.out _) ?_
  rintro r w1 ⟨A1, k1, rfl, hb1, hr1⟩
  refine ⟨_, rfl, hK (From w1) _ _ (From.next hb1) (From.refl _) ?_⟩
  clear hK K p00 p01 p02 p03 p04 p10 p11 p12 p13 p14
  (try simp only [Act.put, List.setIfInBounds_toArray, List.set_cons_zero, List.set_cons_succ, List.getElem_toArray, List.getElem_cons_succ, List.getElem_cons_zero])
  (refine wpG_one (i := 3) (by kernel_rfl) rfl ?_; intro K hK; (try simp only [Act.put, List.setIfInBounds_toArray, List.set_cons_zero, List.set_cons_succ, List.getElem_toArray, List.getElem_cons_succ, List.getElem_cons_zero]))
  refine step_call rfl rfl enBytes rfl (HC2.out _) ?_
  rintro r w2 ⟨A2, k2, rfl, hb2, hr2⟩
  refine ⟨_, rfl, hK (From w2) _ _ (From.next hb2) (From.refl _) ?_⟩
  clear hK K
  (try simp only [Act.put, List.setIfInBounds_toArray, List.set_cons_zero, List.set_cons_succ, List.getElem_toArray, List.getElem_cons_succ, List.getElem_cons_zero])
  (refine wpG_one (i := 4) (by kernel_rfl) rfl ?_; intro K hK; (try simp only [Act.put, List.setIfInBounds_toArray, List.set_cons_zero, List.set_cons_succ, List.getElem_toArray, List.getElem_cons_succ, List.getElem_cons_zero]))
  refine step_call rfl rfl enEqual rfl (equal_walk A1 A2 32 k1 k2 _ _ _ (leB_len _ _) (leB_len _ _) (by decide) (hr1.below hb2) hr2) ?_
  rintro r w3 ⟨rfl, hb3⟩
  rw [HEQ.out]
  refine ⟨_, rfl, hK (From w3) _ _ (From.next hb3) (From.refl _) ?_⟩
  clear hK K
  (try simp only [Act.put, List.setIfInBounds_toArray, List.set_cons_zero, List.set_cons_succ, List.getElem_toArray, List.getElem_cons_succ, List.getElem_cons_zero])
  (refine wpG_take (i := 5) (v := ?_) rfl (by kernel_rfl) (by kernel_rfl) (by kernel_rfl) (fun _ _ _ h => h) (From.refl _) (Or.inl ⟨by first | kernel_rfl | rfl, ?_⟩) ?_; rotate_left; (intro wx hx; go_simp) <;> (with_reducible rfl); (try simp only [Act.put, List.setIfInBounds_toArray, List.set_cons_zero, List.set_cons_succ, List.getElem_toArray, List.getElem_cons_succ, List.getElem_cons_zero]))
  refine wpG_done (by kernel_rfl) ?_ _
  go_wp2_with fail
  go_ret
  exact ⟨rfl, (((HS0.out.call hb1).call hb2).call hb3).below⟩
end Go.Proofs.Ytdihedhhkcakoaa
