/-
  Layer 1: the walk of (*Hash).Sum.
-/
import Derived.Test.YtabdbddmmbccjaaHf
namespace Go.Proofs.Ytabdbddmmbccjaa
open Go.RowKit
set_option linter.unusedSimpArgs false

theorem ixh0 (x0 x1 x2 x3 x4 x5 x6 x7 : Nat) (W : World) : (Instr.index 35 (.agg #[.int .u64 (x0 : Int), .int .u64 (x1 : Int), .int .u64 (x2 : Int), .int .u64 (x3 : Int), .int .u64 (x4 : Int), .int .u64 (x5 : Int), .int .u64 (x6 : Int), .int .u64 (x7 : Int)]) (.int .i64 ((0 : Nat) : Int))).run Try.prog W = .ok (.int .u64 (x0 : Int)) W := by kernel_rfl
theorem ixh1 (x0 x1 x2 x3 x4 x5 x6 x7 : Nat) (W : World) : (Instr.index 35 (.agg #[.int .u64 (x0 : Int), .int .u64 (x1 : Int), .int .u64 (x2 : Int), .int .u64 (x3 : Int), .int .u64 (x4 : Int), .int .u64 (x5 : Int), .int .u64 (x6 : Int), .int .u64 (x7 : Int)]) (.int .i64 ((1 : Nat) : Int))).run Try.prog W = .ok (.int .u64 (x1 : Int)) W := by kernel_rfl
theorem ixh2 (x0 x1 x2 x3 x4 x5 x6 x7 : Nat) (W : World) : (Instr.index 35 (.agg #[.int .u64 (x0 : Int), .int .u64 (x1 : Int), .int .u64 (x2 : Int), .int .u64 (x3 : Int), .int .u64 (x4 : Int), .int .u64 (x5 : Int), .int .u64 (x6 : Int), .int .u64 (x7 : Int)]) (.int .i64 ((2 : Nat) : Int))).run Try.prog W = .ok (.int .u64 (x2 : Int)) W := by kernel_rfl
theorem ixh3 (x0 x1 x2 x3 x4 x5 x6 x7 : Nat) (W : World) : (Instr.index 35 (.agg #[.int .u64 (x0 : Int), .int .u64 (x1 : Int), .int .u64 (x2 : Int), .int .u64 (x3 : Int), .int .u64 (x4 : Int), .int .u64 (x5 : Int), .int .u64 (x6 : Int), .int .u64 (x7 : Int)]) (.int .i64 ((3 : Nat) : Int))).run Try.prog W = .ok (.int .u64 (x3 : Int)) W := by kernel_rfl
theorem ixh4 (x0 x1 x2 x3 x4 x5 x6 x7 : Nat) (W : World) : (Instr.index 35 (.agg #[.int .u64 (x0 : Int), .int .u64 (x1 : Int), .int .u64 (x2 : Int), .int .u64 (x3 : Int), .int .u64 (x4 : Int), .int .u64 (x5 : Int), .int .u64 (x6 : Int), .int .u64 (x7 : Int)]) (.int .i64 ((4 : Nat) : Int))).run Try.prog W = .ok (.int .u64 (x4 : Int)) W := by kernel_rfl
theorem ixh5 (x0 x1 x2 x3 x4 x5 x6 x7 : Nat) (W : World) : (Instr.index 35 (.agg #[.int .u64 (x0 : Int), .int .u64 (x1 : Int), .int .u64 (x2 : Int), .int .u64 (x3 : Int), .int .u64 (x4 : Int), .int .u64 (x5 : Int), .int .u64 (x6 : Int), .int .u64 (x7 : Int)]) (.int .i64 ((5 : Nat) : Int))).run Try.prog W = .ok (.int .u64 (x5 : Int)) W := by kernel_rfl
theorem ixh6 (x0 x1 x2 x3 x4 x5 x6 x7 : Nat) (W : World) : (Instr.index 35 (.agg #[.int .u64 (x0 : Int), .int .u64 (x1 : Int), .int .u64 (x2 : Int), .int .u64 (x3 : Int), .int .u64 (x4 : Int), .int .u64 (x5 : Int), .int .u64 (x6 : Int), .int .u64 (x7 : Int)]) (.int .i64 ((6 : Nat) : Int))).run Try.prog W = .ok (.int .u64 (x6 : Int)) W := by kernel_rfl
theorem ixh7 (x0 x1 x2 x3 x4 x5 x6 x7 : Nat) (W : World) : (Instr.index 35 (.agg #[.int .u64 (x0 : Int), .int .u64 (x1 : Int), .int .u64 (x2 : Int), .int .u64 (x3 : Int), .int .u64 (x4 : Int), .int .u64 (x5 : Int), .int .u64 (x6 : Int), .int .u64 (x7 : Int)]) (.int .i64 ((7 : Nat) : Int))).run Try.prog W = .ok (.int .u64 (x7 : Int)) W := by kernel_rfl
theorem ixh (x0 x1 x2 x3 x4 x5 x6 x7 k v : Nat) (h : [x0, x1, x2, x3, x4, x5, x6, x7][k]? = some v) (W : World) : (Instr.index 35 (.agg #[.int .u64 (x0 : Int), .int .u64 (x1 : Int), .int .u64 (x2 : Int), .int .u64 (x3 : Int), .int .u64 (x4 : Int), .int .u64 (x5 : Int), .int .u64 (x6 : Int), .int .u64 (x7 : Int)]) (.int .i64 (k : Int))).run Try.prog W = .ok (.int .u64 (v : Int)) W := by
  match k, h with
  | 0, h => injection h with h; rw [← h]; exact ixh0 x0 x1 x2 x3 x4 x5 x6 x7 W
  | 1, h => injection h with h; rw [← h]; exact ixh1 x0 x1 x2 x3 x4 x5 x6 x7 W
  | 2, h => injection h with h; rw [← h]; exact ixh2 x0 x1 x2 x3 x4 x5 x6 x7 W
  | 3, h => injection h with h; rw [← h]; exact ixh3 x0 x1 x2 x3 x4 x5 x6 x7 W
  | 4, h => injection h with h; rw [← h]; exact ixh4 x0 x1 x2 x3 x4 x5 x6 x7 W
  | 5, h => injection h with h; rw [← h]; exact ixh5 x0 x1 x2 x3 x4 x5 x6 x7 W
  | 6, h => injection h with h; rw [← h]; exact ixh6 x0 x1 x2 x3 x4 x5 x6 x7 W
  | 7, h => injection h with h; rw [← h]; exact ixh7 x0 x1 x2 x3 x4 x5 x6 x7 W
theorem infoB : (Try.prog.info? 5).map (fun i => (i.zero, i.size, i.bytes)) = some (some (.int .u8 0), 1, 1) := by kernel_rfl
/-- What stands behind a message: a bit, zeros, its length. -/
def zsL (n : Nat) : Nat := (240 - (n + 1) % 128) % 128
def padL (n : Nat) : List UInt8 := [128] ++ List.replicate (zsL n) 0 ++ (beL 8 0 ++ beL 8 (8 * n))
def outL (s : List Nat) : List UInt8 := s.flatMap (beL 8)
/-- The sum of a message. -/
def shaL (l : List UInt8) : List UInt8 := outL (stO (l ++ padL l.length))
theorem outL_len (s : List Nat) : (outL s).length = 8 * s.length := by
  induction s with
  | nil => rfl
  | cons x s ih => show (beL 8 x ++ outL s).length = _; rw [List.length_append, beL_len, ih, List.length_cons]; omega
theorem outL_take (s : List Nat) (k x : Nat) (h : s[k]? = some x) : outL (s.take (k + 1)) = outL (s.take k) ++ beL 8 x := by
  obtain ⟨hk, hx⟩ := List.getElem?_eq_some_iff.1 h
  unfold outL
  rw [List.take_succ_eq_append_getElem hk, List.flatMap_append, hx]
  simp
theorem shaL_len (l : List UInt8) : (shaL l).length = 64 := by unfold shaL; rw [outL_len, (stO_ok _).1]
theorem enBehind (args : Array Value) (w : World) : (callFunc 18 args).run Try.prog w = .ok (.enter 18 args) w := by kernel_rfl
theorem enWrite (args : Array Value) (w : World) : (callFunc 12 args).run Try.prog w = .ok (.enter 12 args) w := by kernel_rfl
theorem step_callv {P : Program} {w : World} {yl : Nat → Option Bool} {o : Oper} {a : Act} {K : Act → World → Prop} {Q : Exit → Act → World → Prop} {E : Prop} (hw : Region.wanted o yl = true) {c : Operand} {f : FuncId} {first cap : Array Value} {xs : List Operand} {ts : Array TypeId} {vs : Array Value} {R : Ending → World → Prop}
    (ho : o.op = .call { callee := .value c, args := xs.toArray, argTypes := ts }) (hcv : a.eval c = .func (.func f) first cap) (hf : ∀ (args : Array Value) (w : World), (callFunc f args).run P w = .ok (.enter f args) w)
    (hx : first ++ (xs.map a.eval).toArray ++ cap = vs) (hc : Calls P f vs w R) (h : ∀ e w', R e w' → ∃ v, e = .returned v ∧ K (a.put o.dst v) w') : if Region.wanted o yl = true then Oper.wp P o a w K Q else E := by
  rw [if_pos hw]
  exact wp_callv ho hcv hf hx hc h
theorem St.cut3 {w0 w : World} {M : Nat → Prop} {H : List Chunk} {a b x : Chunk} (h : St w0 M w (a :: b :: x :: H)) : St w0 M w (a :: b :: H) := h.mid2
def Sn (g n : Nat) (x : World) : Prop := x.cell? ⟨g, 9, none⟩ = some (.int .u64 (n : Int))
def SumRel (w0 : World) (M : Nat → Prop) (H : List Chunk) (s : List Nat) (v iv : Value) (wr : World) : Prop :=
  ∃ (j : Nat) (B : Option Addr) (d : Nat), j ≤ 8 ∧ iv = .int .i64 (j : Int) ∧ v = .slice B (8 * j) d ∧ St w0 M wr (.row (.slice B (8 * j) d) 5 1 (8 * j) (bvs (outL (s.take j))) :: H)
set_option maxRecDepth 100000 in
set_option maxHeartbeats 1600000 in
theorem sum_ro (g : Nat) (A : Option Addr) (c : Nat) (l : List UInt8) (w : World) (hn : l.length ≤ 900000) (hC0 : w.heap[g]? = some (.cells (hashC (stO l) (.slice A (l.length % 128) c) l.length) 42 (0, 0)))
    (hR0 : Rd w (.slice A (l.length % 128) c) 1 (l.length % 128) (bvs (rsO l))) :
    Calls Try.prog 13 #[.pointer (some ⟨g, 0, none⟩)] w (Sum64 w (shaL l)) := by
  obtain ⟨n, hnn⟩ : ∃ n, n = l.length := ⟨_, rfl⟩
  obtain ⟨a0, a1, a2, a3, a4, a5, a6, a7, hs8⟩ := list8 (stO_ok l).1
  have hC : w.heap[g]? = some (.cells (hashC [a0, a1, a2, a3, a4, a5, a6, a7] (.slice A (n % 128) c) n) 42 (0, 0)) := by
    have := hC0
    rw [hs8, ← hnn] at this
    exact this
  have m0 : w.cell? ⟨g, 0, none⟩ = some (.int .u64 (a0 : Int)) := cell_of_row w g 0 _ _ (0, 0) hC
  have m1 : w.cell? ⟨g, 1, none⟩ = some (.int .u64 (a1 : Int)) := cell_of_row w g 1 _ _ (0, 0) hC
  have m2 : w.cell? ⟨g, 2, none⟩ = some (.int .u64 (a2 : Int)) := cell_of_row w g 2 _ _ (0, 0) hC
  have m3 : w.cell? ⟨g, 3, none⟩ = some (.int .u64 (a3 : Int)) := cell_of_row w g 3 _ _ (0, 0) hC
  have m4 : w.cell? ⟨g, 4, none⟩ = some (.int .u64 (a4 : Int)) := cell_of_row w g 4 _ _ (0, 0) hC
  have m5 : w.cell? ⟨g, 5, none⟩ = some (.int .u64 (a5 : Int)) := cell_of_row w g 5 _ _ (0, 0) hC
  have m6 : w.cell? ⟨g, 6, none⟩ = some (.int .u64 (a6 : Int)) := cell_of_row w g 6 _ _ (0, 0) hC
  have m7 : w.cell? ⟨g, 7, none⟩ = some (.int .u64 (a7 : Int)) := cell_of_row w g 7 _ _ (0, 0) hC
  have m8 : w.cell? ⟨g, 8, none⟩ = some (.slice A (n % 128) c) := cell_of_row w g 8 _ _ (0, 0) hC
  have m9 : w.cell? ⟨g, 9, none⟩ = some (.int .u64 (n : Int)) := cell_of_row w g 9 _ _ (0, 0) hC
  have HSA := hide ((St.init w NoB).alloc #[.int .u64 (a0 : Int), .int .u64 (a1 : Int), .int .u64 (a2 : Int), .int .u64 (a3 : Int), .int .u64 (a4 : Int), .int .u64 (a5 : Int), .int .u64 (a6 : Int), .int .u64 (a7 : Int), .slice A (n % 128) c, .int .u64 (n : Int)] 42)
  have HN : Hid (l.length = n) := hide hnn.symm
  have hn9 : n ≤ 900000 := by omega
  have HS8 := hide hs8
  have hgl : g < w.heap.size := (Array.getElem?_eq_some_iff.1 hC0).1
  have HGL := hide hgl
  have HR0 := hide hR0
  have HM9 := hide m9
  clear hC hnn hs8 hn hC0 hR0
  go_enter Try.func13, Try.ntmps13
  go_upto_region 6 with (at_builtin; refine wl_append0 rfl rfl tyB HSA.out rfl rfl (by have h := HR0.out.below (HSA.out.below); rw [HN.out] at h; exact h) (one_bvs _) (by omega) (by decide) ?_; intro A2 c2 w2 hS2; have q8 := hS2.free 1 rfl 8; have z8 : w2.cell? ⟨w.heap.size, 8, none⟩ = some (.slice A (n % 128) c) := hS2.cell 1 rfl 8; have HS3 := hide (hS2.setCell 1 rfl 8 (.slice A2 (n % 128) c2)); clear hS2)
  generalize w.heap.size = g2 at HS3 ⊢
  generalize w2.setCell ⟨g2, 8, none⟩ (.slice A2 (n % 128) c2) = w3 at HS3 ⊢
  have hS3 : St w NoB w3 (.row (.slice A2 (n % 128) c2) 5 1 (n % 128) (bvs (rsO l)) :: .cells g2 (hashC [a0, a1, a2, a3, a4, a5, a6, a7] (.slice A2 (n % 128) c2) n) 42 :: ([] : List Chunk)) := HS3.out
  rw [← HS8.out, ← HN.out] at hS3
  have HS4 : Hid (St w NoB w3 (HCk g2 A2 c2 l :: HRk A2 c2 l :: ([] : List Chunk))) := hide hS3.swap
  clear m0 m1 m2 m3 m4 m5 m6 m7 m8 m9 hgl q8 z8 hS3 HS3 HSA
  have hg2 : g2 < w3.heap.size := Chunk.lt (HS4.out.sat 0 _ rfl) rfl
  have HS5 := hide (HS4.out.skip (.cells #[.int .u8 128] 5))
  have HR5 := hide (show Rd (w3.alloc (.cells #[.int .u8 128] 5)) (.slice (some ⟨w3.heap.size, 0, none⟩) 1 1) 1 1 (bvs [128]) from rd_new w3 [.int .u8 128] 5 1 1 rfl (by decide))
  have HNE : Hid ((Value.slice (some ⟨w3.heap.size, 0, none⟩) 1 1).ownBlock ≠ some g2) := hide (fun h => by have h2 : w3.heap.size = g2 := Option.some.inj h; omega)
  have HWR := hide (write_msg g2 A2 c2 l (some ⟨w3.heap.size, 0, none⟩) 1 1 [128] _ rfl (by rw [HN.out]; omega) HS5.out HR5.out (fun _ => HNE.out))
  go_upto_region 7 with (go_at_call 12; refine HWR.out.mono ?_; rintro e w4 ⟨rfl, A4, c4, hS4⟩)
  obtain ⟨l1, hl1⟩ : ∃ l1, l1 = l ++ [128] := ⟨_, rfl⟩
  rw [← hl1] at hS4
  have hl1n : l1.length = n + 1 := by rw [hl1, List.length_append, HN.out]; rfl
  have z8 : w4.cell? ⟨g2, 8, none⟩ = some (.slice A4 ((n + 1) % 128) c4) := by
    have := (hS4.cell 0 rfl 8).trans (hashC_eight (stO_ok l1).1)
    rwa [hl1n] at this
  have HS6 := hide hS4
  have HL1 := hide hl1
  have HL1N := hide hl1n
  obtain ⟨z, hz⟩ : ∃ z, z = zsL n := ⟨_, rfl⟩
  have hzm1 : ((240 : Int) - (((n + 1) % 128 : Nat) : Int)) % 128 = (z : Int) := by rw [hz]; unfold zsL; omega
  have hzm2 : ((240 : Int) - (((n + 1) % 128 : Nat) : Int)).tmod 128 = (z : Int) := by rw [Int.tmod_eq_emod_of_nonneg (by omega)]; exact hzm1
  have hz127 : z ≤ 127 := by rw [hz]; unfold zsL; omega
  have hr127 : (n + 1) % 128 ≤ 127 := by omega
  generalize (n + 1) % 128 = r4 at z8 hzm1 hzm2 hr127
  have HZ := hide hz
  clear hS4 hl1 hl1n hz hg2 HS5 HR5 HNE HWR HS4
  go_upto_region 8 with (first
    | (have _q := hb5; go_at_call 12; refine (write_msg (H := .row (.slice (some ⟨gz, 0, none⟩) z z) 5 1 z (bvs (List.replicate z 0)) :: ([] : List Chunk)) g2 A4 c4 l1 (some ⟨gz, 0, none⟩) z z (List.replicate z 0) _ List.length_replicate (by rw [HL1N.out]; omega) (St.swap12 (St.swap HS7.out)) (HS7.out.rd 0 rfl) (fun _ h => by have h2 : gz = g2 := Option.some.inj h; exact HS7.out.apart 0 1 _ _ gz (by decide) rfl rfl rfl (by rw [h2]; rfl))).mono ?_; rintro e w6 ⟨rfl, A6, c6, hS8⟩)
    | (refine wl_makeB (n := z) rfl rfl Try.underlying22 infoB HS6.out rfl rfl (by omega) ?_; intro gz w5 hS7 hb5; have HS7 := hide hS7; clear hS7))
  obtain ⟨l2, hl2⟩ : ∃ l2, l2 = l1 ++ List.replicate z 0 := ⟨_, rfl⟩
  rw [← hl2] at hS8
  have HL2 := hide hl2
  have hl2n : l2.length ≤ 900200 := by rw [hl2, List.length_append, HL1N.out, List.length_replicate]; omega
  replace hS8 : St w NoB w6 (HCk g2 A6 c6 l2 :: HRk A6 c6 l2 :: ([] : List Chunk)) := St.cut3 hS8
  have HS8 := hide hS8
  have HD := hide hS8.drew
  have hg26 : g2 < w6.heap.size := Chunk.lt (hS8.sat 0 _ rfl) rfl
  have HG26 := hide hg26
  have HC9 : Hid (Sn g n w6.drew) := hide ((HD.out.below.cell (p := ⟨g, 9, none⟩) HGL.out).trans HM9.out)
  have c9 : ∀ z, Sn g n z → z.cell? ⟨g, 9, none⟩ = some (.int .u64 (n : Int)) := fun z hz => hz
  have hx1 : (n : Int) / 2305843009213693952 = 0 := by omega
  have hx2 : IntKind.u64.wrap ((n : Int) * 8) = ((8 * n : Nat) : Int) := by rw [IntKind.wrap_u64]; omega
  have h8n : 8 * n < W1 := by unfold W1; omega
  obtain ⟨n8, hn8⟩ : ∃ n8, n8 = 8 * n := ⟨_, rfl⟩
  rw [← hn8] at hx2 h8n
  have HN8 := hide hn8
  have HL2N := hide hl2n
  clear z8 hzm1 hzm2 hr127 hb5 _q hl2 hl2n hS8 hg26 hn8
  refine wp_region_G (Sn g n) (by kernel_rfl) ?_
  (refine wpG_take (i := 0) (v := ?_) rfl (by kernel_rfl) (by kernel_rfl) (by kernel_rfl) (fun _ _ _ h => h) (HC9.out) (Or.inl ⟨by first | kernel_rfl | rfl, ?_⟩) ?_; rotate_left; (intro wx hx; go_simp) <;> (with_reducible rfl); (try simp only [Act.put, List.setIfInBounds_toArray, List.set_cons_zero, List.set_cons_succ, List.getElem_toArray, List.getElem_cons_succ, List.getElem_cons_zero])); (refine wpG_take (i := 1) (v := ?_) rfl (by kernel_rfl) (by kernel_rfl) (by kernel_rfl) (fun _ _ _ h => h) (HC9.out) (Or.inl ⟨by first | kernel_rfl | rfl, ?_⟩) ?_; rotate_left; (intro wx hx; go_simp) <;> (with_reducible rfl); (try simp only [Act.put, List.setIfInBounds_toArray, List.set_cons_zero, List.set_cons_succ, List.getElem_toArray, List.getElem_cons_succ, List.getElem_cons_zero])); (refine wpG_take (i := 2) (v := ?_) rfl (by kernel_rfl) (by kernel_rfl) (by kernel_rfl) (fun _ _ _ h => h) (HC9.out) (Or.inl ⟨by first | kernel_rfl | rfl, ?_⟩) ?_; rotate_left; (intro wx hx; go_simp) <;> (with_reducible rfl); (try simp only [Act.put, List.setIfInBounds_toArray, List.set_cons_zero, List.set_cons_succ, List.getElem_toArray, List.getElem_cons_succ, List.getElem_cons_zero])); (refine wpG_take (i := 3) (v := ?_) rfl (by kernel_rfl) (by kernel_rfl) (by kernel_rfl) (fun _ _ _ h => h) (HC9.out) (Or.inl ⟨by first | kernel_rfl | rfl, ?_⟩) ?_; rotate_left; (intro wx hx; go_simp) <;> (with_reducible rfl); (try simp only [Act.put, List.setIfInBounds_toArray, List.set_cons_zero, List.set_cons_succ, List.getElem_toArray, List.getElem_cons_succ, List.getElem_cons_zero])); (refine wpG_take (i := 4) (v := ?_) rfl (by kernel_rfl) (by kernel_rfl) (by kernel_rfl) (fun _ _ _ h => h) (HC9.out) (Or.inl ⟨by first | kernel_rfl | rfl, ?_⟩) ?_; rotate_left; (intro wx hx; go_simp) <;> (with_reducible rfl); (try simp only [Act.put, List.setIfInBounds_toArray, List.set_cons_zero, List.set_cons_succ, List.getElem_toArray, List.getElem_cons_succ, List.getElem_cons_zero])); (refine wpG_take (i := 5) (v := ?_) rfl (by kernel_rfl) (by kernel_rfl) (by kernel_rfl) (fun _ _ _ h => h) (HC9.out) (Or.inl ⟨by first | kernel_rfl | rfl, ?_⟩) ?_; rotate_left; (intro wx hx; go_simp) <;> (with_reducible rfl); (try simp only [Act.put, List.setIfInBounds_toArray, List.set_cons_zero, List.set_cons_succ, List.getElem_toArray, List.getElem_cons_succ, List.getElem_cons_zero])); (refine wpG_take (i := 7) (v := ?_) rfl (by kernel_rfl) (by kernel_rfl) (by kernel_rfl) (fun _ _ _ h => h) (HC9.out) (Or.inl ⟨by first | kernel_rfl | rfl, ?_⟩) ?_; rotate_left; (intro wx hx; go_simp) <;> (with_reducible rfl); (try simp only [Act.put, List.setIfInBounds_toArray, List.set_cons_zero, List.set_cons_succ, List.getElem_toArray, List.getElem_cons_succ, List.getElem_cons_zero])); (refine wpG_take (i := 8) (v := ?_) rfl (by kernel_rfl) (by kernel_rfl) (by kernel_rfl) (fun _ _ _ h => h) (HC9.out) (Or.inl ⟨by first | kernel_rfl | rfl, ?_⟩) ?_; rotate_left; (intro wx hx; go_simp) <;> (with_reducible rfl); (try simp only [Act.put, List.setIfInBounds_toArray, List.set_cons_zero, List.set_cons_succ, List.getElem_toArray, List.getElem_cons_succ, List.getElem_cons_zero])); (refine wpG_take (i := 9) (v := ?_) rfl (by kernel_rfl) (by kernel_rfl) (by kernel_rfl) (fun _ _ _ h => h) (HC9.out) (Or.inl ⟨by first | kernel_rfl | rfl, ?_⟩) ?_; rotate_left; (intro wx hx; go_simp) <;> (with_reducible rfl); (try simp only [Act.put, List.setIfInBounds_toArray, List.set_cons_zero, List.set_cons_succ, List.getElem_toArray, List.getElem_cons_succ, List.getElem_cons_zero])); (refine wpG_take (i := 10) (v := ?_) rfl (by kernel_rfl) (by kernel_rfl) (by kernel_rfl) (fun _ _ _ h => h) (HC9.out) (Or.inl ⟨by first | kernel_rfl | rfl, ?_⟩) ?_; rotate_left; (intro wx hx; go_simp) <;> (with_reducible rfl); (try simp only [Act.put, List.setIfInBounds_toArray, List.set_cons_zero, List.set_cons_succ, List.getElem_toArray, List.getElem_cons_succ, List.getElem_cons_zero])); (refine wpG_take (i := 11) (v := ?_) rfl (by kernel_rfl) (by kernel_rfl) (by kernel_rfl) (fun _ _ _ h => h) (HC9.out) (Or.inl ⟨by first | kernel_rfl | rfl, ?_⟩) ?_; rotate_left; (intro wx hx; go_simp) <;> (with_reducible rfl); (try simp only [Act.put, List.setIfInBounds_toArray, List.set_cons_zero, List.set_cons_succ, List.getElem_toArray, List.getElem_cons_succ, List.getElem_cons_zero]))
  (refine wpG_one (i := 6) (by kernel_rfl) rfl ?_; intro K hK; (try simp only [Act.put, List.setIfInBounds_toArray, List.set_cons_zero, List.set_cons_succ, List.getElem_toArray, List.getElem_cons_succ, List.getElem_cons_zero]))
  refine step_call rfl rfl enBehind rfl (show Calls Try.prog _ _ _ (fun e w' => ∃ B' d', e = .returned (.slice B' 8 d') ∧ St w6.drew NoB w' [.row (.slice B' 8 d') 5 1 8 (bvs (beL 8 0))]) from behind_any (w0 := w6.drew) (M := NoB) (H := []) none 0 0 0 [] w6.drew rfl (by decide) (by decide) ((St.init w6.drew NoB).row (Below.refl _ _) (World.ownsRow_nil _ _ _ 1))) ?_
  rintro e v1 ⟨B1, d1, rfl, hT1⟩
  have F1 : Sn g n v1 := by rw [Sn, hT1.below.cell (p := ⟨g, 9, none⟩) (Nat.lt_of_lt_of_le HGL.out HD.out.below.size)]; exact HC9.out
  refine ⟨_, rfl, hK (Sn g n) _ _ (fun _ h => h) F1 ?_⟩
  clear hK K
  (try simp only [Act.put, List.setIfInBounds_toArray, List.set_cons_zero, List.set_cons_succ, List.getElem_toArray, List.getElem_cons_succ, List.getElem_cons_zero])
  (refine wpG_one (i := 12) (by kernel_rfl) rfl ?_; intro K hK; (try simp only [Act.put, List.setIfInBounds_toArray, List.set_cons_zero, List.set_cons_succ, List.getElem_toArray, List.getElem_cons_succ, List.getElem_cons_zero]))
  refine step_call rfl rfl enBehind rfl (show Calls Try.prog _ _ _ (fun e w' => ∃ B' d', e = .returned (.slice B' 16 d') ∧ St w6.drew NoB w' [.row (.slice B' 16 d') 5 1 16 (bvs (beL 8 0 ++ beL 8 n8))]) from behind_any (w0 := w6.drew) (M := NoB) (H := []) B1 d1 8 n8 (beL 8 0) v1 rfl (by decide) h8n hT1) ?_
  rintro e v2 ⟨B2, d2, rfl, hT2⟩
  have F2 : Sn g n v2 := by rw [Sn, hT2.below.cell (p := ⟨g, 9, none⟩) (Nat.lt_of_lt_of_le HGL.out HD.out.below.size)]; exact HC9.out
  refine ⟨_, rfl, hK (Sn g n) _ _ (fun _ h => h) F2 ?_⟩
  clear hK K
  (try simp only [Act.put, List.setIfInBounds_toArray, List.set_cons_zero, List.set_cons_succ, List.getElem_toArray, List.getElem_cons_succ, List.getElem_cons_zero])
  (refine wpG_one (i := 13) (by kernel_rfl) rfl ?_; intro K hK; (try simp only [Act.put, List.setIfInBounds_toArray, List.set_cons_zero, List.set_cons_succ, List.getElem_toArray, List.getElem_cons_succ, List.getElem_cons_zero]))
  refine step_callv rfl rfl rfl enWrite rfl (write_msg (H := ([] : List Chunk)) g2 A6 c6 l2 B2 d2 16 (beL 8 0 ++ beL 8 n8) v2 (by rw [List.length_append, beL_len, beL_len]) (by have := HL2N.out; omega) (HD.out.call hT2.below) (hT2.rd 0 rfl) (fun _ h => by
    have h2 : w6.heap.size ≤ g2 := by
      rcases hT2.own 0 _ g2 rfl h with h3 | h3
      · exact h3
      · exact h3.elim
    have := HG26.out
    omega)) ?_
  rintro e v3 ⟨rfl, A8, c8, hS9⟩
  have F3 : Sn g n v3 := (hS9.below.cell (p := ⟨g, 9, none⟩) HGL.out).trans HM9.out
  refine ⟨_, rfl, hK (Sn g n) _ _ (fun _ h => h) F3 ?_⟩
  clear hK K
  (try simp only [Act.put, List.setIfInBounds_toArray, List.set_cons_zero, List.set_cons_succ, List.getElem_toArray, List.getElem_cons_succ, List.getElem_cons_zero])
  refine wpG_done (by kernel_rfl) ?_ _
  clear c9 hx1 hx2 F1 F2 F3
  have hmsg : l2 ++ (beL 8 0 ++ beL 8 n8) = l ++ padL l.length := by
    rw [HN.out, HL2.out, HL1.out, HZ.out, HN8.out]
    unfold padL
    simp only [List.append_assoc]
  rw [hmsg] at hS9
  obtain ⟨s, hs⟩ : ∃ s, s = stO (l ++ padL l.length) := ⟨_, rfl⟩
  have hsh : shaL l = outL s := by unfold shaL; rw [hs]
  have hs8 : s.length = 8 := by rw [hs]; exact (stO_ok _).1
  have hsw : Words s := by rw [hs]; exact (stO_ok _).2
  obtain ⟨b0, b1, b2, b3, b4, b5, b6, b7, hsb⟩ := list8 hs8
  have hC : v3.heap[g2]? = some (.cells (hashC [b0, b1, b2, b3, b4, b5, b6, b7] (.slice A8 ((l ++ padL l.length).length % 128) c8) (l ++ padL l.length).length) 42 (0, 0)) := by
    have := hS9.sat 0 _ rfl
    unfold HCk at this
    rw [← hs, hsb] at this
    exact this
  have p0 : v3.cell? ⟨g2, 0, none⟩ = some (.int .u64 (b0 : Int)) := cell_of_row v3 g2 0 _ _ (0, 0) hC
  have p1 : v3.cell? ⟨g2, 1, none⟩ = some (.int .u64 (b1 : Int)) := cell_of_row v3 g2 1 _ _ (0, 0) hC
  have p2 : v3.cell? ⟨g2, 2, none⟩ = some (.int .u64 (b2 : Int)) := cell_of_row v3 g2 2 _ _ (0, 0) hC
  have p3 : v3.cell? ⟨g2, 3, none⟩ = some (.int .u64 (b3 : Int)) := cell_of_row v3 g2 3 _ _ (0, 0) hC
  have p4 : v3.cell? ⟨g2, 4, none⟩ = some (.int .u64 (b4 : Int)) := cell_of_row v3 g2 4 _ _ (0, 0) hC
  have p5 : v3.cell? ⟨g2, 5, none⟩ = some (.int .u64 (b5 : Int)) := cell_of_row v3 g2 5 _ _ (0, 0) hC
  have p6 : v3.cell? ⟨g2, 6, none⟩ = some (.int .u64 (b6 : Int)) := cell_of_row v3 g2 6 _ _ (0, 0) hC
  have p7 : v3.cell? ⟨g2, 7, none⟩ = some (.int .u64 (b7 : Int)) := cell_of_row v3 g2 7 _ _ (0, 0) hC
  have HSB := hide hsb
  have HSH := hide hsh
  have HSW := hide hsw
  have HS10 : Hid (St w NoB v3 (.row (.slice none 0 0) 5 1 0 [] :: ([] : List Chunk))) := hide (hS9.tail.tail.row (Below.refl _ _) (World.ownsRow_nil _ _ _ 1))
  clear hS9 hmsg hs hsh hs8 hsb hC hT1 hT2 hsw h8n
  go_wp2_with fail
  clear p0 p1 p2 p3 p4 p5 p6 p7
  go_loopw [5, 47] (fun v i wr => SumRel w NoB (([] : List Chunk)) s v i wr) (fun _ i _ => 8 - (intOf i).toNat)
  case atStart => exact ⟨0, none, 0, by omega, rfl, rfl, HS10.out⟩
  case round =>
    clear HS10
    obtain ⟨j, B, d, hj, rfl, rfl, hS⟩ := hrel
    by_cases hlt : j < 8
    · obtain ⟨x, hx⟩ : ∃ x, s[j]? = some x := ⟨s[j]'(by rw [HSB.out]; exact hlt), List.getElem?_eq_getElem _⟩
      have hxw := HSW.out x (List.mem_of_getElem? hx)
      have hix := ixh b0 b1 b2 b3 b4 b5 b6 b7 j x (by rw [← HSB.out]; exact hx)
      have HT := hide (outL_take s j x hx)
      have dk : decide ((j : Int) < 8) = true := by simp; omega
      have ik : (j : Int) < 8 := by omega
      have HBE := hide (behind_any B d (8 * j) x (outL (s.take j)) wr (by rw [outL_len, List.length_take, HSB.out]; show 8 * min j 8 = _; omega) (by omega) hxw hS)
      clear hS hx hxw
      go_wp2_with (go_at_call 18; refine HBE.out.mono ?_; rintro e w9 ⟨B9, d9, rfl, hS9⟩; have HS9 := hide hS9; clear hS9)
      go_roundw
      case rel =>
        refine ⟨j + 1, B9, d9, by omega, by go_num, rfl, ?_⟩
        rw [HT.out]
        exact HS9.out
      case measure => (simp [intOf]) <;> omega
    · obtain rfl : j = 8 := by omega
      have h8 : s.take 8 = s := List.take_of_length_le (by rw [HSB.out]; exact Nat.le_refl _)
      rw [h8, ← HSH.out] at hS
      have HS := hide hS
      clear hS h8
      go_wp2_with fail
      go_ret
      exact ⟨B, d, rfl, HS.out.below, HS.out.ownsRow 0 rfl⟩
end Go.Proofs.Ytabdbddmmbccjaa
