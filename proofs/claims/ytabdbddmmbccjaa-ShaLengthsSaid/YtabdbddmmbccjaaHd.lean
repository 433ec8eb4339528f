/-
  Layer 1: the walk of takes: a block of 128 bytes.
-/
import Derived.Test.YtabdbddmmbccjaaHc
namespace Go.Proofs.Ytabdbddmmbccjaa
open Go.RowKit
set_option linter.unusedSimpArgs false

def chz (e f g : Nat) : Nat := (e &&& f) ^^^ ((18446744073709551615 ^^^ e) &&& g)
def mjr (a b c : Nat) : Nat := ((a &&& b) ^^^ (a &&& c)) ^^^ (b &&& c)
def rnd : List Nat → Nat → Nat → List Nat
  | [a, b, c, d, e, f, g, h], k, x => [wad (wad (wad (wad (wad h (mix e 14 18 41)) (chz e f g)) k) x) (wad (mix a 28 34 39) (mjr a b c)), a, b, c, wad d (wad (wad (wad (wad h (mix e 14 18 41)) (chz e f g)) k) x), e, f, g]
  | s, _, _ => s
def rnds (h ws : List Nat) : Nat → List Nat
  | 0 => h
  | i + 1 => rnd (rnds h ws i) (kL.getD i 0) (ws.getD i 0)
/-- What a block makes of a state. -/
def comp (h : List Nat) (b : List UInt8) : List Nat := List.zipWith wad h (rnds h (schL b 80) 80)
theorem list8 {xs : List Nat} (h : xs.length = 8) : ∃ a b c d e f g k, xs = [a, b, c, d, e, f, g, k] := by
  match xs, h with
  | [a, b, c, d, e, f, g, k], _ => exact ⟨a, b, c, d, e, f, g, k, rfl⟩
theorem rnd_ok {s : List Nat} (h : s.length = 8) (hw : Words s) (k x : Nat) : (rnd s k x).length = 8 ∧ Words (rnd s k x) := by
  obtain ⟨a, b, c, d, e, f, g, z, rfl⟩ := list8 h
  refine ⟨rfl, fun y hy => ?_⟩
  simp only [rnd, List.mem_cons, List.not_mem_nil, or_false] at hy
  rcases hy with rfl | rfl | rfl | rfl | rfl | rfl | rfl | rfl
  · exact wad_lt _ _
  · exact hw _ (by simp)
  · exact hw _ (by simp)
  · exact hw _ (by simp)
  · exact wad_lt _ _
  · exact hw _ (by simp)
  · exact hw _ (by simp)
  · exact hw _ (by simp)
theorem rnds_ok {h : List Nat} (hl : h.length = 8) (hw : Words h) (ws : List Nat) : ∀ i, (rnds h ws i).length = 8 ∧ Words (rnds h ws i)
  | 0 => ⟨hl, hw⟩
  | i + 1 => by
    obtain ⟨h1, h2⟩ := rnds_ok hl hw ws i
    exact rnd_ok h1 h2 _ _
theorem comp_ok {h : List Nat} (hl : h.length = 8) (hw : Words h) (b : List UInt8) : (comp h b).length = 8 ∧ Words (comp h b) := by
  obtain ⟨h1, h2⟩ := rnds_ok hl hw (schL b 80) 80
  refine ⟨by unfold comp; rw [List.length_zipWith, hl, h1]; rfl, fun y hy => ?_⟩
  unfold comp at hy
  obtain ⟨i, hi, rfl⟩ := List.getElem_of_mem hy
  rw [List.getElem_zipWith]
  exact wad_lt _ _
theorem h0_ok : h0L.length = 8 ∧ Words h0L := ⟨rfl, by unfold Words; decide +kernel⟩
theorem kL_get (i : Nat) (h : i < 80) : kL[i]? = some (kL.getD i 0) ∧ kL.getD i 0 < W1 := by
  have hl : kL.length = 80 := by decide
  have hw : Words kL := by unfold Words; decide +kernel
  refine ⟨by rw [List.getD_eq_getElem?_getD, List.getElem?_eq_getElem (by omega)]; rfl, ?_⟩
  rw [List.getD_eq_getElem?_getD, List.getElem?_eq_getElem (by omega)]
  exact hw _ (List.getElem_mem _)
section
variable {P : Program} {ops : Array Oper} {rest : List Oper} {o : Oper} {a : Act} {w : World} {Q : Exit → Act → World → Prop}
theorem wl_call (hgd : o.guard = none) {f : FuncId} {xs : List Operand} {ts : Array TypeId} {vs : List Value} {R : Ending → World → Prop}
    (ho : o.op = .call { callee := .value (.func f), args := xs.toArray, argTypes := ts }) (hf : ∀ (args : Array Value) (w : World), (callFunc f args).run P w = .ok (.enter f args) w)
    (hx : xs.map a.eval = vs) (hc : Calls P f vs.toArray w R) (h : ∀ e w', R e w' → ∃ v, e = .returned v ∧ wpList P ops Q rest (a.put o.dst v) w') : wpList P ops Q (o :: rest) a w :=
  wpList_plain hgd fun _ hK => wp_call ho hf hx hc fun e w' hr => by
    obtain ⟨v, he, hk⟩ := h e w' hr
    exact ⟨v, he, hK _ _ hk⟩
theorem wl_alloc (hgd : o.guard = none) {zs : Array Value} {e : TypeId} (hrun : (execOp a.eval o).run P w = .ok (.value (.pointer (some ⟨w.heap.size, 0, none⟩))) (w.alloc (.cells zs e)))
    (h : wpList P ops Q rest (a.put o.dst (.pointer (some ⟨w.heap.size, 0, none⟩))) (w.alloc (.cells zs e))) : wpList P ops Q (o :: rest) a w :=
  wpList_plain hgd fun K hK => by
    unfold Oper.wp
    rw [hrun, Oper.upon_value]
    exact hK _ _ h
end
section
variable {P : Program} {ops : Array Oper} {rest : List Oper} {o : Oper} {a : Act} {w0 w : World} {M : Nat → Prop} {H : List Chunk} {Q : Exit → Act → World → Prop}
theorem wl_allocS (hgd : o.guard = none) {zs : Array Value} {e : TypeId} (hrun : ∀ w, (execOp a.eval o).run P w = .ok (.value (.pointer (some ⟨w.heap.size, 0, none⟩))) (w.alloc (.cells zs e))) (hS : St w0 M w H)
    (h : ∀ g w', St w0 M w' (.cells g zs e :: H) → wpList P ops Q rest (a.put o.dst (.pointer (some ⟨g, 0, none⟩))) w') : wpList P ops Q (o :: rest) a w :=
  wl_alloc hgd (hrun w) (h w.heap.size _ (hS.alloc zs e))
theorem wl_storeRow (hgd : o.guard = none) {t : TypeId} {p x : Operand} (ho : o.op = .store t p x) (hS : St w0 M w H) (i : Nat) {g : Nat} {c : Array Value} {e : TypeId} (hi : H[i]? = some (.cells g c e)) {cs : Array Value}
    (hp : a.eval p = .pointer (some ⟨g, 0, none⟩)) (hx : a.eval x = .agg cs) (ht : (P.info? t).map (·.size) = some cs.size) (hc : c.size = cs.size) (h1 : cs.all (·.oneCell') = true)
    (h : ∀ w', St w0 M w' (H.set i (.cells g cs e)) → wpList P ops Q rest (a.put o.dst undef) w') : wpList P ops Q (o :: rest) a w :=
  wpList_store_row hgd t p x ho g cs hp hx e c (hS.heap i hi) ht hc h1 (h _ (hS.setRow i hi cs))
end
theorem uvs_all (xs : List Nat) : (uvs xs).toArray.all (·.oneCell') = true := by rw [Array.all_eq_true_iff_forall_mem]; intro v hv; exact uvs_one _ v (by simpa using hv)
theorem kA_size : kA.size = 80 := by unfold kA; rfl
theorem z80_size : z80.size = 80 := by unfold z80; rfl
theorem kA_all : kA.all (·.oneCell') = true := by unfold kA; exact uvs_all _
theorem alloc80 {a : Act} {o : Oper} (ho : o.op = .alloc 36) (W : World) : (execOp a.eval o).run Try.prog W = .ok (.value (.pointer (some ⟨W.heap.size, 0, none⟩))) (W.alloc (.cells z80 36)) := by
  have hz := zero80 W
  simp only [execOp, ho, Instr.alloc, Sem.run_bind, Sem.run_pure, Result.andThen_ok, hz]
  rfl
theorem info80 (n : Nat) (h : n = 80) : (Try.prog.info? 36).map (·.size) = some n := by rw [h]; kernel_rfl
theorem not_word (e : Nat) (h : e < W1) : ((W1 - 1 - e : Nat) : Int) = 18446744073709551615 - (e : Int) := by show ((18446744073709551616 - 1 - e : Nat) : Int) = _; have : e < 18446744073709551616 := h; omega
theorem enSched (args : Array Value) (w : World) : (callFunc 19 args).run Try.prog w = .ok (.enter 19 args) w := by kernel_rfl
theorem enConst (args : Array Value) (w : World) : (callFunc 20 args).run Try.prog w = .ok (.enter 20 args) w := by kernel_rfl
theorem enMixes (args : Array Value) (w : World) : (callFunc 21 args).run Try.prog w = .ok (.enter 21 args) w := by kernel_rfl
def hashC (hs : List Nat) (r : Value) (n : Nat) : Array Value := (uvs hs ++ [r, .int .u64 (n : Int)]).toArray
def TkRel (w0 : World) (M : Nat → Prop) (H : List Chunk) (g6 g5 g4 g : Nat) (hs ws : List Nat) (r : Value) (n : Nat) (iv : Value) (wr : World) : Prop :=
  ∃ i : Nat, i ≤ 80 ∧ iv = .int .i64 (i : Int) ∧ St w0 M wr (.cells g6 (uvs (rnds hs ws i)).toArray 35 :: .cells g5 kA 36 :: .cells g4 (uvs ws).toArray 36 :: .cells g (hashC hs r n) 42 :: H)
theorem St.pick3 {w0 w : World} {M : Nat → Prop} {H : List Chunk} {a b c : Chunk} (h : St w0 M w (a :: b :: c :: H)) : St w0 M w H := h.tail.tail.tail
def zipP (hs s : List Nat) (j : Nat) : List Nat := (List.zipWith wad hs s).take j ++ hs.drop j
theorem zipP_len (hs s : List Nat) (j : Nat) (h : hs.length = 8) (h2 : s.length = 8) (hj : j ≤ 8) : (zipP hs s j).length = 8 := by
  unfold zipP; rw [List.length_append, List.length_take, List.length_zipWith, List.length_drop, h, h2]; omega
theorem zipP_get (hs s : List Nat) (j x : Nat) (h : hs.length = 8) (h2 : s.length = 8) (hx : hs[j]? = some x) : (zipP hs s j)[j]? = some x := by
  have hj := (List.getElem?_eq_some_iff.1 hx).1
  have hl : ((List.zipWith wad hs s).take j).length = j := by rw [List.length_take, List.length_zipWith, h, h2]; omega
  unfold zipP
  rw [List.getElem?_append_right (by rw [hl]; exact Nat.le_refl _), hl, Nat.sub_self, List.getElem?_drop, Nat.add_zero, hx]
theorem zipP_set (hs s : List Nat) (j x y : Nat) (h : hs.length = 8) (h2 : s.length = 8) (hx : hs[j]? = some x) (hy : s[j]? = some y) : (zipP hs s j).set j (wad x y) = zipP hs s (j + 1) := by
  have hj := (List.getElem?_eq_some_iff.1 hx).1
  have hl : ((List.zipWith wad hs s).take j).length = j := by rw [List.length_take, List.length_zipWith, h, h2]; omega
  have hz : (List.zipWith wad hs s)[j]? = some (wad x y) := by rw [List.getElem?_zipWith, hx, hy]
  unfold zipP
  rw [List.set_append_right _ _ (by rw [hl]; exact Nat.le_refl _), hl, Nat.sub_self, List.drop_eq_getElem_cons (by omega), List.set_cons_zero, List.take_add_one, hz, List.append_assoc]
  rfl
theorem hashC_get (cur : List Nat) (r : Value) (n j x : Nat) (hx : cur[j]? = some x) : (hashC cur r n)[j]? = some (.int .u64 (x : Int)) := by
  unfold hashC
  have hj := (List.getElem?_eq_some_iff.1 hx).1
  rw [List.getElem?_toArray, List.getElem?_append_left (by rw [uvs_len]; exact hj)]
  have := uvs_get hx
  rwa [List.getElem?_toArray] at this
theorem hashC_set (cur : List Nat) (r : Value) (n j y : Nat) (hj : j < cur.length) : (hashC cur r n).setIfInBounds j (.int .u64 (y : Int)) = hashC (cur.set j y) r n := by
  unfold hashC
  rw [List.setIfInBounds_toArray, List.set_append_left _ _ (by rw [uvs_len]; exact hj)]
  congr 2
  have := uvs_set cur j y
  rw [List.setIfInBounds_toArray] at this
  simpa using this
def TkEnd (w0 : World) (M : Nat → Prop) (H : List Chunk) (g6 g5 g4 g : Nat) (hs s ws : List Nat) (r : Value) (n : Nat) (iv : Value) (wr : World) : Prop :=
  ∃ j : Nat, j ≤ 8 ∧ iv = .int .i64 (j : Int) ∧ St w0 M wr (.cells g6 (uvs s).toArray 35 :: .cells g5 kA 36 :: .cells g4 (uvs ws).toArray 36 :: .cells g (hashC (zipP hs s j) r n) 42 :: H)
set_option maxRecDepth 100000 in
set_option maxHeartbeats 1600000 in
theorem takes_any {w0 : World} {M : Nat → Prop} {H : List Chunk} (g : Nat) (hs : List Nat) (r : Value) (n : Nat) (B : Option Addr) (c : Nat) (l : List UInt8) (w : World) (hl8 : hs.length = 8) (hw8 : Words hs) (hl : l.length = 128)
    (hS : St w0 M w (.cells g (hashC hs r n) 42 :: H)) (hr : Rd w (.slice B 128 c) 1 128 (bvs l)) :
    Calls Try.prog 17 #[.pointer (some ⟨g, 0, none⟩), .slice B 128 c] w fun e w' => e = .returned (.tuple #[]) ∧ St w0 M w' (.cells g (hashC (comp hs l) r n) 42 :: H) := by
  have HS0 := hide hS
  have HSC := hide (schedule_any B c l w hl hr)
  have HW8 := hide hw8
  have HL8 := hide hl8
  have HWL : Hid ((schL l 80).length = 80) := hide (schL_len l 80)
  have HWW := hide (schL_words l 80)
  unfold comp
  obtain ⟨ws, hws⟩ : ∃ ws, ws = schL l 80 := ⟨_, rfl⟩
  rw [← hws] at HSC HWL HWW ⊢
  clear hS hr hws hl hw8
  obtain ⟨a0, a1, a2, a3, a4, a5, a6, a7, rfl⟩ := list8 hl8
  clear hl8
  go_enter Try.func17, Try.ntmps17
  go_upto_region 0 with fail
  refine wp_region_list ?_
  refine wl_run rfl (v := .slice B 128 c) rfl ?_
  refine wl_call rfl rfl enSched rfl HSC.out ?_
  rintro e w1 ⟨rfl, hb1⟩
  refine ⟨_, rfl, ?_⟩
  refine wl_call rfl rfl enConst rfl (const1_any w1) ?_
  rintro e w2 ⟨rfl, hb2⟩
  refine ⟨_, rfl, ?_⟩
  have hsz : (uvs ws).toArray.size = 80 := by rw [List.size_toArray, uvs_len, HWL.out]
  (try simp only [Act.put, List.setIfInBounds_toArray, List.set_cons_zero, List.set_cons_succ, List.getElem_toArray, List.getElem_cons_succ, List.getElem_cons_zero])
  refine wl_allocS rfl (zs := z80) (e := 36) (fun W => alloc80 rfl W) ((HS0.out.call hb1).call hb2) ?_
  intro g4 w3 hS3
  refine wl_allocS rfl (zs := z80) (e := 36) (fun W => alloc80 rfl W) hS3 ?_
  intro g5 w4 hS4
  (try simp only [Act.put, List.setIfInBounds_toArray, List.set_cons_zero, List.set_cons_succ, List.getElem_toArray, List.getElem_cons_succ, List.getElem_cons_zero])
  refine wl_storeRow rfl rfl hS4 1 rfl rfl rfl (info80 _ hsz) (z80_size.trans hsz.symm) (uvs_all _) ?_
  intro w5 hS5
  refine wl_storeRow rfl rfl hS5 0 rfl rfl rfl (info80 _ kA_size) (z80_size.trans kA_size.symm) kA_all ?_
  intro w6 hS6
  refine wpList_nil ?_
  (try simp only [Act.put, List.setIfInBounds_toArray, List.set_cons_zero, List.set_cons_succ, List.getElem_toArray, List.getElem_cons_succ, List.getElem_cons_zero])
  replace hS6 : St w0 M w6 (.cells g5 kA 36 :: .cells g4 (uvs ws).toArray 36 :: .cells g (hashC [a0, a1, a2, a3, a4, a5, a6, a7] r n) 42 :: H) := hS6
  have m0 : w6.cell? ⟨g, 0, none⟩ = some (.int .u64 (a0 : Int)) := hS6.cell 2 rfl 0
  have m1 : w6.cell? ⟨g, 1, none⟩ = some (.int .u64 (a1 : Int)) := hS6.cell 2 rfl 1
  have m2 : w6.cell? ⟨g, 2, none⟩ = some (.int .u64 (a2 : Int)) := hS6.cell 2 rfl 2
  have m3 : w6.cell? ⟨g, 3, none⟩ = some (.int .u64 (a3 : Int)) := hS6.cell 2 rfl 3
  have m4 : w6.cell? ⟨g, 4, none⟩ = some (.int .u64 (a4 : Int)) := hS6.cell 2 rfl 4
  have m5 : w6.cell? ⟨g, 5, none⟩ = some (.int .u64 (a5 : Int)) := hS6.cell 2 rfl 5
  have m6 : w6.cell? ⟨g, 6, none⟩ = some (.int .u64 (a6 : Int)) := hS6.cell 2 rfl 6
  have m7 : w6.cell? ⟨g, 7, none⟩ = some (.int .u64 (a7 : Int)) := hS6.cell 2 rfl 7
  have HS6 := hide (hS6.alloc (uvs [a0, a1, a2, a3, a4, a5, a6, a7]).toArray 35)
  clear hS3 hS4 hS5 hS6 hb1 hb2 HS0
  go_wp2_with fail
  clear m0 m1 m2 m3 m4 m5 m6 m7
  generalize w6.heap.size = g6 at HS6 ⊢
  go_loopw [20] (fun i wr => TkRel w0 M H g6 g5 g4 g [a0, a1, a2, a3, a4, a5, a6, a7] ws r n i wr) (fun i _ => 80 - (intOf i).toNat)
  case atStart => exact ⟨0, by omega, rfl, HS6.out⟩
  case round =>
    clear HS6
    obtain ⟨i, hi, rfl, hS⟩ := hrel
    by_cases hlt : i < 80
    · obtain ⟨hl2, hw2⟩ := rnds_ok HL8.out HW8.out ws i
      have HNX : Hid (rnds [a0, a1, a2, a3, a4, a5, a6, a7] ws (i + 1) = rnd (rnds [a0, a1, a2, a3, a4, a5, a6, a7] ws i) (kL.getD i 0) (ws.getD i 0)) := hide rfl
      obtain ⟨b0, b1, b2, b3, b4, b5, b6, b7, hs8⟩ := list8 hl2
      rw [hs8] at hS HNX hw2
      obtain ⟨hk, hkw⟩ := kL_get i hlt
      obtain ⟨x, hx⟩ : ∃ x, ws[i]? = some x := ⟨ws[i]'(by rw [HWL.out]; exact hlt), List.getElem?_eq_getElem _⟩
      have hxw := HWW.out x (List.mem_of_getElem? hx)
      rw [show ws.getD i 0 = x from by rw [List.getD_eq_getElem?_getD, hx]; rfl] at HNX
      generalize kL.getD i 0 = k at hk hkw HNX
      have HS := hide hS.drew
      have e0 : b0 < W1 := hw2 _ (by simp)
      have e1 : b1 < W1 := hw2 _ (by simp)
      have e2 : b2 < W1 := hw2 _ (by simp)
      have e3 : b3 < W1 := hw2 _ (by simp)
      have e4 : b4 < W1 := hw2 _ (by simp)
      have e5 : b5 < W1 := hw2 _ (by simp)
      have e6 : b6 < W1 := hw2 _ (by simp)
      have e7 : b7 < W1 := hw2 _ (by simp)
      have n0 : wr.cell? ⟨g6, 0, none⟩ = some (.int .u64 (b0 : Int)) := hS.cell 0 rfl 0
      have n1 : wr.cell? ⟨g6, 1, none⟩ = some (.int .u64 (b1 : Int)) := hS.cell 0 rfl 1
      have n2 : wr.cell? ⟨g6, 2, none⟩ = some (.int .u64 (b2 : Int)) := hS.cell 0 rfl 2
      have n3 : wr.cell? ⟨g6, 3, none⟩ = some (.int .u64 (b3 : Int)) := hS.cell 0 rfl 3
      have n4 : wr.cell? ⟨g6, 4, none⟩ = some (.int .u64 (b4 : Int)) := hS.cell 0 rfl 4
      have n5 : wr.cell? ⟨g6, 5, none⟩ = some (.int .u64 (b5 : Int)) := hS.cell 0 rfl 5
      have n6 : wr.cell? ⟨g6, 6, none⟩ = some (.int .u64 (b6 : Int)) := hS.cell 0 rfl 6
      have n7 : wr.cell? ⟨g6, 7, none⟩ = some (.int .u64 (b7 : Int)) := hS.cell 0 rfl 7
      have f0 := hS.free 0 rfl 0
      have f1 := hS.free 0 rfl 1
      have f2 := hS.free 0 rfl 2
      have f3 := hS.free 0 rfl 3
      have f4 := hS.free 0 rfl 4
      have f5 := hS.free 0 rfl 5
      have f6 := hS.free 0 rfl 6
      have f7 := hS.free 0 rfl 7
      have p0 : ∀ z, From wr.drew z → z.cell? ⟨g6, 0, none⟩ = some (.int .u64 (b0 : Int)) := fun z hz => by rw [hz.cell (p := ⟨g6, 0, none⟩) (Chunk.lt (HS.out.sat 0 _ rfl) rfl)]; exact HS.out.cell 0 rfl 0
      have p1 : ∀ z, From wr.drew z → z.cell? ⟨g6, 1, none⟩ = some (.int .u64 (b1 : Int)) := fun z hz => by rw [hz.cell (p := ⟨g6, 1, none⟩) (Chunk.lt (HS.out.sat 0 _ rfl) rfl)]; exact HS.out.cell 0 rfl 1
      have p2 : ∀ z, From wr.drew z → z.cell? ⟨g6, 2, none⟩ = some (.int .u64 (b2 : Int)) := fun z hz => by rw [hz.cell (p := ⟨g6, 2, none⟩) (Chunk.lt (HS.out.sat 0 _ rfl) rfl)]; exact HS.out.cell 0 rfl 2
      have p3 : ∀ z, From wr.drew z → z.cell? ⟨g6, 3, none⟩ = some (.int .u64 (b3 : Int)) := fun z hz => by rw [hz.cell (p := ⟨g6, 3, none⟩) (Chunk.lt (HS.out.sat 0 _ rfl) rfl)]; exact HS.out.cell 0 rfl 3
      have p4 : ∀ z, From wr.drew z → z.cell? ⟨g6, 4, none⟩ = some (.int .u64 (b4 : Int)) := fun z hz => by rw [hz.cell (p := ⟨g6, 4, none⟩) (Chunk.lt (HS.out.sat 0 _ rfl) rfl)]; exact HS.out.cell 0 rfl 4
      have p5 : ∀ z, From wr.drew z → z.cell? ⟨g6, 5, none⟩ = some (.int .u64 (b5 : Int)) := fun z hz => by rw [hz.cell (p := ⟨g6, 5, none⟩) (Chunk.lt (HS.out.sat 0 _ rfl) rfl)]; exact HS.out.cell 0 rfl 5
      have p6 : ∀ z, From wr.drew z → z.cell? ⟨g6, 6, none⟩ = some (.int .u64 (b6 : Int)) := fun z hz => by rw [hz.cell (p := ⟨g6, 6, none⟩) (Chunk.lt (HS.out.sat 0 _ rfl) rfl)]; exact HS.out.cell 0 rfl 6
      have p7 : ∀ z, From wr.drew z → z.cell? ⟨g6, 7, none⟩ = some (.int .u64 (b7 : Int)) := fun z hz => by rw [hz.cell (p := ⟨g6, 7, none⟩) (Chunk.lt (HS.out.sat 0 _ rfl) rfl)]; exact HS.out.cell 0 rfl 7
      have ck : ∀ z, From wr.drew z → z.cell? ⟨g5, i, none⟩ = some (.int .u64 (k : Int)) := fun z hz => by
        rw [hz.cell (p := ⟨g5, i, none⟩) (Chunk.lt (HS.out.sat 1 _ rfl) rfl), HS.out.cell 1 rfl i]
        unfold kA
        exact uvs_get hk
      have cx : ∀ z, From wr.drew z → z.cell? ⟨g4, i, none⟩ = some (.int .u64 (x : Int)) := fun z hz => by
        rw [hz.cell (p := ⟨g4, i, none⟩) (Chunk.lt (HS.out.sat 2 _ rfl) rfl), HS.out.cell 2 rfl i]
        exact uvs_get hx
      have dk : decide ((i : Int) < 80) = true := by simp; omega
      have ik : (i : Int) < 80 := by omega
      have hmx : IntKind.u64.max = ((18446744073709551615 : Nat) : Int) := rfl
      have x1 := u64_and_nat b4 b5 e4 e5
      have x2 : bits .xor .u64 IntKind.u64.max (b4 : Int) = ((18446744073709551615 ^^^ b4 : Nat) : Int) := by rw [hmx]; exact u64_xor_nat 18446744073709551615 b4 (by decide) e4
      have l2 : 18446744073709551615 ^^^ b4 < W1 := xor_lt _ _ (by decide) e4
      have x3 := u64_and_nat (18446744073709551615 ^^^ b4) b6 l2 e6
      have x4 := u64_xor_nat (b4 &&& b5) ((18446744073709551615 ^^^ b4) &&& b6) (and_lt _ _ e4) (and_lt _ _ l2)
      have y1 := u64_and_nat b0 b1 e0 e1
      have y2 := u64_and_nat b0 b2 e0 e2
      have y3 := u64_and_nat b1 b2 e1 e2
      have y4 := u64_xor_nat (b0 &&& b1) (b0 &&& b2) (and_lt _ _ e0) (and_lt _ _ e0)
      have y5 := u64_xor_nat ((b0 &&& b1) ^^^ (b0 &&& b2)) (b1 &&& b2) (xor_lt _ _ (and_lt _ _ e0) (and_lt _ _ e0)) (and_lt _ _ e1)
      have ech : ((b4 &&& b5) ^^^ ((18446744073709551615 ^^^ b4) &&& b6)) = chz b4 b5 b6 := rfl
      have emj : (((b0 &&& b1) ^^^ (b0 &&& b2)) ^^^ (b1 &&& b2)) = mjr b0 b1 b2 := rfl
      rw [ech] at x4
      rw [emj] at y5
      have HM1 := hide (fun W => mixes_any b4 14 18 41 W e4 (by decide) (by decide) (by decide))
      have HM2 := hide (fun W => mixes_any b0 28 34 39 W e0 (by decide) (by decide) (by decide))
      simp only [rnd] at HNX
      clear ech emj hmx
      generalize (18446744073709551615 ^^^ b4) &&& b6 = q3 at *
      generalize 18446744073709551615 ^^^ b4 = q2 at *
      generalize b4 &&& b5 = q1 at *
      generalize (b0 &&& b1) ^^^ (b0 &&& b2) = r4 at *
      generalize b0 &&& b1 = r1 at *
      generalize b0 &&& b2 = r2 at *
      generalize b1 &&& b2 = r3 at *
      generalize chz b4 b5 b6 = ch at *
      generalize mjr b0 b1 b2 = mj at *
      generalize mix b4 14 18 41 = m1 at *
      generalize mix b0 28 34 39 = m2 at *
      have w1 := wad_wrap b7 m1
      have w2 := wad_wrap (wad b7 m1) ch
      have w3 := wad_wrap (wad (wad b7 m1) ch) k
      have w4 := wad_wrap (wad (wad (wad b7 m1) ch) k) x
      have w5 := wad_wrap m2 mj
      have w6 := wad_wrap (wad (wad (wad (wad b7 m1) ch) k) x) (wad m2 mj)
      have w7 := wad_wrap b3 (wad (wad (wad (wad b7 m1) ch) k) x)
      generalize wad (wad (wad (wad (wad b7 m1) ch) k) x) (wad m2 mj) = z0 at *
      generalize wad b3 (wad (wad (wad (wad b7 m1) ch) k) x) = z4 at *
      generalize wad (wad (wad (wad b7 m1) ch) k) x = t1 at *
      generalize wad (wad (wad b7 m1) ch) k = u3 at *
      generalize wad (wad b7 m1) ch = u2 at *
      generalize wad b7 m1 = u1 at *
      generalize wad m2 mj = t2 at *
      have HSW := hide hS
      clear hs8 hl2 hk hx hS e0 e1 e2 e3 e4 e5 e6 e7 hxw hkw hw2 l2
      go_wp2_with fail
      refine wp_region_F (by kernel_rfl) ?_
      (refine wpG_take (i := 0) (v := ?_) rfl (by kernel_rfl) (by kernel_rfl) (by kernel_rfl) (fun _ _ _ h => h) ((From.refl wr.drew)) (Or.inl ⟨by first | kernel_rfl | rfl, ?_⟩) ?_; rotate_left; (intro wx hx; go_simp) <;> (with_reducible rfl); (try simp only [Act.put, List.setIfInBounds_toArray, List.set_cons_zero, List.set_cons_succ, List.getElem_toArray, List.getElem_cons_succ, List.getElem_cons_zero])); (refine wpG_take (i := 1) (v := ?_) rfl (by kernel_rfl) (by kernel_rfl) (by kernel_rfl) (fun _ _ _ h => h) ((From.refl wr.drew)) (Or.inl ⟨by first | kernel_rfl | rfl, ?_⟩) ?_; rotate_left; (intro wx hx; go_simp) <;> (with_reducible rfl); (try simp only [Act.put, List.setIfInBounds_toArray, List.set_cons_zero, List.set_cons_succ, List.getElem_toArray, List.getElem_cons_succ, List.getElem_cons_zero])); (refine wpG_take (i := 2) (v := ?_) rfl (by kernel_rfl) (by kernel_rfl) (by kernel_rfl) (fun _ _ _ h => h) ((From.refl wr.drew)) (Or.inl ⟨by first | kernel_rfl | rfl, ?_⟩) ?_; rotate_left; (intro wx hx; go_simp) <;> (with_reducible rfl); (try simp only [Act.put, List.setIfInBounds_toArray, List.set_cons_zero, List.set_cons_succ, List.getElem_toArray, List.getElem_cons_succ, List.getElem_cons_zero])); (refine wpG_take (i := 3) (v := ?_) rfl (by kernel_rfl) (by kernel_rfl) (by kernel_rfl) (fun _ _ _ h => h) ((From.refl wr.drew)) (Or.inl ⟨by first | kernel_rfl | rfl, ?_⟩) ?_; rotate_left; (intro wx hx; go_simp) <;> (with_reducible rfl); (try simp only [Act.put, List.setIfInBounds_toArray, List.set_cons_zero, List.set_cons_succ, List.getElem_toArray, List.getElem_cons_succ, List.getElem_cons_zero])); (refine wpG_take (i := 6) (v := ?_) rfl (by kernel_rfl) (by kernel_rfl) (by kernel_rfl) (fun _ _ _ h => h) ((From.refl wr.drew)) (Or.inl ⟨by first | kernel_rfl | rfl, ?_⟩) ?_; rotate_left; (intro wx hx; go_simp) <;> (with_reducible rfl); (try simp only [Act.put, List.setIfInBounds_toArray, List.set_cons_zero, List.set_cons_succ, List.getElem_toArray, List.getElem_cons_succ, List.getElem_cons_zero])); (refine wpG_take (i := 8) (v := ?_) rfl (by kernel_rfl) (by kernel_rfl) (by kernel_rfl) (fun _ _ _ h => h) ((From.refl wr.drew)) (Or.inl ⟨by first | kernel_rfl | rfl, ?_⟩) ?_; rotate_left; (intro wx hx; go_simp) <;> (with_reducible rfl); (try simp only [Act.put, List.setIfInBounds_toArray, List.set_cons_zero, List.set_cons_succ, List.getElem_toArray, List.getElem_cons_succ, List.getElem_cons_zero])); (refine wpG_take (i := 9) (v := ?_) rfl (by kernel_rfl) (by kernel_rfl) (by kernel_rfl) (fun _ _ _ h => h) ((From.refl wr.drew)) (Or.inl ⟨by first | kernel_rfl | rfl, ?_⟩) ?_; rotate_left; (intro wx hx; go_simp) <;> (with_reducible rfl); (try simp only [Act.put, List.setIfInBounds_toArray, List.set_cons_zero, List.set_cons_succ, List.getElem_toArray, List.getElem_cons_succ, List.getElem_cons_zero])); (refine wpG_take (i := 10) (v := ?_) rfl (by kernel_rfl) (by kernel_rfl) (by kernel_rfl) (fun _ _ _ h => h) ((From.refl wr.drew)) (Or.inl ⟨by first | kernel_rfl | rfl, ?_⟩) ?_; rotate_left; (intro wx hx; go_simp) <;> (with_reducible rfl); (try simp only [Act.put, List.setIfInBounds_toArray, List.set_cons_zero, List.set_cons_succ, List.getElem_toArray, List.getElem_cons_succ, List.getElem_cons_zero])); (refine wpG_take (i := 12) (v := ?_) rfl (by kernel_rfl) (by kernel_rfl) (by kernel_rfl) (fun _ _ _ h => h) ((From.refl wr.drew)) (Or.inl ⟨by first | kernel_rfl | rfl, ?_⟩) ?_; rotate_left; (intro wx hx; go_simp) <;> (with_reducible rfl); (try simp only [Act.put, List.setIfInBounds_toArray, List.set_cons_zero, List.set_cons_succ, List.getElem_toArray, List.getElem_cons_succ, List.getElem_cons_zero])); (refine wpG_take (i := 13) (v := ?_) rfl (by kernel_rfl) (by kernel_rfl) (by kernel_rfl) (fun _ _ _ h => h) ((From.refl wr.drew)) (Or.inl ⟨by first | kernel_rfl | rfl, ?_⟩) ?_; rotate_left; (intro wx hx; go_simp) <;> (with_reducible rfl); (try simp only [Act.put, List.setIfInBounds_toArray, List.set_cons_zero, List.set_cons_succ, List.getElem_toArray, List.getElem_cons_succ, List.getElem_cons_zero])); (refine wpG_take (i := 14) (v := ?_) rfl (by kernel_rfl) (by kernel_rfl) (by kernel_rfl) (fun _ _ _ h => h) ((From.refl wr.drew)) (Or.inl ⟨by first | kernel_rfl | rfl, ?_⟩) ?_; rotate_left; (intro wx hx; go_simp) <;> (with_reducible rfl); (try simp only [Act.put, List.setIfInBounds_toArray, List.set_cons_zero, List.set_cons_succ, List.getElem_toArray, List.getElem_cons_succ, List.getElem_cons_zero]))
      (refine wpG_one (i := 4) (by kernel_rfl) rfl ?_; intro K hK; (try simp only [Act.put, List.setIfInBounds_toArray, List.set_cons_zero, List.set_cons_succ, List.getElem_toArray, List.getElem_cons_succ, List.getElem_cons_zero]))
      refine step_call rfl rfl enMixes rfl (HM1.out _) ?_
      rintro e v1 ⟨rfl, rfl⟩
      refine ⟨_, rfl, hK (From wr.drew) _ _ (fun _ h => h) (From.refl wr.drew) ?_⟩
      clear hK K
      (try simp only [Act.put, List.setIfInBounds_toArray, List.set_cons_zero, List.set_cons_succ, List.getElem_toArray, List.getElem_cons_succ, List.getElem_cons_zero])
      (refine wpG_take (i := 5) (v := ?_) rfl (by kernel_rfl) (by kernel_rfl) (by kernel_rfl) (fun _ _ _ h => h) ((From.refl wr.drew)) (Or.inl ⟨by first | kernel_rfl | rfl, ?_⟩) ?_; rotate_left; (intro wx hx; go_simp) <;> (with_reducible rfl); (try simp only [Act.put, List.setIfInBounds_toArray, List.set_cons_zero, List.set_cons_succ, List.getElem_toArray, List.getElem_cons_succ, List.getElem_cons_zero])); (refine wpG_take (i := 7) (v := ?_) rfl (by kernel_rfl) (by kernel_rfl) (by kernel_rfl) (fun _ _ _ h => h) ((From.refl wr.drew)) (Or.inl ⟨by first | kernel_rfl | rfl, ?_⟩) ?_; rotate_left; (intro wx hx; go_simp) <;> (with_reducible rfl); (try simp only [Act.put, List.setIfInBounds_toArray, List.set_cons_zero, List.set_cons_succ, List.getElem_toArray, List.getElem_cons_succ, List.getElem_cons_zero])); (refine wpG_take (i := 11) (v := ?_) rfl (by kernel_rfl) (by kernel_rfl) (by kernel_rfl) (fun _ _ _ h => h) ((From.refl wr.drew)) (Or.inl ⟨by first | kernel_rfl | rfl, ?_⟩) ?_; rotate_left; (intro wx hx; go_simp) <;> (with_reducible rfl); (try simp only [Act.put, List.setIfInBounds_toArray, List.set_cons_zero, List.set_cons_succ, List.getElem_toArray, List.getElem_cons_succ, List.getElem_cons_zero])); (refine wpG_take (i := 15) (v := ?_) rfl (by kernel_rfl) (by kernel_rfl) (by kernel_rfl) (fun _ _ _ h => h) ((From.refl wr.drew)) (Or.inl ⟨by first | kernel_rfl | rfl, ?_⟩) ?_; rotate_left; (intro wx hx; go_simp) <;> (with_reducible rfl); (try simp only [Act.put, List.setIfInBounds_toArray, List.set_cons_zero, List.set_cons_succ, List.getElem_toArray, List.getElem_cons_succ, List.getElem_cons_zero])); (refine wpG_take (i := 16) (v := ?_) rfl (by kernel_rfl) (by kernel_rfl) (by kernel_rfl) (fun _ _ _ h => h) ((From.refl wr.drew)) (Or.inl ⟨by first | kernel_rfl | rfl, ?_⟩) ?_; rotate_left; (intro wx hx; go_simp) <;> (with_reducible rfl); (try simp only [Act.put, List.setIfInBounds_toArray, List.set_cons_zero, List.set_cons_succ, List.getElem_toArray, List.getElem_cons_succ, List.getElem_cons_zero]))
      refine wpG_done (by kernel_rfl) ?_ _
      clear p0 p1 p2 p3 p4 p5 p6 p7 ck cx
      go_upto_region 9 with (go_at_call 21; refine (HM2.out _).mono ?_; rintro e v2 ⟨rfl, rfl⟩)
      go_wp2_with fail
      go_roundw
      case rel =>
        have h3 := ((((((((HSW.out.setCell 0 rfl 0 (.int .u64 (z0 : Int))).setCell 0 rfl 1 (.int .u64 (b0 : Int))).setCell 0 rfl 2 (.int .u64 (b1 : Int))).setCell 0 rfl 3 (.int .u64 (b2 : Int))).setCell 0 rfl 4 (.int .u64 (z4 : Int))).setCell 0 rfl 5 (.int .u64 (b4 : Int))).setCell 0 rfl 6 (.int .u64 (b5 : Int))).setCell 0 rfl 7 (.int .u64 (b6 : Int))).drew
        simp only [List.set_cons_zero, uvs_set, List.set_cons_succ] at h3
        rw [← HNX.out] at h3
        exact ⟨i + 1, by omega, by go_num, h3⟩
      case measure => (simp [intOf]) <;> omega
    · obtain rfl : i = 80 := by omega
      obtain ⟨hl2, hw2⟩ := rnds_ok HL8.out HW8.out ws 80
      obtain ⟨s, hs⟩ : ∃ s, s = rnds [a0, a1, a2, a3, a4, a5, a6, a7] ws 80 := ⟨_, rfl⟩
      rw [← hs] at hS hl2 hw2
      have HSS := hide hs
      have HL2 := hide hl2
      have HS := hide hS
      clear hs hS hl2 hw2
      obtain ⟨hs0, hhs0⟩ : ∃ l, l = [a0, a1, a2, a3, a4, a5, a6, a7] := ⟨_, rfl⟩
      have HHS := hide hhs0
      go_wp2_with fail
      go_loopw [94] (fun i wr => TkEnd w0 M H g6 g5 g4 g [a0, a1, a2, a3, a4, a5, a6, a7] s ws r n i wr) (fun i _ => 8 - (intOf i).toNat)
      case atStart => exact ⟨0, by omega, rfl, HS.out⟩
      case round =>
        clear HS
        obtain ⟨j, hj, rfl, hS⟩ := hrel
        rw [← hhs0] at hS HL8 HSS
        by_cases hlt : j < 8
        · obtain ⟨x, hx⟩ : ∃ x, hs0[j]? = some x := ⟨hs0[j]'(by rw [HL8.out]; exact hlt), List.getElem?_eq_getElem _⟩
          obtain ⟨y, hy⟩ : ∃ y, s[j]? = some y := ⟨s[j]'(by rw [HL2.out]; exact hlt), List.getElem?_eq_getElem _⟩
          have HS := hide hS.drew
          have cx : ∀ z, From wr.drew z → z.cell? ⟨g, j, none⟩ = some (.int .u64 (x : Int)) := fun z hz => by
            rw [hz.cell (p := ⟨g, j, none⟩) (Chunk.lt (HS.out.sat 3 _ rfl) rfl), HS.out.cell 3 rfl j]
            exact hashC_get _ _ _ _ _ (zipP_get _ _ _ _ HL8.out HL2.out hx)
          have cy : ∀ z, From wr.drew z → z.cell? ⟨g6, j, none⟩ = some (.int .u64 (y : Int)) := fun z hz => by
            rw [hz.cell (p := ⟨g6, j, none⟩) (Chunk.lt (HS.out.sat 0 _ rfl) rfl), HS.out.cell 0 rfl j]
            exact uvs_get hy
          have HT := hide (zipP_set _ _ _ _ _ HL8.out HL2.out hx hy)
          have HZL := hide (zipP_len hs0 s j HL8.out HL2.out hj)
          have hwd := wad_wrap x y
          have dk : decide ((j : Int) < 8) = true := by simp; omega
          have ik : (j : Int) < 8 := by omega
          generalize wad x y = z at *
          clear hhs0 hS hx hy
          go_wp2_with fail
          refine wp_region_M (fun i => i == 13) (From wr.drew) (by kernel_rfl) ?_
          (refine wpM_takeU (i := 0) (v := ?_) rfl (by kernel_rfl) (by kernel_rfl) (by kernel_rfl) (fun _ _ _ h => h) ((From.refl wr.drew)) rfl (Or.inl ⟨by first | kernel_rfl | rfl, ?_⟩) ?_; rotate_left; (intro wx; go_simp) <;> (with_reducible rfl); (try simp only [Act.put, List.setIfInBounds_toArray, List.set_cons_zero, List.set_cons_succ, List.getElem_toArray, List.getElem_cons_succ, List.getElem_cons_zero])); (refine wpM_takeU (i := 1) (v := ?_) rfl (by kernel_rfl) (by kernel_rfl) (by kernel_rfl) (fun _ _ _ h => h) ((From.refl wr.drew)) rfl (Or.inl ⟨by first | kernel_rfl | rfl, ?_⟩) ?_; rotate_left; (intro wx; go_simp) <;> (with_reducible rfl); (try simp only [Act.put, List.setIfInBounds_toArray, List.set_cons_zero, List.set_cons_succ, List.getElem_toArray, List.getElem_cons_succ, List.getElem_cons_zero])); (refine wpM_takeU (i := 2) (v := ?_) rfl (by kernel_rfl) (by kernel_rfl) (by kernel_rfl) (fun _ _ _ h => h) ((From.refl wr.drew)) rfl (Or.inl ⟨by first | kernel_rfl | rfl, ?_⟩) ?_; rotate_left; (intro wx; go_simp) <;> (with_reducible rfl); (try simp only [Act.put, List.setIfInBounds_toArray, List.set_cons_zero, List.set_cons_succ, List.getElem_toArray, List.getElem_cons_succ, List.getElem_cons_zero])); (refine wpM_takeU (i := 3) (v := ?_) rfl (by kernel_rfl) (by kernel_rfl) (by kernel_rfl) (fun _ _ _ h => h) ((From.refl wr.drew)) rfl (Or.inl ⟨by first | kernel_rfl | rfl, ?_⟩) ?_; rotate_left; (intro wx; go_simp) <;> (with_reducible rfl); (try simp only [Act.put, List.setIfInBounds_toArray, List.set_cons_zero, List.set_cons_succ, List.getElem_toArray, List.getElem_cons_succ, List.getElem_cons_zero])); (refine wpM_takeU (i := 4) (v := ?_) rfl (by kernel_rfl) (by kernel_rfl) (by kernel_rfl) (fun _ _ _ h => h) ((From.refl wr.drew)) rfl (Or.inl ⟨by first | kernel_rfl | rfl, ?_⟩) ?_; rotate_left; (intro wx; go_simp) <;> (with_reducible rfl); (try simp only [Act.put, List.setIfInBounds_toArray, List.set_cons_zero, List.set_cons_succ, List.getElem_toArray, List.getElem_cons_succ, List.getElem_cons_zero]))
          (refine wpM_take (i := 5) (v := ?_) rfl (by kernel_rfl) (by kernel_rfl) (by kernel_rfl) (fun _ _ _ h => h) ((From.refl wr.drew)) rfl (by kernel_rfl) (Or.inl ⟨by first | kernel_rfl | rfl, ?_⟩) ?_; rotate_left; (intro wx hx; go_simp) <;> (with_reducible rfl); (try simp only [Act.put, List.setIfInBounds_toArray, List.set_cons_zero, List.set_cons_succ, List.getElem_toArray, List.getElem_cons_succ, List.getElem_cons_zero]))
          (refine wpM_takeU (i := 6) (v := ?_) rfl (by kernel_rfl) (by kernel_rfl) (by kernel_rfl) (fun _ _ _ h => h) ((From.refl wr.drew)) rfl (Or.inl ⟨by first | kernel_rfl | rfl, ?_⟩) ?_; rotate_left; (intro wx; go_simp) <;> (with_reducible rfl); (try simp only [Act.put, List.setIfInBounds_toArray, List.set_cons_zero, List.set_cons_succ, List.getElem_toArray, List.getElem_cons_succ, List.getElem_cons_zero])); (refine wpM_takeU (i := 7) (v := ?_) rfl (by kernel_rfl) (by kernel_rfl) (by kernel_rfl) (fun _ _ _ h => h) ((From.refl wr.drew)) rfl (Or.inl ⟨by first | kernel_rfl | rfl, ?_⟩) ?_; rotate_left; (intro wx; go_simp) <;> (with_reducible rfl); (try simp only [Act.put, List.setIfInBounds_toArray, List.set_cons_zero, List.set_cons_succ, List.getElem_toArray, List.getElem_cons_succ, List.getElem_cons_zero]))
          (refine wpM_take (i := 8) (v := ?_) rfl (by kernel_rfl) (by kernel_rfl) (by kernel_rfl) (fun _ _ _ h => h) ((From.refl wr.drew)) rfl (by kernel_rfl) (Or.inl ⟨by first | kernel_rfl | rfl, ?_⟩) ?_; rotate_left; (intro wx hx; go_simp) <;> (with_reducible rfl); (try simp only [Act.put, List.setIfInBounds_toArray, List.set_cons_zero, List.set_cons_succ, List.getElem_toArray, List.getElem_cons_succ, List.getElem_cons_zero]))
          (refine wpM_takeU (i := 9) (v := ?_) rfl (by kernel_rfl) (by kernel_rfl) (by kernel_rfl) (fun _ _ _ h => h) ((From.refl wr.drew)) rfl (Or.inl ⟨by first | kernel_rfl | rfl, ?_⟩) ?_; rotate_left; (intro wx; go_simp) <;> (with_reducible rfl); (try simp only [Act.put, List.setIfInBounds_toArray, List.set_cons_zero, List.set_cons_succ, List.getElem_toArray, List.getElem_cons_succ, List.getElem_cons_zero])); (refine wpM_takeU (i := 10) (v := ?_) rfl (by kernel_rfl) (by kernel_rfl) (by kernel_rfl) (fun _ _ _ h => h) ((From.refl wr.drew)) rfl (Or.inl ⟨by first | kernel_rfl | rfl, ?_⟩) ?_; rotate_left; (intro wx; go_simp) <;> (with_reducible rfl); (try simp only [Act.put, List.setIfInBounds_toArray, List.set_cons_zero, List.set_cons_succ, List.getElem_toArray, List.getElem_cons_succ, List.getElem_cons_zero])); (refine wpM_takeU (i := 11) (v := ?_) rfl (by kernel_rfl) (by kernel_rfl) (by kernel_rfl) (fun _ _ _ h => h) ((From.refl wr.drew)) rfl (Or.inl ⟨by first | kernel_rfl | rfl, ?_⟩) ?_; rotate_left; (intro wx; go_simp) <;> (with_reducible rfl); (try simp only [Act.put, List.setIfInBounds_toArray, List.set_cons_zero, List.set_cons_succ, List.getElem_toArray, List.getElem_cons_succ, List.getElem_cons_zero])); (refine wpM_takeU (i := 12) (v := ?_) rfl (by kernel_rfl) (by kernel_rfl) (by kernel_rfl) (fun _ _ _ h => h) ((From.refl wr.drew)) rfl (Or.inl ⟨by first | kernel_rfl | rfl, ?_⟩) ?_; rotate_left; (intro wx; go_simp) <;> (with_reducible rfl); (try simp only [Act.put, List.setIfInBounds_toArray, List.set_cons_zero, List.set_cons_succ, List.getElem_toArray, List.getElem_cons_succ, List.getElem_cons_zero]))
          (refine wpM_late (i := 13) (by kernel_rfl) rfl rfl ?_; intro K hK; (try simp only [Act.put, List.setIfInBounds_toArray, List.set_cons_zero, List.set_cons_succ, List.getElem_toArray, List.getElem_cons_succ, List.getElem_cons_zero]))
          refine step_store rfl rfl tyU64 HS.out 3 rfl j (by unfold hashC; rw [List.size_toArray, List.length_append, uvs_len, HZL.out]; show j < 10; omega) rfl (v := .int .u64 (z : Int)) (by first | rfl | exact congrArg (Value.int .u64) hwd) rfl ?_
          intro w9 hS9
          refine hK _ _ ?_
          clear hK K
          (try simp only [Act.put, List.setIfInBounds_toArray, List.set_cons_zero, List.set_cons_succ, List.getElem_toArray, List.getElem_cons_succ, List.getElem_cons_zero])
          refine wpAny_done (by kernel_rfl) ?_ _
          go_wp2_with fail
          go_roundw
          case rel =>
            have ht := HT.out
            rw [hashC_set _ _ _ _ _ (by rw [HZL.out]; exact hlt), ht] at hS9
            rw [HHS.out] at hS9
            exact ⟨j + 1, by omega, by go_num, hS9⟩
          case measure => (simp [intOf]) <;> omega
        · obtain rfl : j = 8 := by omega
          have hz : zipP hs0 s 8 = List.zipWith wad hs0 s := by
            unfold zipP
            rw [List.take_of_length_le (by rw [List.length_zipWith, HL8.out, HL2.out]; decide), List.drop_eq_nil_of_le (by rw [HL8.out]; exact Nat.le_refl _), List.append_nil]
          rw [hz, HSS.out] at hS
          have HS := hide (hS.pick3)
          clear hS hz hhs0
          go_wp2_with fail
          go_end0
          rw [← HHS.out]
          exact ⟨rfl, HS.out⟩
end Go.Proofs.Ytabdbddmmbccjaa
