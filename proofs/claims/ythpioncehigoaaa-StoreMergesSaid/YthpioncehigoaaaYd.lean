/-
  Layer 18: a fact copied: it shares nothing with it but what lies deeper than its terms' own rows.
-/
import Derived.Test.YthpioncehigoaaaYc
set_option linter.unusedVariables false
namespace Go.Proofs.Ythpioncehigoaaa
open Go.RowKit
set_option linter.unusedSimpArgs false

theorem rd_mask {M : Nat → Prop} {w : World} {v : Value} {size n : Nat} {xs : List Value} (h : Rd w v size n xs) (hM : ∀ b, v.ownBlock = some b → ¬ M b) : Rd (mask M w) v size n xs := by
  obtain ⟨A, c, rfl, h1, h2, h3, h4, h5⟩ := h
  exact ⟨A, c, rfl, h1, h2, h3, h4, fun b o sp hA => ⟨(h5 b o sp hA).1, fun j u hu => mask_cell.2 ⟨hM b (by rw [hA]; rfl), (h5 b o sp hA).2 j u hu⟩⟩⟩
/-- The head of a block that is held. -/
theorem rd_pre {w0 w : World} {M : Nat → Prop} {H : List Chunk} {b n c size : Nat} {e : TypeId} {xs rest : List Value} (hS : St w0 M w H) (i : Nat) (hi : H[i]? = some (.cells b (xs ++ rest).toArray e)) (hl : xs.length = n * size) (hn : n ≤ c) (hm : c ≤ maxLen) :
    Rd w (.slice (some ⟨b, 0, none⟩) n c) size n xs := by
  refine ⟨some ⟨b, 0, none⟩, c, rfl, hl, hn, hm, (fun h => by cases h), fun b' o sp hA => ?_⟩
  injection hA with hA
  injection hA with hb ho hsp
  subst hb ho hsp
  refine ⟨fun _ => rfl, fun j u hu => ?_⟩
  rw [Nat.zero_add, hS.cell i hi j, List.getElem?_toArray, List.getElem?_append_left (List.getElem?_eq_some_iff.1 hu).1]
  exact hu
theorem set_mid {α : Type} (l1 l2 : List α) (x y : α) : (l1 ++ x :: l2).set l1.length y = l1 ++ y :: l2 := by
  rw [List.set_append_right _ _ (Nat.le_refl _), Nat.sub_self]
  rfl
/-- The row of the k-th term is another one. -/
def Tm.to (t : Tm) (A : Option Addr) (c : Nat) : Tm := .mk t.k t.n t.s A c t.l
theorem tm_set3 {T : List Tm} {k : Nat} {t : Tm} (h : T[k]? = some t) (A : Option Addr) (c : Nat) (rest : List Value) :
    (tmCells T ++ rest).toArray.setIfInBounds (k * 4 + 3) (.slice A t.l.length c) = (tmCells (T.set k (t.to A c)) ++ rest).toArray := by
  obtain ⟨hlt, hx⟩ := List.getElem?_eq_some_iff.1 h
  have e1 : T = T.take k ++ t :: T.drop (k + 1) := by rw [← hx, ← List.drop_eq_getElem_cons hlt, List.take_append_drop]
  have e2 : T.set k (t.to A c) = T.take k ++ t.to A c :: T.drop (k + 1) := by rw [List.set_eq_take_append_cons_drop, if_pos hlt]
  have c1 : tmCells T ++ rest = (tmCells (T.take k) ++ [.int .i64 t.k, .int .i64 t.n, .string (strOf t.s)]) ++ t.row :: (tmCells (T.drop (k + 1)) ++ rest) := by
    conv => lhs; rw [e1]
    unfold tmCells
    rw [List.flatMap_append, List.flatMap_cons]
    simp [Tm.cells]
  have c2 : tmCells (T.set k (t.to A c)) ++ rest = (tmCells (T.take k) ++ [.int .i64 t.k, .int .i64 t.n, .string (strOf t.s)]) ++ .slice A t.l.length c :: (tmCells (T.drop (k + 1)) ++ rest) := by
    rw [e2]
    unfold tmCells
    rw [List.flatMap_append, List.flatMap_cons]
    simp [Tm.cells, Tm.to, Tm.row, Tm.k, Tm.n, Tm.s, Tm.A, Tm.c, Tm.l]
  have hl : (tmCells (T.take k) ++ [Value.int .i64 t.k, .int .i64 t.n, .string (strOf t.s)]).length = k * 4 + 3 := by
    rw [List.length_append, tmCells_length, List.length_take, Nat.min_eq_left (by omega)]
    rfl
  rw [List.setIfInBounds_toArray, c1, c2, ← hl, set_mid]
theorem shT_to (t : Tm) (A : Option Addr) (c : Nat) : shT (t.to A c) = shT t := rfl
theorem szFact : (Try.prog.info? 27).map (·.size) = some 3 := by kernel_rfl
theorem one3 {s : ByteArray} {A : Option Addr} {n c : Nat} {o : Int} : ∀ v ∈ [Value.string s, Value.slice A n c, Value.int .u32 o], v.oneCell' = true := by
  intro v hv
  simp only [List.mem_cons, List.not_mem_nil, or_false] at hv
  rcases hv with rfl | rfl | rfl <;> rfl
def FcSm (f : Fc) : Prop := f.ts.length ≤ 1000000 ∧ ∀ t ∈ f.ts, t.l.length ≤ 1000000
/-- A block that is held, by itself. -/
theorem St.solo {w0 w : World} {M : Nat → Prop} {H : List Chunk} (h : St w0 M w H) (i : Nat) {g : Nat} {c : Array Value} {e : TypeId} (hi : H[i]? = some (.cells g c e)) : St w (OneB g) w [.cells g c e] := by
  refine ⟨Ext.refl _ _, fun j d hd => ?_, fun j d k hd hk => ?_, fun j l d d' k hjl hd hd' => ?_⟩
  · cases j with
    | zero => simp only [List.getElem?_cons_zero, Option.some.injEq] at hd; subst hd; exact h.sat i _ hi
    | succ j => simp at hd
  · cases j with
    | zero =>
      simp only [List.getElem?_cons_zero, Option.some.injEq] at hd
      subst hd
      simp only [Chunk.block, Option.some.injEq] at hk
      exact .inr hk.symm
    | succ j => simp at hd
  · cases j with
    | zero =>
      cases l with
      | zero => exact absurd rfl hjl
      | succ l => simp at hd'
    | succ j => simp at hd
theorem St.back {w0 w w' : World} {M : Nat → Prop} {H : List Chunk} (h : St w0 M w H) (i : Nat) {g : Nat} {c c' : Array Value} {e e' : TypeId} (hi : H[i]? = some (.cells g c e)) (h' : St w (OneB g) w' [.cells g c' e']) : St w0 M w' (H.set i (.cells g c' e')) :=
  h.turn hi ⟨h'.ext.os, h'.ext.tape, h'.ext.output, h'.ext.size, fun k hk hm => h'.ext.block k hk fun e => hm (by rw [show k = g from e]; rfl)⟩ (h'.sat 0 _ rfl) fun k hk => .inl hk
/-- A copy has come back. -/
def CopR (M : Nat → Prop) (w : World) (f : Fc) (e : Ending) (w' : World) : Prop := ∃ f', e = .returned f'.val ∧ shF f' = shF f ∧ FcOK (mask M w') f' ∧ Below w.heap.size w w'
set_option maxRecDepth 100000 in
set_option maxHeartbeats 1600000 in
theorem copied_any (M : Nat → Prop) (f : Fc) (w : World) (hM : ∀ k, M k → k < w.heap.size) (hf : FcOK (mask M w) f) (hs : FcSm f) : Calls Try.prog 43 #[f.val] w fun e w' => CopR M w f e w' := by
  have hS0 := ((St.init w NoB).alloc #[.string (strOf f.name), .slice f.A f.ts.length f.c, .int .u32 f.o] 27).alloc #[.string ⟨#[]⟩, .slice none 0 0, .int .u32 0] 27
  rw [size_alloc1] at hS0
  have HM := hide hM
  have HF := hide hf
  have HSM := hide hs
  have HCL := hide (fun W (h : St w NoB W [.cells (w.heap.size + 1) #[.string ⟨#[]⟩, .slice none 0 0, .int .u32 0] 27, .cells w.heap.size #[.string (strOf f.name), .slice f.A f.ts.length f.c, .int .u32 f.o] 27]) => clone_any f.row f.ts ((hf.csub (csub_mask M w)).ts.1.below h.below) hs.1 h)
  have HS0 := hide hS0
  have hn6 : f.ts.length ≤ 1000000 := hs.1
  clear hS0 hM hf hs
  unfold Fc.val Fc.row at *
  obtain ⟨n, hn⟩ : ∃ n, n = f.ts.length := ⟨_, rfl⟩
  have HN := hide hn
  rw [← hn] at HCL HS0 hn6 ⊢
  clear hn
  go_enter Try.func43, Try.ntmps43
  go_wp2_with (go_at_call 66; (with_reducible refine (HCL.out _ HS0.out).mono ?_); rintro e w1 ⟨A, c, rfl, hS1⟩; have q1 := hS1.cell 2 rfl 1; have g1 := hS1.free 2 rfl 1; have HS1 := hide hS1; clear hS1)
  have HS2 := hide (HS1.out.setCell 2 rfl 1 (.slice A n c))
  clear q1 g1
  generalize hwm : World.setCell w1 _ _ = wm at HS2 ⊢
  clear hwm HS1 HS0
  have t0 := HS2.out.cell 2 rfl 0
  have t1 : wm.cell? ⟨w.heap.size, 1, none⟩ = some (.slice A n c) := HS2.out.cell 2 rfl 1
  have t2 := HS2.out.cell 2 rfl 2
  by_cases hn0 : n = 0
  · subst hn0
    have d0 : decide ((0 : Int) < ((0 : Nat) : Int)) = false := rfl
    have hts : f.ts = [] := List.eq_nil_of_length_eq_zero HN.out.symm
    have HTS := hide hts
    clear hts
    go_loopw [14] (fun i wr => i = .int .i64 0 ∧ wr = wm) (fun _ _ => 0)
    case atStart => exact ⟨rfl, rfl⟩
    case round =>
      obtain ⟨rfl, rfl⟩ := hrel
      go_wp2_with (refine wl_storeC rfl rfl HS2.out 1 rfl (vs := [.string (strOf f.name), .slice A 0 c, .int .u32 f.o]) szFact (Nat.le_refl _) rfl rfl one3 ?_; intro w5 hS5; have HS5 := hide hS5; clear hS5)
      refine bodyPost_ret (results_cell_row rfl _ _ (w.heap.size + 1) _ _ _ _ rfl (HS5.out.heap 1 rfl) Try.underlying27 rfl (by kernel_rfl)) rfl ?_
      refine ⟨⟨f.name, A, c, [], f.o⟩, rfl, by unfold shF; rw [HTS.out], ⟨⟨rd_mask (HS5.out.rd 0 (by rw [HTS.out]; rfl)) (fun b hb hm => by
        rcases HS5.out.own 0 _ b rfl hb with h1 | h1
        · have := HM.out b hm; omega
        · exact h1), fun x hx => by cases hx⟩, ⟨HF.out.bd.1, by simp, HF.out.bd.2.2⟩⟩, HS5.out.below⟩
  · obtain ⟨b, rest, rfl, hnc, hcm, hS3⟩ := St.cells_of HS2.out (by omega)
    have HS3 := hide hS3
    clear hS3 t1
    have hbw : w.heap.size ≤ b := by
      rcases HS3.out.own 0 _ b rfl rfl with h1 | h1
      · exact h1
      · exact h1.elim
    have HBW := hide hbw
    clear hbw
    have HTS := hide (HF.out.ts.2)
    have HSL := hide HSM.out.2
    go_loopw [14] (fun i wr => ∃ (k : Nat) (T : List Tm), k ≤ n ∧ i = .int .i64 (k : Int) ∧ Hid (T.length = n ∧ T.map shT = f.ts.map shT ∧ T.drop k = f.ts.drop k ∧ ∀ t ∈ T, TmOK (mask (fun j => M j ∨ w.heap.size ≤ j ∧ (j = b ∨ j ≤ w.heap.size + 1)) wr) t) ∧
      Hid (St w NoB wr [.cells b (tmCells T ++ rest).toArray 62, .cells (w.heap.size + 1) #[.string ⟨#[]⟩, .slice none 0 0, .int .u32 0] 27, .cells w.heap.size #[.string (strOf f.name), .slice (some ⟨b, 0, none⟩) n c, .int .u32 f.o] 27])) (fun i _ => (n - intOf i).toNat)
    case atStart => exact ⟨0, f.ts, by omega, rfl, hide ⟨HN.out.symm, rfl, rfl, fun t ht => (HTS.out t ht).csub (mask_ext fun k hk hm => ⟨fun h => by
        rcases h with h | h
        · exact hm h
        · omega, HS3.out.ext.block k hk (fun h => h)⟩)⟩, HS3⟩
    case round =>
      clear HS3 t0 t2
      obtain ⟨k, T, hk, rfl, HX, HS⟩ := hrel
      by_cases hlt : k < n
      · have d : decide ((k : Int) < (n : Int)) = true := by simp; omega
        have d' : decide (k < n) = true := by simp; omega
        have kn : (k : Int) < (n : Int) := by omega
        have kTl : k < T.length := by have := HX.out.1; omega
        have hTk : T[k]? = some T[k] := List.getElem?_eq_getElem kTl
        have hfk : f.ts[k]? = some T[k] := by
          have h1 := congrArg (fun l => l[0]?) HX.out.2.2.1
          simp only [List.getElem?_drop, Nat.add_zero] at h1
          rw [← h1]
          exact hTk
        have HTK := hide hTk
        have HFK := hide hfk
        have hok := HX.out.2.2.2 T[k] (List.getElem_mem kTl)
        have hsl := HSL.out T[k] (List.mem_of_getElem? hfk)
        have hc3 : wr.drew.cell? ⟨b, k * 4 + 3, none⟩ = some (.slice (T[k]).A (T[k]).l.length (T[k]).c) := by
          rw [HS.out.drew.cell 0 rfl (k * 4 + 3), List.getElem?_toArray, List.getElem?_append_left (by rw [tmCells_length]; omega), tmCells_at hTk (by omega)]
          rfl
        generalize T[k] = t at HTK HFK hok hsl hc3
        have HCK := hide (clone_any (w0 := wr.drew) (M := NoB) (H := []) t.row t.l ((hok.csub (csub_mask _ wr)).on (Below.refl _ _).drew).rd hsl (St.init _ _))
        have HOK := hide hok
        have HSd := hide HS.out.drew
        have HL := hide hlt
        clear hok hTk hfk hlt kTl
        unfold Tm.row at HCK
        have q1 := HSd.out.cell 2 rfl 1
        have f3 := HSd.out.free 0 rfl (k * 4 + 3)
        go_wp2_with fail
        refine wp_region_T [(0, 1), (1, 1), (2, 0), (3, 1), (4, 1), (5, 1), (6, 0), (7, 1), (8, 1), (9, 1), (10, 0), (11, 2), (12, 1), (13, 1), (14, 3)] (by kernel_rfl) (by kernel_rfl) (fun _ _ _ _ h => h) ?_
        go_wp2_with (first
          | (go_at_call 66; (with_reducible refine HCK.out.mono ?_); rintro e w2 ⟨A2, c2, rfl, hS4⟩; have hb4 := hS4.below; have HS4 := hide hS4; have HS5 := hide (HSd.out.call hb4); have c5 : w2.cell? ⟨b, k * 4 + 3, none⟩ = some (.slice t.A t.l.length t.c) := (hb4.cell (p := ⟨b, k * 4 + 3, none⟩) (Chunk.lt (HSd.out.sat 0 _ rfl) rfl)).trans hc3; have f5 := HS5.out.free 0 rfl (k * 4 + 3); clear hS4)
          | (refine wpT_nil ?_)   | ((with_reducible refine fromT_refl ?_); (try simp only [Act.put, nq1, nq2, nq3, nq4, nq5, nq6]))   | ((with_reducible refine fromT_mk (by assumption) ?_); (try simp only [Act.put, nq1, nq2, nq3, nq4, nq5, nq6]))   | (refine wpT_pure (v := ?_) rfl rfl ?_ ?_; rotate_left; (intro wx; go_simp; try go_bits) <;> (with_reducible rfl); (try simp only [Act.put, nq1, nq2, nq3, nq4, nq5, nq6]))   | (refine wpT_load (v := ?_) rfl rfl rfl ?_ ?_; rotate_left; (go_simp; try go_bits) <;> (with_reducible rfl); (try simp only [Act.put, nq1, nq2, nq3, nq4, nq5, nq6]))   | (refine wpT_read (v := ?_) rfl rfl ?_ ?_; rotate_left; (intro wx hx; go_simp; try go_bits) <;> (with_reducible rfl); (try simp only [Act.put, nq1, nq2, nq3, nq4, nq5, nq6]))   | (refine wpT_call rfl rfl ?_; intro K hK)   | (refine wpT_late rfl rfl ?_; intro K hK)   | (refine wpT_any rfl rfl ?_; intro K hK)   | (refine wpT_skip rfl rfl ?_; (try simp only [Act.put, nq1, nq2, nq3, nq4, nq5, nq6])))
        have hset := HS5.out.setCell 0 rfl (k * 4 + 3) (.slice A2 t.l.length c2)
        rw [tm_set3 HTK.out] at hset
        simp only [List.set_cons_zero] at hset
        have HS6 := hide hset
        clear hset
        have HNB : Hid (∀ j, (M j ∨ w.heap.size ≤ j ∧ (j = b ∨ j ≤ w.heap.size + 1)) → j < wr.drew.heap.size) := hide (fun j hj => by
          have h1 : b < wr.drew.heap.size := Chunk.lt (HSd.out.sat 0 _ rfl) rfl
          have h2 : w.heap.size + 1 < wr.drew.heap.size := Chunk.lt (HSd.out.sat 1 _ rfl) rfl
          rcases hj with h | ⟨_, h | h⟩
          · have := HM.out j h; omega
          · omega
          · omega)
        have HKP : Hid (CSub (mask (fun j => M j ∨ w.heap.size ≤ j ∧ (j = b ∨ j ≤ w.heap.size + 1)) wr) (mask (fun j => M j ∨ w.heap.size ≤ j ∧ (j = b ∨ j ≤ w.heap.size + 1)) (w2.setCell ⟨b, k * 4 + 3, none⟩ (.slice A2 t.l.length c2)))) := hide (mask_ext fun j hj hm => ⟨hm, by
          have hjb : j ≠ b := fun e => hm (.inr ⟨by have := HBW.out; omega, .inl e⟩)
          rw [heap_setCell_other w2 ⟨b, k * 4 + 3, none⟩ j _ (fun e => hjb e)]
          exact hb4.block j hj⟩)
        have HNEW : Hid (TmOK (mask (fun j => M j ∨ w.heap.size ≤ j ∧ (j = b ∨ j ≤ w.heap.size + 1)) (w2.setCell ⟨b, k * 4 + 3, none⟩ (.slice A2 t.l.length c2))) (t.to A2 c2)) := hide (by
          refine .mk _ ?_ HOK.out.bd fun x hx => (HOK.out.kid hx).csub HKP.out
          have hr : Rd w2 (.slice A2 t.l.length c2) 4 t.l.length (tmCells t.l) := HS4.out.rd 0 rfl
          have hown : ∀ g, (Value.slice A2 t.l.length c2).ownBlock = some g → wr.drew.heap.size ≤ g := fun g hg => by
            rcases HS4.out.own 0 _ g rfl hg with h | h
            · exact h
            · exact h.elim
          have hb : b < wr.drew.heap.size := Chunk.lt (HSd.out.sat 0 _ rfl) rfl
          refine rd_mask (hr.keep (by simp) fun g _ hg => ?_) fun g hg hm => ?_
          · have := hown g hg
            exact heap_setCell_other w2 ⟨b, k * 4 + 3, none⟩ g _ (fun e => by have e : g = b := e; omega)
          · have := hown g hg
            have := HNB.out g hm
            omega)
        go_roundw
        case rel => exact ⟨k + 1, T.set k (t.to A2 c2), by have := HL.out; omega, by go_num, hide ⟨by rw [List.length_set]; exact HX.out.1, by
            rw [List.map_set, shT_to, HX.out.2.1]
            refine List.ext_getElem? fun j => ?_
            rw [List.getElem?_set]
            split
            · rename_i e
              subst e
              rw [List.getElem?_map, HFK.out]
              have hl : k < (f.ts.map shT).length := by rw [List.length_map]; exact (List.getElem?_eq_some_iff.1 HFK.out).1
              rw [if_pos hl]
              rfl
            · rfl, by
            rw [List.drop_set_of_lt (Nat.lt_succ_self k)]
            have h1 := congrArg (List.drop 1) HX.out.2.2.1
            rw [List.drop_drop, List.drop_drop] at h1
            exact h1, fun x hx => by
            rcases List.mem_or_eq_of_mem_set hx with h | h
            · exact (HX.out.2.2.2 x h).csub HKP.out
            · rw [h]; exact HNEW.out⟩, HS6⟩
        case measure => (have := HL.out); (simp [intOf]) <;> omega
      · obtain rfl : k = n := by omega
        have d : decide ((k : Int) < (k : Int)) = false := by simp
        have d' : decide (k < k) = false := by simp
        have t0 := HS.out.cell 2 rfl 0
        have t1 := HS.out.cell 2 rfl 1
        have t2 := HS.out.cell 2 rfl 2
        go_wp2_with (refine wl_storeC rfl rfl (HS.out.solo 1 rfl) 0 rfl (vs := [.string (strOf f.name), .slice (some ⟨b, 0, none⟩) k c, .int .u32 f.o]) szFact (Nat.le_refl _) rfl rfl one3 ?_; intro w5 hS5; have HE5 := hide hS5.ext; have HS5 := hide (HS.out.back 1 rfl hS5); clear hS5)
        refine bodyPost_ret (results_cell_row rfl _ _ (w.heap.size + 1) _ _ _ _ rfl (HS5.out.heap 1 rfl) Try.underlying27 rfl (by kernel_rfl)) rfl ?_
        have hb5 : ∀ j, M j → j ≠ b := fun j hj e => by
          have h1 := HM.out j hj
          have h2 := HBW.out
          omega
        have hk1 := HX.out.1
        refine ⟨⟨f.name, some ⟨b, 0, none⟩, c, T, f.o⟩, ?_, ?_, ⟨⟨?_, fun t ht => ?_⟩, ⟨HF.out.bd.1, ?_, HF.out.bd.2.2⟩⟩, HS5.out.below⟩
        · show Ending.returned (.agg #[.string (strOf f.name), .slice (some ⟨b, 0, none⟩) k c, .int .u32 f.o]) = .returned (.agg #[.string (strOf f.name), .slice (some ⟨b, 0, none⟩) T.length c, .int .u32 f.o])
          rw [hk1]
        · unfold shF
          rw [HX.out.2.1]
        · refine rd_mask (v := .slice (some ⟨b, 0, none⟩) T.length c) (rd_pre HS5.out 0 rfl (tmCells_length T) (by rw [hk1]; exact hnc) hcm) fun g hg hm => ?_
          have hg : b = g := by injection hg
          exact hb5 g hm hg.symm
        · refine (HX.out.2.2.2 t ht).csub (mask_ext fun j hj hm => ⟨fun h => hm (.inl h), HE5.out.block j hj fun h => hm (.inr ?_)⟩)
          have h : j = w.heap.size + 1 := h
          omega
        · show T.length ≤ _
          omega
end Go.Proofs.Ythpioncehigoaaa
