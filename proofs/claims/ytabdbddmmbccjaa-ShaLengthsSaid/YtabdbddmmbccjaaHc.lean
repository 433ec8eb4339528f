/-
  Layer 1: the walks of begin, constants, schedule.
-/
import Derived.Test.YtabdbddmmbccjaaHb
import Derived.Deep.DeepCutAuto
namespace Go.Proofs.Ytabdbddmmbccjaa
open Go.RowKit
set_option linter.unusedSimpArgs false

set_option maxRecDepth 100000 in
set_option maxHeartbeats 800000 in
theorem begin_any (w : World) : Calls Try.prog 16 #[] w fun e w' => e = .returned (.agg (uvs h0L).toArray) ∧ Below w.heap.size w w' := by
  have HS0 := hide ((St.init w NoB).alloc #[.int .u64 7640891576956012808, .int .u64 13503953896175478587, .int .u64 4354685564936845355, .int .u64 11912009170470909681, .int .u64 5840696475078001361, .int .u64 11170449401992604703, .int .u64 2270897969802886507, .int .u64 6620516959819538809] 35)
  go_enter Try.func16, Try.ntmps16
  go_wp2_with fail
  refine bodyPost_ret (results_cell_row rfl _ _ w.heap.size _ _ _ _ rfl (HS0.out.heap 0 rfl) Try.underlying35 rfl (by kernel_rfl)) rfl ?_
  exact ⟨rfl, HS0.out.below⟩
@[irreducible] def z80 : Array Value := (uvs (List.replicate 80 0)).toArray
@[irreducible] def kA : Array Value := (uvs kL).toArray
theorem zero80 (w : World) : (zeroValue 36).run Try.prog w = .ok (.agg z80) w := by unfold z80; kernel_rfl
theorem wl_run {P : Program} {ops : Array Oper} {rest : List Oper} {o : Oper} {a : Act} {w : World} {Q : Exit → Act → World → Prop} (hgd : o.guard = none) {v : Value} (hrun : (execOp a.eval o).run P w = .ok (.value v) w)
    (h : wpList P ops Q rest (a.put o.dst v) w) : wpList P ops Q (o :: rest) a w :=
  wpList_plain hgd fun K hK => by
    unfold Oper.wp
    rw [hrun, Oper.upon_value]
    exact hK _ _ h
set_option maxRecDepth 100000 in
set_option maxHeartbeats 1600000 in
theorem const1_any (w : World) : Calls Try.prog 20 #[] w fun e w' => e = .returned (.agg kA) ∧ Below w.heap.size w w' := by
  have HS0 := hide ((St.init w NoB).alloc z80 36)
  have hz := zero80
  go_enter Try.func20, Try.ntmps20
  go_upto_region 1 with fail
  refine wp_region_list ?_
  refine wl_run rfl (v := .agg kA) (by unfold kA; kernel_rfl) ?_
  refine wpList_store_row rfl 36 (.tmp 0) (.tmp 1) rfl w.heap.size kA rfl rfl 36 z80 (HS0.out.heap 0 rfl) (by unfold kA; kernel_rfl) (by unfold kA z80; rfl) (by unfold kA; kernel_rfl) ?_
  refine wpList_nil ?_
  have HS := hide (HS0.out.setRow 0 rfl kA)
  go_wp2_with fail
  refine bodyPost_ret (results_cell_row rfl _ _ w.heap.size _ _ _ _ rfl (HS.out.heap 0 rfl) Try.underlying36 rfl (by unfold kA; kernel_rfl)) rfl ?_
  exact ⟨rfl, HS.out.below⟩
set_option maxRecDepth 100000 in
set_option maxHeartbeats 1600000 in
theorem const2_any (w : World) : Calls Try.prog 14 #[] w fun e w' => e = .returned (.agg kA) ∧ Below w.heap.size w w' := by
  have HS0 := hide ((St.init w NoB).alloc z80 36)
  have hz := zero80
  go_enter Try.func14, Try.ntmps14
  go_upto_region 1 with fail
  refine wp_region_list ?_
  refine wl_run rfl (v := .agg kA) (by unfold kA; kernel_rfl) ?_
  refine wpList_store_row rfl 36 (.tmp 0) (.tmp 1) rfl w.heap.size kA rfl rfl 36 z80 (HS0.out.heap 0 rfl) (by unfold kA; kernel_rfl) (by unfold kA z80; rfl) (by unfold kA; kernel_rfl) ?_
  refine wpList_nil ?_
  have HS := hide (HS0.out.setRow 0 rfl kA)
  go_wp2_with fail
  refine bodyPost_ret (results_cell_row rfl _ _ w.heap.size _ _ _ _ rfl (HS.out.heap 0 rfl) Try.underlying36 rfl (by unfold kA; kernel_rfl)) rfl ?_
  exact ⟨rfl, HS.out.below⟩
/-- The words of a block. -/
def wad (x y : Nat) : Nat := (x + y) % W1
def schF (l : List Nat) (i : Nat) : Nat := wad (wad (wad (spr (l.getD (i - 2) 0) 19 61 6) (l.getD (i - 7) 0)) (spr (l.getD (i - 15) 0) 1 8 7)) (l.getD (i - 16) 0)
def schL (b : List UInt8) : Nat → List Nat
  | 0 => []
  | i + 1 => schL b i ++ [if i < 16 then beV ((b.drop (8 * i)).take 8) else schF (schL b i) i]
theorem schL_len (b : List UInt8) : ∀ i, (schL b i).length = i
  | 0 => rfl
  | i + 1 => by rw [schL, List.length_append, schL_len b i]; rfl
theorem wad_lt (x y : Nat) : wad x y < W1 := Nat.mod_lt _ (by decide)
theorem wad_wrap (x y : Nat) : IntKind.u64.wrap ((x : Int) + (y : Int)) = ((wad x y : Nat) : Int) := by
  unfold wad
  rw [IntKind.wrap_u64]
  show _ = (((x + y) % 18446744073709551616 : Nat) : Int)
  omega
theorem schL_words (b : List UInt8) : ∀ i, Words (schL b i)
  | 0 => fun x hx => by simp [schL] at hx
  | i + 1 => fun x hx => by
    rw [schL, List.mem_append, List.mem_singleton] at hx
    rcases hx with hx | hx
    · exact schL_words b i x hx
    · subst hx
      split
      · have := beV_lt ((b.drop (8 * i)).take 8) ((b.drop (8 * i)).take 8).length (Nat.le_refl _)
        rw [List.take_length] at this
        refine Nat.lt_of_lt_of_le this (Nat.le_trans (Nat.pow_le_pow_right (by omega) (show _ ≤ 8 from ?_)) (by decide))
        rw [List.length_take]
        omega
      · exact wad_lt _ _
def schA (b : List UInt8) (i : Nat) : List Nat := schL b i ++ List.replicate (80 - i) 0
theorem schA_len (b : List UInt8) (i : Nat) (h : i ≤ 80) : (schA b i).length = 80 := by unfold schA; rw [List.length_append, schL_len, List.length_replicate]; omega
theorem schA_set (b : List UInt8) (i : Nat) (h : i < 80) : (schA b i).set i (if i < 16 then beV ((b.drop (8 * i)).take 8) else schF (schL b i) i) = schA b (i + 1) := by
  unfold schA
  rw [List.set_append_right _ _ (by rw [schL_len]; exact Nat.le_refl _), schL_len, Nat.sub_self, show 80 - i = (80 - (i + 1)) + 1 from by omega, List.replicate_succ, List.set_cons_zero, schL, List.append_assoc]
  rfl
theorem schA_get (b : List UInt8) (i k : Nat) (h : k < i) : (schA b i)[k]? = some ((schL b i).getD k 0) := by
  unfold schA
  rw [List.getElem?_append_left (by rw [schL_len]; exact h), List.getD_eq_getElem?_getD, List.getElem?_eq_getElem (by rw [schL_len]; exact h)]
  rfl
theorem enSpread (args : Array Value) (w : World) : (callFunc 23 args).run Try.prog w = .ok (.enter 23 args) w := by kernel_rfl
theorem rd_mid0 {w : World} {b o n c : Nat} {l : List UInt8} (h : Rd w (.slice (some ⟨b, o, none⟩) n c) 1 n (bvs l)) (i j : Nat) (hij : i ≤ j) (hj : j ≤ n) :
    Rd w (.slice (some ⟨b, o + i, none⟩) (j - i) (c - i)) 1 (j - i) (bvs ((l.drop i).take (j - i))) := by
  obtain ⟨A', c', e, h1, h2, h3, h4, h5⟩ := h
  injection e with e1 _ e3
  subst e1 e3
  rw [length_bvs] at h1
  refine ⟨_, _, rfl, by rw [length_bvs, List.length_take, List.length_drop]; omega, by omega, by omega, (fun h => by cases h), ?_⟩
  intro b' o' sp' hA
  injection hA with hA
  injection hA with k1 k2 k3
  subst k1 k2 k3
  refine ⟨fun _ => rfl, fun k u hu => ?_⟩
  obtain ⟨x, hx, rfl⟩ : ∃ x, ((l.drop i).take (j - i))[k]? = some x ∧ u = .int .u8 (x.toNat : Int) := by
    simp only [bvs, List.getElem?_map, Option.map_eq_some_iff] at hu
    obtain ⟨x, h1, h2⟩ := hu
    exact ⟨x, h1, h2.symm⟩
  have hk : k < j - i := by
    have := (List.getElem?_eq_some_iff.1 hx).1
    rw [List.length_take] at this
    omega
  rw [List.getElem?_take_of_lt hk, List.getElem?_drop] at hx
  have := (h5 b o none rfl).2 (i + k) _ (bvs_get hx)
  rwa [show o + (i + k) = o + i + k from by omega] at this
theorem bnx {w0 w w' : World} (h : Below w0.heap.size w0 w) (h2 : Below w.heap.size w w') : Below w0.heap.size w0 w' := h.trans (h2.mono h.size)
theorem tyU64 : (Try.prog.info? 30).map (·.size) = some 1 := by kernel_rfl
def SchRel (w : World) (b : List UInt8) (iv : Value) (wr : World) : Prop :=
  ∃ i : Nat, i ≤ 80 ∧ iv = .int .i64 (i : Int) ∧ St w NoB wr [.cells (w.heap.size + 1) (uvs (schA b i)).toArray 36, .cells w.heap.size (uvs (schA [] 0)).toArray 36]
set_option maxRecDepth 100000 in
set_option maxHeartbeats 1600000 in
theorem schedule_any (A : Option Addr) (c : Nat) (l : List UInt8) (w : World) (hl : l.length = 128) (hr : Rd w (.slice A 128 c) 1 128 (bvs l)) :
    Calls Try.prog 19 #[.slice A 128 c] w fun e w' => e = .returned (.agg (uvs (schL l 80)).toArray) ∧ Below w.heap.size w w' := by
  have HR := hide hr
  have HL := hide hl
  obtain ⟨b, o, rfl⟩ : ∃ b o, A = some ⟨b, o, none⟩ := by
    rcases hr.cases with ⟨_, h0, _⟩ | ⟨b, o, sp, c', hv, _, _, _, _, h4, _⟩
    · cases h0
    · injection hv with hv1 _ _
      have := h4 (by decide)
      subst this hv1
      exact ⟨b, o, rfl⟩
  have hcap := rd_cap hr
  have HS0 := ((St.init w NoB).alloc (uvs (schA [] 0)).toArray 36).alloc (uvs (schA l 0)).toArray 36
  rw [size_alloc1] at HS0
  have HS := hide HS0
  have hz : ∀ w, (zeroValue 36).run Try.prog w = .ok (.agg (uvs (schA [] 0)).toArray) w := fun w => by have := zero80 w; unfold z80 at this; exact this
  clear HS0 hr hl
  go_enter Try.func19, Try.ntmps19
  go_wp2_with fail
  go_loopw [5] (fun i wr => SchRel w l i wr) (fun i _ => 80 - (intOf i).toNat)
  case atStart => exact ⟨0, by omega, rfl, HS.out⟩
  case round =>
    clear HS
    obtain ⟨i, hi, rfl, hS⟩ := hrel
    have HS := hide hS
    by_cases hlt : i < 80
    · by_cases h16 : i < 16
      · have d16 : decide ((i : Int) < 16) = true := by simp; omega
        have d80 : decide ((i : Int) < 80) = true := by simp; omega
        obtain ⟨x, hx⟩ : ∃ x, (schA l i)[i]? = some x := ⟨_, List.getElem?_eq_getElem (by rw [schA_len l i hi]; omega)⟩
        have cl : wr.cell? ⟨w.heap.size + 1, i, none⟩ = some (.int .u64 (x : Int)) := by
          rw [hS.cell 0 rfl i]
          exact uvs_get hx
        have fl := hS.free 0 rfl i
        have HT := hide (schA_set l i hlt)
        have HRS := hide (rd_mid0 (HR.out.st hS) (8 * i) (8 * i + 8) (by omega) (by omega))
        have i80 : (i : Int) < 80 := by omega
        clear hS hx
        go_wp2_with (go_at_call 22; refine (word_any _ _ 8 ((l.drop (8 * i)).take 8) _ (by rw [List.length_take, List.length_drop, HL.out]; omega) (Nat.le_refl _) (by have := HRS.out; rw [show 8 * i + 8 - 8 * i = 8 from by omega] at this; exact this)).mono ?_; rintro e w1 ⟨rfl, rfl⟩)
        go_roundw
        case rel =>
          have h3 := HS.out.setCell 0 rfl i (.int .u64 ((beV ((l.drop (8 * i)).take 8) : Nat) : Int))
          have ht := HT.out
          rw [if_pos h16] at ht
          rw [List.set_cons_zero, uvs_set, ht] at h3
          exact ⟨i + 1, by omega, by go_num, h3⟩
        case measure => (simp [intOf]) <;> omega
      · have d16 : decide ((i : Int) < 16) = false := by simp; omega
        have d80 : decide ((i : Int) < 80) = true := by simp; omega
        have HT := hide (schA_set l i hlt)
        obtain ⟨i2, hi2⟩ : ∃ m, m = i - 2 := ⟨_, rfl⟩
        obtain ⟨y2, hy2⟩ : ∃ y, y = (schL l i).getD i2 0 := ⟨_, rfl⟩
        have g2 : (schA l i)[i2]? = some y2 := by rw [hy2]; exact schA_get l i i2 (by omega)
        have b2 : y2 < W1 := by rw [hy2, List.getD_eq_getElem?_getD, List.getElem?_eq_getElem (by rw [schL_len]; omega)]; exact schL_words l i _ (List.getElem_mem _)
        have s2 : IntKind.i64.wrap ((i : Int) - 2) = (i2 : Int) := by rw [IntKind.wrap_i64]; omega
        have t2 : (i2 : Int) < 80 := by omega
        obtain ⟨i7, hi7⟩ : ∃ m, m = i - 7 := ⟨_, rfl⟩
        obtain ⟨y7, hy7⟩ : ∃ y, y = (schL l i).getD i7 0 := ⟨_, rfl⟩
        have g7 : (schA l i)[i7]? = some y7 := by rw [hy7]; exact schA_get l i i7 (by omega)
        have b7 : y7 < W1 := by rw [hy7, List.getD_eq_getElem?_getD, List.getElem?_eq_getElem (by rw [schL_len]; omega)]; exact schL_words l i _ (List.getElem_mem _)
        have s7 : IntKind.i64.wrap ((i : Int) - 7) = (i7 : Int) := by rw [IntKind.wrap_i64]; omega
        have t7 : (i7 : Int) < 80 := by omega
        obtain ⟨i15, hi15⟩ : ∃ m, m = i - 15 := ⟨_, rfl⟩
        obtain ⟨y15, hy15⟩ : ∃ y, y = (schL l i).getD i15 0 := ⟨_, rfl⟩
        have g15 : (schA l i)[i15]? = some y15 := by rw [hy15]; exact schA_get l i i15 (by omega)
        have b15 : y15 < W1 := by rw [hy15, List.getD_eq_getElem?_getD, List.getElem?_eq_getElem (by rw [schL_len]; omega)]; exact schL_words l i _ (List.getElem_mem _)
        have s15 : IntKind.i64.wrap ((i : Int) - 15) = (i15 : Int) := by rw [IntKind.wrap_i64]; omega
        have t15 : (i15 : Int) < 80 := by omega
        obtain ⟨i16, hi16⟩ : ∃ m, m = i - 16 := ⟨_, rfl⟩
        obtain ⟨y16, hy16⟩ : ∃ y, y = (schL l i).getD i16 0 := ⟨_, rfl⟩
        have g16 : (schA l i)[i16]? = some y16 := by rw [hy16]; exact schA_get l i i16 (by omega)
        have b16 : y16 < W1 := by rw [hy16, List.getD_eq_getElem?_getD, List.getElem?_eq_getElem (by rw [schL_len]; omega)]; exact schL_words l i _ (List.getElem_mem _)
        have s16 : IntKind.i64.wrap ((i : Int) - 16) = (i16 : Int) := by rw [IntKind.wrap_i64]; omega
        have t16 : (i16 : Int) < 80 := by omega
        have hF : schF (schL l i) i = wad (wad (wad (spr y2 19 61 6) y7) (spr y15 1 8 7)) y16 := by unfold schF; rw [← hi2, ← hi7, ← hi15, ← hi16, ← hy2, ← hy7, ← hy15, ← hy16]
        have i80 : (i : Int) < 80 := by omega
        have HS' := hide hS.drew
        have c2 : ∀ z, From wr.drew z → z.cell? ⟨w.heap.size + 1, i2, none⟩ = some (.int .u64 (y2 : Int)) := fun z hz => by rw [hz.cell (p := ⟨w.heap.size + 1, i2, none⟩) (Chunk.lt (HS'.out.sat 0 _ rfl) rfl), HS'.out.cell 0 rfl i2]; exact uvs_get g2
        have c7 : ∀ z, From wr.drew z → z.cell? ⟨w.heap.size + 1, i7, none⟩ = some (.int .u64 (y7 : Int)) := fun z hz => by rw [hz.cell (p := ⟨w.heap.size + 1, i7, none⟩) (Chunk.lt (HS'.out.sat 0 _ rfl) rfl), HS'.out.cell 0 rfl i7]; exact uvs_get g7
        have c15 : ∀ z, From wr.drew z → z.cell? ⟨w.heap.size + 1, i15, none⟩ = some (.int .u64 (y15 : Int)) := fun z hz => by rw [hz.cell (p := ⟨w.heap.size + 1, i15, none⟩) (Chunk.lt (HS'.out.sat 0 _ rfl) rfl), HS'.out.cell 0 rfl i15]; exact uvs_get g15
        have c16 : ∀ z, From wr.drew z → z.cell? ⟨w.heap.size + 1, i16, none⟩ = some (.int .u64 (y16 : Int)) := fun z hz => by rw [hz.cell (p := ⟨w.heap.size + 1, i16, none⟩) (Chunk.lt (HS'.out.sat 0 _ rfl) rfl), HS'.out.cell 0 rfl i16]; exact uvs_get g16
        have HA := hide (fun W => spread_any y2 19 61 6 W b2 (by decide) (by decide) (by decide))
        have HB := hide (fun W => spread_any y15 1 8 7 W b15 (by decide) (by decide) (by decide))
        have w1 : IntKind.u64.wrap (((spr y2 19 61 6 : Nat) : Int) + (y7 : Int)) = ((wad (spr y2 19 61 6) y7 : Nat) : Int) := wad_wrap _ _
        have w2 : IntKind.u64.wrap (((wad (spr y2 19 61 6) y7 : Nat) : Int) + ((spr y15 1 8 7 : Nat) : Int)) = ((wad (wad (spr y2 19 61 6) y7) (spr y15 1 8 7) : Nat) : Int) := wad_wrap _ _
        have w3 : IntKind.u64.wrap (((wad (wad (spr y2 19 61 6) y7) (spr y15 1 8 7) : Nat) : Int) + (y16 : Int)) = ((wad (wad (wad (spr y2 19 61 6) y7) (spr y15 1 8 7)) y16 : Nat) : Int) := wad_wrap _ _
        generalize wad (wad (wad (spr y2 19 61 6) y7) (spr y15 1 8 7)) y16 = z3 at *
        generalize wad (wad (spr y2 19 61 6) y7) (spr y15 1 8 7) = z2 at *
        generalize wad (spr y2 19 61 6) y7 = z1 at *
        generalize spr y2 19 61 6 = p1 at *
        generalize spr y15 1 8 7 = p2 at *
        have HF := hide hF
        have HLEN := hide (schA_len l i hi)
        clear hF hS hi2 hy2 g2 b2 hi7 hy7 g7 b7 hi15 hy15 g15 b15 hi16 hy16 g16 b16
        go_wp2_with fail
        refine wp_region_M (fun i => i == 23) (From wr.drew) (by kernel_rfl) ?_
        (refine wpM_takeU (i := 0) (v := ?_) rfl (by kernel_rfl) (by kernel_rfl) (by kernel_rfl) (fun _ _ _ h => h) ((From.refl wr.drew)) rfl (Or.inl ⟨by first | kernel_rfl | rfl, ?_⟩) ?_; rotate_left; (intro wx; go_simp) <;> (with_reducible rfl); (try simp only [Act.put, List.setIfInBounds_toArray, List.set_cons_zero, List.set_cons_succ, List.getElem_toArray, List.getElem_cons_succ, List.getElem_cons_zero])); (refine wpM_takeU (i := 1) (v := ?_) rfl (by kernel_rfl) (by kernel_rfl) (by kernel_rfl) (fun _ _ _ h => h) ((From.refl wr.drew)) rfl (Or.inl ⟨by first | kernel_rfl | rfl, ?_⟩) ?_; rotate_left; (intro wx; go_simp) <;> (with_reducible rfl); (try simp only [Act.put, List.setIfInBounds_toArray, List.set_cons_zero, List.set_cons_succ, List.getElem_toArray, List.getElem_cons_succ, List.getElem_cons_zero])); (refine wpM_takeU (i := 2) (v := ?_) rfl (by kernel_rfl) (by kernel_rfl) (by kernel_rfl) (fun _ _ _ h => h) ((From.refl wr.drew)) rfl (Or.inl ⟨by first | kernel_rfl | rfl, ?_⟩) ?_; rotate_left; (intro wx; go_simp) <;> (with_reducible rfl); (try simp only [Act.put, List.setIfInBounds_toArray, List.set_cons_zero, List.set_cons_succ, List.getElem_toArray, List.getElem_cons_succ, List.getElem_cons_zero])); (refine wpM_takeU (i := 3) (v := ?_) rfl (by kernel_rfl) (by kernel_rfl) (by kernel_rfl) (fun _ _ _ h => h) ((From.refl wr.drew)) rfl (Or.inl ⟨by first | kernel_rfl | rfl, ?_⟩) ?_; rotate_left; (intro wx; go_simp) <;> (with_reducible rfl); (try simp only [Act.put, List.setIfInBounds_toArray, List.set_cons_zero, List.set_cons_succ, List.getElem_toArray, List.getElem_cons_succ, List.getElem_cons_zero]))
        (refine wpM_take (i := 4) (v := ?_) rfl (by kernel_rfl) (by kernel_rfl) (by kernel_rfl) (fun _ _ _ h => h) ((From.refl wr.drew)) rfl (by kernel_rfl) (Or.inl ⟨by first | kernel_rfl | rfl, ?_⟩) ?_; rotate_left; (intro wx hx; go_simp) <;> (with_reducible rfl); (try simp only [Act.put, List.setIfInBounds_toArray, List.set_cons_zero, List.set_cons_succ, List.getElem_toArray, List.getElem_cons_succ, List.getElem_cons_zero]))
        (refine wpM_takeU (i := 6) (v := ?_) rfl (by kernel_rfl) (by kernel_rfl) (by kernel_rfl) (fun _ _ _ h => h) ((From.refl wr.drew)) rfl (Or.inl ⟨by first | kernel_rfl | rfl, ?_⟩) ?_; rotate_left; (intro wx; go_simp) <;> (with_reducible rfl); (try simp only [Act.put, List.setIfInBounds_toArray, List.set_cons_zero, List.set_cons_succ, List.getElem_toArray, List.getElem_cons_succ, List.getElem_cons_zero])); (refine wpM_takeU (i := 7) (v := ?_) rfl (by kernel_rfl) (by kernel_rfl) (by kernel_rfl) (fun _ _ _ h => h) ((From.refl wr.drew)) rfl (Or.inl ⟨by first | kernel_rfl | rfl, ?_⟩) ?_; rotate_left; (intro wx; go_simp) <;> (with_reducible rfl); (try simp only [Act.put, List.setIfInBounds_toArray, List.set_cons_zero, List.set_cons_succ, List.getElem_toArray, List.getElem_cons_succ, List.getElem_cons_zero])); (refine wpM_takeU (i := 8) (v := ?_) rfl (by kernel_rfl) (by kernel_rfl) (by kernel_rfl) (fun _ _ _ h => h) ((From.refl wr.drew)) rfl (Or.inl ⟨by first | kernel_rfl | rfl, ?_⟩) ?_; rotate_left; (intro wx; go_simp) <;> (with_reducible rfl); (try simp only [Act.put, List.setIfInBounds_toArray, List.set_cons_zero, List.set_cons_succ, List.getElem_toArray, List.getElem_cons_succ, List.getElem_cons_zero]))
        (refine wpM_take (i := 9) (v := ?_) rfl (by kernel_rfl) (by kernel_rfl) (by kernel_rfl) (fun _ _ _ h => h) ((From.refl wr.drew)) rfl (by kernel_rfl) (Or.inl ⟨by first | kernel_rfl | rfl, ?_⟩) ?_; rotate_left; (intro wx hx; go_simp) <;> (with_reducible rfl); (try simp only [Act.put, List.setIfInBounds_toArray, List.set_cons_zero, List.set_cons_succ, List.getElem_toArray, List.getElem_cons_succ, List.getElem_cons_zero]))
        (refine wpM_takeU (i := 11) (v := ?_) rfl (by kernel_rfl) (by kernel_rfl) (by kernel_rfl) (fun _ _ _ h => h) ((From.refl wr.drew)) rfl (Or.inl ⟨by first | kernel_rfl | rfl, ?_⟩) ?_; rotate_left; (intro wx; go_simp) <;> (with_reducible rfl); (try simp only [Act.put, List.setIfInBounds_toArray, List.set_cons_zero, List.set_cons_succ, List.getElem_toArray, List.getElem_cons_succ, List.getElem_cons_zero])); (refine wpM_takeU (i := 12) (v := ?_) rfl (by kernel_rfl) (by kernel_rfl) (by kernel_rfl) (fun _ _ _ h => h) ((From.refl wr.drew)) rfl (Or.inl ⟨by first | kernel_rfl | rfl, ?_⟩) ?_; rotate_left; (intro wx; go_simp) <;> (with_reducible rfl); (try simp only [Act.put, List.setIfInBounds_toArray, List.set_cons_zero, List.set_cons_succ, List.getElem_toArray, List.getElem_cons_succ, List.getElem_cons_zero])); (refine wpM_takeU (i := 13) (v := ?_) rfl (by kernel_rfl) (by kernel_rfl) (by kernel_rfl) (fun _ _ _ h => h) ((From.refl wr.drew)) rfl (Or.inl ⟨by first | kernel_rfl | rfl, ?_⟩) ?_; rotate_left; (intro wx; go_simp) <;> (with_reducible rfl); (try simp only [Act.put, List.setIfInBounds_toArray, List.set_cons_zero, List.set_cons_succ, List.getElem_toArray, List.getElem_cons_succ, List.getElem_cons_zero]))
        (refine wpM_take (i := 14) (v := ?_) rfl (by kernel_rfl) (by kernel_rfl) (by kernel_rfl) (fun _ _ _ h => h) ((From.refl wr.drew)) rfl (by kernel_rfl) (Or.inl ⟨by first | kernel_rfl | rfl, ?_⟩) ?_; rotate_left; (intro wx hx; go_simp) <;> (with_reducible rfl); (try simp only [Act.put, List.setIfInBounds_toArray, List.set_cons_zero, List.set_cons_succ, List.getElem_toArray, List.getElem_cons_succ, List.getElem_cons_zero]))
        (refine wpM_takeU (i := 17) (v := ?_) rfl (by kernel_rfl) (by kernel_rfl) (by kernel_rfl) (fun _ _ _ h => h) ((From.refl wr.drew)) rfl (Or.inl ⟨by first | kernel_rfl | rfl, ?_⟩) ?_; rotate_left; (intro wx; go_simp) <;> (with_reducible rfl); (try simp only [Act.put, List.setIfInBounds_toArray, List.set_cons_zero, List.set_cons_succ, List.getElem_toArray, List.getElem_cons_succ, List.getElem_cons_zero])); (refine wpM_takeU (i := 18) (v := ?_) rfl (by kernel_rfl) (by kernel_rfl) (by kernel_rfl) (fun _ _ _ h => h) ((From.refl wr.drew)) rfl (Or.inl ⟨by first | kernel_rfl | rfl, ?_⟩) ?_; rotate_left; (intro wx; go_simp) <;> (with_reducible rfl); (try simp only [Act.put, List.setIfInBounds_toArray, List.set_cons_zero, List.set_cons_succ, List.getElem_toArray, List.getElem_cons_succ, List.getElem_cons_zero])); (refine wpM_takeU (i := 19) (v := ?_) rfl (by kernel_rfl) (by kernel_rfl) (by kernel_rfl) (fun _ _ _ h => h) ((From.refl wr.drew)) rfl (Or.inl ⟨by first | kernel_rfl | rfl, ?_⟩) ?_; rotate_left; (intro wx; go_simp) <;> (with_reducible rfl); (try simp only [Act.put, List.setIfInBounds_toArray, List.set_cons_zero, List.set_cons_succ, List.getElem_toArray, List.getElem_cons_succ, List.getElem_cons_zero]))
        (refine wpM_take (i := 20) (v := ?_) rfl (by kernel_rfl) (by kernel_rfl) (by kernel_rfl) (fun _ _ _ h => h) ((From.refl wr.drew)) rfl (by kernel_rfl) (Or.inl ⟨by first | kernel_rfl | rfl, ?_⟩) ?_; rotate_left; (intro wx hx; go_simp) <;> (with_reducible rfl); (try simp only [Act.put, List.setIfInBounds_toArray, List.set_cons_zero, List.set_cons_succ, List.getElem_toArray, List.getElem_cons_succ, List.getElem_cons_zero]))
        (refine wpM_one (i := 5) (by kernel_rfl) rfl rfl ?_; intro K hK; (try simp only [Act.put, List.setIfInBounds_toArray, List.set_cons_zero, List.set_cons_succ, List.getElem_toArray, List.getElem_cons_succ, List.getElem_cons_zero]))
        refine step_call rfl rfl enSpread rfl (HA.out _) ?_
        rintro e v1 ⟨rfl, hb1⟩
        have F1 : From wr.drew v1 := bnx (From.refl wr.drew) hb1
        refine ⟨_, rfl, hK (From wr.drew) _ _ (fun _ h => h) F1 ?_⟩
        clear hK K
        (try simp only [Act.put, List.setIfInBounds_toArray, List.set_cons_zero, List.set_cons_succ, List.getElem_toArray, List.getElem_cons_succ, List.getElem_cons_zero])
        (refine wpM_takeU (i := 10) (v := ?_) rfl (by kernel_rfl) (by kernel_rfl) (by kernel_rfl) (fun _ _ _ h => h) (F1) rfl (Or.inl ⟨by first | kernel_rfl | rfl, ?_⟩) ?_; rotate_left; (intro wx; go_simp) <;> (with_reducible rfl); (try simp only [Act.put, List.setIfInBounds_toArray, List.set_cons_zero, List.set_cons_succ, List.getElem_toArray, List.getElem_cons_succ, List.getElem_cons_zero]))
        (refine wpM_one (i := 15) (by kernel_rfl) rfl rfl ?_; intro K hK; (try simp only [Act.put, List.setIfInBounds_toArray, List.set_cons_zero, List.set_cons_succ, List.getElem_toArray, List.getElem_cons_succ, List.getElem_cons_zero]))
        refine step_call rfl rfl enSpread rfl (HB.out _) ?_
        rintro e v2 ⟨rfl, hb2⟩
        have F2 : From wr.drew v2 := bnx F1 hb2
        refine ⟨_, rfl, hK (From wr.drew) _ _ (fun _ h => h) F2 ?_⟩
        clear hK K
        (try simp only [Act.put, List.setIfInBounds_toArray, List.set_cons_zero, List.set_cons_succ, List.getElem_toArray, List.getElem_cons_succ, List.getElem_cons_zero])
        (refine wpM_takeU (i := 16) (v := ?_) rfl (by kernel_rfl) (by kernel_rfl) (by kernel_rfl) (fun _ _ _ h => h) (F2) rfl (Or.inl ⟨by first | kernel_rfl | rfl, ?_⟩) ?_; rotate_left; (intro wx; go_simp) <;> (with_reducible rfl); (try simp only [Act.put, List.setIfInBounds_toArray, List.set_cons_zero, List.set_cons_succ, List.getElem_toArray, List.getElem_cons_succ, List.getElem_cons_zero])); (refine wpM_takeU (i := 21) (v := ?_) rfl (by kernel_rfl) (by kernel_rfl) (by kernel_rfl) (fun _ _ _ h => h) (F2) rfl (Or.inl ⟨by first | kernel_rfl | rfl, ?_⟩) ?_; rotate_left; (intro wx; go_simp) <;> (with_reducible rfl); (try simp only [Act.put, List.setIfInBounds_toArray, List.set_cons_zero, List.set_cons_succ, List.getElem_toArray, List.getElem_cons_succ, List.getElem_cons_zero])); (refine wpM_takeU (i := 22) (v := ?_) rfl (by kernel_rfl) (by kernel_rfl) (by kernel_rfl) (fun _ _ _ h => h) (F2) rfl (Or.inl ⟨by first | kernel_rfl | rfl, ?_⟩) ?_; rotate_left; (intro wx; go_simp) <;> (with_reducible rfl); (try simp only [Act.put, List.setIfInBounds_toArray, List.set_cons_zero, List.set_cons_succ, List.getElem_toArray, List.getElem_cons_succ, List.getElem_cons_zero]))
        (refine wpM_late (i := 23) (by kernel_rfl) rfl rfl ?_; intro K hK; (try simp only [Act.put, List.setIfInBounds_toArray, List.set_cons_zero, List.set_cons_succ, List.getElem_toArray, List.getElem_cons_succ, List.getElem_cons_zero]))
        refine step_store rfl rfl tyU64 (HS'.out.call F2) 0 rfl i (by rw [List.size_toArray, uvs_len, HLEN.out]; omega) rfl (v := .int .u64 (z3 : Int)) rfl rfl ?_
        intro w9 hS9
        refine hK _ _ ?_
        clear hK K
        (try simp only [Act.put, List.setIfInBounds_toArray, List.set_cons_zero, List.set_cons_succ, List.getElem_toArray, List.getElem_cons_succ, List.getElem_cons_zero])
        refine wpAny_done (by kernel_rfl) ?_ _
        go_wp2_with fail
        go_roundw
        case rel =>
          have ht := HT.out
          rw [if_neg h16, HF.out] at ht
          rw [List.set_cons_zero, uvs_set, ht] at hS9
          exact ⟨i + 1, by omega, by go_num, hS9⟩
        case measure => (simp [intOf]) <;> omega
    · obtain rfl : i = 80 := by omega
      have hA : schA l 80 = schL l 80 := by unfold schA; simp
      rw [hA] at hS
      obtain ⟨xs, hxs⟩ : ∃ xs, xs = (uvs (schL l 80)).toArray := ⟨_, rfl⟩
      have hsz : xs.size = 80 := by rw [hxs, List.size_toArray, uvs_len, schL_len]
      have hone : xs.all (·.oneCell') = true := by rw [hxs, Array.all_eq_true_iff_forall_mem]; intro v hv; exact uvs_one _ v (by simpa using hv)
      rw [← hxs] at hS
      have HXS := hide hxs
      have HS := hide (hS.setRow 1 rfl xs)
      have HS1 := hide hS
      have hsz0 : (uvs (schA [] 0)).toArray.size = 80 := by rw [List.size_toArray, uvs_len]; rfl
      clear hS hA hz hxs
      go_upto_region 9 with fail
      refine wp_region_list ?_
      refine wpList_load_row rfl 36 (.tmp 3) rfl (w.heap.size + 1) rfl 36 xs _ _ (HS1.out.heap 0 rfl) Try.underlying36 rfl (by rw [hsz]; kernel_rfl) ?_
      refine wpList_store_row rfl 36 (.tmp 2) (.tmp 44) rfl w.heap.size xs rfl rfl 36 _ (HS1.out.heap 1 rfl) (by rw [hsz]; kernel_rfl) (by rw [hsz, hsz0]) hone ?_
      refine wpList_nil ?_
      go_wp2_with fail
      refine bodyPost_ret (results_cell_row rfl _ _ w.heap.size _ _ _ _ rfl (HS.out.heap 1 rfl) Try.underlying36 rfl (by rw [hsz]; kernel_rfl)) rfl ?_
      exact ⟨by rw [HXS.out], HS.out.below⟩
end Go.Proofs.Ytabdbddmmbccjaa
