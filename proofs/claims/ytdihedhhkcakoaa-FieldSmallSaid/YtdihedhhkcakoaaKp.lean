/-
  The walk of layer 2's Mul.
-/
import Derived.Test.YtdihedhhkcakoaaKo
namespace Go.Proofs.Ytdihedhhkcakoaa
open Go.RowKit

def mulH (w : World) (a b vs : List Nat) : List Chunk :=
  [.cells (w.heap.size + 1 + 1 + 1) (wcs vs).toArray 56, .cells (w.heap.size + 1 + 1) #[.int .u64 0, .int .u64 0, .int .u64 0, .int .u64 0, .int .u64 0] 27,
    .cells (w.heap.size + 1) (uvs b).toArray 27, .cells w.heap.size (uvs a).toArray 27]
def MulRel (w : World) (a b : List Nat) (iv : Value) (wr : World) : Prop :=
  ∃ (i : Nat) (vs : List Nat), i ≤ 5 ∧ iv = .int .i64 (i : Int) ∧ MulAt a b i 0 vs ∧ St w NoB wr (mulH w a b vs)
def MulIn (w : World) (a b : List Nat) (i : Nat) (kv : Value) (wr : World) : Prop :=
  ∃ (k : Nat) (vs : List Nat), k ≤ 5 ∧ kv = .int .i64 (k : Int) ∧ MulAt a b i k vs ∧ St w NoB wr (mulH w a b vs)
def CarRel (w : World) (gL : Nat) (a b vs : List Nat) (iv ov : Value) (wr : World) : Prop :=
  ∃ (k o : Nat) (cur : List Nat), k ≤ 5 ∧ iv = .int .i64 (k : Int) ∧ ov = .int .u64 (o : Int) ∧ CarAt vs k o cur ∧ St w NoB wr (.cells gL (uvs cur).toArray 25 :: mulH w a b vs)
theorem ixs0 (h0 l0 h1 l1 h2 l2 h3 l3 h4 l4 : Nat) (W : World) : (Instr.index 56 (.agg #[.int .u64 (h0 : Int), .int .u64 (l0 : Int), .int .u64 (h1 : Int), .int .u64 (l1 : Int), .int .u64 (h2 : Int), .int .u64 (l2 : Int), .int .u64 (h3 : Int), .int .u64 (l3 : Int), .int .u64 (h4 : Int), .int .u64 (l4 : Int)]) (.int .i64 ((0 : Nat) : Int))).run Try.prog W = .ok (.agg #[.int .u64 (h0 : Int), .int .u64 (l0 : Int)]) W := by kernel_rfl
theorem ixs1 (h0 l0 h1 l1 h2 l2 h3 l3 h4 l4 : Nat) (W : World) : (Instr.index 56 (.agg #[.int .u64 (h0 : Int), .int .u64 (l0 : Int), .int .u64 (h1 : Int), .int .u64 (l1 : Int), .int .u64 (h2 : Int), .int .u64 (l2 : Int), .int .u64 (h3 : Int), .int .u64 (l3 : Int), .int .u64 (h4 : Int), .int .u64 (l4 : Int)]) (.int .i64 ((1 : Nat) : Int))).run Try.prog W = .ok (.agg #[.int .u64 (h1 : Int), .int .u64 (l1 : Int)]) W := by kernel_rfl
theorem ixs2 (h0 l0 h1 l1 h2 l2 h3 l3 h4 l4 : Nat) (W : World) : (Instr.index 56 (.agg #[.int .u64 (h0 : Int), .int .u64 (l0 : Int), .int .u64 (h1 : Int), .int .u64 (l1 : Int), .int .u64 (h2 : Int), .int .u64 (l2 : Int), .int .u64 (h3 : Int), .int .u64 (l3 : Int), .int .u64 (h4 : Int), .int .u64 (l4 : Int)]) (.int .i64 ((2 : Nat) : Int))).run Try.prog W = .ok (.agg #[.int .u64 (h2 : Int), .int .u64 (l2 : Int)]) W := by kernel_rfl
theorem ixs3 (h0 l0 h1 l1 h2 l2 h3 l3 h4 l4 : Nat) (W : World) : (Instr.index 56 (.agg #[.int .u64 (h0 : Int), .int .u64 (l0 : Int), .int .u64 (h1 : Int), .int .u64 (l1 : Int), .int .u64 (h2 : Int), .int .u64 (l2 : Int), .int .u64 (h3 : Int), .int .u64 (l3 : Int), .int .u64 (h4 : Int), .int .u64 (l4 : Int)]) (.int .i64 ((3 : Nat) : Int))).run Try.prog W = .ok (.agg #[.int .u64 (h3 : Int), .int .u64 (l3 : Int)]) W := by kernel_rfl
theorem ixs4 (h0 l0 h1 l1 h2 l2 h3 l3 h4 l4 : Nat) (W : World) : (Instr.index 56 (.agg #[.int .u64 (h0 : Int), .int .u64 (l0 : Int), .int .u64 (h1 : Int), .int .u64 (l1 : Int), .int .u64 (h2 : Int), .int .u64 (l2 : Int), .int .u64 (h3 : Int), .int .u64 (l3 : Int), .int .u64 (h4 : Int), .int .u64 (l4 : Int)]) (.int .i64 ((4 : Nat) : Int))).run Try.prog W = .ok (.agg #[.int .u64 (h4 : Int), .int .u64 (l4 : Int)]) W := by kernel_rfl
theorem ixs (h0 l0 h1 l1 h2 l2 h3 l3 h4 l4 k h l : Nat) (hk : [(h0, l0), (h1, l1), (h2, l2), (h3, l3), (h4, l4)][k]? = some (h, l)) (W : World) :
    (Instr.index 56 (.agg #[.int .u64 (h0 : Int), .int .u64 (l0 : Int), .int .u64 (h1 : Int), .int .u64 (l1 : Int), .int .u64 (h2 : Int), .int .u64 (l2 : Int), .int .u64 (h3 : Int), .int .u64 (l3 : Int), .int .u64 (h4 : Int), .int .u64 (l4 : Int)]) (.int .i64 (k : Int))).run Try.prog W = .ok (.agg #[.int .u64 (h : Int), .int .u64 (l : Int)]) W := by
  match k, hk with
  | 0, hk => simp only [List.getElem?_cons_zero, List.getElem?_cons_succ, Option.some.injEq, Prod.mk.injEq] at hk; rw [← hk.1, ← hk.2]; exact ixs0 h0 l0 h1 l1 h2 l2 h3 l3 h4 l4 W
  | 1, hk => simp only [List.getElem?_cons_zero, List.getElem?_cons_succ, Option.some.injEq, Prod.mk.injEq] at hk; rw [← hk.1, ← hk.2]; exact ixs1 h0 l0 h1 l1 h2 l2 h3 l3 h4 l4 W
  | 2, hk => simp only [List.getElem?_cons_zero, List.getElem?_cons_succ, Option.some.injEq, Prod.mk.injEq] at hk; rw [← hk.1, ← hk.2]; exact ixs2 h0 l0 h1 l1 h2 l2 h3 l3 h4 l4 W
  | 3, hk => simp only [List.getElem?_cons_zero, List.getElem?_cons_succ, Option.some.injEq, Prod.mk.injEq] at hk; rw [← hk.1, ← hk.2]; exact ixs3 h0 l0 h1 l1 h2 l2 h3 l3 h4 l4 W
  | 4, hk => simp only [List.getElem?_cons_zero, List.getElem?_cons_succ, Option.some.injEq, Prod.mk.injEq] at hk; rw [← hk.1, ← hk.2]; exact ixs4 h0 l0 h1 l1 h2 l2 h3 l3 h4 l4 W
theorem or_shift (s t u : Nat) (hs : s < W1) (ht : t < T51) (hu : s / T51 + t % 2 ^ 51 * 2 ^ 13 = u) : bits .or .u64 (IntKind.u64.wrap ((t : Int) * 8192)) ((s : Int) / 2251799813685248) = (u : Int) := by
  have h := glue 13 (s / T51) t (by decide) (by unfold W1 T51 at *; omega)
  rw [show 64 - 13 = 51 from rfl, hu] at h
  have e : bits .or .u64 ((s / T51 : Nat) : Int) (IntKind.u64.wrap ((t : Int) * ((2 ^ 13 : Nat) : Int))) = bits .or .u64 (IntKind.u64.wrap ((t : Int) * 8192)) ((s : Int) / 2251799813685248) := by
    have e1 : IntKind.u64.wrap ((t : Int) * ((2 ^ 13 : Nat) : Int)) = ((t * 8192 % 18446744073709551616 : Nat) : Int) := by rw [IntKind.wrap_u64]; omega
    have e2 : IntKind.u64.wrap ((t : Int) * 8192) = ((t * 8192 % 18446744073709551616 : Nat) : Int) := by rw [IntKind.wrap_u64]; omega
    have e3 : (s : Int) / 2251799813685248 = ((s / T51 : Nat) : Int) := by unfold T51; omega
    rw [e1, e2, e3, u64_or_nat _ _ (by unfold W1 T51 at *; omega) (Nat.mod_lt _ (by decide)), u64_or_nat _ _ (Nat.mod_lt _ (by decide)) (by unfold W1 T51 at *; omega), Nat.or_comm]
  rw [← e]
  exact h
theorem enPlus (args : Array Value) (w : World) : (callFunc 33 args).run Try.prog w = .ok (.enter 33 args) w := by kernel_rfl
set_option maxRecDepth 100000 in
set_option maxHeartbeats 1600000 in
theorem mul_walk (a b c d e a' b' c' d' e' : Nat) (w : World) (ha : Red [a, b, c, d, e]) (hb : Red [a', b', c', d', e']) :
    Calls Try.prog 15 #[(.agg #[.int .u64 (a : Int), .int .u64 (b : Int), .int .u64 (c : Int), .int .u64 (d : Int), .int .u64 (e : Int)]), (.agg #[.int .u64 (a' : Int), .int .u64 (b' : Int), .int .u64 (c' : Int), .int .u64 (d' : Int), .int .u64 (e' : Int)])] w fun r w' => ∃ p q s t u : Nat, ev [p, q, s, t, u] = ev [a, b, c, d, e] * ev [a', b', c', d', e'] % Pq ∧ Red [p, q, s, t, u] ∧ r = .returned (.agg #[.int .u64 (p : Int), .int .u64 (q : Int), .int .u64 (s : Int), .int .u64 (t : Int), .int .u64 (u : Int)]) ∧ Below w.heap.size w w' := by
  have HA := hide ha
  have HB := hide hb
  have hS0 := ((((St.init w NoB).alloc (uvs [a, b, c, d, e]).toArray 27).alloc (uvs [a', b', c', d', e']).toArray 27).alloc #[.int .u64 0, .int .u64 0, .int .u64 0, .int .u64 0, .int .u64 0] 27).alloc (wcs [0, 0, 0, 0, 0]).toArray 56
  simp only [size_alloc1] at hS0
  have HS0 := hide hS0
  clear hS0 ha hb
  go_enter Try.func15, Try.ntmps15
  go_wp2_with fail
  go_loopw [16] (fun i wr => MulRel w [a, b, c, d, e] [a', b', c', d', e'] i wr) (fun i _ => 5 - (intOf i).toNat)
  case atStart => exact ⟨0, [0, 0, 0, 0, 0], by omega, rfl, mul_start _ _, HS0.out⟩
  case round =>
    obtain ⟨i, vs, hi, rfl, hP, hS⟩ := hrel
    by_cases hlt : i < 5
    · have di : decide ((i : Int) < 5) = true := by simp; omega
      have HP := hide hP
      have HS := hide hS
      obtain ⟨wo, hwo⟩ : ∃ wo : World, wo = wr := ⟨_, rfl⟩
      rw [← hwo] at HS
      clear hP hS HS0 
      subst hwo
      go_wp2_with fail
      go_loopw [19] (fun k wr => MulIn w [a, b, c, d, e] [a', b', c', d', e'] i k wr) (fun k _ => 5 - (intOf k).toNat)
      case atStart => exact ⟨0, vs, by omega, rfl, HP.out, HS.out⟩
      case round =>
        clear HP HS
        obtain ⟨k, us, hk, rfl, hP, hS⟩ := hrel
        by_cases hltk : k < 5
        · obtain ⟨x, hx⟩ : ∃ x, [a, b, c, d, e][i]? = some x := ⟨_, List.getElem?_eq_getElem (by simpa using hlt)⟩
          obtain ⟨y, hy⟩ : ∃ y, [a', b', c', d', e'][k]? = some y := ⟨_, List.getElem?_eq_getElem (by simpa using hltk)⟩
          have bx : x < T51 + 38 := by have := HA.out.2 i x hx; split at this <;> omega
          have by' : y < T51 + 38 := by have := HB.out.2 k y hy; split at this <;> omega
          obtain ⟨m, hm⟩ : ∃ m, m = (i + k) % 5 := ⟨_, rfl⟩
          have hm5 : m < 5 := by omega
          obtain ⟨v, hv⟩ : ∃ v, us[m]? = some v := ⟨_, List.getElem?_eq_getElem (by rw [hP.1]; exact hm5)⟩
          obtain ⟨bxy, bfy⟩ := mul_bound x y i k bx by'
          have hvb : v ≤ 6 * BB := by
            have := hP.2.2.1 m v hv
            have h2 : (i + 1) * BB ≤ 6 * BB := Nat.mul_le_mul_right _ (by omega)
            omega
          have hN := mul_next hP hlt hltk hx hy (by rw [← hm]; exact hv) bxy
          rw [← hm] at hN
          have hroom := sums_room v _ hvb bxy
          obtain ⟨q, hq⟩ : ∃ q, q = foldY i k y := ⟨_, rfl⟩
          rw [← hq] at hN hroom bfy
          have HPW := hide (fun W => plus_walk v x q W (by unfold T51 at bx; unfold W1; omega) bfy hroom)
          have hgc := wcs_get hv
          have hst := wcs_set us m (v + x * q)
          rw [Nat.mul_comm 2 m] at hgc hst
          have HUL : Hid (us.length = 5) := hide hP.1
          generalize v / W1 = vh at HPW hgc
          generalize v % W1 = vl at HPW hgc
          generalize (v + x * q) / W1 = rh at HPW hst
          generalize (v + x * q) % W1 = rl at HPW hst
          have HST := hide hst
          have hHS := hide hS.drew
          have cy : wr.cell? ⟨w.heap.size + 1, k, none⟩ = some (.int .u64 (y : Int)) := by
            rw [hS.cell 2 rfl k]
            exact uvs_get hy
          have cx : ∀ z, From wr.drew z → z.cell? ⟨w.heap.size, i, none⟩ = some (.int .u64 (x : Int)) := fun z hz => by
            rw [hz.cell (p := ⟨w.heap.size, i, none⟩) (Chunk.lt (hHS.out.sat 3 _ rfl) rfl), hHS.out.cell 3 rfl i]
            exact uvs_get hx
          have c0 : ∀ z, From wr.drew z → z.cell? ⟨w.heap.size + 1 + 1 + 1, m * 2, none⟩ = some (.int .u64 (vh : Int)) := fun z hz => by
            rw [hz.cell (p := ⟨w.heap.size + 1 + 1 + 1, m * 2, none⟩) (Chunk.lt (hHS.out.sat 0 _ rfl) rfl), hHS.out.cell 0 rfl (m * 2)]
            rw [List.getElem?_toArray]; exact hgc.1
          have c1 : ∀ z, From wr.drew z → z.cell? ⟨w.heap.size + 1 + 1 + 1, m * 2 + 1, none⟩ = some (.int .u64 (vl : Int)) := fun z hz => by
            rw [hz.cell (p := ⟨w.heap.size + 1 + 1 + 1, m * 2 + 1, none⟩) (Chunk.lt (hHS.out.sat 0 _ rfl) rfl), hHS.out.cell 0 rfl (m * 2 + 1)]
            rw [List.getElem?_toArray]; exact hgc.2
          have dk : decide ((k : Int) < 5) = true := by simp; omega
          have ik : (k : Int) < 5 := by omega
          have im : (m : Int) < 5 := by omega
          have ii : (i : Int) < 5 := by omega
          have hr1 : ((i : Int) + (k : Int)).tmod 5 = (m : Int) := by rw [Int.tmod_eq_emod_of_nonneg (by omega)]; omega
          have hr2 : ((i : Int) + (k : Int)) % 5 = (m : Int) := by omega
          have HN := hide hN
          have hw : 5 ≤ i + k → IntKind.u64.wrap ((y : Int) * 19) = (q : Int) := fun h => by
            rw [hq]
            unfold foldY
            rw [if_pos h, IntKind.wrap_u64]
            unfold T51 at by'
            omega
          have hw2 : ¬ 5 ≤ i + k → y = q := fun h => by
            rw [hq]
            unfold foldY
            rw [if_neg h]
          clear hP hS hx hy bx by' hm hv bxy bfy hvb hN hroom hq hgc hst
          by_cases h5 : 5 ≤ i + k
          · have d5 : decide ((5 : Int) ≤ (i : Int) + (k : Int)) = true := by simp; omega
            replace hw := hw h5
            clear hw2
            go_wp2_with fail
            refine wp_region_M (fun i => i == 11) (From wr.drew) (by kernel_rfl) ?_
            (refine wpM_takeU (i := 0) (v := ?_) rfl (by kernel_rfl) (by kernel_rfl) (by kernel_rfl) (fun _ _ _ h => h) (From.refl _) rfl (Or.inl ⟨by first | kernel_rfl | rfl, ?_⟩) ?_; rotate_left; (intro wx; go_simp) <;> (with_reducible rfl); (try simp only [Act.put, List.setIfInBounds_toArray, List.set_cons_zero, List.set_cons_succ, List.getElem_toArray, List.getElem_cons_succ, List.getElem_cons_zero])); (refine wpM_takeU (i := 1) (v := ?_) rfl (by kernel_rfl) (by kernel_rfl) (by kernel_rfl) (fun _ _ _ h => h) (From.refl _) rfl (Or.inl ⟨by first | kernel_rfl | rfl, ?_⟩) ?_; rotate_left; (intro wx; go_simp) <;> (with_reducible rfl); (try simp only [Act.put, List.setIfInBounds_toArray, List.set_cons_zero, List.set_cons_succ, List.getElem_toArray, List.getElem_cons_succ, List.getElem_cons_zero])); (refine wpM_takeU (i := 2) (v := ?_) rfl (by kernel_rfl) (by kernel_rfl) (by kernel_rfl) (fun _ _ _ h => h) (From.refl _) rfl (Or.inl ⟨by first | kernel_rfl | rfl, ?_⟩) ?_; rotate_left; (intro wx; go_simp) <;> (with_reducible rfl); (try simp only [Act.put, List.setIfInBounds_toArray, List.set_cons_zero, List.set_cons_succ, List.getElem_toArray, List.getElem_cons_succ, List.getElem_cons_zero]))
            (refine wpM_take (i := 3) (v := ?_) rfl (by kernel_rfl) (by kernel_rfl) (by kernel_rfl) (fun _ _ _ h => h) (From.refl _) rfl (by kernel_rfl) (Or.inl ⟨by first | kernel_rfl | rfl, ?_⟩) ?_; rotate_left; (intro wx hx; go_simp) <;> (with_reducible rfl); (try simp only [Act.put, List.setIfInBounds_toArray, List.set_cons_zero, List.set_cons_succ, List.getElem_toArray, List.getElem_cons_succ, List.getElem_cons_zero]))
            (refine wpM_takeU (i := 4) (v := ?_) rfl (by kernel_rfl) (by kernel_rfl) (by kernel_rfl) (fun _ _ _ h => h) (From.refl _) rfl (Or.inl ⟨by first | kernel_rfl | rfl, ?_⟩) ?_; rotate_left; (intro wx; go_simp) <;> (with_reducible rfl); (try simp only [Act.put, List.setIfInBounds_toArray, List.set_cons_zero, List.set_cons_succ, List.getElem_toArray, List.getElem_cons_succ, List.getElem_cons_zero])); (refine wpM_takeU (i := 5) (v := ?_) rfl (by kernel_rfl) (by kernel_rfl) (by kernel_rfl) (fun _ _ _ h => h) (From.refl _) rfl (Or.inl ⟨by first | kernel_rfl | rfl, ?_⟩) ?_; rotate_left; (intro wx; go_simp) <;> (with_reducible rfl); (try simp only [Act.put, List.setIfInBounds_toArray, List.set_cons_zero, List.set_cons_succ, List.getElem_toArray, List.getElem_cons_succ, List.getElem_cons_zero])); (refine wpM_takeU (i := 6) (v := ?_) rfl (by kernel_rfl) (by kernel_rfl) (by kernel_rfl) (fun _ _ _ h => h) (From.refl _) rfl (Or.inl ⟨by first | kernel_rfl | rfl, ?_⟩) ?_; rotate_left; (intro wx; go_simp) <;> (with_reducible rfl); (try simp only [Act.put, List.setIfInBounds_toArray, List.set_cons_zero, List.set_cons_succ, List.getElem_toArray, List.getElem_cons_succ, List.getElem_cons_zero]))
            (refine wpM_take (i := 7) (v := ?_) rfl (by kernel_rfl) (by kernel_rfl) (by kernel_rfl) (fun _ _ _ h => h) (From.refl _) rfl (by kernel_rfl) (Or.inl ⟨by first | kernel_rfl | rfl, ?_⟩) ?_; rotate_left; (intro wx hx; go_simp) <;> (with_reducible rfl); (try simp only [Act.put, List.setIfInBounds_toArray, List.set_cons_zero, List.set_cons_succ, List.getElem_toArray, List.getElem_cons_succ, List.getElem_cons_zero]))
            (refine wpM_takeU (i := 8) (v := ?_) rfl (by kernel_rfl) (by kernel_rfl) (by kernel_rfl) (fun _ _ _ h => h) (From.refl _) rfl (Or.inl ⟨by first | kernel_rfl | rfl, ?_⟩) ?_; rotate_left; (intro wx; go_simp) <;> (with_reducible rfl); (try simp only [Act.put, List.setIfInBounds_toArray, List.set_cons_zero, List.set_cons_succ, List.getElem_toArray, List.getElem_cons_succ, List.getElem_cons_zero]))
            (refine wpM_one (i := 9) (by kernel_rfl) rfl rfl ?_; intro K hK; (try simp only [Act.put, List.setIfInBounds_toArray, List.set_cons_zero, List.set_cons_succ, List.getElem_toArray, List.getElem_cons_succ, List.getElem_cons_zero]))
            refine step_call rfl rfl enPlus rfl (HPW.out _) ?_
            rintro r w2 ⟨rfl, hb2⟩
            have hS2 := hHS.out.call hb2
            refine ⟨_, rfl, hK (From w2) _ _ (From.next hb2) (From.refl _) ?_⟩
            clear hK K cx c0 c1
            (try simp only [Act.put, List.setIfInBounds_toArray, List.set_cons_zero, List.set_cons_succ, List.getElem_toArray, List.getElem_cons_succ, List.getElem_cons_zero])
            (refine wpM_takeU (i := 10) (v := ?_) rfl (by kernel_rfl) (by kernel_rfl) (by kernel_rfl) (fun _ _ _ h => h) (From.refl _) rfl (Or.inl ⟨by first | kernel_rfl | rfl, ?_⟩) ?_; rotate_left; (intro wx; go_simp) <;> (with_reducible rfl); (try simp only [Act.put, List.setIfInBounds_toArray, List.set_cons_zero, List.set_cons_succ, List.getElem_toArray, List.getElem_cons_succ, List.getElem_cons_zero]))
            (refine wpM_late (i := 11) (by kernel_rfl) rfl rfl ?_; intro K hK; (try simp only [Act.put, List.setIfInBounds_toArray, List.set_cons_zero, List.set_cons_succ, List.getElem_toArray, List.getElem_cons_succ, List.getElem_cons_zero]))
            refine step_storeAgg rfl rfl hS2 0 rfl (cs := [.int .u64 (rh : Int), .int .u64 (rl : Int)]) (m * 2) (by rw [List.size_toArray, wcs_len, HUL.out]; show m * 2 + 2 ≤ _; omega) rfl rfl (by kernel_rfl) (by intro z hz; simp at hz; rcases hz with rfl | rfl <;> rfl) ?_
            intro w3 hS3
            refine hK _ _ ?_
            clear hK K
            (try simp only [Act.put, List.setIfInBounds_toArray, List.set_cons_zero, List.set_cons_succ, List.getElem_toArray, List.getElem_cons_succ, List.getElem_cons_zero])
            refine wpAny_done (by kernel_rfl) ?_ _
            go_wp2_with fail
            go_roundw
            case rel =>
              have e2 := set_two (wcs us) (m * 2) (uv rh) (uv rl) (by rw [wcs_len, HUL.out]; omega)
              rw [HST.out] at e2
              refine ⟨k + 1, us.set m (v + x * q), by omega, by go_num, HN.out, ?_⟩
              unfold mulH
              rw [← e2]
              exact hS3
            case measure => (simp [intOf]) <;> omega
          · have d5 : decide ((5 : Int) ≤ (i : Int) + (k : Int)) = false := by simp; omega
            have hyq := hw2 h5
            clear hw hw2
            subst hyq
            go_wp2_with fail
            refine wp_region_M (fun i => i == 11) (From wr.drew) (by kernel_rfl) ?_
            (refine wpM_takeU (i := 0) (v := ?_) rfl (by kernel_rfl) (by kernel_rfl) (by kernel_rfl) (fun _ _ _ h => h) (From.refl _) rfl (Or.inl ⟨by first | kernel_rfl | rfl, ?_⟩) ?_; rotate_left; (intro wx; go_simp) <;> (with_reducible rfl); (try simp only [Act.put, List.setIfInBounds_toArray, List.set_cons_zero, List.set_cons_succ, List.getElem_toArray, List.getElem_cons_succ, List.getElem_cons_zero])); (refine wpM_takeU (i := 1) (v := ?_) rfl (by kernel_rfl) (by kernel_rfl) (by kernel_rfl) (fun _ _ _ h => h) (From.refl _) rfl (Or.inl ⟨by first | kernel_rfl | rfl, ?_⟩) ?_; rotate_left; (intro wx; go_simp) <;> (with_reducible rfl); (try simp only [Act.put, List.setIfInBounds_toArray, List.set_cons_zero, List.set_cons_succ, List.getElem_toArray, List.getElem_cons_succ, List.getElem_cons_zero])); (refine wpM_takeU (i := 2) (v := ?_) rfl (by kernel_rfl) (by kernel_rfl) (by kernel_rfl) (fun _ _ _ h => h) (From.refl _) rfl (Or.inl ⟨by first | kernel_rfl | rfl, ?_⟩) ?_; rotate_left; (intro wx; go_simp) <;> (with_reducible rfl); (try simp only [Act.put, List.setIfInBounds_toArray, List.set_cons_zero, List.set_cons_succ, List.getElem_toArray, List.getElem_cons_succ, List.getElem_cons_zero]))
            (refine wpM_take (i := 3) (v := ?_) rfl (by kernel_rfl) (by kernel_rfl) (by kernel_rfl) (fun _ _ _ h => h) (From.refl _) rfl (by kernel_rfl) (Or.inl ⟨by first | kernel_rfl | rfl, ?_⟩) ?_; rotate_left; (intro wx hx; go_simp) <;> (with_reducible rfl); (try simp only [Act.put, List.setIfInBounds_toArray, List.set_cons_zero, List.set_cons_succ, List.getElem_toArray, List.getElem_cons_succ, List.getElem_cons_zero]))
            (refine wpM_takeU (i := 4) (v := ?_) rfl (by kernel_rfl) (by kernel_rfl) (by kernel_rfl) (fun _ _ _ h => h) (From.refl _) rfl (Or.inl ⟨by first | kernel_rfl | rfl, ?_⟩) ?_; rotate_left; (intro wx; go_simp) <;> (with_reducible rfl); (try simp only [Act.put, List.setIfInBounds_toArray, List.set_cons_zero, List.set_cons_succ, List.getElem_toArray, List.getElem_cons_succ, List.getElem_cons_zero])); (refine wpM_takeU (i := 5) (v := ?_) rfl (by kernel_rfl) (by kernel_rfl) (by kernel_rfl) (fun _ _ _ h => h) (From.refl _) rfl (Or.inl ⟨by first | kernel_rfl | rfl, ?_⟩) ?_; rotate_left; (intro wx; go_simp) <;> (with_reducible rfl); (try simp only [Act.put, List.setIfInBounds_toArray, List.set_cons_zero, List.set_cons_succ, List.getElem_toArray, List.getElem_cons_succ, List.getElem_cons_zero])); (refine wpM_takeU (i := 6) (v := ?_) rfl (by kernel_rfl) (by kernel_rfl) (by kernel_rfl) (fun _ _ _ h => h) (From.refl _) rfl (Or.inl ⟨by first | kernel_rfl | rfl, ?_⟩) ?_; rotate_left; (intro wx; go_simp) <;> (with_reducible rfl); (try simp only [Act.put, List.setIfInBounds_toArray, List.set_cons_zero, List.set_cons_succ, List.getElem_toArray, List.getElem_cons_succ, List.getElem_cons_zero]))
            (refine wpM_take (i := 7) (v := ?_) rfl (by kernel_rfl) (by kernel_rfl) (by kernel_rfl) (fun _ _ _ h => h) (From.refl _) rfl (by kernel_rfl) (Or.inl ⟨by first | kernel_rfl | rfl, ?_⟩) ?_; rotate_left; (intro wx hx; go_simp) <;> (with_reducible rfl); (try simp only [Act.put, List.setIfInBounds_toArray, List.set_cons_zero, List.set_cons_succ, List.getElem_toArray, List.getElem_cons_succ, List.getElem_cons_zero]))
            (refine wpM_takeU (i := 8) (v := ?_) rfl (by kernel_rfl) (by kernel_rfl) (by kernel_rfl) (fun _ _ _ h => h) (From.refl _) rfl (Or.inl ⟨by first | kernel_rfl | rfl, ?_⟩) ?_; rotate_left; (intro wx; go_simp) <;> (with_reducible rfl); (try simp only [Act.put, List.setIfInBounds_toArray, List.set_cons_zero, List.set_cons_succ, List.getElem_toArray, List.getElem_cons_succ, List.getElem_cons_zero]))
            (refine wpM_one (i := 9) (by kernel_rfl) rfl rfl ?_; intro K hK; (try simp only [Act.put, List.setIfInBounds_toArray, List.set_cons_zero, List.set_cons_succ, List.getElem_toArray, List.getElem_cons_succ, List.getElem_cons_zero]))
            refine step_call rfl rfl enPlus rfl (HPW.out _) ?_
            rintro r w2 ⟨rfl, hb2⟩
            have hS2 := hHS.out.call hb2
            refine ⟨_, rfl, hK (From w2) _ _ (From.next hb2) (From.refl _) ?_⟩
            clear hK K cx c0 c1
            (try simp only [Act.put, List.setIfInBounds_toArray, List.set_cons_zero, List.set_cons_succ, List.getElem_toArray, List.getElem_cons_succ, List.getElem_cons_zero])
            (refine wpM_takeU (i := 10) (v := ?_) rfl (by kernel_rfl) (by kernel_rfl) (by kernel_rfl) (fun _ _ _ h => h) (From.refl _) rfl (Or.inl ⟨by first | kernel_rfl | rfl, ?_⟩) ?_; rotate_left; (intro wx; go_simp) <;> (with_reducible rfl); (try simp only [Act.put, List.setIfInBounds_toArray, List.set_cons_zero, List.set_cons_succ, List.getElem_toArray, List.getElem_cons_succ, List.getElem_cons_zero]))
            (refine wpM_late (i := 11) (by kernel_rfl) rfl rfl ?_; intro K hK; (try simp only [Act.put, List.setIfInBounds_toArray, List.set_cons_zero, List.set_cons_succ, List.getElem_toArray, List.getElem_cons_succ, List.getElem_cons_zero]))
            refine step_storeAgg rfl rfl hS2 0 rfl (cs := [.int .u64 (rh : Int), .int .u64 (rl : Int)]) (m * 2) (by rw [List.size_toArray, wcs_len, HUL.out]; show m * 2 + 2 ≤ _; omega) rfl rfl (by kernel_rfl) (by intro z hz; simp at hz; rcases hz with rfl | rfl <;> rfl) ?_
            intro w3 hS3
            refine hK _ _ ?_
            clear hK K
            (try simp only [Act.put, List.setIfInBounds_toArray, List.set_cons_zero, List.set_cons_succ, List.getElem_toArray, List.getElem_cons_succ, List.getElem_cons_zero])
            refine wpAny_done (by kernel_rfl) ?_ _
            go_wp2_with fail
            go_roundw
            case rel =>
              have e2 := set_two (wcs us) (m * 2) (uv rh) (uv rl) (by rw [wcs_len, HUL.out]; omega)
              rw [HST.out] at e2
              refine ⟨k + 1, us.set m (v + x * y), by omega, by go_num, HN.out, ?_⟩
              unfold mulH
              rw [← e2]
              exact hS3
            case measure => (simp [intOf]) <;> omega
        · obtain rfl : k = 5 := by omega
          have HN := hide (mul_row hP hlt rfl rfl)
          have HS := hide hS
          clear hP hS
          go_wp2_with fail
          go_roundw
          case rel => exact ⟨i + 1, us, by omega, by go_num, HN.out, HS.out⟩
          case measure => (simp [intOf]) <;> omega
    · obtain rfl : i = 5 := by omega
      obtain ⟨hev, hbd⟩ := mul_end hP rfl
      have HV5 : Hid (vs.length = 5) := hide hP.1
      obtain ⟨v0, v1, v2, v3, v4, rfl⟩ := list5 hP.1
      have HEV := hide hev
      have HBD := hide hbd
      have HS := hide hS
      obtain ⟨h0, eh0⟩ : ∃ h, h = v0 / W1 := ⟨_, rfl⟩
      obtain ⟨l0, el0⟩ : ∃ l, l = v0 % W1 := ⟨_, rfl⟩
      have m0 : wr.cell? ⟨w.heap.size + 1 + 1 + 1, 0, none⟩ = some (.int .u64 (h0 : Int)) := by rw [eh0]; exact hS.cell 0 rfl 0
      have n0 : wr.cell? ⟨w.heap.size + 1 + 1 + 1, 1, none⟩ = some (.int .u64 (l0 : Int)) := by rw [el0]; exact hS.cell 0 rfl 1
      obtain ⟨h1, eh1⟩ : ∃ h, h = v1 / W1 := ⟨_, rfl⟩
      obtain ⟨l1, el1⟩ : ∃ l, l = v1 % W1 := ⟨_, rfl⟩
      have m1 : wr.cell? ⟨w.heap.size + 1 + 1 + 1, 2, none⟩ = some (.int .u64 (h1 : Int)) := by rw [eh1]; exact hS.cell 0 rfl 2
      have n1 : wr.cell? ⟨w.heap.size + 1 + 1 + 1, 3, none⟩ = some (.int .u64 (l1 : Int)) := by rw [el1]; exact hS.cell 0 rfl 3
      obtain ⟨h2, eh2⟩ : ∃ h, h = v2 / W1 := ⟨_, rfl⟩
      obtain ⟨l2, el2⟩ : ∃ l, l = v2 % W1 := ⟨_, rfl⟩
      have m2 : wr.cell? ⟨w.heap.size + 1 + 1 + 1, 4, none⟩ = some (.int .u64 (h2 : Int)) := by rw [eh2]; exact hS.cell 0 rfl 4
      have n2 : wr.cell? ⟨w.heap.size + 1 + 1 + 1, 5, none⟩ = some (.int .u64 (l2 : Int)) := by rw [el2]; exact hS.cell 0 rfl 5
      obtain ⟨h3, eh3⟩ : ∃ h, h = v3 / W1 := ⟨_, rfl⟩
      obtain ⟨l3, el3⟩ : ∃ l, l = v3 % W1 := ⟨_, rfl⟩
      have m3 : wr.cell? ⟨w.heap.size + 1 + 1 + 1, 6, none⟩ = some (.int .u64 (h3 : Int)) := by rw [eh3]; exact hS.cell 0 rfl 6
      have n3 : wr.cell? ⟨w.heap.size + 1 + 1 + 1, 7, none⟩ = some (.int .u64 (l3 : Int)) := by rw [el3]; exact hS.cell 0 rfl 7
      obtain ⟨h4, eh4⟩ : ∃ h, h = v4 / W1 := ⟨_, rfl⟩
      obtain ⟨l4, el4⟩ : ∃ l, l = v4 % W1 := ⟨_, rfl⟩
      have m4 : wr.cell? ⟨w.heap.size + 1 + 1 + 1, 8, none⟩ = some (.int .u64 (h4 : Int)) := by rw [eh4]; exact hS.cell 0 rfl 8
      have n4 : wr.cell? ⟨w.heap.size + 1 + 1 + 1, 9, none⟩ = some (.int .u64 (l4 : Int)) := by rw [el4]; exact hS.cell 0 rfl 9
      have HIX := hide (ixs h0 l0 h1 l1 h2 l2 h3 l3 h4 l4)
      have HGET : Hid (∀ (k v : Nat), [v0, v1, v2, v3, v4][k]? = some v → [(h0, l0), (h1, l1), (h2, l2), (h3, l3), (h4, l4)][k]? = some (v / W1, v % W1)) := hide (fun k v hv => by
        have := congrArg (fun z => z.map fun v => (v / W1, v % W1)) hv
        rw [← List.getElem?_map] at this
        rw [eh0, el0, eh1, el1, eh2, el2, eh3, el3, eh4, el4]
        exact this)
      have b3 : w.heap.size + 1 + 1 + 1 < wr.heap.size := Chunk.lt (hS.sat 0 _ rfl) rfl
      clear hP hS hev hbd HS0 eh0 el0 eh1 el1 eh2 el2 eh3 el3 eh4 el4
      obtain ⟨wz, hwz⟩ : ∃ wz : World, wz = wr := ⟨_, rfl⟩
      rw [← hwz] at HS
      have HS1 := hide (HS.out.alloc (uvs [0, 0, 0, 0, 0]).toArray 25)
      clear HS
      subst hwz
      go_wp2_with fail
      clear m0 n0 m1 n1 m2 n2 m3 n3 m4 n4 b3
      go_loopw [50, 11] (fun i o wq => CarRel w wz.heap.size [a, b, c, d, e] [a', b', c', d', e'] [v0, v1, v2, v3, v4] i o wq) (fun i _ _ => 5 - (intOf i).toNat)
      case atStart => exact ⟨0, 0, [0, 0, 0, 0, 0], by omega, rfl, rfl, cars_start _, HS1.out⟩
      case round =>
        clear HS1
        obtain ⟨k, o, cur, hk, rfl, rfl, hP, hS⟩ := hrel
        by_cases hltk : k < 5
        · obtain ⟨v, hv⟩ : ∃ v, [v0, v1, v2, v3, v4][k]? = some v := ⟨_, List.getElem?_eq_getElem (by simpa using hltk)⟩
          have hvb := HBD.out k v hv
          have hN := cars_next hP hltk hv hvb
          obtain ⟨bs, bo⟩ := bb6 v o hvb hP.2.2.2
          have bo2 : o < W1 := by have := hP.2.2.2; unfold T51 at this; unfold W1; omega
          obtain ⟨e1, e2, e3, e4, e5, e6⟩ := cars_words v o bs bo2
          have hix := HIX.out k (v / W1) (v % W1) (HGET.out k v hv)
          have A0 := add0_any (v % W1) o
          rw [e1] at A0
          have hcl := hP.1
          have b1 : (v + o) % W1 < W1 := Nat.mod_lt _ (by decide)
          have hor := or_shift ((v + o) % W1) ((v + o) / W1) _ b1 e6 e5
          have hand := and_mask ((v + o) % W1) b1
          rw [e4] at hand
          generalize (v + o) % T51 = r at *
          generalize (v + o) / T51 = o2 at *
          have hsum : IntKind.u64.wrap (((v / W1 : Nat) : Int) + ((adC (v % W1) o 0 : Nat) : Int)) = (((v + o) / W1 : Nat) : Int) := by
            have e2' := e2
            have e6' := e6
            rw [IntKind.wrap_u64]
            unfold T51 at e6'
            generalize (v + o) / W1 = t at *
            generalize v / W1 = vh at *
            omega
          generalize (v + o) / W1 = t at *
          generalize (v + o) % W1 = sm at *
          generalize adC (v % W1) o 0 = cy at *
          generalize v / W1 = vh at *
          generalize v % W1 = vl at *
          have dk : decide ((k : Int) < 5) = true := by simp; omega
          have ik : (k : Int) < 5 := by omega
          obtain ⟨x, hx⟩ : ∃ x, cur[k]? = some x := ⟨_, List.getElem?_eq_getElem (by omega)⟩
          have cl : wr.cell? ⟨wz.heap.size, k, none⟩ = some (.int .u64 (x : Int)) := by
            rw [hS.cell 0 rfl k]
            exact uvs_get hx
          have fl := hS.free 0 rfl k
          have gl : wz.heap.size < wr.heap.size := Chunk.lt (hS.sat 0 _ rfl) rfl
          have ne1 : wz.heap.size ≠ wr.heap.size := by omega
          have ne2 : wr.heap.size ≠ wz.heap.size := by omega
          have HS := hide hS
          have HN := hide hN
          clear hP hS hN hv hvb bs bo bo2 e1 e2 e3 e4 e5 e6 hcl b1 hx
          go_wp2_with fail
          go_roundw
          case rel =>
            have h3 := (HS.out.setCell 0 rfl k (.int .u64 (r : Int))).skip (.cells #[.int .u64 (vh : Int), .int .u64 (vl : Int)] 55)
            rw [List.set_cons_zero, uvs_set] at h3
            exact ⟨k + 1, o2, cur.set k r, by omega, by go_num, rfl, HN.out, h3⟩
          case measure => (simp [intOf]) <;> omega
        · obtain rfl : k = 5 := by omega
          obtain ⟨p0, p1, p2, p3, p4, rfl⟩ := list5 hP.1
          obtain ⟨e1, e2, e3, e4⟩ := cars_end hP rfl
          rw [HEV.out] at e1
          have hS' : St w NoB wr [.cells wz.heap.size #[.int .u64 (p0 : Int), .int .u64 (p1 : Int), .int .u64 (p2 : Int), .int .u64 (p3 : Int), .int .u64 (p4 : Int)] 25, .cells (w.heap.size + 1 + 1) #[.int .u64 0, .int .u64 0, .int .u64 0, .int .u64 0, .int .u64 0] 27] := hS.pickL [0, 2] (by decide) rfl
          have n0 : wr.cell? ⟨wz.heap.size, 0, none⟩ = some (.int .u64 (p0 : Int)) := hS'.cell 0 rfl 0
          have n1 : wr.cell? ⟨wz.heap.size, 1, none⟩ = some (.int .u64 (p1 : Int)) := hS'.cell 0 rfl 1
          have n2 : wr.cell? ⟨wz.heap.size, 2, none⟩ = some (.int .u64 (p2 : Int)) := hS'.cell 0 rfl 2
          have n3 : wr.cell? ⟨wz.heap.size, 3, none⟩ = some (.int .u64 (p3 : Int)) := hS'.cell 0 rfl 3
          have n4 : wr.cell? ⟨wz.heap.size, 4, none⟩ = some (.int .u64 (p4 : Int)) := hS'.cell 0 rfl 4
          have f0 := hS'.free 0 rfl 0
          have hw1 : IntKind.u64.wrap (19 * (o : Int)) = ((19 * o : Nat) : Int) := by rw [IntKind.wrap_u64]; unfold W1 at e3; omega
          have hw2 : IntKind.u64.wrap ((p0 : Int) + ((19 * o : Nat) : Int)) = ((p0 + 19 * o : Nat) : Int) := by rw [IntKind.wrap_u64]; unfold W1 at e4; omega
          have HC := hide (fun W => carried_any (p0 + 19 * o) p1 p2 p3 p4 W e2)
          rw [e1] at HC
          generalize 19 * o = oo at *
          generalize p0 + oo = pp at *
          have HSE := hide (hS'.setCell 0 rfl 0 (.int .u64 (pp : Int)))
          clear hP e1 e2 e3 e4 hS hS' HEV HBD HIX HGET
          go_wp2_with (go_at_call 30; with_reducible refine (HC.out _).mono ?_; rintro r w2 ⟨r0, r1, r2, r3, r4, hev, hred, rfl, hb2⟩; have hS2 := HSE.out.call hb2; have z0 : w2.cell? ⟨w.heap.size + 1 + 1, 0, none⟩ = some (.int .u64 0) := hS2.cell 1 rfl 0; have z1 : w2.cell? ⟨w.heap.size + 1 + 1, 1, none⟩ = some (.int .u64 0) := hS2.cell 1 rfl 1; have z2 : w2.cell? ⟨w.heap.size + 1 + 1, 2, none⟩ = some (.int .u64 0) := hS2.cell 1 rfl 2; have z3 : w2.cell? ⟨w.heap.size + 1 + 1, 3, none⟩ = some (.int .u64 0) := hS2.cell 1 rfl 3; have z4 : w2.cell? ⟨w.heap.size + 1 + 1, 4, none⟩ = some (.int .u64 0) := hS2.cell 1 rfl 4; have y0 := hS2.free 1 rfl 0; have y1 := hS2.free 1 rfl 1; have y2 := hS2.free 1 rfl 2; have y3 := hS2.free 1 rfl 3; have y4 := hS2.free 1 rfl 4)
          have HS := hide (((((hS2.setCell 1 rfl 0 (.int .u64 (r0 : Int))).setCell 1 rfl 1 (.int .u64 (r1 : Int))).setCell 1 rfl 2 (.int .u64 (r2 : Int))).setCell 1 rfl 3 (.int .u64 (r3 : Int))).setCell 1 rfl 4 (.int .u64 (r4 : Int)))
          refine bodyPost_ret (results_cell_row rfl _ _ (w.heap.size + 1 + 1) _ _ _ _ rfl (HS.out.heap 1 rfl) Try.underlying27 rfl (by kernel_rfl)) rfl ?_
          exact ⟨r0, r1, r2, r3, r4, hev, hred, rfl, HS.out.below⟩
end Go.Proofs.Ytdihedhhkcakoaa
