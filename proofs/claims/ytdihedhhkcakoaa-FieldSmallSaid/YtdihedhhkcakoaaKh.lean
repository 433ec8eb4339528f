/-
  The walk of layer 2's Sub.
-/
import Derived.Test.YtdihedhhkcakoaaKg
namespace Go.Proofs.Ytdihedhhkcakoaa
open Go.RowKit

def SubRel (w : World) (a b : List Nat) (i : Value) (wr : World) : Prop :=
  ∃ (k : Nat) (cur : List Nat), k ≤ 5 ∧ i = .int .i64 (k : Int) ∧ SubAt a b k cur ∧ St w NoB wr [.cells w.heap.size (uvs cur).toArray 27, .cells (w.heap.size + 1) (uvs b).toArray 27, .cells (w.heap.size + 1 + 1) #[.int .u64 0, .int .u64 0, .int .u64 0, .int .u64 0, .int .u64 0] 27]
set_option maxRecDepth 100000 in
set_option maxHeartbeats 800000 in
theorem sub_walk (a b c d e a' b' c' d' e' : Nat) (w : World) (ha : Red [a, b, c, d, e]) (hb : Red [a', b', c', d', e']) :
    Calls Try.prog 19 #[(.agg #[.int .u64 (a : Int), .int .u64 (b : Int), .int .u64 (c : Int), .int .u64 (d : Int), .int .u64 (e : Int)]), (.agg #[.int .u64 (a' : Int), .int .u64 (b' : Int), .int .u64 (c' : Int), .int .u64 (d' : Int), .int .u64 (e' : Int)])] w fun r w' => ∃ p q s t u : Nat, ev [p, q, s, t, u] = (ev [a, b, c, d, e] + (Pq - ev [a', b', c', d', e'])) % Pq ∧ Red [p, q, s, t, u] ∧ r = .returned (.agg #[.int .u64 (p : Int), .int .u64 (q : Int), .int .u64 (s : Int), .int .u64 (t : Int), .int .u64 (u : Int)]) ∧ Below w.heap.size w w' := by
  have HA := hide ha
  have HB := hide hb
  have hS0 := (((St.init w NoB).alloc (uvs [a, b, c, d, e]).toArray 27).alloc (uvs [a', b', c', d', e']).toArray 27).alloc #[.int .u64 0, .int .u64 0, .int .u64 0, .int .u64 0, .int .u64 0] 27
  simp only [size_alloc1] at hS0
  have HS0 := hide hS0.rot3
  clear hS0 ha hb
  go_enter Try.func19, Try.ntmps19
  go_wp2_with fail
  go_loopw [7] (fun i wr => SubRel w [a, b, c, d, e] [a', b', c', d', e'] i wr) (fun i _ => 5 - (intOf i).toNat)
  case atStart => exact ⟨0, [a, b, c, d, e], by omega, rfl, sub_start _ _ HA.out, HS0.out⟩
  case round =>
    obtain ⟨k, cur, hk, rfl, hP, hS⟩ := hrel
    by_cases hlt : k < 5
    · obtain ⟨x, hx⟩ : ∃ x, [a, b, c, d, e][k]? = some x := ⟨_, List.getElem?_eq_getElem (by simpa using hlt)⟩
      obtain ⟨y, hy⟩ : ∃ y, [a', b', c', d', e'][k]? = some y := ⟨_, List.getElem?_eq_getElem (by simpa using hlt)⟩
      obtain ⟨t, ht⟩ : ∃ t, tw4[k]? = some t := ⟨_, List.getElem?_eq_getElem (by simpa [tw4] using hlt)⟩
      have hcx : cur[k]? = some x := by
        have := congrArg (·[0]?) hP.2.1
        simpa [List.getElem?_drop, hx] using this
      have bx := HA.out.2 k x hx
      have by' := HB.out.2 k y hy
      have hS' := hS.drew
      have hHS := hide hS'
      have cn : ∀ z, From wr.drew z → z.cell? ⟨w.heap.size, k, none⟩ = some (.int .u64 (x : Int)) := fun z hz => by
        rw [hz.cell (p := ⟨w.heap.size, k, none⟩) (Chunk.lt (hHS.out.sat 0 _ rfl) rfl), hHS.out.cell 0 rfl k]
        exact uvs_get hcx
      have cm : ∀ z, From wr.drew z → z.cell? ⟨w.heap.size + 1, k, none⟩ = some (.int .u64 (y : Int)) := fun z hz => by
        rw [hz.cell (p := ⟨w.heap.size + 1, k, none⟩) (Chunk.lt (hHS.out.sat 1 _ rfl) rfl), hHS.out.cell 1 rfl k]
        exact uvs_get hy
      have dk : decide ((k : Int) < 5) = true := by simp; omega
      have ik : (k : Int) < 5 := by omega
      have HCL := hide hP.1
      have key : ∀ T : Nat, t = T → 9007199254740916 ≤ T → T ≤ 9007199254740988 → ∃ v, IntKind.u64.wrap ((x : Int) + IntKind.u64.wrap ((T : Int) - (y : Int))) = ((v : Nat) : Int) ∧ SubAt [a, b, c, d, e] [a', b', c', d', e'] (k + 1) (cur.set k v) := by
        intro T hT h1 h2
        subst hT
        have hx' : x < 2251799813685286 := by unfold T51 at bx; split at bx <;> omega
        have hy' : y < 2251799813685286 := by unfold T51 at by'; split at by' <;> omega
        refine ⟨x + (t - y), ?_, sub_next hP hlt hx hy ht (by omega) (by unfold T51; omega)⟩
        rw [IntKind.wrap_u64, IntKind.wrap_u64]
        omega
      by_cases hk0 : k = 0
      · subst hk0
        obtain ⟨v, hv, hN⟩ := key 9007199254740916 (by injection ht with ht; exact ht.symm) (by omega) (by omega)
        replace hv : IntKind.u64.wrap ((x : Int) + IntKind.u64.wrap (9007199254740916 - (y : Int))) = (v : Int) := hv
        have HN := hide hN
        clear hN hS hS' hx hy ht hcx bx by' key hP
        go_wp2_with fail
        refine wp_region_M (fun i => i == 13) (From wr.drew) (by kernel_rfl) ?_
        (refine wpM_takeU (i := 0) (v := ?_) rfl (by kernel_rfl) (by kernel_rfl) (by kernel_rfl) (fun _ _ _ h => h) (From.refl _) rfl (Or.inl ⟨by first | kernel_rfl | rfl, ?_⟩) ?_; rotate_left; (intro wx; go_simp) <;> (with_reducible rfl); (try simp only [Act.put, List.setIfInBounds_toArray, List.set_cons_zero, List.set_cons_succ, List.getElem_toArray, List.getElem_cons_succ, List.getElem_cons_zero])); (refine wpM_takeU (i := 1) (v := ?_) rfl (by kernel_rfl) (by kernel_rfl) (by kernel_rfl) (fun _ _ _ h => h) (From.refl _) rfl (Or.inl ⟨by first | kernel_rfl | rfl, ?_⟩) ?_; rotate_left; (intro wx; go_simp) <;> (with_reducible rfl); (try simp only [Act.put, List.setIfInBounds_toArray, List.set_cons_zero, List.set_cons_succ, List.getElem_toArray, List.getElem_cons_succ, List.getElem_cons_zero])); (refine wpM_takeU (i := 2) (v := ?_) rfl (by kernel_rfl) (by kernel_rfl) (by kernel_rfl) (fun _ _ _ h => h) (From.refl _) rfl (Or.inl ⟨by first | kernel_rfl | rfl, ?_⟩) ?_; rotate_left; (intro wx; go_simp) <;> (with_reducible rfl); (try simp only [Act.put, List.setIfInBounds_toArray, List.set_cons_zero, List.set_cons_succ, List.getElem_toArray, List.getElem_cons_succ, List.getElem_cons_zero]))
        (refine wpM_take (i := 3) (v := ?_) rfl (by kernel_rfl) (by kernel_rfl) (by kernel_rfl) (fun _ _ _ h => h) (From.refl _) rfl (by kernel_rfl) (Or.inl ⟨by first | kernel_rfl | rfl, ?_⟩) ?_; rotate_left; (intro wx hx; go_simp) <;> (with_reducible rfl); (try simp only [Act.put, List.setIfInBounds_toArray, List.set_cons_zero, List.set_cons_succ, List.getElem_toArray, List.getElem_cons_succ, List.getElem_cons_zero]))
        (refine wpM_takeU (i := 4) (v := ?_) rfl (by kernel_rfl) (by kernel_rfl) (by kernel_rfl) (fun _ _ _ h => h) (From.refl _) rfl (Or.inl ⟨by first | kernel_rfl | rfl, ?_⟩) ?_; rotate_left; (intro wx; go_simp) <;> (with_reducible rfl); (try simp only [Act.put, List.setIfInBounds_toArray, List.set_cons_zero, List.set_cons_succ, List.getElem_toArray, List.getElem_cons_succ, List.getElem_cons_zero])); (refine wpM_takeU (i := 5) (v := ?_) rfl (by kernel_rfl) (by kernel_rfl) (by kernel_rfl) (fun _ _ _ h => h) (From.refl _) rfl (Or.inl ⟨by first | kernel_rfl | rfl, ?_⟩) ?_; rotate_left; (intro wx; go_simp) <;> (with_reducible rfl); (try simp only [Act.put, List.setIfInBounds_toArray, List.set_cons_zero, List.set_cons_succ, List.getElem_toArray, List.getElem_cons_succ, List.getElem_cons_zero])); (refine wpM_takeU (i := 6) (v := ?_) rfl (by kernel_rfl) (by kernel_rfl) (by kernel_rfl) (fun _ _ _ h => h) (From.refl _) rfl (Or.inl ⟨by first | kernel_rfl | rfl, ?_⟩) ?_; rotate_left; (intro wx; go_simp) <;> (with_reducible rfl); (try simp only [Act.put, List.setIfInBounds_toArray, List.set_cons_zero, List.set_cons_succ, List.getElem_toArray, List.getElem_cons_succ, List.getElem_cons_zero])); (refine wpM_takeU (i := 7) (v := ?_) rfl (by kernel_rfl) (by kernel_rfl) (by kernel_rfl) (fun _ _ _ h => h) (From.refl _) rfl (Or.inl ⟨by first | kernel_rfl | rfl, ?_⟩) ?_; rotate_left; (intro wx; go_simp) <;> (with_reducible rfl); (try simp only [Act.put, List.setIfInBounds_toArray, List.set_cons_zero, List.set_cons_succ, List.getElem_toArray, List.getElem_cons_succ, List.getElem_cons_zero]))
        (refine wpM_take (i := 8) (v := ?_) rfl (by kernel_rfl) (by kernel_rfl) (by kernel_rfl) (fun _ _ _ h => h) (From.refl _) rfl (by kernel_rfl) (Or.inl ⟨by first | kernel_rfl | rfl, ?_⟩) ?_; rotate_left; (intro wx hx; go_simp) <;> (with_reducible rfl); (try simp only [Act.put, List.setIfInBounds_toArray, List.set_cons_zero, List.set_cons_succ, List.getElem_toArray, List.getElem_cons_succ, List.getElem_cons_zero]))
        (refine wpM_takeU (i := 9) (v := ?_) rfl (by kernel_rfl) (by kernel_rfl) (by kernel_rfl) (fun _ _ _ h => h) (From.refl _) rfl (Or.inl ⟨by first | kernel_rfl | rfl, ?_⟩) ?_; rotate_left; (intro wx; go_simp) <;> (with_reducible rfl); (try simp only [Act.put, List.setIfInBounds_toArray, List.set_cons_zero, List.set_cons_succ, List.getElem_toArray, List.getElem_cons_succ, List.getElem_cons_zero])); (refine wpM_takeU (i := 10) (v := ?_) rfl (by kernel_rfl) (by kernel_rfl) (by kernel_rfl) (fun _ _ _ h => h) (From.refl _) rfl (Or.inl ⟨by first | kernel_rfl | rfl, ?_⟩) ?_; rotate_left; (intro wx; go_simp) <;> (with_reducible rfl); (try simp only [Act.put, List.setIfInBounds_toArray, List.set_cons_zero, List.set_cons_succ, List.getElem_toArray, List.getElem_cons_succ, List.getElem_cons_zero])); (refine wpM_takeU (i := 11) (v := ?_) rfl (by kernel_rfl) (by kernel_rfl) (by kernel_rfl) (fun _ _ _ h => h) (From.refl _) rfl (Or.inl ⟨by first | kernel_rfl | rfl, ?_⟩) ?_; rotate_left; (intro wx; go_simp) <;> (with_reducible rfl); (try simp only [Act.put, List.setIfInBounds_toArray, List.set_cons_zero, List.set_cons_succ, List.getElem_toArray, List.getElem_cons_succ, List.getElem_cons_zero])); (refine wpM_takeU (i := 12) (v := ?_) rfl (by kernel_rfl) (by kernel_rfl) (by kernel_rfl) (fun _ _ _ h => h) (From.refl _) rfl (Or.inl ⟨by first | kernel_rfl | rfl, ?_⟩) ?_; rotate_left; (intro wx; go_simp) <;> (with_reducible rfl); (try simp only [Act.put, List.setIfInBounds_toArray, List.set_cons_zero, List.set_cons_succ, List.getElem_toArray, List.getElem_cons_succ, List.getElem_cons_zero]))
        (refine wpM_late (i := 13) (by kernel_rfl) rfl rfl ?_; intro K hK; (try simp only [Act.put, List.setIfInBounds_toArray, List.set_cons_zero, List.set_cons_succ, List.getElem_toArray, List.getElem_cons_succ, List.getElem_cons_zero]))
        refine step_store rfl rfl tyU64 hHS.out 0 rfl 0 (by rw [List.size_toArray, uvs_len, HCL.out]; omega) rfl (v := .int .u64 (v : Nat)) rfl rfl ?_
        intro w2 hS2
        refine hK _ _ ?_
        clear hK K
        (try simp only [Act.put, List.setIfInBounds_toArray, List.set_cons_zero, List.set_cons_succ, List.getElem_toArray, List.getElem_cons_succ, List.getElem_cons_zero])
        refine wpAny_done (by kernel_rfl) ?_ _
        go_wp2_with fail
        go_roundw
        case rel =>
          rw [List.set_cons_zero, uvs_set] at hS2
          exact ⟨0 + 1, cur.set 0 v, by omega, by go_num, HN.out, hS2⟩
        case measure => (simp [intOf]) <;> omega
      · have hkb : ((k : Int) == 0) = false := by simp; omega
        obtain ⟨v, hv, hN⟩ := key 9007199254740988 (by
          match k, hk0, ht with
          | 1, _, ht => injection ht with ht; exact ht.symm
          | 2, _, ht => injection ht with ht; exact ht.symm
          | 3, _, ht => injection ht with ht; exact ht.symm
          | 4, _, ht => injection ht with ht; exact ht.symm) (by omega) (by omega)
        replace hv : IntKind.u64.wrap ((x : Int) + IntKind.u64.wrap (9007199254740988 - (y : Int))) = (v : Int) := hv
        have HN := hide hN
        clear hN hS hS' hx hy ht hcx bx by' key hP
        go_wp2_with fail
        refine wp_region_M (fun i => i == 13) (From wr.drew) (by kernel_rfl) ?_
        (refine wpM_takeU (i := 0) (v := ?_) rfl (by kernel_rfl) (by kernel_rfl) (by kernel_rfl) (fun _ _ _ h => h) (From.refl _) rfl (Or.inl ⟨by first | kernel_rfl | rfl, ?_⟩) ?_; rotate_left; (intro wx; go_simp) <;> (with_reducible rfl); (try simp only [Act.put, List.setIfInBounds_toArray, List.set_cons_zero, List.set_cons_succ, List.getElem_toArray, List.getElem_cons_succ, List.getElem_cons_zero])); (refine wpM_takeU (i := 1) (v := ?_) rfl (by kernel_rfl) (by kernel_rfl) (by kernel_rfl) (fun _ _ _ h => h) (From.refl _) rfl (Or.inl ⟨by first | kernel_rfl | rfl, ?_⟩) ?_; rotate_left; (intro wx; go_simp) <;> (with_reducible rfl); (try simp only [Act.put, List.setIfInBounds_toArray, List.set_cons_zero, List.set_cons_succ, List.getElem_toArray, List.getElem_cons_succ, List.getElem_cons_zero])); (refine wpM_takeU (i := 2) (v := ?_) rfl (by kernel_rfl) (by kernel_rfl) (by kernel_rfl) (fun _ _ _ h => h) (From.refl _) rfl (Or.inl ⟨by first | kernel_rfl | rfl, ?_⟩) ?_; rotate_left; (intro wx; go_simp) <;> (with_reducible rfl); (try simp only [Act.put, List.setIfInBounds_toArray, List.set_cons_zero, List.set_cons_succ, List.getElem_toArray, List.getElem_cons_succ, List.getElem_cons_zero]))
        (refine wpM_take (i := 3) (v := ?_) rfl (by kernel_rfl) (by kernel_rfl) (by kernel_rfl) (fun _ _ _ h => h) (From.refl _) rfl (by kernel_rfl) (Or.inl ⟨by first | kernel_rfl | rfl, ?_⟩) ?_; rotate_left; (intro wx hx; go_simp) <;> (with_reducible rfl); (try simp only [Act.put, List.setIfInBounds_toArray, List.set_cons_zero, List.set_cons_succ, List.getElem_toArray, List.getElem_cons_succ, List.getElem_cons_zero]))
        (refine wpM_takeU (i := 4) (v := ?_) rfl (by kernel_rfl) (by kernel_rfl) (by kernel_rfl) (fun _ _ _ h => h) (From.refl _) rfl (Or.inl ⟨by first | kernel_rfl | rfl, ?_⟩) ?_; rotate_left; (intro wx; go_simp) <;> (with_reducible rfl); (try simp only [Act.put, List.setIfInBounds_toArray, List.set_cons_zero, List.set_cons_succ, List.getElem_toArray, List.getElem_cons_succ, List.getElem_cons_zero])); (refine wpM_takeU (i := 5) (v := ?_) rfl (by kernel_rfl) (by kernel_rfl) (by kernel_rfl) (fun _ _ _ h => h) (From.refl _) rfl (Or.inl ⟨by first | kernel_rfl | rfl, ?_⟩) ?_; rotate_left; (intro wx; go_simp) <;> (with_reducible rfl); (try simp only [Act.put, List.setIfInBounds_toArray, List.set_cons_zero, List.set_cons_succ, List.getElem_toArray, List.getElem_cons_succ, List.getElem_cons_zero])); (refine wpM_takeU (i := 6) (v := ?_) rfl (by kernel_rfl) (by kernel_rfl) (by kernel_rfl) (fun _ _ _ h => h) (From.refl _) rfl (Or.inl ⟨by first | kernel_rfl | rfl, ?_⟩) ?_; rotate_left; (intro wx; go_simp) <;> (with_reducible rfl); (try simp only [Act.put, List.setIfInBounds_toArray, List.set_cons_zero, List.set_cons_succ, List.getElem_toArray, List.getElem_cons_succ, List.getElem_cons_zero])); (refine wpM_takeU (i := 7) (v := ?_) rfl (by kernel_rfl) (by kernel_rfl) (by kernel_rfl) (fun _ _ _ h => h) (From.refl _) rfl (Or.inl ⟨by first | kernel_rfl | rfl, ?_⟩) ?_; rotate_left; (intro wx; go_simp) <;> (with_reducible rfl); (try simp only [Act.put, List.setIfInBounds_toArray, List.set_cons_zero, List.set_cons_succ, List.getElem_toArray, List.getElem_cons_succ, List.getElem_cons_zero]))
        (refine wpM_take (i := 8) (v := ?_) rfl (by kernel_rfl) (by kernel_rfl) (by kernel_rfl) (fun _ _ _ h => h) (From.refl _) rfl (by kernel_rfl) (Or.inl ⟨by first | kernel_rfl | rfl, ?_⟩) ?_; rotate_left; (intro wx hx; go_simp) <;> (with_reducible rfl); (try simp only [Act.put, List.setIfInBounds_toArray, List.set_cons_zero, List.set_cons_succ, List.getElem_toArray, List.getElem_cons_succ, List.getElem_cons_zero]))
        (refine wpM_takeU (i := 9) (v := ?_) rfl (by kernel_rfl) (by kernel_rfl) (by kernel_rfl) (fun _ _ _ h => h) (From.refl _) rfl (Or.inl ⟨by first | kernel_rfl | rfl, ?_⟩) ?_; rotate_left; (intro wx; go_simp) <;> (with_reducible rfl); (try simp only [Act.put, List.setIfInBounds_toArray, List.set_cons_zero, List.set_cons_succ, List.getElem_toArray, List.getElem_cons_succ, List.getElem_cons_zero])); (refine wpM_takeU (i := 10) (v := ?_) rfl (by kernel_rfl) (by kernel_rfl) (by kernel_rfl) (fun _ _ _ h => h) (From.refl _) rfl (Or.inl ⟨by first | kernel_rfl | rfl, ?_⟩) ?_; rotate_left; (intro wx; go_simp) <;> (with_reducible rfl); (try simp only [Act.put, List.setIfInBounds_toArray, List.set_cons_zero, List.set_cons_succ, List.getElem_toArray, List.getElem_cons_succ, List.getElem_cons_zero])); (refine wpM_takeU (i := 11) (v := ?_) rfl (by kernel_rfl) (by kernel_rfl) (by kernel_rfl) (fun _ _ _ h => h) (From.refl _) rfl (Or.inl ⟨by first | kernel_rfl | rfl, ?_⟩) ?_; rotate_left; (intro wx; go_simp) <;> (with_reducible rfl); (try simp only [Act.put, List.setIfInBounds_toArray, List.set_cons_zero, List.set_cons_succ, List.getElem_toArray, List.getElem_cons_succ, List.getElem_cons_zero])); (refine wpM_takeU (i := 12) (v := ?_) rfl (by kernel_rfl) (by kernel_rfl) (by kernel_rfl) (fun _ _ _ h => h) (From.refl _) rfl (Or.inl ⟨by first | kernel_rfl | rfl, ?_⟩) ?_; rotate_left; (intro wx; go_simp) <;> (with_reducible rfl); (try simp only [Act.put, List.setIfInBounds_toArray, List.set_cons_zero, List.set_cons_succ, List.getElem_toArray, List.getElem_cons_succ, List.getElem_cons_zero]))
        (refine wpM_late (i := 13) (by kernel_rfl) rfl rfl ?_; intro K hK; (try simp only [Act.put, List.setIfInBounds_toArray, List.set_cons_zero, List.set_cons_succ, List.getElem_toArray, List.getElem_cons_succ, List.getElem_cons_zero]))
        refine step_store rfl rfl tyU64 hHS.out 0 rfl k (by rw [List.size_toArray, uvs_len, HCL.out]; omega) rfl (v := .int .u64 (v : Nat)) rfl rfl ?_
        intro w2 hS2
        refine hK _ _ ?_
        clear hK K
        (try simp only [Act.put, List.setIfInBounds_toArray, List.set_cons_zero, List.set_cons_succ, List.getElem_toArray, List.getElem_cons_succ, List.getElem_cons_zero])
        refine wpAny_done (by kernel_rfl) ?_ _
        go_wp2_with fail
        go_roundw
        case rel =>
          rw [List.set_cons_zero, uvs_set] at hS2
          exact ⟨k + 1, cur.set k v, by omega, by go_num, HN.out, hS2⟩
        case measure => (simp [intOf]) <;> omega
    · obtain rfl : k = 5 := by omega
      obtain ⟨p0, p1, p2, p3, p4, rfl⟩ := list5 hP.1
      obtain ⟨hlow, hev⟩ := sub_end hP HA.out HB.out
      have HC := hide (fun W => carried_any p0 p1 p2 p3 p4 W hlow)
      have HEV := hide hev
      have hS' : St w NoB wr [.cells w.heap.size #[.int .u64 (p0 : Int), .int .u64 (p1 : Int), .int .u64 (p2 : Int), .int .u64 (p3 : Int), .int .u64 (p4 : Int)] 27, .cells (w.heap.size + 1) (uvs [a', b', c', d', e']).toArray 27, .cells (w.heap.size + 1 + 1) #[.int .u64 0, .int .u64 0, .int .u64 0, .int .u64 0, .int .u64 0] 27] := hS
      have n0 : wr.cell? ⟨w.heap.size, 0, none⟩ = some (.int .u64 (p0 : Int)) := hS'.cell 0 rfl 0
      have n1 : wr.cell? ⟨w.heap.size, 1, none⟩ = some (.int .u64 (p1 : Int)) := hS'.cell 0 rfl 1
      have n2 : wr.cell? ⟨w.heap.size, 2, none⟩ = some (.int .u64 (p2 : Int)) := hS'.cell 0 rfl 2
      have n3 : wr.cell? ⟨w.heap.size, 3, none⟩ = some (.int .u64 (p3 : Int)) := hS'.cell 0 rfl 3
      have n4 : wr.cell? ⟨w.heap.size, 4, none⟩ = some (.int .u64 (p4 : Int)) := hS'.cell 0 rfl 4
      have HSE := hide hS'
      clear hP hlow hev hS hS'
      go_wp2_with (go_at_call 30; with_reducible refine (HC.out _).mono ?_; rintro r w2 ⟨r0, r1, r2, r3, r4, hev, hred, rfl, hb2⟩; have hS2 := HSE.out.call hb2; have z0 : w2.cell? ⟨w.heap.size + 1 + 1, 0, none⟩ = some (.int .u64 0) := hS2.cell 2 rfl 0; have z1 : w2.cell? ⟨w.heap.size + 1 + 1, 1, none⟩ = some (.int .u64 0) := hS2.cell 2 rfl 1; have z2 : w2.cell? ⟨w.heap.size + 1 + 1, 2, none⟩ = some (.int .u64 0) := hS2.cell 2 rfl 2; have z3 : w2.cell? ⟨w.heap.size + 1 + 1, 3, none⟩ = some (.int .u64 0) := hS2.cell 2 rfl 3; have z4 : w2.cell? ⟨w.heap.size + 1 + 1, 4, none⟩ = some (.int .u64 0) := hS2.cell 2 rfl 4; have y0 := hS2.free 2 rfl 0; have y1 := hS2.free 2 rfl 1; have y2 := hS2.free 2 rfl 2; have y3 := hS2.free 2 rfl 3; have y4 := hS2.free 2 rfl 4)
      have HS := hide (((((hS2.setCell 2 rfl 0 (.int .u64 (r0 : Int))).setCell 2 rfl 1 (.int .u64 (r1 : Int))).setCell 2 rfl 2 (.int .u64 (r2 : Int))).setCell 2 rfl 3 (.int .u64 (r3 : Int))).setCell 2 rfl 4 (.int .u64 (r4 : Int)))
      refine bodyPost_ret (results_cell_row rfl _ _ (w.heap.size + 1 + 1) _ _ _ _ rfl (HS.out.heap 2 rfl) Try.underlying27 rfl (by kernel_rfl)) rfl ?_
      exact ⟨r0, r1, r2, r3, r4, by rw [hev, HEV.out], hred, rfl, HS.out.below⟩
end Go.Proofs.Ytdihedhhkcakoaa
