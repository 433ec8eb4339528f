/-
  Layer 1: words that are turned and mixed, in plain numbers; the walks of the small functions.
-/
import Derived.Test.YtabdbddmmbccjaaRows
import Derived.Test.YtabdbddmmbccjaaNm
import Derived.Test.YtabdbddmmbccjaaRl
import Derived.Laws.Bits64b
namespace Go.Proofs.Ytabdbddmmbccjaa
open Go.RowKit

abbrev W1 : Nat := 18446744073709551616
/-- A word, turned to the right. -/
@[irreducible] def rot (x n : Nat) : Nat := x / 2 ^ n ||| x * 2 ^ (64 - n) % W1
theorem or_lt (a b : Nat) (ha : a < W1) (hb : b < W1) : a ||| b < W1 := Nat.or_lt_two_pow (n := 64) ha hb
theorem xor_lt (a b : Nat) (ha : a < W1) (hb : b < W1) : a ^^^ b < W1 := Nat.xor_lt_two_pow (n := 64) ha hb
theorem and_lt (a b : Nat) (ha : a < W1) : a &&& b < W1 := Nat.lt_of_le_of_lt Nat.and_le_left ha
theorem rot_lt (x n : Nat) (hx : x < W1) : rot x n < W1 := by
  unfold rot
  exact or_lt _ _ (Nat.lt_of_le_of_lt (Nat.div_le_self _ _) hx) (Nat.mod_lt _ (by decide))
@[irreducible] def mix (x a b c : Nat) : Nat := (rot x a ^^^ rot x b) ^^^ rot x c
@[irreducible] def spr (x a b s : Nat) : Nat := (rot x a ^^^ rot x b) ^^^ x / 2 ^ s
theorem mix_lt (x a b c : Nat) (hx : x < W1) : mix x a b c < W1 := by unfold mix; exact xor_lt _ _ (xor_lt _ _ (rot_lt _ _ hx) (rot_lt _ _ hx)) (rot_lt _ _ hx)
theorem spr_lt (x a b s : Nat) (hx : x < W1) : spr x a b s < W1 := by unfold spr; exact xor_lt _ _ (xor_lt _ _ (rot_lt _ _ hx) (rot_lt _ _ hx)) (Nat.lt_of_le_of_lt (Nat.div_le_self _ _) hx)
theorem rot_l (x s : Nat) (hx : x < W1) : bits .or .u64 (IntKind.u64.wrap ((x : Int) * 2 ^ s)) ((x : Int) / 2 ^ (64 - s)) = ((x / 2 ^ (64 - s) ||| x * 2 ^ s % W1 : Nat) : Int) := by
  have e1 : IntKind.u64.wrap ((x : Int) * 2 ^ s) = ((x * 2 ^ s % W1 : Nat) : Int) := by
    rw [IntKind.wrap_u64, show (x : Int) * 2 ^ s = ((x * 2 ^ s : Nat) : Int) from by rw [Int.natCast_mul, Int.natCast_pow]; rfl]
    rfl
  have e2 : (x : Int) / 2 ^ (64 - s) = ((x / 2 ^ (64 - s) : Nat) : Int) := by
    rw [Int.natCast_ediv, Int.natCast_pow]
    rfl
  rw [e1, e2, u64_or_nat _ _ (Nat.mod_lt _ (by decide)) (Nat.lt_of_le_of_lt (Nat.div_le_self _ _) hx), Nat.or_comm]
theorem rot_r (x n : Nat) (hx : x < W1) : bits .or .u64 ((x : Int) / 2 ^ n) (IntKind.u64.wrap ((x : Int) * 2 ^ (64 - n))) = ((rot x n : Nat) : Int) := by
  have e1 : IntKind.u64.wrap ((x : Int) * 2 ^ (64 - n)) = ((x * 2 ^ (64 - n) % W1 : Nat) : Int) := by
    rw [IntKind.wrap_u64, show (x : Int) * 2 ^ (64 - n) = ((x * 2 ^ (64 - n) : Nat) : Int) from by rw [Int.natCast_mul, Int.natCast_pow]; rfl]
    rfl
  have e2 : (x : Int) / 2 ^ n = ((x / 2 ^ n : Nat) : Int) := by
    rw [Int.natCast_ediv, Int.natCast_pow]
    rfl
  rw [e1, e2, u64_or_nat _ _ (Nat.lt_of_le_of_lt (Nat.div_le_self _ _) hx) (Nat.mod_lt _ (by decide))]
  unfold rot
  rfl
set_option maxRecDepth 100000 in
set_option maxHeartbeats 800000 in
theorem rotl_walk (x n : Nat) (w : World) (hx : x < W1) (h1 : 1 ≤ n) (h2 : n ≤ 63) :
    Calls Try.prog 25 #[.int .u64 (x : Int), .int .i64 (-(n : Int))] w fun e w' => e = .returned (.int .u64 (rot x n : Int)) ∧ w = w' := by
  have hm : bits .and .u64 (IntKind.u64.wrap (-(n : Int))) 63 = ((64 - n : Nat) : Int) := by
    have e : IntKind.u64.wrap (-(n : Int)) = ((W1 - n : Nat) : Int) := by rw [IntKind.wrap_u64]; unfold W1; omega
    have h := u64_and_nat (W1 - n) 63 (by unfold W1; omega) (by omega)
    rw [show (W1 - n) &&& 63 = (W1 - n) % 64 from Nat.and_two_pow_sub_one_eq_mod _ 6] at h
    rw [e]
    refine h.trans ?_
    unfold W1
    omega
  have hr := rot_l x (64 - n) hx
  obtain ⟨s, hs⟩ : ∃ s, s = 64 - n := ⟨_, rfl⟩
  rw [show 64 - (64 - n) = 64 - s from by omega, ← hs] at hr
  have he : (x / 2 ^ (64 - s) ||| x * 2 ^ s % W1) = rot x n := by unfold rot; rw [show 64 - s = n from by omega, hs]
  rw [he] at hr
  rw [← hs] at hm
  have s1 : 1 ≤ s := by omega
  have s2 : s ≤ 63 := by omega
  have HR := hide hr
  clear hs he hr
  go_enter Try.func25, Try.ntmps25
  go_wp2_with fail
  go_ret
  exact ⟨congrArg (fun z => Ending.returned (.int .u64 z)) HR.out, rfl⟩
set_option maxRecDepth 100000 in
set_option maxHeartbeats 800000 in
theorem rotated_any (x n : Nat) (w : World) (hx : x < W1) (h1 : 1 ≤ n) (h2 : n ≤ 63) :
    Calls Try.prog 24 #[.int .u64 (x : Int), .int .i64 (n : Int)] w fun e w' => e = .returned (.int .u64 (rot x n : Int)) ∧ w = w' := by
  have HC := hide (fun W => rotl_walk x n W hx h1 h2)
  go_enter Try.func24, Try.ntmps24
  go_wp2_with (go_at_call 25; refine (HC.out _).mono ?_; rintro e w1 ⟨rfl, rfl⟩)
  go_ret
  exact ⟨rfl, rfl⟩
set_option maxRecDepth 100000 in
set_option maxHeartbeats 800000 in
theorem rotr_any (x n : Nat) (w : World) (hx : x < W1) (h1 : 1 ≤ n) (h2 : n ≤ 63) :
    Calls Try.prog 15 #[.int .u64 (x : Int), .int .u64 (n : Int)] w fun e w' => e = .returned (.int .u64 (rot x n : Int)) ∧ w = w' := by
  have HR := hide (rot_r x n hx)
  go_enter Try.func15, Try.ntmps15
  go_wp2_with fail
  go_ret
  exact ⟨congrArg (fun z => Ending.returned (.int .u64 z)) HR.out, rfl⟩
set_option maxRecDepth 100000 in
set_option maxHeartbeats 800000 in
theorem mixes_any (x a b c : Nat) (w : World) (hx : x < W1) (ha : 1 ≤ a ∧ a ≤ 63) (hb : 1 ≤ b ∧ b ≤ 63) (hc : 1 ≤ c ∧ c ≤ 63) :
    Calls Try.prog 21 #[.int .u64 (x : Int), .int .i64 (a : Int), .int .i64 (b : Int), .int .i64 (c : Int)] w fun e w' => e = .returned (.int .u64 (mix x a b c : Int)) ∧ w = w' := by
  have x1 := u64_xor_nat (rot x a) (rot x b) (rot_lt x a hx) (rot_lt x b hx)
  have x2 := u64_xor_nat (rot x a ^^^ rot x b) (rot x c) (xor_lt _ _ (rot_lt x a hx) (rot_lt x b hx)) (rot_lt x c hx)
  have HA := hide (fun W => rotated_any x a W hx ha.1 ha.2)
  have HB := hide (fun W => rotated_any x b W hx hb.1 hb.2)
  have HC := hide (fun W => rotated_any x c W hx hc.1 hc.2)
  have he : (rot x a ^^^ rot x b) ^^^ rot x c = mix x a b c := by unfold mix; rfl
  rw [he] at x2
  generalize mix x a b c = y2 at *
  generalize rot x a ^^^ rot x b = y1 at *
  generalize rot x a = r1 at *
  generalize rot x b = r2 at *
  generalize rot x c = r3 at *
  clear he ha hb hc hx
  go_enter Try.func21, Try.ntmps21
  go_wp2_with (first
    | (have _q := q2; go_at_call 24; refine (HC.out _).mono ?_; rintro e w1 ⟨rfl, rfl⟩; have q3 : True := trivial)
    | (have _q := q1; go_at_call 24; refine (HB.out _).mono ?_; rintro e w1 ⟨rfl, rfl⟩; have q2 : True := trivial)
    | (go_at_call 24; refine (HA.out _).mono ?_; rintro e w1 ⟨rfl, rfl⟩; have q1 : True := trivial))
  go_ret
  exact ⟨rfl, rfl⟩
theorem enRotated (args : Array Value) (w : World) : (callFunc 24 args).run Try.prog w = .ok (.enter 24 args) w := by kernel_rfl
set_option maxRecDepth 100000 in
set_option maxHeartbeats 800000 in
theorem spread_any (x a b s : Nat) (w : World) (hx : x < W1) (ha : 1 ≤ a ∧ a ≤ 63) (hb : 1 ≤ b ∧ b ≤ 63) (hs : s ≤ 63) :
    Calls Try.prog 23 #[.int .u64 (x : Int), .int .i64 (a : Int), .int .i64 (b : Int), .int .i64 (s : Int)] w fun e w' => e = .returned (.int .u64 (spr x a b s : Int)) ∧ Below w.heap.size w w' := by
  have x1 := u64_xor_nat (rot x a) (rot x b) (rot_lt x a hx) (rot_lt x b hx)
  have x2 := u64_xor_nat (rot x a ^^^ rot x b) (x / 2 ^ s) (xor_lt _ _ (rot_lt x a hx) (rot_lt x b hx)) (Nat.lt_of_le_of_lt (Nat.div_le_self _ _) hx)
  rw [show (((x / 2 ^ s : Nat)) : Int) = (x : Int) / 2 ^ s from by rw [Int.natCast_ediv, Int.natCast_pow]; rfl] at x2
  have HA := hide (fun W => rotated_any x a W hx ha.1 ha.2)
  have HB := hide (fun W => rotated_any x b W hx hb.1 hb.2)
  have he : (rot x a ^^^ rot x b) ^^^ x / 2 ^ s = spr x a b s := by unfold spr; rfl
  rw [he] at x2
  generalize spr x a b s = y2 at *
  generalize rot x a ^^^ rot x b = y1 at *
  generalize rot x a = r1 at *
  generalize rot x b = r2 at *
  clear he ha hb hx
  go_enter Try.func23, Try.ntmps23
  go_wp2_with fail
  refine wp_region_F (by kernel_rfl) ?_
  (refine wpG_take (i := 0) (v := ?_) rfl (by kernel_rfl) (by kernel_rfl) (by kernel_rfl) (fun _ _ _ h => h) ((From.refl w.drew)) (Or.inl ⟨by first | kernel_rfl | rfl, ?_⟩) ?_; rotate_left; (intro wx hx; go_simp) <;> (with_reducible rfl); (try simp only [Act.put, List.setIfInBounds_toArray, List.set_cons_zero, List.set_cons_succ, List.getElem_toArray, List.getElem_cons_succ, List.getElem_cons_zero])); (refine wpG_take (i := 1) (v := ?_) rfl (by kernel_rfl) (by kernel_rfl) (by kernel_rfl) (fun _ _ _ h => h) ((From.refl w.drew)) (Or.inl ⟨by first | kernel_rfl | rfl, ?_⟩) ?_; rotate_left; (intro wx hx; go_simp) <;> (with_reducible rfl); (try simp only [Act.put, List.setIfInBounds_toArray, List.set_cons_zero, List.set_cons_succ, List.getElem_toArray, List.getElem_cons_succ, List.getElem_cons_zero])); (refine wpG_take (i := 3) (v := ?_) rfl (by kernel_rfl) (by kernel_rfl) (by kernel_rfl) (fun _ _ _ h => h) ((From.refl w.drew)) (Or.inl ⟨by first | kernel_rfl | rfl, ?_⟩) ?_; rotate_left; (intro wx hx; go_simp) <;> (with_reducible rfl); (try simp only [Act.put, List.setIfInBounds_toArray, List.set_cons_zero, List.set_cons_succ, List.getElem_toArray, List.getElem_cons_succ, List.getElem_cons_zero])); (refine wpG_take (i := 4) (v := ?_) rfl (by kernel_rfl) (by kernel_rfl) (by kernel_rfl) (fun _ _ _ h => h) ((From.refl w.drew)) (Or.inl ⟨by first | kernel_rfl | rfl, ?_⟩) ?_; rotate_left; (intro wx hx; go_simp) <;> (with_reducible rfl); (try simp only [Act.put, List.setIfInBounds_toArray, List.set_cons_zero, List.set_cons_succ, List.getElem_toArray, List.getElem_cons_succ, List.getElem_cons_zero])); (refine wpG_take (i := 7) (v := ?_) rfl (by kernel_rfl) (by kernel_rfl) (by kernel_rfl) (fun _ _ _ h => h) ((From.refl w.drew)) (Or.inl ⟨by first | kernel_rfl | rfl, ?_⟩) ?_; rotate_left; (intro wx hx; go_simp) <;> (with_reducible rfl); (try simp only [Act.put, List.setIfInBounds_toArray, List.set_cons_zero, List.set_cons_succ, List.getElem_toArray, List.getElem_cons_succ, List.getElem_cons_zero])); (refine wpG_take (i := 8) (v := ?_) rfl (by kernel_rfl) (by kernel_rfl) (by kernel_rfl) (fun _ _ _ h => h) ((From.refl w.drew)) (Or.inl ⟨by first | kernel_rfl | rfl, ?_⟩) ?_; rotate_left; (intro wx hx; go_simp) <;> (with_reducible rfl); (try simp only [Act.put, List.setIfInBounds_toArray, List.set_cons_zero, List.set_cons_succ, List.getElem_toArray, List.getElem_cons_succ, List.getElem_cons_zero])); (refine wpG_take (i := 9) (v := ?_) rfl (by kernel_rfl) (by kernel_rfl) (by kernel_rfl) (fun _ _ _ h => h) ((From.refl w.drew)) (Or.inl ⟨by first | kernel_rfl | rfl, ?_⟩) ?_; rotate_left; (intro wx hx; go_simp) <;> (with_reducible rfl); (try simp only [Act.put, List.setIfInBounds_toArray, List.set_cons_zero, List.set_cons_succ, List.getElem_toArray, List.getElem_cons_succ, List.getElem_cons_zero]))
  (refine wpG_one (i := 2) (by kernel_rfl) rfl ?_; intro K hK; (try simp only [Act.put, List.setIfInBounds_toArray, List.set_cons_zero, List.set_cons_succ, List.getElem_toArray, List.getElem_cons_succ, List.getElem_cons_zero]))
  refine step_call rfl rfl enRotated rfl (HA.out _) ?_
  rintro e v1 ⟨rfl, rfl⟩
  refine ⟨_, rfl, hK (From w.drew) _ _ (fun _ h => h) (From.refl w.drew) ?_⟩
  clear hK K
  (try simp only [Act.put, List.setIfInBounds_toArray, List.set_cons_zero, List.set_cons_succ, List.getElem_toArray, List.getElem_cons_succ, List.getElem_cons_zero])
  (refine wpG_one (i := 5) (by kernel_rfl) rfl ?_; intro K hK; (try simp only [Act.put, List.setIfInBounds_toArray, List.set_cons_zero, List.set_cons_succ, List.getElem_toArray, List.getElem_cons_succ, List.getElem_cons_zero]))
  refine step_call rfl rfl enRotated rfl (HB.out _) ?_
  rintro e v2 ⟨rfl, rfl⟩
  refine ⟨_, rfl, hK (From w.drew) _ _ (fun _ h => h) (From.refl w.drew) ?_⟩
  clear hK K
  (try simp only [Act.put, List.setIfInBounds_toArray, List.set_cons_zero, List.set_cons_succ, List.getElem_toArray, List.getElem_cons_succ, List.getElem_cons_zero])
  (refine wpG_take (i := 6) (v := ?_) rfl (by kernel_rfl) (by kernel_rfl) (by kernel_rfl) (fun _ _ _ h => h) ((From.refl w.drew)) (Or.inl ⟨by first | kernel_rfl | rfl, ?_⟩) ?_; rotate_left; (intro wx hx; go_simp) <;> (with_reducible rfl); (try simp only [Act.put, List.setIfInBounds_toArray, List.set_cons_zero, List.set_cons_succ, List.getElem_toArray, List.getElem_cons_succ, List.getElem_cons_zero])); (refine wpG_take (i := 10) (v := ?_) rfl (by kernel_rfl) (by kernel_rfl) (by kernel_rfl) (fun _ _ _ h => h) ((From.refl w.drew)) (Or.inl ⟨by first | kernel_rfl | rfl, ?_⟩) ?_; rotate_left; (intro wx hx; go_simp) <;> (with_reducible rfl); (try simp only [Act.put, List.setIfInBounds_toArray, List.set_cons_zero, List.set_cons_succ, List.getElem_toArray, List.getElem_cons_succ, List.getElem_cons_zero])); (refine wpG_take (i := 11) (v := ?_) rfl (by kernel_rfl) (by kernel_rfl) (by kernel_rfl) (fun _ _ _ h => h) ((From.refl w.drew)) (Or.inl ⟨by first | kernel_rfl | rfl, ?_⟩) ?_; rotate_left; (intro wx hx; go_simp) <;> (with_reducible rfl); (try simp only [Act.put, List.setIfInBounds_toArray, List.set_cons_zero, List.set_cons_succ, List.getElem_toArray, List.getElem_cons_succ, List.getElem_cons_zero]))
  refine wpG_done (by kernel_rfl) ?_ _
  go_wp2_with fail
  go_ret
  exact ⟨rfl, (Below.refl _ _).drew⟩
end Go.Proofs.Ytabdbddmmbccjaa
