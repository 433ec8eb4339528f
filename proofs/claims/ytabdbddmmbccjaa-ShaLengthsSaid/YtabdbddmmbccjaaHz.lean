/-
  Layer 1: the walk of ShaLengths.
-/
import Derived.Test.YtabdbddmmbccjaaHw
import Derived.Test.YtabdbddmmbccjaaHt
import Derived.Test.YtabdbddmmbccjaaTx
namespace Go.Proofs.Ytabdbddmmbccjaa
open Go.RowKit
set_option linter.unusedSimpArgs false

def lnL (c i : Nat) : List UInt8 := (List.range i).map (fun k => UInt8.ofNat ((c + k) % 256))
theorem lnL_len (c i : Nat) : (lnL c i).length = i := by simp [lnL]
theorem lnL_succ (c i : Nat) : lnL c (i + 1) = lnL c i ++ [UInt8.ofNat ((c + i) % 256)] := by unfold lnL; rw [List.range_succ, List.map_append]; rfl
def lnB (c t i : Nat) : List UInt8 := lnL c i ++ List.replicate (t - i) 0
theorem lnB_len (c t i : Nat) (h : i ≤ t) : (lnB c t i).length = t := by unfold lnB; rw [List.length_append, lnL_len, List.length_replicate]; omega
theorem lnB_set (c t i : Nat) (h : i < t) : (lnB c t i).set i (UInt8.ofNat ((c + i) % 256)) = lnB c t (i + 1) := by
  unfold lnB
  rw [List.set_append_right _ _ (by rw [lnL_len]; exact Nat.le_refl _), lnL_len, Nat.sub_self, show t - i = (t - (i + 1)) + 1 from by omega, List.replicate_succ, List.set_cons_zero, lnL_succ, List.append_assoc]
  rfl
theorem lnB_get (c t i : Nat) (h : i < t) : (lnB c t i)[i]? = some 0 := by
  unfold lnB
  rw [List.getElem?_append_right (by rw [lnL_len]; exact Nat.le_refl _), lnL_len, Nat.sub_self, show t - i = (t - (i + 1)) + 1 from by omega, List.replicate_succ]
  rfl
theorem lnB_mid (c t i : Nat) (h : i < t) : ((lnB c t (i + 1)).drop i).take (i + 1 - i) = [UInt8.ofNat ((c + i) % 256)] := by
  rw [show i + 1 - i = 1 from by omega]
  unfold lnB
  rw [lnL_succ, List.append_assoc, List.drop_append, lnL_len, Nat.sub_self, List.drop_of_length_le (by rw [lnL_len]; exact Nat.le_refl _)]
  rfl
def LnRel (w : World) (c t g g0 : Nat) (iv : Value) (wr : World) : Prop := ∃ (i : Nat) (X : Option Addr) (x : Nat) (L : List UInt8), i ≤ t ∧ iv = .int .i64 (i : Int) ∧ L = lnL c i ∧
  St w NoB wr [HCk g X x L, HRk X x L, .row (.slice (some ⟨g0, 0, none⟩) t t) 5 1 t (bvs (lnB c t i))]
theorem enShaR (args : Array Value) (w : World) : (callFunc 10 args).run Try.prog w = .ok (.enter 10 args) w := by kernel_rfl
set_option maxRecDepth 100000 in
set_option maxHeartbeats 1600000 in
theorem shaLengths_walk (n : Int) (c : Nat) (w : World) (hn : I64 n) (hc : c < 256) :
    Calls Try.prog 6 #[.int .i64 n, .int .u8 (c : Int)] w fun e w' => e = .returned (.bool true) ∧ Below w.heap.size w w' := by
  obtain ⟨t, ht⟩ : ∃ t : Nat, (t : Int) = (IntKind.u64.wrap n).tmod 300 := ⟨((IntKind.u64.wrap n) % 300).toNat, by
    rw [IntKind.wrap_u64]
    have h0 : 0 ≤ n % 18446744073709551616 := by omega
    rw [Int.tmod_eq_emod_of_nonneg h0]
    omega⟩
  have t300 : t < 300 := by
    have h0 : 0 ≤ n % 18446744073709551616 := by omega
    rw [IntKind.wrap_u64, Int.tmod_eq_emod_of_nonneg h0] at ht
    omega
  have ht2 := ht.symm
  have HC := hide hc
  have HN := hide hn
  have hT : (t : Int) < 300 := by omega
  clear ht hc hn
  go_enter Try.func6, Try.ntmps6
  go_upto_region 4 with (first
    | (refine wl_makeB (n := t) rfl rfl Try.underlying22 infoB (St.init w NoB) rfl rfl (by omega) ?_; intro g0 w1 hS1 hb1; have HS1 := hide hS1; clear hS1 hb1)
    | (go_at_call 11; refine (new_any _ HS1.out).mono ?_; rintro e w2 ⟨g, rfl, hS2, hb2⟩; have HG := hide (Nat.le_trans HS1.out.ext.size (Nat.le_refl w1.heap.size)); have HS2 := hide hS2; clear hS2 hb2))
  clear ht2 t300
  go_wp2_with fail
  go_loopw [18] (fun iv wr => LnRel w c t g g0 iv wr) (fun iv _ => t - (intOf iv).toNat)
  case atStart => exact ⟨0, none, 0, [], by omega, rfl, rfl, HS2.out⟩
  case round =>
    clear HS2
    obtain ⟨i, X, x, L, hi, rfl, hL, hS⟩ := hrel
    have HS := hide hS
    have HLL := hide (show L.length = i by rw [hL]; exact lnL_len c i)
    by_cases hlt : i < t
    · have dt : decide ((i : Int) < (t : Int)) = true := by simp; omega
      have it : (i : Int) < (t : Int) := by omega
      have i300 : (i : Int) < 300 := by omega
      have cc := HC.out
      obtain ⟨z, hz⟩ : ∃ z, z = (c + i) % 256 := ⟨_, rfl⟩
      have e1 : IntKind.u8.wrap ((c : Int) + IntKind.u8.wrap (i : Int)) = (z : Int) := by rw [IntKind.wrap_u8, IntKind.wrap_u8]; omega
      have e2 : IntKind.u8.wrap ((c : Int) + (i : Int) % 256) = (z : Int) := by rw [IntKind.wrap_u8]; omega
      have e3 : ((c : Int) + (i : Int) % 256) % 256 = (z : Int) := by omega
      obtain ⟨g0', c0', hv, _, _, hcell, hfree, _⟩ := hS.rowOpen 2 rfl (by omega)
      injection hv with hv1 _ hv3
      injection hv1 with hv1
      injection hv1 with hv1
      subst hv1 hv3
      have ce := hcell i (.int .u8 ((0 : UInt8).toNat : Int)) (bvs_get (lnB_get c t i hlt))
      have fe := hfree i
      have HZ := hide hz
      have HRow := hide (show St w NoB (wr.setCell ⟨g0, i, none⟩ (.int .u8 (z : Int))) [HCk g X x L, HRk X x L, .row (.slice (some ⟨g0, 0, none⟩) t t) 5 1 t (bvs (lnB c t (i + 1)))] by
        have h := hS.rowSet 2 rfl i (.int .u8 (z : Int)) (by omega)
        simp only [List.set_cons_succ, List.set_cons_zero] at h
        rw [bvs_set _ _ _ (by omega), hz, lnB_set c t i hlt, ← hz] at h
        exact h)
      have HR1 := hide (show Rd (wr.setCell ⟨g0, i, none⟩ (.int .u8 (z : Int))) (.slice (some ⟨g0, i, none⟩) 1 (t - i)) 1 1 (bvs [UInt8.ofNat z]) by
        have h := rd_mid0 (HRow.out.rd 2 rfl) i (i + 1) (by omega) (by omega)
        rw [lnB_mid c t i hlt, Nat.zero_add, show i + 1 - i = 1 from by omega, ← hz] at h
        exact h)
      have HNE := hide (show 0 < 1 → (Value.slice (some ⟨g0, i, none⟩) 1 (t - i)).ownBlock ≠ some g from fun _ => HS.out.apart 0 2 _ _ g (by decide) rfl rfl rfl)
      have HL2 := hide (show L ++ [UInt8.ofNat z] = lnL c (i + 1) by rw [hL, lnL_succ, hz])
      clear hcell hfree hz hL hS cc
      go_wp2_with (go_at_call 12; refine (write_msg g X x L (some ⟨g0, i, none⟩) (t - i) 1 [UInt8.ofNat z] _ rfl (by rw [HLL.out]; omega) HRow.out HR1.out HNE.out).mono ?_; rintro e w3 ⟨rfl, X3, x3, hS3⟩; have HS3 := hide hS3; clear hS3)
      go_roundw
      case rel => exact ⟨i + 1, X3, x3, _, by omega, by go_num, HL2.out, HS3.out⟩
      case measure => (simp [intOf]) <;> omega
    · obtain rfl : i = t := by omega
      have hB : lnB c i i = L := by unfold lnB; rw [Nat.sub_self, hL]; simp
      rw [hB] at hS
      have HS5 := hide hS
      clear hS HS hL hB hlt hi
      go_upto_region 11 with (go_at_call 9; refine (sumf_any _ i i L _ HLL.out (by omega) (HS5.out.rd 2 rfl)).mono ?_; rintro e w6 ⟨B, d, rfl, hb6, ho6⟩; have HS6 := hide (HS5.out.row hb6 ho6); clear hb6 ho6)
      have HD := hide HS6.out.drew
      have cv0 : ∀ x, From w6.drew x → (convert 22 9 (.slice B 64 d)).run Try.prog x = .ok (.string (strOf (shaL L))) x := fun x hx => run_str Try.underlying22 Try.underlying5 Try.underlying9 ((HD.out.rd 0 rfl).below hx)
      refine wp_region_T [(0, 1), (1, 0), (2, 1), (3, 2), (4, 0), (5, 1), (6, 1), (7, 1), (10, 1), (11, 0), (8, 2), (9, 0), (12, 1), (13, 1), (14, 1), (15, 2), (16, 1), (17, 1)] (by kernel_rfl) (by kernel_rfl) (fun _ _ _ _ h => h) ?_
      go_wp2_with (first
        | (refine wpT_nil ?_)   | (refine fromT_refl ?_; (try simp only [Act.put, List.setIfInBounds_toArray, List.set_cons_zero, List.set_cons_succ, List.getElem_toArray, List.getElem_cons_succ, List.getElem_cons_zero]))   | (refine fromT_mk (by assumption) ?_; (try simp only [Act.put, List.setIfInBounds_toArray, List.set_cons_zero, List.set_cons_succ, List.getElem_toArray, List.getElem_cons_succ, List.getElem_cons_zero]))   | (refine wpT_pure (v := ?_) rfl rfl ?_ ?_; rotate_left; (intro wx; go_simp) <;> (with_reducible rfl); (try simp only [Act.put, List.setIfInBounds_toArray, List.set_cons_zero, List.set_cons_succ, List.getElem_toArray, List.getElem_cons_succ, List.getElem_cons_zero]))   | (refine wpT_load (v := ?_) rfl rfl rfl ?_ ?_; rotate_left; (go_simp) <;> (with_reducible rfl); (try simp only [Act.put, List.setIfInBounds_toArray, List.set_cons_zero, List.set_cons_succ, List.getElem_toArray, List.getElem_cons_succ, List.getElem_cons_zero]))   | (refine wpT_read (v := ?_) rfl rfl ?_ ?_; rotate_left; (intro wx hx; go_simp) <;> (with_reducible rfl); (try simp only [Act.put, List.setIfInBounds_toArray, List.set_cons_zero, List.set_cons_succ, List.getElem_toArray, List.getElem_cons_succ, List.getElem_cons_zero]))   | (refine wpT_call rfl rfl ?_; intro K hK)   | (refine wpT_late rfl rfl ?_; intro K hK)   | (refine wpT_any rfl rfl ?_; intro K hK)   | (refine wpT_skip rfl rfl ?_; (try simp only [Act.put, List.setIfInBounds_toArray, List.set_cons_zero, List.set_cons_succ, List.getElem_toArray, List.getElem_cons_succ, List.getElem_cons_zero]))
        | (go_at_call 10; refine (shaR_any _ i i L _ HLL.out (by omega) (HD.out.rd 3 rfl)).mono ?_; rintro e w7 ⟨B7, d7, rfl, hb7, ho7⟩; have HS7 := hide ((HD.out.row hb7 ho7)); have cv7 : ∀ x, From w7 x → (convert 22 9 (.slice B7 64 d7)).run Try.prog x = .ok (.string (strOf (shaL L))) x := fun x hx => run_str Try.underlying22 Try.underlying5 Try.underlying9 ((HS7.out.rd 0 rfl).below hx); have cv70 : ∀ x, From w7 x → (convert 22 9 (.slice B 64 d)).run Try.prog x = .ok (.string (strOf (shaL L))) x := fun x hx => run_str Try.underlying22 Try.underlying5 Try.underlying9 ((HS7.out.rd 1 rfl).below hx); clear ho7)
        | (go_at_call 13; refine (sum_ro g X x L _ (by rw [HLL.out]; omega) (HS7.out.sat 2 _ rfl) (HS7.out.rd 3 rfl)).mono ?_; rintro e w8 ⟨B8, d8, rfl, hb8, ho8⟩; have HS8 := hide ((HS7.out.row hb8 ho8)); have cv8 : ∀ x, From w8 x → (convert 22 9 (.slice B8 64 d8)).run Try.prog x = .ok (.string (strOf (shaL L))) x := fun x hx => run_str Try.underlying22 Try.underlying5 Try.underlying9 ((HS8.out.rd 0 rfl).below hx); clear ho8)
        | (go_at_call 8; refine (awake_any _).mono ?_; rintro e w9 ⟨rfl, hb9⟩))
      go_ret
      exact ⟨rfl, bnx HS8.out.below hb9⟩
end Go.Proofs.Ytabdbddmmbccjaa
