/-
  The walks of layer 3: Clamp, Add, full, awake.
-/
import Derived.Test.YtgofcefggdlalaaSf
import Derived.Test.YtgofcefggdlalaaAz
namespace Go.Proofs.Ytgofcefggdlalaa
open Go.RowKit

theorem infoB : (Try.prog.info? 5).map (fun i => (i.zero, i.size, i.bytes)) = some (some (.int .u8 0), 1, 1) := by kernel_rfl
/-- The bits of a key's first byte; of its last one. -/
@[irreducible] def clA (c : Nat) : Nat := c &&& 248
@[irreducible] def clB (c : Nat) : Nat := (c &&& 127) ||| 64
theorem clA_lt (c : Nat) (h : c < 256) : clA c < 256 := by unfold clA; exact Nat.lt_of_le_of_lt Nat.and_le_left h
theorem clB_lt (c : Nat) (h : c < 256) : clB c < 256 := by unfold clB; exact Nat.or_lt_two_pow (n := 8) (Nat.lt_of_le_of_lt Nat.and_le_left h) (by omega)
theorem clA_eq (c : Nat) (h : c < 256) : bits .and .u8 (c : Int) 248 = (clA c : Int) := by unfold clA; exact u8_and_nat c 248 h (by omega)
theorem clB_eq (c : Nat) (h : c < 256) : bits .or .u8 (bits .and .u8 (c : Int) 127) 64 = (clB c : Int) := by
  have e1 : bits .and .u8 (c : Int) 127 = ((c &&& 127 : Nat) : Int) := u8_and_nat c 127 h (by omega)
  have hlt : c &&& 127 < 256 := Nat.lt_of_le_of_lt Nat.and_le_left h
  rw [e1, u8_or _ _ (by omega) (by omega) (by omega) (by omega)]
  unfold clB
  rfl
@[irreducible] def clampL (l : List UInt8) : List UInt8 := (l.set 0 (UInt8.ofNat (clA ((l.getD 0 0).toNat)))).set 31 (UInt8.ofNat (clB ((l.getD 31 0).toNat)))
theorem clampL_eq (l : List UInt8) (a b : UInt8) (ha : l[0]? = some a) (hb : l[31]? = some b) : clampL l = (l.set 0 (UInt8.ofNat (clA a.toNat))).set 31 (UInt8.ofNat (clB b.toNat)) := by
  unfold clampL
  rw [List.getD_eq_getElem?_getD, List.getD_eq_getElem?_getD, ha, hb]
  rfl
theorem clampL_len (l : List UInt8) : (clampL l).length = l.length := by unfold clampL; simp
set_option maxRecDepth 100000 in
set_option maxHeartbeats 800000 in
theorem clamp_walk (A : Option Addr) (c : Nat) (l : List UInt8) (w : World) (hl : l.length = 32) (hr : Rd w (.slice A 32 c) 1 32 (bvs l)) :
    Calls Try.prog 9 #[.slice A 32 c] w (ResB 5 w (clampL l)) := by
  obtain ⟨a, ha⟩ : ∃ a, l[0]? = some a := ⟨l[0], List.getElem?_eq_getElem _⟩
  obtain ⟨b, hb⟩ : ∃ b, l[31]? = some b := ⟨l[31], List.getElem?_eq_getElem _⟩
  have e := clampL_eq l a b ha hb
  have a2 := UInt8.toNat_lt a
  have b2 := UInt8.toNat_lt b
  have ga := bvs_get ha
  have gb := bvs_get hb
  obtain ⟨an, han⟩ : ∃ an, an = a.toNat := ⟨_, rfl⟩
  obtain ⟨bn, hbn⟩ : ∃ bn, bn = b.toNat := ⟨_, rfl⟩
  rw [← han] at e a2 ga
  rw [← hbn] at e b2 gb
  have eA := clA_eq an a2
  have eB := clB_eq bn b2
  have hS := St.init w NoB
  have HR := hide hr
  have HE := hide e
  have HL := hide hl
  have GA := hide ga
  have GB := hide gb
  have LA := hide (clA_lt an a2)
  have LB := hide (clB_lt bn b2)
  clear hr e hl ga gb ha hb han hbn
  go_enter Try.func9, Try.ntmps9
  go_wp2_with (at_builtin; refine wl_append0 rfl rfl tyB hS rfl rfl HR.out (one_bvs _) (by omega) (by decide) ?_; intro A1 c1 w1 hS1; obtain ⟨g, c1', hv, hc1, hcm, hcs, hfr, _⟩ := hS1.rowOpen 0 rfl (by omega); injection hv with hv1 _ hv3; subst hv1 hv3; have k0 := hcs 0 _ GA.out; have k31 := hcs 31 _ GB.out; have f0 := hfr 0; have f31 := hfr 31; have HS1 := hide hS1; clear hS1 hcs hfr)
  go_ret
  have h2 := (HS1.out.rowSet 0 rfl 0 (.int .u8 (clA an : Nat)) (by omega)).rowSet 0 rfl 31 (.int .u8 (clB bn : Nat)) (by omega)
  rw [bvs_set _ _ _ LA.out, bvs_set _ _ _ LB.out, ← HE.out] at h2
  have h3 := resB_of (l := clampL l) h2 0 rfl rfl
  exact h3
set_option maxRecDepth 100000 in
set_option maxHeartbeats 400000 in
theorem clamp_nil (A : Option Addr) (n c : Nat) (w : World) (hn : n ≠ 32) : Calls Try.prog 9 #[.slice A n c] w fun e w' => e = .returned (.slice none 0 0) ∧ w = w' := by
  have hne : ((n : Int) != 32) = true := by simp; omega
  have hne2 : ((n : Int) == 32) = false := by simp; omega
  go_enter Try.func9, Try.ntmps9
  go_wp2
  go_ret
  exact ⟨rfl, rfl⟩
set_option maxRecDepth 100000 in
set_option maxHeartbeats 400000 in
theorem muladd_nil (A B C : Option Addr) (n1 n2 n3 c1 c2 c3 : Nat) (w : World) (hn : n1 ≠ 32 ∨ n2 ≠ 32 ∨ n3 ≠ 32) :
    Calls Try.prog 13 #[.slice A n1 c1, .slice B n2 c2, .slice C n3 c3] w fun e w' => e = .returned (.slice none 0 0) ∧ w = w' := by
  have d1 : ∀ n : Nat, ((n : Int) != 32) = !decide (n = 32) := fun n => by rw [bne, Bool.eq_iff_iff]; simp; omega
  have e1 := d1 n1
  have e2 := d1 n2
  have e3 := d1 n3
  by_cases h1 : n1 = 32
  · by_cases h2 : n2 = 32
    · have h3 : n3 ≠ 32 := by omega
      subst h1 h2
      rw [decide_eq_false h3] at e3
      clear d1 e1 e2 hn
      go_enter Try.func13, Try.ntmps13
      go_wp2
      go_ret
      exact ⟨rfl, rfl⟩
    · subst h1
      rw [decide_eq_false h2] at e2
      clear d1 e1 e3 hn
      go_enter Try.func13, Try.ntmps13
      go_wp2
      go_ret
      exact ⟨rfl, rfl⟩
  · rw [decide_eq_false h1] at e1
    clear d1 e2 e3 hn
    go_enter Try.func13, Try.ntmps13
    go_wp2
    go_ret
    exact ⟨rfl, rfl⟩
theorem one_list : bval (1 :: List.replicate 31 0) = 1 := by
  rw [bval, bval_zeros]; rfl
set_option maxRecDepth 100000 in
set_option maxHeartbeats 800000 in
theorem add_walk (A B : Option Addr) (ca cb : Nat) (a b : List UInt8) (w : World) (hla : a.length = 32) (hlb : b.length = 32) (ha : Rd w (.slice A 32 ca) 1 32 (bvs a)) (hb : Rd w (.slice B 32 cb) 1 32 (bvs b)) :
    Calls Try.prog 14 #[.slice A 32 ca, .slice B 32 cb] w (ResB 5 w (leB 32 ((bval a + bval b) % Lq))) := by
  have MM : ∀ (g : Nat) (W : World), Rd W (.slice A 32 ca) 1 32 (bvs a) → Rd W (.slice (some ⟨g, 0, none⟩) 32 32) 1 32 (bvs (1 :: List.replicate 31 0)) → Rd W (.slice B 32 cb) 1 32 (bvs b) →
      Calls Try.prog 13 #[.slice A 32 ca, .slice (some ⟨g, 0, none⟩) 32 32, .slice B 32 cb] W (ResB 5 W (leB 32 ((bval a + bval b) % Lq))) := by
    intro g W h1 h2 h3
    have := muladd_walk A (some ⟨g, 0, none⟩) B ca 32 cb a (1 :: List.replicate 31 0) b W hla rfl hlb h1 h2 h3
    rwa [one_list, Nat.mul_one] at this
  have HMM := hide MM
  clear MM
  have HA := hide ha
  have HB := hide hb
  have LA := hide hla
  have LB := hide hlb
  clear ha hb hla hlb
  go_enter Try.func14, Try.ntmps14
  have hS0 := St.init w NoB
  go_wp2_with (first
    | (refine wl_makeB (n := 32) rfl rfl Try.underlying22 infoB hS0 rfl rfl (by omega) ?_; intro g w1 hS1 hb1; obtain ⟨g', c1', hv, hc1, hcm, hcs, hfr, _⟩ := hS1.rowOpen 0 rfl (by omega); injection hv with hv1 _ hv3; injection hv1 with hv1; injection hv1 with hv1; subst hv1 hv3; have k0 : w1.cell? ⟨g, 0, none⟩ = some (.int .u8 0) := hcs 0 _ rfl; have f0 := hfr 0; have HS2 := hide (hS1.rowSet 0 rfl 0 (.int .u8 1) (by omega)); clear hcs hfr hS1)
    | (go_at_call 13; refine (HMM.out g _ (HA.out.st HS2.out) (HS2.out.rd 0 rfl) (HB.out.st HS2.out)).mono ?_; rintro e w3 ⟨R, rc, rfl, hb3, ho3⟩))
  go_ret
  exact ⟨R, rc, rfl, HS2.out.below.trans (hb3.mono HS2.out.below.size), ho3.base_le HS2.out.below.size⟩
set_option maxRecDepth 100000 in
set_option maxHeartbeats 400000 in
theorem add_nil (A B : Option Addr) (n1 n2 c1 c2 : Nat) (w : World) (hn : n1 ≠ 32 ∨ n2 ≠ 32) :
    Calls Try.prog 14 #[.slice A n1 c1, .slice B n2 c2] w fun e w' => e = .returned (.slice none 0 0) ∧ Below w.heap.size w w' := by
  have HM := hide (fun (g : Nat) (W : World) => muladd_nil A (some ⟨g, 0, none⟩) B n1 32 n2 c1 32 c2 W (by omega))
  have hS0 := St.init w NoB
  go_enter Try.func14, Try.ntmps14
  go_wp2_with (first
    | (refine wl_makeB (n := 32) rfl rfl Try.underlying22 infoB hS0 rfl rfl (by omega) ?_; intro g w1 hS1 hb1; obtain ⟨g', c1', hv, hc1, hcm, hcs, hfr, _⟩ := hS1.rowOpen 0 rfl (by omega); injection hv with hv1 _ hv3; injection hv1 with hv1; injection hv1 with hv1; subst hv1 hv3; have k0 : w1.cell? ⟨g, 0, none⟩ = some (.int .u8 0) := hcs 0 _ rfl; have f0 := hfr 0; have HS2 := hide (hS1.rowSet 0 rfl 0 (.int .u8 1) (by omega)); clear hcs hfr hS1)
    | (go_at_call 13; refine (HM.out _ _).mono ?_; rintro e w3 ⟨rfl, rfl⟩))
  go_ret
  exact ⟨rfl, HS2.out.below⟩
/-- Bytes made 32: zeros behind, cut. -/
@[irreducible] def fullL (l : List UInt8) : List UInt8 := (l ++ List.replicate 32 0).take 32
theorem fullL_len (l : List UInt8) : (fullL l).length = 32 := by unfold fullL; rw [List.length_take, List.length_append, List.length_replicate]; omega
set_option maxRecDepth 100000 in
set_option maxHeartbeats 800000 in
theorem full_walk (A : Option Addr) (n c : Nat) (l : List UInt8) (w : World) (hl : l.length = n) (hn : n ≤ 1000) (hr : Rd w (.slice A n c) 1 n (bvs l)) :
    Calls Try.prog 10 #[.slice A n c] w fun e w' => ∃ B d, e = .returned (.slice B 32 d) ∧ Below w.heap.size w w' ∧ w'.ownsRow w.heap.size 5 1 (.slice B 32 d) 32 (bvs (fullL l)) := by
  have HR := hide hr
  have hS := St.init w NoB
  clear hr
  go_enter Try.func10, Try.ntmps10
  go_wp2_with (first
    | (at_builtin; refine wl_append rfl rfl tyB (hS.lit [] 5 1 0 rfl (by decide)) 0 rfl rfl rfl (HR.out.st (hS.lit [] 5 1 0 rfl (by decide))) (one_bvs _) (by omega) (by decide) ?_; intro A1 c1 w1 hS1)
    | (at_builtin; refine wl_appendZ (k := 32) (l := l) rfl rfl Try.underlying22 Try.underlying3 infoB hS1 0 rfl rfl rfl (by omega) (by omega) ?_; intro A2 c2 w2 hS2; have hcap : 0 + n + 32 ≤ c2 := rd_cap (hS2.rd 0 rfl); have h32 : 32 ≤ c2 := (by omega); have HS2 := hide hS2; clear hS2))
  go_ret
  have h3 := (HS2.out.rowTake 32 (by omega)).ownsRow 0 rfl
  have e : (bvs (l ++ List.replicate 32 0)).take 32 = bvs (fullL l) := by unfold fullL bvs; rw [List.map_take]
  rw [e] at h3
  exact ⟨A2, c2, rfl, HS2.out.below, h3⟩
end Go.Proofs.Ytgofcefggdlalaa
