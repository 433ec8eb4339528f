/-
  Joined of texts of mine, in build order: Mc, Me, Br, Bs, Bu, Bw, Bx, Bv, By, Ic, Id. Each says what it proves at its own head.
-/
import Derived.Test.YtkelegjppnfoaaaGreatDoorPg
set_option linter.unusedSimpArgs false
set_option linter.unusedVariables false

namespace Go.Proofs.YtkelegjppnfoaaaGreatDoor
open Go.RowKit
set_option linter.unusedSimpArgs false
section
variable {P : Program} {ops : Array Oper} {Q : Exit → Act → World → Prop} {restT : List (Nat × Nat)} {i : Nat} {o : Oper} {a : Act} {w : World} {W0 : World} {F : List (Nat × Nat)} {fc : Array Value} {fe : TypeId} {suf : STr}
theorem wpX_callH {f : FuncId} {xs : List Operand} {ts : Array TypeId} {vs : List Value} {R : World → Ending → World → Prop} (ho : ops[i]? = some o) (hw : Region.wanted o (yielded ops a.tmps) = true)
    (hop : o.op = .call { callee := .value (.func f), args := xs.toArray, argTypes := ts }) (hf : ∀ (args : Array Value) (w : World), (callFunc f args).run P w = .ok (.enter f args) w)
    (hx : xs.map a.eval = vs) (hc : ∀ x, From w x → Calls P f vs.toArray x (R x)) (h : ∀ x e w', From w x → R x e w' → ∃ v, e = .returned v ∧ Below x.heap.size x w' ∧ XGo P ops Q F fc fe suf W0 restT (a.put o.dst v) w') : XGo P ops Q F fc fe suf W0 ((i, 2) :: restT) a w :=
  wpX_call ho hw fun x hx' K hK => wp_call hop hf hx (hc x hx') fun e w' hr => by
    obtain ⟨v, he, hb, hk⟩ := h x e w' hx' hr
    exact ⟨v, he, hK _ _ ⟨hb, hk⟩⟩
end
theorem rd_halves {w : World} {C : Option Addr} {c : Nat} {g : List UInt8} (hl : g.length = 64) (h : Rd w (.slice C 64 c) 1 64 (bvs g)) : ∃ b o, C = some ⟨b, o, none⟩ ∧ 64 ≤ c ∧ Rd w (.slice (some ⟨b, o, none⟩) 32 c) 1 32 (bvs (g.take 32)) ∧ Rd w (.slice (some ⟨b, o + 32, none⟩) 32 (c - 32)) 1 32 (bvs (g.drop 32)) := by
  obtain ⟨b, o, rfl⟩ := S1.rd_some h (by decide)
  have h2 := rd_mid h 32 64 (by decide) (by decide)
  rw [List.take_of_length_le (by rw [List.length_drop, hl]; exact Nat.le_refl _)] at h2
  exact ⟨b, o, rfl, rd_cap h, rd_take h 32 (by decide), h2⟩
theorem mayB {A : Option Addr} {n c : Nat} {l : List UInt8} {b : Bool} (w : World) (hm : S3.mayS l = b) (hl : l.length = n) (hr : Rd w (.slice A n c) 1 n (bvs l)) : Calls Tryz.prog 29 #[.slice A n c] w fun e w' => e = .returned (.bool b) ∧ Below w.heap.size w w' := by
  subst hm
  exact S3.may_walk A n c l w hl hr
theorem ver_none {p m g : List UInt8} (h : fromL p = none) : verL p m g = false := by unfold verL; rw [h]
theorem ver_long {p m g : List UInt8} {P : Ed} (h : fromL p = some P) (hg : g.length ≠ 64) : verL p m g = false := by unfold verL; rw [h]; show (decide (g.length = 64) && _ && _) = false; rw [decide_eq_false hg]; rfl
theorem ver_may {p m g : List UInt8} {P : Ed} (h : fromL p = some P) (hm : S3.mayS (g.drop 32) = false) : verL p m g = false := by unfold verL; rw [h]; show (_ && S3.mayS (g.drop 32) && _) = false; rw [hm, Bool.and_false]; rfl
theorem ver_right {p m g : List UInt8} {P : Ed} (h : fromL p = some P) (hg : g.length = 64) (hm : S3.mayS (g.drop 32) = true) : verL p m g = rightL P p m g := by unfold verL; rw [h]; show (decide (g.length = 64) && S3.mayS (g.drop 32) && _) = _; rw [hm, decide_eq_true hg]; rfl
theorem enBaseMc (args : Array Value) (w : World) : (callFunc 15 args).run Tryz.prog w = .ok (.enter 15 args) w := by kernel_rfl
theorem enMulMc (args : Array Value) (w : World) : (callFunc 16 args).run Tryz.prog w = .ok (.enter 16 args) w := by kernel_rfl
theorem enNegMc (args : Array Value) (w : World) : (callFunc 31 args).run Tryz.prog w = .ok (.enter 31 args) w := by kernel_rfl
theorem enAddMc (args : Array Value) (w : World) : (callFunc 30 args).run Tryz.prog w = .ok (.enter 30 args) w := by kernel_rfl
set_option maxRecDepth 100000 in
set_option maxHeartbeats 6400000 in
theorem verify_any (A B C : Option Addr) (n c1 m c2 k c3 : Nat) (p x g : List UInt8) (w : World) (hp : p.length = n) (hx : x.length = m) (hg : g.length = k) (hn : n ≤ 1000) (hm : m ≤ 100000)
    (hrp : Rd w (.slice A n c1) 1 n (bvs p)) (hrx : Rd w (.slice B m c2) 1 m (bvs x)) (hrg : Rd w (.slice C k c3) 1 k (bvs g)) :
    Calls Tryz.prog 12 #[.slice A n c1, .slice B m c2, .slice C k c3] w fun e w' => e = .returned (.bool (verL p x g)) ∧ Below w.heap.size w w' := by
  have HS := hide (St.init w NoB)
  have HRP := hide hrp
  have HRX := hide hrx
  have HLP := hide hp
  have HLX := hide hx
  cases hf : fromL p with
  | none =>
    have HF := hide hf
    have HV := hide (ver_none (m := x) (g := g) hf)
    clear hrp hrx hrg hp hx hg hf hn hm
    go_enter Tryz.func12, Tryz.ntmps12
    have M0 := True.intro
    go_wp2_with (first | (clear M2; refine wl_storeR rfl rfl rfl rfl HS.out rowP .head (by first | exact arr_zP | exact PtV.arr ‹_›) (by first | exact PtV.arr ‹_› | exact arr_zP) ?_; intro wz hS9; have HS := hide hS9; clear hS9; (try simp only [Act.put, nq1, nq2, nq3, nq4, nq5, nq6]); have M3 := True.intro) | (clear M1; refine wl_allocR rfl rfl HS.out newP ?_; intro gp wz hS9; have HS := hide hS9; clear hS9; (try simp only [Act.put, nq1, nq2, nq3, nq4, nq5, nq6]); have M2 := True.intro) | (clear M0; go_at_call 28; (with_reducible refine (from_none _ HF.out HLP.out HRP.out).mono ?_); rintro e wy ⟨zp, hzp, rfl, hb⟩; have HS := hide (HS.out.call hb); have M1 := True.intro))
    go_ret
    exact ⟨by rw [HV.out] <;> rfl, HS.out.below⟩
  | some P =>
    have HF := hide hf
    by_cases h64 : k = 64
    · subst h64
      obtain ⟨b, o, rfl, hc64, hr1, hr2⟩ := rd_halves hg hrg
      have HR1 := hide hr1
      have HR2 := hide hr2
      have HL1 := hide (show (g.take 32).length = 32 by rw [List.length_take, hg]; rfl)
      have HL2 := hide (show (g.drop 32).length = 32 by rw [List.length_drop, hg])
      have hcc : (64 : Int) ≤ (c3 : Int) := by omega
      have hcc2 : (32 : Int) ≤ (c3 : Int) := by omega
      have hcc4 : ¬ c3 = 32 := by omega
      cases hmy : S3.mayS (g.drop 32) with
      | false =>
        have HMY := hide hmy
        have HV := hide (ver_may (m := x) hf hmy)
        clear hrp hrx hrg hp hx hg hf hmy hr1 hr2
        go_enter Tryz.func12, Tryz.ntmps12
        have M0 := True.intro
        go_wp2_with (first | (clear M3; go_at_call 29; (with_reducible refine (mayB _ HMY.out HL2.out (HR2.out.below HS.out.below)).mono ?_); rintro e wy ⟨rfl, hb⟩; have HS := hide (HS.out.call hb); have M4 := True.intro) | (clear M2; refine wl_storeR rfl rfl rfl rfl HS.out rowP .head (by first | exact arr_zP | exact PtV.arr ‹_›) (by first | exact PtV.arr ‹_› | exact arr_zP) ?_; intro wz hS9; have HS := hide hS9; clear hS9; (try simp only [Act.put, nq1, nq2, nq3, nq4, nq5, nq6]); have M3 := True.intro) | (clear M1; refine wl_allocR rfl rfl HS.out newP ?_; intro gp wz hS9; have HS := hide hS9; clear hS9; (try simp only [Act.put, nq1, nq2, nq3, nq4, nq5, nq6]); have M2 := True.intro) | (clear M0; go_at_call 28; (with_reducible refine (from_some _ HF.out HLP.out HRP.out).mono ?_); rintro e wy ⟨zp, hzp, rfl, hb⟩; have HS := hide (HS.out.call hb); have M1 := True.intro))
        go_ret
        exact ⟨by rw [HV.out] <;> rfl, HS.out.below⟩
      | true =>
        have HMY := hide hmy
        have HV := hide ((ver_right (m := x) hf hg hmy).trans rfl)
        clear hrp hrx hrg hp hx hg hf hmy hr1 hr2
        go_enter Tryz.func12, Tryz.ntmps12
        have M0 := True.intro
        go_upto_region 4 with (first | (clear M3; go_at_call 29; (with_reducible refine (mayB _ HMY.out HL2.out (HR2.out.below HS.out.below)).mono ?_); rintro e wy ⟨rfl, hb⟩; have HS := hide (HS.out.call hb); have M4 := True.intro) | (clear M2; refine wl_storeR rfl rfl rfl rfl HS.out rowP .head (by first | exact arr_zP | exact PtV.arr ‹_›) (by first | exact PtV.arr ‹_› | exact arr_zP) ?_; intro wz hS9; have HS := hide hS9; clear hS9; (try simp only [Act.put, nq1, nq2, nq3, nq4, nq5, nq6]); have M3 := True.intro) | (clear M1; refine wl_allocR rfl rfl HS.out newP ?_; intro gp wz hS9; have HS := hide hS9; clear hS9; (try simp only [Act.put, nq1, nq2, nq3, nq4, nq5, nq6]); have M2 := True.intro) | (clear M0; go_at_call 28; (with_reducible refine (from_some _ HF.out HLP.out HRP.out).mono ?_); rintro e wy ⟨zp, hzp, rfl, hb⟩; have HS := hide (HS.out.call hb); have M1 := True.intro))
        have HS := hide HS.out.drew
        refine wp_region_T [(0, 1), (1, 1), (2, 1), (3, 1), (4, 1), (5, 1)] (by kernel_rfl) (by kernel_rfl) (fun _ _ _ _ h => h) ?_
        generalize wy.drew = wq at HS ⊢
        (refine wpT_pure (v := ?_) rfl rfl ?_ ?_; rotate_left; (intro wx; go_simp; try go_bits) <;> (with_reducible rfl)); (try simp only [Act.put, nq1, nq2, nq3, nq4, nq5, nq6])
        (refine wpT_pure (v := ?_) rfl rfl ?_ ?_; rotate_left; (intro wx; go_simp; try go_bits) <;> (with_reducible rfl)); (try simp only [Act.put, nq1, nq2, nq3, nq4, nq5, nq6])
        (refine wpT_pure (v := ?_) rfl rfl ?_ ?_; rotate_left; (intro wx; go_simp; try go_bits) <;> (with_reducible rfl)); (try simp only [Act.put, nq1, nq2, nq3, nq4, nq5, nq6])
        (refine wpT_pure (v := ?_) rfl rfl ?_ ?_; rotate_left; (intro wx; go_simp; try go_bits) <;> (with_reducible rfl)); (try simp only [Act.put, nq1, nq2, nq3, nq4, nq5, nq6])
        (refine wpT_pure (v := ?_) rfl rfl ?_ ?_; rotate_left; (intro wx; go_simp; try go_bits) <;> (with_reducible rfl)); (try simp only [Act.put, nq1, nq2, nq3, nq4, nq5, nq6])
        (refine wpT_pure (v := ?_) rfl rfl ?_ ?_; rotate_left; (intro wx; go_simp; try go_bits) <;> (with_reducible rfl)); (try simp only [Act.put, nq1, nq2, nq3, nq4, nq5, nq6])
        refine wpT_nil ?_
        go_upto_region 6 with (go_at_call 23; (with_reducible refine (sum3 _ HL1.out HLP.out HLX.out (by omega) (HR1.out.below HS.out.below) (HRP.out.below HS.out.below) (HRX.out.below HS.out.below)).mono ?_); rintro e wy ⟨Bh, dh, rfl, hb, ho⟩; have HS := hide ((HS.out.skip _).row hb ho); clear ho)
        have HS := hide HS.out.drew
        refine wp_region_XE [(8, 12)] [(1, 1), (3, 0), (4, 1), (0, 2), (2, 2), (5, 2), (6, 2), (7, 2)] (.op 9 2 (.nil)) zP 37 (by kernel_rfl) (by kernel_rfl) (by kernel_rfl) (by intro p hp; simp only [List.mem_cons, List.not_mem_nil, or_false] at hp; subst hp; exact flOp_of rfl rfl rfl (fun ev x => run_allocR rfl newP ev x)) (fun _ _ _ _ h => h) ?_
        generalize wy.drew = W0 at HS ⊢
        have hX := Below.refl W0.heap.size W0
        (refine wpX_pure (v := ?_) rfl rfl ?_ ?_; rotate_left; (intro wx; go_simp; try go_bits) <;> (with_reducible rfl)); (try simp only [Act.put, nq1, nq2, nq3, nq4, nq5, nq6])
        refine wpX_loadP rfl rfl rfl rfl HS.out (.tail _ (.head _)) rowP (.all (PtV.arr hzp)) ?_; (try simp only [Act.put, nq1, nq2, nq3, nq4, nq5, nq6])
        (refine wpX_pure (v := ?_) rfl rfl ?_ ?_; rotate_left; (intro wx; go_simp; try go_bits) <;> (with_reducible rfl)); (try simp only [Act.put, nq1, nq2, nq3, nq4, nq5, nq6])
        refine wpX_callH rfl rfl rfl enBaseMc rfl (fun x hx => baseP x) ?_; rintro xw e wy hx ⟨z1, hz1, rfl, hb⟩; refine ⟨_, rfl, hb, ?_⟩; have hX := bnx (bnx hX hx) hb; (try simp only [Act.put, nq1, nq2, nq3, nq4, nq5, nq6])
        refine wpX_callH rfl rfl rfl enMulMc rfl (fun x hx => mulP_any _ _ _ _ x (PtN.v hz1) HL2.out (by omega) (HR2.out.below (bnx HS.out.below (bnx hX hx)))) ?_; rintro xw e wy hx ⟨z2, hz2, rfl, hb⟩; refine ⟨_, rfl, hb, ?_⟩; have hX := bnx (bnx hX hx) hb; (try simp only [Act.put, nq1, nq2, nq3, nq4, nq5, nq6])
        refine wpX_callH rfl rfl rfl enMulMc rfl (fun x hx => mulP_any _ _ _ _ x hzp (sumS_len _) (by omega) ((HS.out.rd 0 rfl).below (bnx hX hx))) ?_; rintro xw e wy hx ⟨z3, hz3, rfl, hb⟩; refine ⟨_, rfl, hb, ?_⟩; have hX := bnx (bnx hX hx) hb; (try simp only [Act.put, nq1, nq2, nq3, nq4, nq5, nq6])
        refine wpX_callH rfl rfl rfl enNegMc rfl (fun x hx => negP x (PtN.v hz3)) ?_; rintro xw e wy hx ⟨z4, hz4, rfl, hb⟩; refine ⟨_, rfl, hb, ?_⟩; have hX := bnx (bnx hX hx) hb; (try simp only [Act.put, nq1, nq2, nq3, nq4, nq5, nq6])
        refine wpX_callH rfl rfl rfl enAddMc rfl (fun x hx => addP x (PtN.v hz2) (PtN.v hz4)) ?_; rintro xw e wy hx ⟨z5, hz5, rfl, hb⟩; refine ⟨_, rfl, hb, ?_⟩; have hX := bnx (bnx hX hx) hb; (try simp only [Act.put, nq1, nq2, nq3, nq4, nq5, nq6])
        refine wpX_nil ?_; intro G xz hx0 hx hF; have hS9 := HS.out.floats hx0 hF _ (by decide) (fun _ h => h); simp only [List.map_cons, List.map_nil, List.cons_append, List.nil_append] at hS9; have HS := hide hS9; have HX := hide hx0; have HG := hide hF.at_; clear hS9 hF hx0 hx; simp only [putsE, List.foldl_cons, List.foldl_nil]; (try simp only [Act.put, nq1, nq2, nq3, nq4, nq5, nq6])
        refine wpS_storeF rfl rfl rfl rfl rfl HS.out HX.out (HG.out 8 (by simp)).1 rowP (.head) arr_zP (PtN.arr hz5) ?_; intro wz hS9 hX9; have HS := hide hS9; have HX := hide hX9; clear hS9 hX9; (try simp only [Act.put, nq1, nq2, nq3, nq4, nq5, nq6])
        refine wpS_nil ?_
        have M0 := True.intro
        go_wp2_with (first | (clear M2; go_at_call 32; (with_reducible refine (equal_walk _ _ 32 _ _ _ _ _ (packL_len _) HL1.out (by decide) (HS.out.rd 0 rfl) (HR1.out.below HS.out.below)).mono ?_); rintro e wy ⟨rfl, hb⟩; have HS := hide (HS.out.call hb); have M3 := True.intro) | (clear M1; go_at_call 17; (with_reducible refine (bytesP32 _ (PtN.v hz5)).mono ?_); rintro e wy ⟨Bw, dw, rfl, hb, ho⟩; have HS := hide (HS.out.row hb ho); clear ho; have M2 := True.intro) | (clear M0; refine wl_loadP rfl rfl rfl HS.out (.head _) rowP (.all (PtN.arr hz5)) ?_; (try simp only [Act.put, nq1, nq2, nq3, nq4, nq5, nq6]); have M1 := True.intro))
        go_ret
        exact ⟨by rw [HV.out] <;> rfl, HS.out.below⟩
    · have HV := hide (ver_long (m := x) hf (show g.length ≠ 64 by rw [hg]; exact h64))
      have d1 : ((k : Int) != 64) = true := by simp; omega
      have d2 : decide ((k : Int) = 64) = false := by simp; omega
      clear hrp hrx hrg hp hx hg hf h64
      go_enter Tryz.func12, Tryz.ntmps12
      have M0 := True.intro
      go_wp2_with (first | (clear M2; refine wl_storeR rfl rfl rfl rfl HS.out rowP .head (by first | exact arr_zP | exact PtV.arr ‹_›) (by first | exact PtV.arr ‹_› | exact arr_zP) ?_; intro wz hS9; have HS := hide hS9; clear hS9; (try simp only [Act.put, nq1, nq2, nq3, nq4, nq5, nq6]); have M3 := True.intro) | (clear M1; refine wl_allocR rfl rfl HS.out newP ?_; intro gp wz hS9; have HS := hide hS9; clear hS9; (try simp only [Act.put, nq1, nq2, nq3, nq4, nq5, nq6]); have M2 := True.intro) | (clear M0; go_at_call 28; (with_reducible refine (from_some _ HF.out HLP.out HRP.out).mono ?_); rintro e wy ⟨zp, hzp, rfl, hb⟩; have HS := hide (HS.out.call hb); have M1 := True.intro))
      go_ret
      exact ⟨by rw [HV.out] <;> rfl, HS.out.below⟩
end Go.Proofs.YtkelegjppnfoaaaGreatDoor

namespace Go.Proofs.YtkelegjppnfoaaaGreatDoor
open Go.RowKit
set_option linter.unusedSimpArgs false
set_option maxRecDepth 100000 in
set_option maxHeartbeats 800000 in
theorem seed_any (A : Option Addr) (n c : Nat) (l : List UInt8) (w : World) (hl : l.length = n) (hn : n ≤ 1000) (hr : Rd w (.slice A n c) 1 n (bvs l)) :
    Calls Tryz.prog 11 #[.slice A n c] w (BN 32 w (S3.fullL l)) := by
  have HR := hide hr
  have hS := St.init w NoB
  clear hr
  go_enter Tryz.func11, Tryz.ntmps11
  go_wp2_with (first
    | (at_builtin; refine wl_append rfl rfl tyB (hS.lit [] 5 1 0 rfl (by decide)) 0 rfl rfl rfl (HR.out.st (hS.lit [] 5 1 0 rfl (by decide))) (one_bvs _) (by omega) (by decide) ?_; intro A1 c1 w1 hS1)
    | (at_builtin; refine wl_appendZ (k := 32) (l := l) rfl rfl Tryz.underlying22 Tryz.underlying3 infoB hS1 0 rfl rfl rfl (by omega) (by omega) ?_; intro A2 c2 w2 hS2; have hcap : 0 + n + 32 ≤ c2 := rd_cap (hS2.rd 0 rfl); have h32 : 32 ≤ c2 := (by omega); have HS2 := hide hS2; clear hS2))
  go_ret
  have h3 := (HS2.out.rowTake 32 (by omega)).ownsRow 0 rfl
  have e : (bvs (l ++ List.replicate 32 0)).take 32 = bvs (S3.fullL l) := by unfold S3.fullL bvs; rw [List.map_take]
  rw [e] at h3
  exact ⟨A2, c2, rfl, HS2.out.below, h3⟩
def kS : List UInt8 := [157, 97, 177, 157, 239, 253, 90, 96, 186, 132, 74, 244, 146, 236, 44, 196, 68, 73, 197, 105, 123, 50, 105, 25, 112, 59, 172, 3, 28, 174, 127, 96]
theorem kS_len : (bvs kS).length = 32 := rfl
theorem kS_arr : (bvs kS).toArray = #[.int .u8 157, .int .u8 97, .int .u8 177, .int .u8 157, .int .u8 239, .int .u8 253, .int .u8 90, .int .u8 96, .int .u8 186, .int .u8 132, .int .u8 74, .int .u8 244, .int .u8 146, .int .u8 236, .int .u8 44, .int .u8 196, .int .u8 68, .int .u8 73, .int .u8 197, .int .u8 105, .int .u8 123, .int .u8 50, .int .u8 105, .int .u8 25, .int .u8 112, .int .u8 59, .int .u8 172, .int .u8 3, .int .u8 28, .int .u8 174, .int .u8 127, .int .u8 96] := by unfold kS; rfl
def kV : Nat := 36144925721603087658594284515452164870581325872720374094707712194495455132720
def kX : Nat := 38815646466658113194383306759739515082307681141926459231621296960732224964046
def kY : Nat := 11903303657706407974989296177215005343713679411332034699907763981919547054807
theorem key_aw : mulV (keyA kS) = kV := by unfold kV; decide +kernel
def atPt (A : Nj) (x y P : Nat) : Bool := decide (A.X % P = x * A.Z % P) && decide (A.Y % P = y * A.Z % P)
theorem pt_of {A : Nj} {P : Ed} {x y : Nat} (h : Rp (toJ A) P) (he : atPt A x y Pq = true) : P.x = toF x ∧ P.y = toF y := by
  unfold atPt at he
  rw [Bool.and_eq_true, decide_eq_true_eq, decide_eq_true_eq] at he
  have hx : (toJ A).X = toF x * (toJ A).Z := by
    show toF A.X = toF x * toF A.Z
    rw [← toF_mod, he.1, toF_mod, toF_mul]
  have hy : (toJ A).Y = toF y * (toJ A).Z := by
    show toF A.Y = toF y * toF A.Z
    rw [← toF_mod A.Y, he.2, toF_mod, toF_mul]
  constructor
  · refine fcancel h.z ?_
    rw [fl2, ← h.x, hx, fl2]
  · refine fcancel h.z ?_
    rw [fl2, ← h.y, hy, fl2]
theorem key_pt : (tmE Bp kV).x = toF kX ∧ (tmE Bp kV).y = toF kY := by
  refine pt_of (mulN_ok (V := kV) bN_ok 256 ⟨0, 1, 1, 0⟩ ?_) ?_
  · rw [show kV / 2 ^ 256 = 0 from by unfold kV; decide +kernel]
    have e : toJ ⟨0, 1, 1, 0⟩ = ⟨0, 1, 1, 0⟩ := by
      unfold toJ
      show (⟨toF 0, toF 1, toF 1, toF 0⟩ : Pj) = _
      rw [toF_zero, toF_one]
    rw [e]
    exact rp_zero
  · unfold bN bxV byV kV kX kY Pq dN
    decide +kernel
theorem pack_at {P : Ed} {x y : Nat} (hx : P.x = toF x) (hy : P.y = toF y) (h1 : y % Pq = y) (h2 : x % Pq % 2 = 0) : packL P = leB 32 y := by
  have e1 : P.y.val = y := by rw [hy]; exact h1
  have e2 : P.x.val % 2 = 0 := by rw [hx]; exact h2
  unfold packL packN
  rw [e1, if_neg (by rw [e2]; decide), Nat.add_zero]
theorem key_pt' : (tmE Bp (mulV (keyA kS))).x = toF kX ∧ (tmE Bp (mulV (keyA kS))).y = toF kY := by rw [key_aw]; exact key_pt
theorem kY_list : leB 32 kY = [215, 90, 152, 1, 130, 177, 10, 183, 213, 75, 254, 211, 201, 100, 7, 58, 14, 225, 114, 243, 218, 166, 35, 37, 175, 2, 26, 104, 247, 7, 81, 26] := by
  unfold kY
  decide +kernel
theorem pub_aw : pubL kS = [215, 90, 152, 1, 130, 177, 10, 183, 213, 75, 254, 211, 201, 100, 7, 58, 14, 225, 114, 243, 218, 166, 35, 37, 175, 2, 26, 104, 247, 7, 81, 26] := (pack_at key_pt'.1 key_pt'.2 (by unfold kY Pq; decide) (by unfold kX Pq; decide)).trans kY_list
theorem kS_l : kS.length = 32 := rfl
set_option maxRecDepth 100000 in
set_option maxHeartbeats 1600000 in
theorem awake5_any (w : World) : Calls Tryz.prog 6 #[] w fun e w' => e = .returned (.bool true) ∧ Below w.heap.size w w' := by
  have HS := hide (St.init w NoB)
  have G0 := hide (show (bvs (pubL kS))[0]? = some (.int .u8 215) by rw [pub_aw]; rfl)
  have G1 := hide (show (bvs (pubL kS))[1]? = some (.int .u8 90) by rw [pub_aw]; rfl)
  have G31 := hide (show (bvs (pubL kS))[31]? = some (.int .u8 26) by rw [pub_aw]; rfl)
  have hcv := Go.Joins.run_convert_bytes_const_at (P := Tryz.prog) w 22 5 #[.int .u8 157, .int .u8 97, .int .u8 177, .int .u8 157, .int .u8 239, .int .u8 253, .int .u8 90, .int .u8 96, .int .u8 186, .int .u8 132, .int .u8 74, .int .u8 244, .int .u8 146, .int .u8 236, .int .u8 44, .int .u8 196, .int .u8 68, .int .u8 73, .int .u8 197, .int .u8 105, .int .u8 123, .int .u8 50, .int .u8 105, .int .u8 25, .int .u8 112, .int .u8 59, .int .u8 172, .int .u8 3, .int .u8 28, .int .u8 174, .int .u8 127, .int .u8 96] 32 32 w.heap.size rfl Tryz.underlying22 Tryz.underlying5
  have R0 := rd_mark w (bvs kS) 5 (32, 33) 32 kS_len (by decide)
  rw [kS_arr] at R0
  have HR0 := hide R0
  clear R0
  go_enter Tryz.func6, Tryz.ntmps6
  go_wp2_with (go_at_call 7; (with_reducible refine (pub_32 _ _ kS _ kS_l HR0.out).mono ?_); rintro e wy ⟨B, d, rfl, hb, ho⟩; have HS := hide ((HS.out.skip _).row hb ho); obtain ⟨g, c1, hvv, _, _, hcs, hfr, _⟩ := HS.out.rowOpen 0 rfl (by omega); injection hvv with hvv1 _ hvv3; subst hvv1 hvv3; have k0 := hcs 0 _ G0.out; have k1 := hcs 1 _ G1.out; have k31 := hcs 31 _ G31.out; clear ho hcs hfr)
  go_ret
  exact ⟨rfl, HS.out.below⟩
end Go.Proofs.YtkelegjppnfoaaaGreatDoor

namespace Go.Proofs.YtkelegjppnfoaaaGreatDoor
open Go.RowKit
set_option linter.unusedSimpArgs false

theorem wl_build4 {P : Program} {ops : Array Oper} {Q : Exit → Act → World → Prop} {rest : List Oper} {o : Oper} {a : Act} {w : World} {t : TypeId} {A : Array Value → Prop} {p q r s : Operand} {va vb vc vd : Array Value} (hgd : o.guard = none) (ho : o.op = .build t #[(0, p), (1, q), (2, r), (3, s)]) (h0 : a.eval p = .agg va) (h1 : a.eval q = .agg vb) (h2 : a.eval r = .agg vc) (h3 : a.eval s = .agg vd)
    (hB : BuildOf P t A) (ha : A va) (hb : A vb) (hc : A vc) (hd : A vd) (h : wpList P ops Q rest (a.put o.dst (.agg (quad va vb vc vd))) w) : wpList P ops Q (o :: rest) a w :=
  wpList_plain hgd fun K hK => by
    unfold Oper.wp
    rw [run_build4 ho h0 h1 h2 h3 hB ha hb hc hd w]
    exact hK _ _ h
theorem wl_build0 {P : Program} {ops : Array Oper} {Q : Exit → Act → World → Prop} {rest : List Oper} {o : Oper} {a : Act} {w : World} {t : TypeId} {v : Array Value} (hgd : o.guard = none) (ho : o.op = .build t #[])
    (hB : P.built t [] = some v) (h : wpList P ops Q rest (a.put o.dst (.agg v)) w) : wpList P ops Q (o :: rest) a w :=
  wpList_plain hgd fun K hK => by
    have e : (execOp a.eval o).run P w = .ok (.value (.agg v)) w := by
      have e2 : ((#[] : Array (Nat × Operand)).map fun (i, x) => (i, a.eval x)).toList = [] := by simp
      unfold execOp
      simp only [ho]
      simp only [Sem.run_bind, run_build w t _ _ (by rw [e2]; exact hB), Result.andThen_ok]
      rfl
    unfold Oper.wp
    rw [e]
    exact hK _ _ h
theorem build0N : Tryz.prog.built 43 [] = some #[.int .i64 0, .int .i64 0, .int .i64 0, .int .i64 0, .int .i64 0, .int .i64 0, .int .i64 0, .int .i64 0, .int .i64 0, .int .i64 0, .int .i64 0, .int .i64 0, .int .i64 0, .int .i64 0, .int .i64 0, .int .i64 0] := by kernel_rfl
theorem na_d : NA #[.int .i64 30883, .int .i64 4953, .int .i64 19914, .int .i64 30187, .int .i64 55467, .int .i64 16705, .int .i64 2637, .int .i64 112, .int .i64 59544, .int .i64 30585, .int .i64 16505, .int .i64 36039, .int .i64 65139, .int .i64 11119, .int .i64 27886, .int .i64 20995] dF := by
  have h := ne_of (37095705934669439343138083508754565189542113879843219016388785533085940283555) [30883, 4953, 19914, 30187, 55467, 16705, 2637, 112, 59544, 30585, 16505, 36039, 65139, 11119, 27886, 20995] rfl (by decide) (by decide +kernel)
  rw [show toF 37095705934669439343138083508754565189542113879843219016388785533085940283555 = dF from Fin.ext (by rw [dF_val]; show _ % Pq = _; unfold Pq; decide)] at h
  exact ⟨_, rfl, h⟩
theorem na_i : NA #[.int .i64 41136, .int .i64 18958, .int .i64 6951, .int .i64 50414, .int .i64 58488, .int .i64 44335, .int .i64 6150, .int .i64 12099, .int .i64 55207, .int .i64 15867, .int .i64 153, .int .i64 11085, .int .i64 57099, .int .i64 20417, .int .i64 9344, .int .i64 11139] iF := by
  have h := ne_of (19681161376707505956807079304988542015446066515923890162744021073123829784752) [41136, 18958, 6951, 50414, 58488, 44335, 6150, 12099, 55207, 15867, 153, 11085, 57099, 20417, 9344, 11139] rfl (by decide) (by decide +kernel)
  rw [show toF 19681161376707505956807079304988542015446066515923890162744021073123829784752 = iF from Fin.ext (by show _ % Pq = iN; unfold Pq iN; decide)] at h
  exact ⟨_, rfl, h⟩
theorem na_x : NA #[.int .i64 54554, .int .i64 36645, .int .i64 11616, .int .i64 51542, .int .i64 42930, .int .i64 38181, .int .i64 51040, .int .i64 26924, .int .i64 56412, .int .i64 64982, .int .i64 57905, .int .i64 49316, .int .i64 21502, .int .i64 52590, .int .i64 14035, .int .i64 8553] Bp.x := by
  have h := ne_of (15112221349535400772501151409588531511454012693041857206046113283949847762202) [54554, 36645, 11616, 51542, 42930, 38181, 51040, 26924, 56412, 64982, 57905, 49316, 21502, 52590, 14035, 8553] rfl (by decide) (by decide +kernel)
  rw [show toF 15112221349535400772501151409588531511454012693041857206046113283949847762202 = Bp.x from rfl] at h
  exact ⟨_, rfl, h⟩
theorem na_y : NA #[.int .i64 26200, .int .i64 26214, .int .i64 26214, .int .i64 26214, .int .i64 26214, .int .i64 26214, .int .i64 26214, .int .i64 26214, .int .i64 26214, .int .i64 26214, .int .i64 26214, .int .i64 26214, .int .i64 26214, .int .i64 26214, .int .i64 26214, .int .i64 26214] Bp.y := by
  have h := ne_of (46316835694926478169428394003475163141307993866256225615783033603165251855960) [26200, 26214, 26214, 26214, 26214, 26214, 26214, 26214, 26214, 26214, 26214, 26214, 26214, 26214, 26214, 26214] rfl (by decide) (by decide +kernel)
  rw [show toF 46316835694926478169428394003475163141307993866256225615783033603165251855960 = Bp.y from rfl] at h
  exact ⟨_, rfl, h⟩
theorem na_0 : NA #[.int .i64 0, .int .i64 0, .int .i64 0, .int .i64 0, .int .i64 0, .int .i64 0, .int .i64 0, .int .i64 0, .int .i64 0, .int .i64 0, .int .i64 0, .int .i64 0, .int .i64 0, .int .i64 0, .int .i64 0, .int .i64 0] 0 := na_zero
structure QtN (v : Array Value) (P : Ed) : Prop where
  ex : ∃ A a b c d, v = quad a b c d ∧ NA a A.X ∧ NA b A.Y ∧ NA c A.Z ∧ NA d A.T ∧ Rp A P
theorem QtN.arr {v : Array Value} {P : Ed} (h : QtN v P) : Arr 64 v := by
  obtain ⟨A, a, b, c, d, rfl, h2, h3, h4, h5, _⟩ := h.ex
  exact quad_arr h2.arr h3.arr h4.arr h5.arr rfl
def ResQ (w : World) (P : Ed) (e : Ending) (w' : World) : Prop := ∃ v, QtN v P ∧ e = .returned (.agg v) ∧ Below w.heap.size w w'
set_option maxRecDepth 100000 in
set_option maxHeartbeats 800000 in
theorem dNA (w : World) : Calls Tryz.prog 79 #[] w (ResA w dF) := by
  have hc := na_d
  have HS := hide (St.init w NoB)
  go_enter Tryz.func79, Tryz.ntmps79
  go_wp2_with (first | (refine wl_loadP rfl rfl rfl HS.out (by (repeat first | exact .head _ | apply List.Mem.tail)) (by first | exact rowE | exact rowP | exact rowN | exact rowQ) (by (first | exact .q0 (EA.arr ‹_›) | exact .q1 (EA.arr ‹_›) (EA.arr ‹_›) | exact .q2 (EA.arr ‹_›) (EA.arr ‹_›) (EA.arr ‹_›) | exact .q3 (EA.arr ‹_›) (EA.arr ‹_›) (EA.arr ‹_›) (EA.arr ‹_›) | exact .q0 (NA.arr ‹_›) | exact .q1 (NA.arr ‹_›) (NA.arr ‹_›) | exact .q2 (NA.arr ‹_›) (NA.arr ‹_›) (NA.arr ‹_›) | exact .q3 (NA.arr ‹_›) (NA.arr ‹_›) (NA.arr ‹_›) (NA.arr ‹_›) | exact .all (by (first | exact EA.arr ‹_› | exact NA.arr ‹_› | exact arr_zE | exact arr_zN | exact arr_zP | exact arr_zQ | exact PtN.arr ‹_› | exact PtV.arr ‹_› | exact QtN.arr ‹_› | exact qE ‹_› ‹_› ‹_› ‹_› | exact qN ‹_› ‹_› ‹_› ‹_›)))) ?_; (try simp only [Act.put, nq1, nq2, nq3, nq4, nq5, nq6])) | (refine wl_storeR rfl rfl rfl rfl HS.out (by first | exact rowE | exact rowP | exact rowN | exact rowQ) (by (repeat first | exact .head | apply Upd.tail)) (by (first | exact EA.arr ‹_› | exact NA.arr ‹_› | exact arr_zE | exact arr_zN | exact arr_zP | exact arr_zQ | exact PtN.arr ‹_› | exact PtV.arr ‹_› | exact QtN.arr ‹_› | exact qE ‹_› ‹_› ‹_› ‹_› | exact qN ‹_› ‹_› ‹_› ‹_›)) (by (first | exact EA.arr ‹_› | exact NA.arr ‹_› | exact arr_zE | exact arr_zN | exact arr_zP | exact arr_zQ | exact PtN.arr ‹_› | exact PtV.arr ‹_› | exact QtN.arr ‹_› | exact qE ‹_› ‹_› ‹_› ‹_› | exact qN ‹_› ‹_› ‹_› ‹_›)) ?_; intro wz hS9; have HS := hide hS9; clear hS9; (try simp only [Act.put, nq1, nq2, nq3, nq4, nq5, nq6])) | (refine wl_allocR rfl rfl HS.out (by first | exact newE | exact newP | exact newN | exact newQ) ?_; intro gz wz hS9; have HS := hide hS9; clear hS9; (try simp only [Act.put, nq1, nq2, nq3, nq4, nq5, nq6])) | (refine wl_boxR rfl rfl rfl HS.out ?_; intro gz wz hS9; have HS := hide hS9; clear hS9; (try simp only [Act.put, nq1, nq2, nq3, nq4, nq5, nq6])))
  refine bodyPost_ret (results_cell_row rfl _ _ _ _ _ _ _ rfl (HS.out.heapM (by (repeat first | exact .head _ | apply List.Mem.tail))) Tryz.underlying43 rfl (by first | (rw [(EA.arr ‹_›).size]; kernel_rfl) | (rw [(NA.arr ‹_›).size]; kernel_rfl) | (rw [(qE ‹_› ‹_› ‹_› ‹_›).size]; kernel_rfl) | (rw [(qN ‹_› ‹_› ‹_› ‹_›).size]; kernel_rfl) | (rw [(PtN.arr ‹_›).size]; kernel_rfl) | (rw [(PtV.arr ‹_›).size]; kernel_rfl) | (rw [(QtN.arr ‹_›).size]; kernel_rfl))) rfl ?_
  exact ⟨_, hc, rfl, HS.out.below⟩
set_option maxRecDepth 100000 in
set_option maxHeartbeats 800000 in
theorem iNA (w : World) : Calls Tryz.prog 98 #[] w (ResA w iF) := by
  have hc := na_i
  have HS := hide (St.init w NoB)
  go_enter Tryz.func98, Tryz.ntmps98
  go_wp2_with (first | (refine wl_loadP rfl rfl rfl HS.out (by (repeat first | exact .head _ | apply List.Mem.tail)) (by first | exact rowE | exact rowP | exact rowN | exact rowQ) (by (first | exact .q0 (EA.arr ‹_›) | exact .q1 (EA.arr ‹_›) (EA.arr ‹_›) | exact .q2 (EA.arr ‹_›) (EA.arr ‹_›) (EA.arr ‹_›) | exact .q3 (EA.arr ‹_›) (EA.arr ‹_›) (EA.arr ‹_›) (EA.arr ‹_›) | exact .q0 (NA.arr ‹_›) | exact .q1 (NA.arr ‹_›) (NA.arr ‹_›) | exact .q2 (NA.arr ‹_›) (NA.arr ‹_›) (NA.arr ‹_›) | exact .q3 (NA.arr ‹_›) (NA.arr ‹_›) (NA.arr ‹_›) (NA.arr ‹_›) | exact .all (by (first | exact EA.arr ‹_› | exact NA.arr ‹_› | exact arr_zE | exact arr_zN | exact arr_zP | exact arr_zQ | exact PtN.arr ‹_› | exact PtV.arr ‹_› | exact QtN.arr ‹_› | exact qE ‹_› ‹_› ‹_› ‹_› | exact qN ‹_› ‹_› ‹_› ‹_›)))) ?_; (try simp only [Act.put, nq1, nq2, nq3, nq4, nq5, nq6])) | (refine wl_storeR rfl rfl rfl rfl HS.out (by first | exact rowE | exact rowP | exact rowN | exact rowQ) (by (repeat first | exact .head | apply Upd.tail)) (by (first | exact EA.arr ‹_› | exact NA.arr ‹_› | exact arr_zE | exact arr_zN | exact arr_zP | exact arr_zQ | exact PtN.arr ‹_› | exact PtV.arr ‹_› | exact QtN.arr ‹_› | exact qE ‹_› ‹_› ‹_› ‹_› | exact qN ‹_› ‹_› ‹_› ‹_›)) (by (first | exact EA.arr ‹_› | exact NA.arr ‹_› | exact arr_zE | exact arr_zN | exact arr_zP | exact arr_zQ | exact PtN.arr ‹_› | exact PtV.arr ‹_› | exact QtN.arr ‹_› | exact qE ‹_› ‹_› ‹_› ‹_› | exact qN ‹_› ‹_› ‹_› ‹_›)) ?_; intro wz hS9; have HS := hide hS9; clear hS9; (try simp only [Act.put, nq1, nq2, nq3, nq4, nq5, nq6])) | (refine wl_allocR rfl rfl HS.out (by first | exact newE | exact newP | exact newN | exact newQ) ?_; intro gz wz hS9; have HS := hide hS9; clear hS9; (try simp only [Act.put, nq1, nq2, nq3, nq4, nq5, nq6])) | (refine wl_boxR rfl rfl rfl HS.out ?_; intro gz wz hS9; have HS := hide hS9; clear hS9; (try simp only [Act.put, nq1, nq2, nq3, nq4, nq5, nq6])))
  refine bodyPost_ret (results_cell_row rfl _ _ _ _ _ _ _ rfl (HS.out.heapM (by (repeat first | exact .head _ | apply List.Mem.tail))) Tryz.underlying43 rfl (by first | (rw [(EA.arr ‹_›).size]; kernel_rfl) | (rw [(NA.arr ‹_›).size]; kernel_rfl) | (rw [(qE ‹_› ‹_› ‹_› ‹_›).size]; kernel_rfl) | (rw [(qN ‹_› ‹_› ‹_› ‹_›).size]; kernel_rfl) | (rw [(PtN.arr ‹_›).size]; kernel_rfl) | (rw [(PtV.arr ‹_›).size]; kernel_rfl) | (rw [(QtN.arr ‹_›).size]; kernel_rfl))) rfl ?_
  exact ⟨_, hc, rfl, HS.out.below⟩
theorem en33_bs (args : Array Value) (w : World) : (callFunc 53 args).run Tryz.prog w = .ok (.enter 53 args) w := by kernel_rfl
theorem en34_bs (args : Array Value) (w : World) : (callFunc 50 args).run Tryz.prog w = .ok (.enter 50 args) w := by kernel_rfl
theorem en34_pq (args : Array Value) (w : World) : (callFunc 50 args).run Tryz.prog w = .ok (.enter 50 args) w := by kernel_rfl
theorem en42_nq (args : Array Value) (w : World) : (callFunc 77 args).run Tryz.prog w = .ok (.enter 77 args) w := by kernel_rfl
theorem en42_pq (args : Array Value) (w : World) : (callFunc 77 args).run Tryz.prog w = .ok (.enter 77 args) w := by kernel_rfl
theorem en43_pq (args : Array Value) (w : World) : (callFunc 78 args).run Tryz.prog w = .ok (.enter 78 args) w := by kernel_rfl
set_option maxRecDepth 100000 in
set_option maxHeartbeats 1600000 in
theorem zeroQ (w : World) : Calls Tryz.prog 52 #[] w (ResQ w .zero) := by
  obtain ⟨zz, hzz, hc⟩ : ∃ v, Tryz.prog.built 43 [] = some v ∧ NA v 0 := ⟨_, build0N, na_0⟩
  have HS := hide (St.init w NoB)
  go_enter Tryz.func52, Tryz.ntmps52
  go_wp2_with (first | (refine wl_allocR rfl rfl HS.out newQ ?_; intro gz wz hS9; have HS := hide hS9; clear hS9; (try simp only [Act.put, nq1, nq2, nq3, nq4, nq5, nq6])) | (go_at_call 53; (with_reducible refine (smallNA1 _).mono ?_); rintro e wy ⟨z, hz, rfl, hb⟩; have HS := hide (HS.out.call hb)) | (refine wl_build0 rfl rfl hzz ?_; (try simp only [Act.put, nq1, nq2, nq3, nq4, nq5, nq6])) | (refine wl_build4 rfl rfl rfl rfl rfl rfl buildQ (exN hc) (exN (by assumption)) (exN (by assumption)) (exN hc) ?_; (try simp only [Act.put, nq1, nq2, nq3, nq4, nq5, nq6])) | (refine wl_storeR rfl rfl rfl rfl HS.out rowQ (.head) (by first | exact arr_zQ | exact QtN.arr ‹_› | exact qN ‹_› ‹_› ‹_› ‹_›) (by first | exact arr_zQ | exact QtN.arr ‹_› | exact qN ‹_› ‹_› ‹_› ‹_›) ?_; intro wz hS9; have HS := hide hS9; clear hS9; (try simp only [Act.put, nq1, nq2, nq3, nq4, nq5, nq6])))
  refine bodyPost_ret (results_cell_row rfl _ _ _ _ _ _ _ rfl (HS.out.heapM (by (repeat first | exact .head _ | apply List.Mem.tail))) Tryz.underlying45 rfl (by first | (rw [(EA.arr ‹_›).size]; kernel_rfl) | (rw [(NA.arr ‹_›).size]; kernel_rfl) | (rw [(qE ‹_› ‹_› ‹_› ‹_›).size]; kernel_rfl) | (rw [(qN ‹_› ‹_› ‹_› ‹_›).size]; kernel_rfl) | (rw [(PtN.arr ‹_›).size]; kernel_rfl) | (rw [(PtV.arr ‹_›).size]; kernel_rfl) | (rw [(QtN.arr ‹_›).size]; kernel_rfl))) rfl ?_
  exact ⟨_, ⟨⟨0, 1, 1, 0⟩, _, _, _, _, rfl, hc, by assumption, by assumption, hc, rp_zero⟩, rfl, HS.out.below⟩
set_option maxRecDepth 100000 in
set_option maxHeartbeats 1600000 in
theorem baseQ (w : World) : Calls Tryz.prog 20 #[] w (ResQ w Bp) := by
  have hx := na_x
  have hy := na_y
  have HS := hide (St.init w NoB)
  go_enter Tryz.func20, Tryz.ntmps20
  go_wp2_with (first | (refine wl_loadP rfl rfl rfl HS.out (by (repeat first | exact .head _ | apply List.Mem.tail)) (by first | exact rowE | exact rowP | exact rowN | exact rowQ) (by (first | exact .q0 (EA.arr ‹_›) | exact .q1 (EA.arr ‹_›) (EA.arr ‹_›) | exact .q2 (EA.arr ‹_›) (EA.arr ‹_›) (EA.arr ‹_›) | exact .q3 (EA.arr ‹_›) (EA.arr ‹_›) (EA.arr ‹_›) (EA.arr ‹_›) | exact .q0 (NA.arr ‹_›) | exact .q1 (NA.arr ‹_›) (NA.arr ‹_›) | exact .q2 (NA.arr ‹_›) (NA.arr ‹_›) (NA.arr ‹_›) | exact .q3 (NA.arr ‹_›) (NA.arr ‹_›) (NA.arr ‹_›) (NA.arr ‹_›) | exact .all (by (first | exact EA.arr ‹_› | exact NA.arr ‹_› | exact arr_zE | exact arr_zN | exact arr_zP | exact arr_zQ | exact PtN.arr ‹_› | exact PtV.arr ‹_› | exact QtN.arr ‹_› | exact qE ‹_› ‹_› ‹_› ‹_› | exact qN ‹_› ‹_› ‹_› ‹_›)))) ?_; (try simp only [Act.put, nq1, nq2, nq3, nq4, nq5, nq6])) | (refine wl_storeR rfl rfl rfl rfl HS.out (by first | exact rowE | exact rowP | exact rowN | exact rowQ) (by (repeat first | exact .head | apply Upd.tail)) (by (first | exact EA.arr ‹_› | exact NA.arr ‹_› | exact arr_zE | exact arr_zN | exact arr_zP | exact arr_zQ | exact PtN.arr ‹_› | exact PtV.arr ‹_› | exact QtN.arr ‹_› | exact qE ‹_› ‹_› ‹_› ‹_› | exact qN ‹_› ‹_› ‹_› ‹_›)) (by (first | exact EA.arr ‹_› | exact NA.arr ‹_› | exact arr_zE | exact arr_zN | exact arr_zP | exact arr_zQ | exact PtN.arr ‹_› | exact PtV.arr ‹_› | exact QtN.arr ‹_› | exact qE ‹_› ‹_› ‹_› ‹_› | exact qN ‹_› ‹_› ‹_› ‹_›)) ?_; intro wz hS9; have HS := hide hS9; clear hS9; (try simp only [Act.put, nq1, nq2, nq3, nq4, nq5, nq6])) | (refine wl_allocR rfl rfl HS.out (by first | exact newE | exact newP | exact newN | exact newQ) ?_; intro gz wz hS9; have HS := hide hS9; clear hS9; (try simp only [Act.put, nq1, nq2, nq3, nq4, nq5, nq6])) | (refine wl_boxR rfl rfl rfl HS.out ?_; intro gz wz hS9; have HS := hide hS9; clear hS9; (try simp only [Act.put, nq1, nq2, nq3, nq4, nq5, nq6])))
  have HS := hide HS.out.drew
  refine wp_region_T [(0, 0), (1, 0), (3, 0), (4, 0), (2, 2), (5, 2), (6, 1), (7, 3)] (by kernel_rfl) (by kernel_rfl) (fun _ _ _ _ h => h) ?_
  refine wpT_loadP rfl rfl rfl rfl HS.out (.tail _ (.head _)) rowN (.all (by first | exact NA.arr ‹_› | exact arr_zN)) ?_; (try simp only [Act.put, nq1, nq2, nq3, nq4, nq5, nq6])
  refine wpT_loadP rfl rfl rfl rfl HS.out (.head _) rowN (.all (by first | exact NA.arr ‹_› | exact arr_zN)) ?_; (try simp only [Act.put, nq1, nq2, nq3, nq4, nq5, nq6])
  refine wpT_loadP rfl rfl rfl rfl HS.out (.tail _ (.head _)) rowN (.all (by first | exact NA.arr ‹_› | exact arr_zN)) ?_; (try simp only [Act.put, nq1, nq2, nq3, nq4, nq5, nq6])
  refine wpT_loadP rfl rfl rfl rfl HS.out (.head _) rowN (.all (by first | exact NA.arr ‹_› | exact arr_zN)) ?_; (try simp only [Act.put, nq1, nq2, nq3, nq4, nq5, nq6])
  refine wpT_callF rfl rfl rfl en33_bs rfl (smallNA1 _) ?_; rintro e wy ⟨z, hz, rfl, hb⟩; refine ⟨_, rfl, hb, ?_⟩; have HS := hide (HS.out.call hb); (try simp only [Act.put, nq1, nq2, nq3, nq4, nq5, nq6])
  refine wpT_callF rfl rfl rfl en34_bs rfl (mulNA _ ‹_› ‹_›) ?_; rintro e wy ⟨z, hz, rfl, hb⟩; refine ⟨_, rfl, hb, ?_⟩; have HS := hide (HS.out.call hb); (try simp only [Act.put, nq1, nq2, nq3, nq4, nq5, nq6])
  refine wpT_pure rfl rfl (fun x => run_build4 rfl rfl rfl rfl rfl buildQ (exN ‹_›) (exN ‹_›) (exN ‹_›) (exN ‹_›) x) ?_; (try simp only [Act.put, nq1, nq2, nq3, nq4, nq5, nq6])
  refine wpT_late rfl rfl ?_; intro K hK; refine wp_storeR rfl rfl rfl HS.out rowQ (.tail (.tail (.head))) (by first | exact arr_zQ | exact QtN.arr ‹_› | exact qN ‹_› ‹_› ‹_› ‹_›) (by first | exact arr_zQ | exact QtN.arr ‹_› | exact qN ‹_› ‹_› ‹_› ‹_›) ?_; intro wz hS9; have HS := hide hS9; clear hS9; refine hK _ _ ?_; (try simp only [Act.put, nq1, nq2, nq3, nq4, nq5, nq6])
  refine wpT_nil ?_
  go_wp2_with fail
  refine bodyPost_ret (results_cell_row rfl _ _ _ _ _ _ _ rfl (HS.out.heapM (by (repeat first | exact .head _ | apply List.Mem.tail))) Tryz.underlying45 rfl (by first | (rw [(EA.arr ‹_›).size]; kernel_rfl) | (rw [(NA.arr ‹_›).size]; kernel_rfl) | (rw [(qE ‹_› ‹_› ‹_› ‹_›).size]; kernel_rfl) | (rw [(qN ‹_› ‹_› ‹_› ‹_›).size]; kernel_rfl) | (rw [(PtN.arr ‹_›).size]; kernel_rfl) | (rw [(PtV.arr ‹_›).size]; kernel_rfl) | (rw [(QtN.arr ‹_›).size]; kernel_rfl))) rfl ?_
  exact ⟨_, ⟨⟨Bp.x, Bp.y, 1, Bp.x * Bp.y⟩, _, _, _, _, rfl, hx, hy, by assumption, by assumption, rp_of Bp⟩, rfl, HS.out.below⟩
theorem zsub (x : FK) : 0 - x = -x := by grind
set_option maxRecDepth 100000 in
set_option maxHeartbeats 1600000 in
theorem negQ {v : Array Value} {P : Ed} (w : World) (hv : QtN v P) : Calls Tryz.prog 36 #[.agg v] w (ResQ w P.neg) := by
  obtain ⟨⟨X, Y, Z, T⟩, a, b, c, d, rfl, h1, h2, h3, h4, h5⟩ := hv.ex
  have hc := na_0
  have HS := hide (St.init w NoB)
  go_enter Tryz.func36, Tryz.ntmps36
  go_wp2_with (first | (refine wl_loadP rfl rfl rfl HS.out (by (repeat first | exact .head _ | apply List.Mem.tail)) (by first | exact rowE | exact rowP | exact rowN | exact rowQ) (by (first | exact .q0 (EA.arr ‹_›) | exact .q1 (EA.arr ‹_›) (EA.arr ‹_›) | exact .q2 (EA.arr ‹_›) (EA.arr ‹_›) (EA.arr ‹_›) | exact .q3 (EA.arr ‹_›) (EA.arr ‹_›) (EA.arr ‹_›) (EA.arr ‹_›) | exact .q0 (NA.arr ‹_›) | exact .q1 (NA.arr ‹_›) (NA.arr ‹_›) | exact .q2 (NA.arr ‹_›) (NA.arr ‹_›) (NA.arr ‹_›) | exact .q3 (NA.arr ‹_›) (NA.arr ‹_›) (NA.arr ‹_›) (NA.arr ‹_›) | exact .all (by (first | exact EA.arr ‹_› | exact NA.arr ‹_› | exact arr_zE | exact arr_zN | exact arr_zP | exact arr_zQ | exact PtN.arr ‹_› | exact PtV.arr ‹_› | exact QtN.arr ‹_› | exact qE ‹_› ‹_› ‹_› ‹_› | exact qN ‹_› ‹_› ‹_› ‹_›)))) ?_; (try simp only [Act.put, nq1, nq2, nq3, nq4, nq5, nq6])) | (refine wl_storeR rfl rfl rfl rfl HS.out (by first | exact rowE | exact rowP | exact rowN | exact rowQ) (by (repeat first | exact .head | apply Upd.tail)) (by (first | exact EA.arr ‹_› | exact NA.arr ‹_› | exact arr_zE | exact arr_zN | exact arr_zP | exact arr_zQ | exact PtN.arr ‹_› | exact PtV.arr ‹_› | exact QtN.arr ‹_› | exact qE ‹_› ‹_› ‹_› ‹_› | exact qN ‹_› ‹_› ‹_› ‹_›)) (by (first | exact EA.arr ‹_› | exact NA.arr ‹_› | exact arr_zE | exact arr_zN | exact arr_zP | exact arr_zQ | exact PtN.arr ‹_› | exact PtV.arr ‹_› | exact QtN.arr ‹_› | exact qE ‹_› ‹_› ‹_› ‹_› | exact qN ‹_› ‹_› ‹_› ‹_›)) ?_; intro wz hS9; have HS := hide hS9; clear hS9; (try simp only [Act.put, nq1, nq2, nq3, nq4, nq5, nq6])) | (refine wl_allocR rfl rfl HS.out (by first | exact newE | exact newP | exact newN | exact newQ) ?_; intro gz wz hS9; have HS := hide hS9; clear hS9; (try simp only [Act.put, nq1, nq2, nq3, nq4, nq5, nq6])) | (refine wl_boxR rfl rfl rfl HS.out ?_; intro gz wz hS9; have HS := hide hS9; clear hS9; (try simp only [Act.put, nq1, nq2, nq3, nq4, nq5, nq6])))
  have HS := hide HS.out.drew
  refine wp_region_T [(0, 1), (1, 1), (2, 0), (4, 1), (5, 0), (6, 1), (7, 0), (8, 1), (9, 1), (10, 0), (3, 2), (11, 2), (12, 1), (13, 3)] (by kernel_rfl) (by kernel_rfl) (fun _ _ _ _ h => h) ?_
  (refine wpT_pure (v := ?_) rfl rfl ?_ ?_; rotate_left; (intro wx; go_simp; try go_bits) <;> (with_reducible rfl)); (try simp only [Act.put, nq1, nq2, nq3, nq4, nq5, nq6])
  (refine wpT_pure (v := ?_) rfl rfl ?_ ?_; rotate_left; (intro wx; go_simp; try go_bits) <;> (with_reducible rfl)); (try simp only [Act.put, nq1, nq2, nq3, nq4, nq5, nq6])
  refine wpT_loadP rfl rfl rfl rfl HS.out (.tail _ (.head _)) rowN (.q0 (NA.arr ‹_›)) ?_; (try simp only [Act.put, nq1, nq2, nq3, nq4, nq5, nq6])
  (refine wpT_pure (v := ?_) rfl rfl ?_ ?_; rotate_left; (intro wx; go_simp; try go_bits) <;> (with_reducible rfl)); (try simp only [Act.put, nq1, nq2, nq3, nq4, nq5, nq6])
  refine wpT_loadP rfl rfl rfl rfl HS.out (.tail _ (.head _)) rowN (.q1 (NA.arr ‹_›) (NA.arr ‹_›)) ?_; (try simp only [Act.put, nq1, nq2, nq3, nq4, nq5, nq6])
  (refine wpT_pure (v := ?_) rfl rfl ?_ ?_; rotate_left; (intro wx; go_simp; try go_bits) <;> (with_reducible rfl)); (try simp only [Act.put, nq1, nq2, nq3, nq4, nq5, nq6])
  refine wpT_loadP rfl rfl rfl rfl HS.out (.tail _ (.head _)) rowN (.q2 (NA.arr ‹_›) (NA.arr ‹_›) (NA.arr ‹_›)) ?_; (try simp only [Act.put, nq1, nq2, nq3, nq4, nq5, nq6])
  (refine wpT_pure (v := ?_) rfl rfl ?_ ?_; rotate_left; (intro wx; go_simp; try go_bits) <;> (with_reducible rfl)); (try simp only [Act.put, nq1, nq2, nq3, nq4, nq5, nq6])
  (refine wpT_pure (v := ?_) rfl rfl ?_ ?_; rotate_left; (intro wx; go_simp; try go_bits) <;> (with_reducible rfl)); (try simp only [Act.put, nq1, nq2, nq3, nq4, nq5, nq6])
  refine wpT_loadP rfl rfl rfl rfl HS.out (.tail _ (.head _)) rowN (.q3 (NA.arr ‹_›) (NA.arr ‹_›) (NA.arr ‹_›) (NA.arr ‹_›)) ?_; (try simp only [Act.put, nq1, nq2, nq3, nq4, nq5, nq6])
  refine wpT_callF rfl rfl rfl en42_nq rfl (subNA _ ‹_› ‹_›) ?_; rintro e wy ⟨z, hz, rfl, hb⟩; refine ⟨_, rfl, hb, ?_⟩; have HS := hide (HS.out.call hb); (try simp only [Act.put, nq1, nq2, nq3, nq4, nq5, nq6])
  refine wpT_callF rfl rfl rfl en42_nq rfl (subNA _ ‹_› ‹_›) ?_; rintro e wy ⟨z, hz, rfl, hb⟩; refine ⟨_, rfl, hb, ?_⟩; have HS := hide (HS.out.call hb); (try simp only [Act.put, nq1, nq2, nq3, nq4, nq5, nq6])
  refine wpT_pure rfl rfl (fun x => run_build4 rfl rfl rfl rfl rfl buildQ (exN ‹_›) (exN ‹_›) (exN ‹_›) (exN ‹_›) x) ?_; (try simp only [Act.put, nq1, nq2, nq3, nq4, nq5, nq6])
  refine wpT_late rfl rfl ?_; intro K hK; refine wp_storeR rfl rfl rfl HS.out rowQ (.head) (by first | exact arr_zQ | exact QtN.arr ‹_› | exact qN ‹_› ‹_› ‹_› ‹_›) (by first | exact arr_zQ | exact QtN.arr ‹_› | exact qN ‹_› ‹_› ‹_› ‹_›) ?_; intro wz hS9; have HS := hide hS9; clear hS9; refine hK _ _ ?_; (try simp only [Act.put, nq1, nq2, nq3, nq4, nq5, nq6])
  refine wpT_nil ?_
  go_wp2_with fail
  refine bodyPost_ret (results_cell_row rfl _ _ _ _ _ _ _ rfl (HS.out.heapM (by (repeat first | exact .head _ | apply List.Mem.tail))) Tryz.underlying45 rfl (by first | (rw [(EA.arr ‹_›).size]; kernel_rfl) | (rw [(NA.arr ‹_›).size]; kernel_rfl) | (rw [(qE ‹_› ‹_› ‹_› ‹_›).size]; kernel_rfl) | (rw [(qN ‹_› ‹_› ‹_› ‹_›).size]; kernel_rfl) | (rw [(PtN.arr ‹_›).size]; kernel_rfl) | (rw [(PtV.arr ‹_›).size]; kernel_rfl) | (rw [(QtN.arr ‹_›).size]; kernel_rfl))) rfl ?_
  exact ⟨_, ⟨⟨-X, Y, Z, -T⟩, _, _, _, _, rfl, by rw [← zsub]; assumption, h2, h3, by rw [← zsub]; assumption, rp_neg h5⟩, rfl, HS.out.below⟩
theorem plJ_page (A B : Pj) : plJ A B =
  ⟨((A.Y + A.X) * (B.Y + B.X) - (A.Y - A.X) * (B.Y - B.X)) * (A.Z * B.Z + A.Z * B.Z - A.T * B.T * (dF + dF)),
   ((A.Y + A.X) * (B.Y + B.X) + (A.Y - A.X) * (B.Y - B.X)) * (A.Z * B.Z + A.Z * B.Z + A.T * B.T * (dF + dF)),
   (A.Z * B.Z + A.Z * B.Z + A.T * B.T * (dF + dF)) * (A.Z * B.Z + A.Z * B.Z - A.T * B.T * (dF + dF)),
   ((A.Y + A.X) * (B.Y + B.X) - (A.Y - A.X) * (B.Y - B.X)) * ((A.Y + A.X) * (B.Y + B.X) + (A.Y - A.X) * (B.Y - B.X))⟩ := by
  unfold plJ
  congr 1 <;> grind
set_option maxRecDepth 100000 in
set_option maxHeartbeats 6400000 in
theorem plusQ {u v : Array Value} {P Q : Ed} (w : World) (hu : QtN u P) (hv : QtN v Q) : Calls Tryz.prog 35 #[.agg u, .agg v] w (ResQ w (P.add Q)) := by
  obtain ⟨⟨X, Y, Z, T⟩, a, b, c, d, rfl, h1, h2, h3, h4, h5⟩ := hu.ex
  obtain ⟨⟨X', Y', Z', T'⟩, a', b', c', d', rfl, g1, g2, g3, g4, g5⟩ := hv.ex
  have HS := hide (St.init w NoB)
  go_enter Tryz.func35, Tryz.ntmps35
  go_wp2_with (first | (refine wl_loadP rfl rfl rfl HS.out (by (repeat first | exact .head _ | apply List.Mem.tail)) (by first | exact rowE | exact rowP | exact rowN | exact rowQ) (by (first | exact .q0 (EA.arr ‹_›) | exact .q1 (EA.arr ‹_›) (EA.arr ‹_›) | exact .q2 (EA.arr ‹_›) (EA.arr ‹_›) (EA.arr ‹_›) | exact .q3 (EA.arr ‹_›) (EA.arr ‹_›) (EA.arr ‹_›) (EA.arr ‹_›) | exact .q0 (NA.arr ‹_›) | exact .q1 (NA.arr ‹_›) (NA.arr ‹_›) | exact .q2 (NA.arr ‹_›) (NA.arr ‹_›) (NA.arr ‹_›) | exact .q3 (NA.arr ‹_›) (NA.arr ‹_›) (NA.arr ‹_›) (NA.arr ‹_›) | exact .all (by (first | exact EA.arr ‹_› | exact NA.arr ‹_› | exact arr_zE | exact arr_zN | exact arr_zP | exact arr_zQ | exact PtN.arr ‹_› | exact PtV.arr ‹_› | exact QtN.arr ‹_› | exact qE ‹_› ‹_› ‹_› ‹_› | exact qN ‹_› ‹_› ‹_› ‹_›)))) ?_; (try simp only [Act.put, nq1, nq2, nq3, nq4, nq5, nq6])) | (refine wl_storeR rfl rfl rfl rfl HS.out (by first | exact rowE | exact rowP | exact rowN | exact rowQ) (by (repeat first | exact .head | apply Upd.tail)) (by (first | exact EA.arr ‹_› | exact NA.arr ‹_› | exact arr_zE | exact arr_zN | exact arr_zP | exact arr_zQ | exact PtN.arr ‹_› | exact PtV.arr ‹_› | exact QtN.arr ‹_› | exact qE ‹_› ‹_› ‹_› ‹_› | exact qN ‹_› ‹_› ‹_› ‹_›)) (by (first | exact EA.arr ‹_› | exact NA.arr ‹_› | exact arr_zE | exact arr_zN | exact arr_zP | exact arr_zQ | exact PtN.arr ‹_› | exact PtV.arr ‹_› | exact QtN.arr ‹_› | exact qE ‹_› ‹_› ‹_› ‹_› | exact qN ‹_› ‹_› ‹_› ‹_›)) ?_; intro wz hS9; have HS := hide hS9; clear hS9; (try simp only [Act.put, nq1, nq2, nq3, nq4, nq5, nq6])) | (refine wl_allocR rfl rfl HS.out (by first | exact newE | exact newP | exact newN | exact newQ) ?_; intro gz wz hS9; have HS := hide hS9; clear hS9; (try simp only [Act.put, nq1, nq2, nq3, nq4, nq5, nq6])) | (refine wl_boxR rfl rfl rfl HS.out ?_; intro gz wz hS9; have HS := hide hS9; clear hS9; (try simp only [Act.put, nq1, nq2, nq3, nq4, nq5, nq6])))
  have HS := hide HS.out.drew
  refine wp_region_XE [(11, 5)] [(0, 1), (1, 0), (2, 1), (3, 0), (5, 1), (6, 0), (7, 1), (8, 0), (4, 2), (9, 2), (10, 2)] (.op 12 2 (.nil)) zN 43 (by kernel_rfl) (by kernel_rfl) (by kernel_rfl) (by intro p hp; simp only [List.mem_cons, List.not_mem_nil, or_false] at hp; subst hp <;> exact flOp_of rfl rfl rfl (fun ev x => run_allocR rfl newN ev x)) (fun _ _ _ _ h => h) ?_
  (refine wpX_pure (v := ?_) rfl rfl ?_ ?_; rotate_left; (intro wx; go_simp; try go_bits) <;> (with_reducible rfl)); (try simp only [Act.put, nq1, nq2, nq3, nq4, nq5, nq6])
  refine wpX_loadP rfl rfl rfl rfl HS.out (.tail _ (.tail _ (.head _))) rowN (.q1 (NA.arr ‹_›) (NA.arr ‹_›)) ?_; (try simp only [Act.put, nq1, nq2, nq3, nq4, nq5, nq6])
  (refine wpX_pure (v := ?_) rfl rfl ?_ ?_; rotate_left; (intro wx; go_simp; try go_bits) <;> (with_reducible rfl)); (try simp only [Act.put, nq1, nq2, nq3, nq4, nq5, nq6])
  refine wpX_loadP rfl rfl rfl rfl HS.out (.tail _ (.tail _ (.head _))) rowN (.q0 (NA.arr ‹_›)) ?_; (try simp only [Act.put, nq1, nq2, nq3, nq4, nq5, nq6])
  (refine wpX_pure (v := ?_) rfl rfl ?_ ?_; rotate_left; (intro wx; go_simp; try go_bits) <;> (with_reducible rfl)); (try simp only [Act.put, nq1, nq2, nq3, nq4, nq5, nq6])
  refine wpX_loadP rfl rfl rfl rfl HS.out (.tail _ (.head _)) rowN (.q1 (NA.arr ‹_›) (NA.arr ‹_›)) ?_; (try simp only [Act.put, nq1, nq2, nq3, nq4, nq5, nq6])
  (refine wpX_pure (v := ?_) rfl rfl ?_ ?_; rotate_left; (intro wx; go_simp; try go_bits) <;> (with_reducible rfl)); (try simp only [Act.put, nq1, nq2, nq3, nq4, nq5, nq6])
  refine wpX_loadP rfl rfl rfl rfl HS.out (.tail _ (.head _)) rowN (.q0 (NA.arr ‹_›)) ?_; (try simp only [Act.put, nq1, nq2, nq3, nq4, nq5, nq6])
  refine wpX_callF rfl rfl rfl en42_pq rfl (fun x => subNA x ‹_› ‹_›) ?_; rintro xw e wy ⟨z, hz, rfl, hb⟩; refine ⟨_, rfl, hb, ?_⟩; (try simp only [Act.put, nq1, nq2, nq3, nq4, nq5, nq6])
  refine wpX_callF rfl rfl rfl en42_pq rfl (fun x => subNA x ‹_› ‹_›) ?_; rintro xw e wy ⟨z, hz, rfl, hb⟩; refine ⟨_, rfl, hb, ?_⟩; (try simp only [Act.put, nq1, nq2, nq3, nq4, nq5, nq6])
  refine wpX_callF rfl rfl rfl en34_pq rfl (fun x => mulNA x ‹_› ‹_›) ?_; rintro xw e wy ⟨z, hz, rfl, hb⟩; refine ⟨_, rfl, hb, ?_⟩; (try simp only [Act.put, nq1, nq2, nq3, nq4, nq5, nq6])
  refine wpX_nil ?_; intro G xz hx0 hx hF; have hS9 := HS.out.floats hx0 hF _ (by decide) (fun _ h => h); simp only [List.map_cons, List.map_nil, List.cons_append, List.nil_append] at hS9; have HS := hide hS9; have HX := hide hx0; have HG := hide hF.at_; clear hS9 hF hx0 hx; simp only [putsE, List.foldl_cons, List.foldl_nil]; (try simp only [Act.put, nq1, nq2, nq3, nq4, nq5, nq6])
  refine wpS_storeF rfl rfl rfl rfl rfl HS.out HX.out (HG.out 11 (by simp)).1 rowN (.head) (by first | exact NA.arr ‹_› | exact arr_zN) (by first | exact NA.arr ‹_› | exact arr_zN) ?_; intro wz hS9 hX9; have HS := hide hS9; have HX := hide hX9; clear hS9 hX9; (try simp only [Act.put, nq1, nq2, nq3, nq4, nq5, nq6])
  refine wpS_nil ?_
  go_wp2_with fail
  have HS := hide HS.out.drew
  refine wp_region_XE [(11, 6)] [(0, 1), (1, 0), (2, 1), (3, 0), (5, 1), (6, 0), (7, 1), (8, 0), (4, 2), (9, 2), (10, 2)] (.op 12 2 (.nil)) zN 43 (by kernel_rfl) (by kernel_rfl) (by kernel_rfl) (by intro p hp; simp only [List.mem_cons, List.not_mem_nil, or_false] at hp; subst hp <;> exact flOp_of rfl rfl rfl (fun ev x => run_allocR rfl newN ev x)) (fun _ _ _ _ h => h) ?_
  (refine wpX_pure (v := ?_) rfl rfl ?_ ?_; rotate_left; (intro wx; go_simp; try go_bits) <;> (with_reducible rfl)); (try simp only [Act.put, nq1, nq2, nq3, nq4, nq5, nq6])
  refine wpX_loadP rfl rfl rfl rfl HS.out (.tail _ (.tail _ (.tail _ (.head _)))) rowN (.q1 (NA.arr ‹_›) (NA.arr ‹_›)) ?_; (try simp only [Act.put, nq1, nq2, nq3, nq4, nq5, nq6])
  (refine wpX_pure (v := ?_) rfl rfl ?_ ?_; rotate_left; (intro wx; go_simp; try go_bits) <;> (with_reducible rfl)); (try simp only [Act.put, nq1, nq2, nq3, nq4, nq5, nq6])
  refine wpX_loadP rfl rfl rfl rfl HS.out (.tail _ (.tail _ (.tail _ (.head _)))) rowN (.q0 (NA.arr ‹_›)) ?_; (try simp only [Act.put, nq1, nq2, nq3, nq4, nq5, nq6])
  (refine wpX_pure (v := ?_) rfl rfl ?_ ?_; rotate_left; (intro wx; go_simp; try go_bits) <;> (with_reducible rfl)); (try simp only [Act.put, nq1, nq2, nq3, nq4, nq5, nq6])
  refine wpX_loadP rfl rfl rfl rfl HS.out (.tail _ (.tail _ (.head _))) rowN (.q1 (NA.arr ‹_›) (NA.arr ‹_›)) ?_; (try simp only [Act.put, nq1, nq2, nq3, nq4, nq5, nq6])
  (refine wpX_pure (v := ?_) rfl rfl ?_ ?_; rotate_left; (intro wx; go_simp; try go_bits) <;> (with_reducible rfl)); (try simp only [Act.put, nq1, nq2, nq3, nq4, nq5, nq6])
  refine wpX_loadP rfl rfl rfl rfl HS.out (.tail _ (.tail _ (.head _))) rowN (.q0 (NA.arr ‹_›)) ?_; (try simp only [Act.put, nq1, nq2, nq3, nq4, nq5, nq6])
  refine wpX_callF rfl rfl rfl en43_pq rfl (fun x => addNA x ‹_› ‹_›) ?_; rintro xw e wy ⟨z, hz, rfl, hb⟩; refine ⟨_, rfl, hb, ?_⟩; (try simp only [Act.put, nq1, nq2, nq3, nq4, nq5, nq6])
  refine wpX_callF rfl rfl rfl en43_pq rfl (fun x => addNA x ‹_› ‹_›) ?_; rintro xw e wy ⟨z, hz, rfl, hb⟩; refine ⟨_, rfl, hb, ?_⟩; (try simp only [Act.put, nq1, nq2, nq3, nq4, nq5, nq6])
  refine wpX_callF rfl rfl rfl en34_pq rfl (fun x => mulNA x ‹_› ‹_›) ?_; rintro xw e wy ⟨z, hz, rfl, hb⟩; refine ⟨_, rfl, hb, ?_⟩; (try simp only [Act.put, nq1, nq2, nq3, nq4, nq5, nq6])
  refine wpX_nil ?_; intro G xz hx0 hx hF; have hS9 := HS.out.floats hx0 hF _ (by decide) (fun _ h => h); simp only [List.map_cons, List.map_nil, List.cons_append, List.nil_append] at hS9; have HS := hide hS9; have HX := hide hx0; have HG := hide hF.at_; clear hS9 hF hx0 hx; simp only [putsE, List.foldl_cons, List.foldl_nil]; (try simp only [Act.put, nq1, nq2, nq3, nq4, nq5, nq6])
  refine wpS_storeF rfl rfl rfl rfl rfl HS.out HX.out (HG.out 11 (by simp)).1 rowN (.head) (by first | exact NA.arr ‹_› | exact arr_zN) (by first | exact NA.arr ‹_› | exact arr_zN) ?_; intro wz hS9 hX9; have HS := hide hS9; have HX := hide hX9; clear hS9 hX9; (try simp only [Act.put, nq1, nq2, nq3, nq4, nq5, nq6])
  refine wpS_nil ?_
  go_wp2_with (first | (go_at_call 79; (with_reducible refine (dNA _).mono ?_); rintro e wy ⟨z, hz, rfl, hb⟩; have HS := hide (HS.out.call hb)) | (go_at_call 50; (with_reducible refine (mulNA _ (by assumption) (by assumption)).mono ?_); rintro e wy ⟨z, hz, rfl, hb⟩; try have HS := hide (HS.out.call hb)) | (go_at_call 78; (with_reducible refine (addNA _ (by assumption) (by assumption)).mono ?_); rintro e wy ⟨z, hz, rfl, hb⟩; try have HS := hide (HS.out.call hb)) | (go_at_call 77; (with_reducible refine (subNA _ (by assumption) (by assumption)).mono ?_); rintro e wy ⟨z, hz, rfl, hb⟩; try have HS := hide (HS.out.call hb)) | (go_at_call 48; (with_reducible refine (invNA _ (by assumption)).mono ?_); rintro e wy ⟨z, hz, rfl, hb⟩; try have HS := hide (HS.out.call hb)) | (go_at_call 53; (with_reducible refine (smallNA1 _).mono ?_); rintro e wy ⟨z, hz, rfl, hb⟩; try have HS := hide (HS.out.call hb)) | (refine wl_loadP rfl rfl rfl HS.out (.tail _ (.tail _ (.tail _ (.tail _ (.head _))))) rowN (.q3 (NA.arr ‹_›) (NA.arr ‹_›) (NA.arr ‹_›) (NA.arr ‹_›)) ?_; (try simp only [Act.put, nq1, nq2, nq3, nq4, nq5, nq6])) | (refine wl_loadP rfl rfl rfl HS.out (.tail _ (.tail _ (.tail _ (.head _)))) rowN (.q3 (NA.arr ‹_›) (NA.arr ‹_›) (NA.arr ‹_›) (NA.arr ‹_›)) ?_; (try simp only [Act.put, nq1, nq2, nq3, nq4, nq5, nq6])) | (refine wl_storeR rfl rfl rfl rfl HS.out rowN (.head) (by first | exact NA.arr ‹_› | exact arr_zN) (by first | exact NA.arr ‹_› | exact arr_zN) ?_; intro wz hS9; have HS := hide hS9; clear hS9; (try simp only [Act.put, nq1, nq2, nq3, nq4, nq5, nq6])) | (refine wl_loadP rfl rfl rfl HS.out (.tail _ (.tail _ (.tail _ (.tail _ (.tail _ (.head _)))))) rowN (.q2 (NA.arr ‹_›) (NA.arr ‹_›) (NA.arr ‹_›)) ?_; (try simp only [Act.put, nq1, nq2, nq3, nq4, nq5, nq6])) | (refine wl_loadP rfl rfl rfl HS.out (.tail _ (.tail _ (.tail _ (.tail _ (.head _))))) rowN (.q2 (NA.arr ‹_›) (NA.arr ‹_›) (NA.arr ‹_›)) ?_; (try simp only [Act.put, nq1, nq2, nq3, nq4, nq5, nq6])) | (refine wl_loadP rfl rfl rfl HS.out (.head _) rowN (.all (by first | exact NA.arr ‹_› | exact arr_zN)) ?_; (try simp only [Act.put, nq1, nq2, nq3, nq4, nq5, nq6])) | (refine wl_allocR rfl rfl HS.out newN ?_; intro gz wz hS9; have HS := hide hS9; clear hS9; (try simp only [Act.put, nq1, nq2, nq3, nq4, nq5, nq6])))
  have HS := hide HS.out.drew
  refine wp_region_XE [(12, 9), (13, 10), (14, 11), (15, 12)] [(0, 0), (1, 0), (3, 0), (4, 0), (6, 0), (7, 0), (9, 0), (10, 0), (2, 2), (5, 2), (8, 2), (11, 2)] (.op 16 2 (.op 17 2 (.op 18 2 (.op 19 2 (.nil))))) zN 43 (by kernel_rfl) (by kernel_rfl) (by kernel_rfl) (by intro p hp; simp only [List.mem_cons, List.not_mem_nil, or_false] at hp; rcases hp with rfl | rfl | rfl | rfl <;> exact flOp_of rfl rfl rfl (fun ev x => run_allocR rfl newN ev x)) (fun _ _ _ _ h => h) ?_
  refine wpX_loadP rfl rfl rfl rfl HS.out (.tail _ (.tail _ (.head _))) rowN (.all (by first | exact NA.arr ‹_› | exact arr_zN)) ?_; (try simp only [Act.put, nq1, nq2, nq3, nq4, nq5, nq6])
  refine wpX_loadP rfl rfl rfl rfl HS.out (.tail _ (.tail _ (.tail _ (.head _)))) rowN (.all (by first | exact NA.arr ‹_› | exact arr_zN)) ?_; (try simp only [Act.put, nq1, nq2, nq3, nq4, nq5, nq6])
  refine wpX_loadP rfl rfl rfl rfl HS.out (.head _) rowN (.all (by first | exact NA.arr ‹_› | exact arr_zN)) ?_; (try simp only [Act.put, nq1, nq2, nq3, nq4, nq5, nq6])
  refine wpX_loadP rfl rfl rfl rfl HS.out (.tail _ (.head _)) rowN (.all (by first | exact NA.arr ‹_› | exact arr_zN)) ?_; (try simp only [Act.put, nq1, nq2, nq3, nq4, nq5, nq6])
  refine wpX_loadP rfl rfl rfl rfl HS.out (.head _) rowN (.all (by first | exact NA.arr ‹_› | exact arr_zN)) ?_; (try simp only [Act.put, nq1, nq2, nq3, nq4, nq5, nq6])
  refine wpX_loadP rfl rfl rfl rfl HS.out (.tail _ (.head _)) rowN (.all (by first | exact NA.arr ‹_› | exact arr_zN)) ?_; (try simp only [Act.put, nq1, nq2, nq3, nq4, nq5, nq6])
  refine wpX_loadP rfl rfl rfl rfl HS.out (.tail _ (.tail _ (.head _))) rowN (.all (by first | exact NA.arr ‹_› | exact arr_zN)) ?_; (try simp only [Act.put, nq1, nq2, nq3, nq4, nq5, nq6])
  refine wpX_loadP rfl rfl rfl rfl HS.out (.tail _ (.tail _ (.tail _ (.head _)))) rowN (.all (by first | exact NA.arr ‹_› | exact arr_zN)) ?_; (try simp only [Act.put, nq1, nq2, nq3, nq4, nq5, nq6])
  refine wpX_callF rfl rfl rfl en42_pq rfl (fun x => subNA x ‹_› ‹_›) ?_; rintro xw e wy ⟨z, hz, rfl, hb⟩; refine ⟨_, rfl, hb, ?_⟩; (try simp only [Act.put, nq1, nq2, nq3, nq4, nq5, nq6])
  refine wpX_callF rfl rfl rfl en42_pq rfl (fun x => subNA x ‹_› ‹_›) ?_; rintro xw e wy ⟨z, hz, rfl, hb⟩; refine ⟨_, rfl, hb, ?_⟩; (try simp only [Act.put, nq1, nq2, nq3, nq4, nq5, nq6])
  refine wpX_callF rfl rfl rfl en43_pq rfl (fun x => addNA x ‹_› ‹_›) ?_; rintro xw e wy ⟨z, hz, rfl, hb⟩; refine ⟨_, rfl, hb, ?_⟩; (try simp only [Act.put, nq1, nq2, nq3, nq4, nq5, nq6])
  refine wpX_callF rfl rfl rfl en43_pq rfl (fun x => addNA x ‹_› ‹_›) ?_; rintro xw e wy ⟨z, hz, rfl, hb⟩; refine ⟨_, rfl, hb, ?_⟩; (try simp only [Act.put, nq1, nq2, nq3, nq4, nq5, nq6])
  refine wpX_nil ?_; intro G xz hx0 hx hF; have hS9 := HS.out.floats hx0 hF _ (by decide) (fun _ h => h); simp only [List.map_cons, List.map_nil, List.cons_append, List.nil_append] at hS9; have HS := hide hS9; have HX := hide hx0; have HG := hide hF.at_; clear hS9 hF hx0 hx; simp only [putsE, List.foldl_cons, List.foldl_nil]; (try simp only [Act.put, nq1, nq2, nq3, nq4, nq5, nq6])
  refine wpS_storeF rfl rfl rfl rfl rfl HS.out HX.out (HG.out 12 (by simp)).1 rowN (.head) (by first | exact NA.arr ‹_› | exact arr_zN) (by first | exact NA.arr ‹_› | exact arr_zN) ?_; intro wz hS9 hX9; have HS := hide hS9; have HX := hide hX9; clear hS9 hX9; (try simp only [Act.put, nq1, nq2, nq3, nq4, nq5, nq6])
  refine wpS_storeF rfl rfl rfl rfl rfl HS.out HX.out (HG.out 13 (by simp)).1 rowN (.tail (.head)) (by first | exact NA.arr ‹_› | exact arr_zN) (by first | exact NA.arr ‹_› | exact arr_zN) ?_; intro wz hS9 hX9; have HS := hide hS9; have HX := hide hX9; clear hS9 hX9; (try simp only [Act.put, nq1, nq2, nq3, nq4, nq5, nq6])
  refine wpS_storeF rfl rfl rfl rfl rfl HS.out HX.out (HG.out 14 (by simp)).1 rowN (.tail (.tail (.head))) (by first | exact NA.arr ‹_› | exact arr_zN) (by first | exact NA.arr ‹_› | exact arr_zN) ?_; intro wz hS9 hX9; have HS := hide hS9; have HX := hide hX9; clear hS9 hX9; (try simp only [Act.put, nq1, nq2, nq3, nq4, nq5, nq6])
  refine wpS_storeF rfl rfl rfl rfl rfl HS.out HX.out (HG.out 15 (by simp)).1 rowN (.tail (.tail (.tail (.head)))) (by first | exact NA.arr ‹_› | exact arr_zN) (by first | exact NA.arr ‹_› | exact arr_zN) ?_; intro wz hS9 hX9; have HS := hide hS9; have HX := hide hX9; clear hS9 hX9; (try simp only [Act.put, nq1, nq2, nq3, nq4, nq5, nq6])
  refine wpS_nil ?_
  go_wp2_with fail
  have HS := hide HS.out.drew
  refine wp_region_T [(0, 0), (1, 0), (3, 0), (4, 0), (6, 0), (7, 0), (9, 0), (10, 0), (2, 2), (5, 2), (8, 2), (11, 2), (12, 1), (13, 3)] (by kernel_rfl) (by kernel_rfl) (fun _ _ _ _ h => h) ?_
  refine wpT_loadP rfl rfl rfl rfl HS.out (.head _) rowN (.all (by first | exact NA.arr ‹_› | exact arr_zN)) ?_; (try simp only [Act.put, nq1, nq2, nq3, nq4, nq5, nq6])
  refine wpT_loadP rfl rfl rfl rfl HS.out (.tail _ (.head _)) rowN (.all (by first | exact NA.arr ‹_› | exact arr_zN)) ?_; (try simp only [Act.put, nq1, nq2, nq3, nq4, nq5, nq6])
  refine wpT_loadP rfl rfl rfl rfl HS.out (.tail _ (.tail _ (.tail _ (.head _)))) rowN (.all (by first | exact NA.arr ‹_› | exact arr_zN)) ?_; (try simp only [Act.put, nq1, nq2, nq3, nq4, nq5, nq6])
  refine wpT_loadP rfl rfl rfl rfl HS.out (.tail _ (.tail _ (.head _))) rowN (.all (by first | exact NA.arr ‹_› | exact arr_zN)) ?_; (try simp only [Act.put, nq1, nq2, nq3, nq4, nq5, nq6])
  refine wpT_loadP rfl rfl rfl rfl HS.out (.tail _ (.tail _ (.head _))) rowN (.all (by first | exact NA.arr ‹_› | exact arr_zN)) ?_; (try simp only [Act.put, nq1, nq2, nq3, nq4, nq5, nq6])
  refine wpT_loadP rfl rfl rfl rfl HS.out (.tail _ (.head _)) rowN (.all (by first | exact NA.arr ‹_› | exact arr_zN)) ?_; (try simp only [Act.put, nq1, nq2, nq3, nq4, nq5, nq6])
  refine wpT_loadP rfl rfl rfl rfl HS.out (.head _) rowN (.all (by first | exact NA.arr ‹_› | exact arr_zN)) ?_; (try simp only [Act.put, nq1, nq2, nq3, nq4, nq5, nq6])
  refine wpT_loadP rfl rfl rfl rfl HS.out (.tail _ (.tail _ (.tail _ (.head _)))) rowN (.all (by first | exact NA.arr ‹_› | exact arr_zN)) ?_; (try simp only [Act.put, nq1, nq2, nq3, nq4, nq5, nq6])
  refine wpT_callF rfl rfl rfl en34_pq rfl (mulNA _ ‹_› ‹_›) ?_; rintro e wy ⟨z, hz, rfl, hb⟩; refine ⟨_, rfl, hb, ?_⟩; have HS := hide (HS.out.call hb); (try simp only [Act.put, nq1, nq2, nq3, nq4, nq5, nq6])
  refine wpT_callF rfl rfl rfl en34_pq rfl (mulNA _ ‹_› ‹_›) ?_; rintro e wy ⟨z, hz, rfl, hb⟩; refine ⟨_, rfl, hb, ?_⟩; have HS := hide (HS.out.call hb); (try simp only [Act.put, nq1, nq2, nq3, nq4, nq5, nq6])
  refine wpT_callF rfl rfl rfl en34_pq rfl (mulNA _ ‹_› ‹_›) ?_; rintro e wy ⟨z, hz, rfl, hb⟩; refine ⟨_, rfl, hb, ?_⟩; have HS := hide (HS.out.call hb); (try simp only [Act.put, nq1, nq2, nq3, nq4, nq5, nq6])
  refine wpT_callF rfl rfl rfl en34_pq rfl (mulNA _ ‹_› ‹_›) ?_; rintro e wy ⟨z, hz, rfl, hb⟩; refine ⟨_, rfl, hb, ?_⟩; have HS := hide (HS.out.call hb); (try simp only [Act.put, nq1, nq2, nq3, nq4, nq5, nq6])
  refine wpT_pure rfl rfl (fun x => run_build4 rfl rfl rfl rfl rfl buildQ (exN ‹_›) (exN ‹_›) (exN ‹_›) (exN ‹_›) x) ?_; (try simp only [Act.put, nq1, nq2, nq3, nq4, nq5, nq6])
  refine wpT_late rfl rfl ?_; intro K hK; refine wp_storeR rfl rfl rfl HS.out rowQ (.tail (.tail (.tail (.tail (.tail (.tail (.tail (.tail (.head))))))))) (by first | exact arr_zQ | exact QtN.arr ‹_› | exact qN ‹_› ‹_› ‹_› ‹_›) (by first | exact arr_zQ | exact QtN.arr ‹_› | exact qN ‹_› ‹_› ‹_› ‹_›) ?_; intro wz hS9; have HS := hide hS9; clear hS9; refine hK _ _ ?_; (try simp only [Act.put, nq1, nq2, nq3, nq4, nq5, nq6])
  refine wpT_nil ?_
  go_wp2_with fail
  refine bodyPost_ret (results_cell_row rfl _ _ _ _ _ _ _ rfl (HS.out.heapM (by (repeat first | exact .head _ | apply List.Mem.tail))) Tryz.underlying45 rfl (by first | (rw [(EA.arr ‹_›).size]; kernel_rfl) | (rw [(NA.arr ‹_›).size]; kernel_rfl) | (rw [(qE ‹_› ‹_› ‹_› ‹_›).size]; kernel_rfl) | (rw [(qN ‹_› ‹_› ‹_› ‹_›).size]; kernel_rfl) | (rw [(PtN.arr ‹_›).size]; kernel_rfl) | (rw [(PtV.arr ‹_›).size]; kernel_rfl) | (rw [(QtN.arr ‹_›).size]; kernel_rfl))) rfl ?_
  have hr := rp_plus h5 g5
  rw [plJ_page] at hr
  exact ⟨_, ⟨_, _, _, _, _, rfl, by assumption, by assumption, by assumption, by assumption, hr⟩, rfl, HS.out.below⟩
end Go.Proofs.YtkelegjppnfoaaaGreatDoor

namespace Go.Proofs.YtkelegjppnfoaaaGreatDoor
open Go.RowKit
set_option linter.unusedSimpArgs false
def halfE : Nat := 2 ^ 252 - 3
def halfB (i : Nat) : List Bool := (List.range 255).map (fun j => decide (j < i ∧ j < 252 ∧ j ≠ 1))
theorem halfB_len (i : Nat) : (halfB i).length = 255 := by simp [halfB]
theorem halfB_get (i k : Nat) (h : k < 255) : (halfB i)[k]? = some (decide (k < i ∧ k < 252 ∧ k ≠ 1)) := by
  unfold halfB
  rw [List.getElem?_map, List.getElem?_range h]
  rfl
theorem halfB_set (i : Nat) (h : i < 255) : (halfB i).set i (decide (i < 252 ∧ i ≠ 1)) = halfB (i + 1) := by
  apply List.ext_getElem?
  intro k
  rcases Nat.lt_or_ge k 255 with hk | hk
  · rw [halfB_get _ _ hk, List.getElem?_set]
    split
    · rename_i e
      subst e
      rw [if_pos (by rw [halfB_len]; exact hk)]
      congr 1
      rw [decide_eq_decide]
      omega
    · rw [halfB_get _ _ hk]
      congr 1
      rw [decide_eq_decide]
      omega
  · rw [List.getElem?_eq_none (by rw [List.length_set, halfB_len]; exact hk), List.getElem?_eq_none (by rw [halfB_len]; exact hk)]
theorem halfBE : bitE (halfB 255) 255 = halfE := by unfold halfE; decide +kernel
def HvRel (w : World) (xs : List Int) (iv : Value) (wr : World) : Prop :=
  ∃ i : Nat, i ≤ 255 ∧ iv = .int .i64 (i : Int) ∧ St w NoB wr [.cells (w.heap.size + 2) (blv (halfB i)).toArray 114, .cells (w.heap.size + 1) (ivs (List.replicate 16 0)).toArray 43, .cells w.heap.size (ivs xs).toArray 43]
theorem zero255h (W : World) : (zeroValue 114).run Tryz.prog W = .ok (.agg (blv (halfB 0)).toArray) W := by kernel_rfl
theorem enPowerNh (args : Array Value) (w : World) : (callFunc 87 args).run Tryz.prog w = .ok (.enter 87 args) w := by kernel_rfl
set_option maxRecDepth 100000 in
set_option maxHeartbeats 1600000 in
theorem halfN_any (xs : List Int) (X : FK) (w : World) (h : NE xs X) :
    Calls Tryz.prog 97 #[.agg (ivs xs).toArray] w (ResN w (fpw X halfE)) := by
  have HN := hide h
  have HP := hide (fun W => powerN_any xs X (halfB 255) W h (halfB_len 255))
  rw [halfBE] at HP
  have hS0 := (((St.init w NoB).alloc (ivs xs).toArray 43).alloc (ivs (List.replicate 16 0)).toArray 43).alloc (blv (halfB 0)).toArray 114
  rw [size_alloc1, size_alloc1] at hS0
  have HS0 := hide hS0
  have hz := zero255h
  clear hS0 h
  go_enter Tryz.func97, Tryz.ntmps97
  go_wp2_with fail
  go_loopw [5] (fun i wr => HvRel w xs i wr) (fun i _ => 255 - (intOf i).toNat)
  case atStart => exact ⟨0, by omega, rfl, HS0.out⟩
  case round =>
    clear HS0 hz
    obtain ⟨i, hi, rfl, hS⟩ := hrel
    have HS := hide hS
    by_cases hlt : i < 255
    · have d255 : decide ((i : Int) < 255) = true := by simp; omega
      have i255 : (i : Int) < 255 := by omega
      have c0 : wr.cell? ⟨w.heap.size + 2, i, none⟩ = some (.bool (decide (i < i ∧ i < 252 ∧ i ≠ 1))) := by rw [hS.cell 0 rfl i]; exact blv_get (halfB_get i i hlt)
      have f0 := hS.free 0 rfl i
      have HT := hide (halfB_set i hlt)
      clear hS
      by_cases h2 : i = 1
      · subst h2
        go_wp2_with fail
        go_roundw
        case rel =>
          have h3 := HS.out.setCell 0 rfl 1 (.bool false)
          rw [List.set_cons_zero, blv_set] at h3
          exact ⟨2, by omega, rfl, by have := HT.out; rw [show decide ((1 : Nat) < 252 ∧ (1 : Nat) ≠ 1) = false from by decide] at this; rw [← this]; exact h3⟩
        case measure => (simp [intOf]) <;> omega
      · by_cases h4 : i < 252
        · have e4' : decide ((i : Int) < 252) = true := by simp; omega
          have n4 : (i : Int) < 252 := by omega
          have n2 : ¬ (i : Int) = 1 := by omega
          have e2 : ((i : Int) != 1) = true := by simp; omega
          have e2' : decide ((i : Int) = 1) = false := by simp; omega
          have HT2 := hide (show (halfB i).set i true = halfB (i + 1) by have := HT.out; rw [show decide (i < 252 ∧ i ≠ 1) = true from by simp; omega] at this; exact this)
          clear h2 h4 HT
          go_wp2_with fail
          go_roundw
          case rel =>
            have h3 := HS.out.setCell 0 rfl i (.bool true)
            rw [List.set_cons_zero, blv_set, HT2.out] at h3
            exact ⟨i + 1, by omega, by go_num, h3⟩
          case measure => (simp [intOf]) <;> omega
        · have e4' : decide ((i : Int) < 252) = false := by simp; omega
          have n4 : ¬ (i : Int) < 252 := by omega
          have HT2 := hide (show (halfB i).set i false = halfB (i + 1) by have := HT.out; rw [show decide (i < 252 ∧ i ≠ 1) = false from by simp; omega] at this; exact this)
          clear h2 h4 HT
          go_wp2_with fail
          go_roundw
          case rel =>
            have h3 := HS.out.setCell 0 rfl i (.bool false)
            rw [List.set_cons_zero, blv_set, HT2.out] at h3
            exact ⟨i + 1, by omega, by go_num, h3⟩
          case measure => (simp [intOf]) <;> omega
    · obtain rfl : i = 255 := by omega
      have hszB : (blv (halfB 255)).toArray.size = 255 := by rw [List.size_toArray, blv_len, halfB_len]
      clear hS
      go_upto_region 7 with fail
      refine wp_region_list ?_
      refine wpList_load_row rfl 43 (.tmp 1) rfl w.heap.size rfl 43 (ivs xs).toArray _ _ (HS.out.heap 2 rfl) Tryz.underlying43 rfl (by rw [ivs_size HN.out]; kernel_rfl) ?_
      refine wpList_load_row rfl 114 (.tmp 3) rfl (w.heap.size + 2) rfl 114 (blv (halfB 255)).toArray _ _ (HS.out.heap 0 rfl) Tryz.underlying114 rfl (by rw [hszB]; kernel_rfl) ?_
      refine wl_callN rfl rfl enPowerNh rfl (HP.out _) ?_
      rintro e w2 ⟨ys, hy, rfl, hb2⟩
      refine ⟨_, rfl, ?_⟩
      have HY := hide hy
      have HS1 := hide (HS.out.call hb2)
      have HS3 := hide (HS1.out.setRow 1 rfl (ivs ys).toArray)
      clear HS hy
      refine wpList_store_row rfl 43 (.tmp 2) (.tmp 19) rfl (w.heap.size + 1) (ivs ys).toArray rfl rfl 43 _ (HS1.out.heap 1 rfl) (by rw [ivs_size HY.out]; kernel_rfl) (by rw [ivs_size HY.out]; rfl) (ivs_all _) ?_
      refine wpList_nil ?_
      go_wp2_with fail
      refine bodyPost_ret (results_cell_row rfl _ _ (w.heap.size + 1) _ _ _ _ rfl (HS3.out.heap 1 rfl) Tryz.underlying43 rfl (by rw [ivs_size HY.out]; kernel_rfl)) rfl ?_
      exact ⟨ys, HY.out, rfl, HS3.out.below⟩
end Go.Proofs.YtkelegjppnfoaaaGreatDoor

namespace Go.Proofs.YtkelegjppnfoaaaGreatDoor
open Go.RowKit
set_option linter.unusedSimpArgs false

theorem fpw_half (X : FK) : fpw X halfE = fpow X (2 ^ 252 - 3) := by
  unfold fpw fpow halfE
  with_reducible rfl
theorem halfNA {a : Array Value} {X : FK} (w : World) (ha : NA a X) : Calls Tryz.prog 97 #[.agg a] w (ResA w (fpow X (2 ^ 252 - 3))) := by
  obtain ⟨xs, rfl, h1⟩ := ha.ex
  rw [← fpw_half]
  exact (halfN_any xs X w h1).mono fun _ _ h => ResN.ra h
theorem rtX_page (U V : FK) : U * (V * V * V) * fpow (U * (V * V * V * (V * V * V) * V)) (2 ^ 252 - 3) = rtX U V := by
  unfold rtX
  congr 2
  grind
theorem en34_ru (args : Array Value) (w : World) : (callFunc 50 args).run Tryz.prog w = .ok (.enter 50 args) w := by kernel_rfl
theorem en47_ru (args : Array Value) (w : World) : (callFunc 80 args).run Tryz.prog w = .ok (.enter 80 args) w := by kernel_rfl
theorem en69_ru (args : Array Value) (w : World) : (callFunc 97 args).run Tryz.prog w = .ok (.enter 97 args) w := by kernel_rfl
theorem en70_ru (args : Array Value) (w : World) : (callFunc 98 args).run Tryz.prog w = .ok (.enter 98 args) w := by kernel_rfl
set_option maxRecDepth 100000 in
set_option maxHeartbeats 6400000 in
theorem rootN_any {u v : Array Value} {U V : FK} (w : World) (hu : NA u U) (hv : NA v V) :
    Calls Tryz.prog 76 #[.agg u, .agg v] w fun e w' => ∃ x, NA x ((rtF U V).getD 0) ∧ e = .returned (.tuple #[.agg x, .bool (rtF U V).isSome]) ∧ Below w.heap.size w w' := by
  obtain ⟨zz, hzz, hc⟩ : ∃ v, Tryz.prog.built 43 [] = some v ∧ NA v 0 := ⟨_, build0N, na_0⟩
  have HZZ := hide (And.intro hzz trivial)
  clear hzz
  have HS := hide (St.init w NoB)
  go_enter Tryz.func76, Tryz.ntmps76
  go_wp2_with (first | (refine wl_loadP rfl rfl rfl HS.out (by (repeat first | exact .head _ | apply List.Mem.tail)) (by first | exact rowE | exact rowP | exact rowN | exact rowQ) (by (first | exact .q0 (EA.arr ‹_›) | exact .q1 (EA.arr ‹_›) (EA.arr ‹_›) | exact .q2 (EA.arr ‹_›) (EA.arr ‹_›) (EA.arr ‹_›) | exact .q3 (EA.arr ‹_›) (EA.arr ‹_›) (EA.arr ‹_›) (EA.arr ‹_›) | exact .q0 (NA.arr ‹_›) | exact .q1 (NA.arr ‹_›) (NA.arr ‹_›) | exact .q2 (NA.arr ‹_›) (NA.arr ‹_›) (NA.arr ‹_›) | exact .q3 (NA.arr ‹_›) (NA.arr ‹_›) (NA.arr ‹_›) (NA.arr ‹_›) | exact .all (by (first | exact EA.arr ‹_› | exact NA.arr ‹_› | exact arr_zE | exact arr_zN | exact arr_zP | exact arr_zQ | exact PtN.arr ‹_› | exact PtV.arr ‹_› | exact QtN.arr ‹_› | exact qE ‹_› ‹_› ‹_› ‹_› | exact qN ‹_› ‹_› ‹_› ‹_›)))) ?_; (try simp only [Act.put, nq1, nq2, nq3, nq4, nq5, nq6])) | (refine wl_storeR rfl rfl rfl rfl HS.out (by first | exact rowE | exact rowP | exact rowN | exact rowQ) (by (repeat first | exact .head | apply Upd.tail)) (by (first | exact EA.arr ‹_› | exact NA.arr ‹_› | exact arr_zE | exact arr_zN | exact arr_zP | exact arr_zQ | exact PtN.arr ‹_› | exact PtV.arr ‹_› | exact QtN.arr ‹_› | exact qE ‹_› ‹_› ‹_› ‹_› | exact qN ‹_› ‹_› ‹_› ‹_›)) (by (first | exact EA.arr ‹_› | exact NA.arr ‹_› | exact arr_zE | exact arr_zN | exact arr_zP | exact arr_zQ | exact PtN.arr ‹_› | exact PtV.arr ‹_› | exact QtN.arr ‹_› | exact qE ‹_› ‹_› ‹_› ‹_› | exact qN ‹_› ‹_› ‹_› ‹_›)) ?_; intro wz hS9; have HS := hide hS9; clear hS9; (try simp only [Act.put, nq1, nq2, nq3, nq4, nq5, nq6])) | (refine wl_allocR rfl rfl HS.out (by first | exact newE | exact newP | exact newN | exact newQ) ?_; intro gz wz hS9; have HS := hide hS9; clear hS9; (try simp only [Act.put, nq1, nq2, nq3, nq4, nq5, nq6])) | (refine wl_boxR rfl rfl rfl HS.out ?_; intro gz wz hS9; have HS := hide hS9; clear hS9; (try simp only [Act.put, nq1, nq2, nq3, nq4, nq5, nq6])))
  have HS := hide HS.out.drew
  refine wp_region_XE [(5, 6)] [(0, 0), (1, 0), (3, 0), (2, 2), (4, 2)] (.op 6 2 (.nil)) zN 43 (by kernel_rfl) (by kernel_rfl) (by kernel_rfl) (by intro p hp; simp only [List.mem_cons, List.not_mem_nil, or_false] at hp; subst hp <;> exact flOp_of rfl rfl rfl (fun ev x => run_allocR rfl newN ev x)) (fun _ _ _ _ h => h) ?_
  refine wpX_loadP rfl rfl rfl rfl HS.out (.tail _ (.head _)) rowN (.all (by first | exact NA.arr ‹_› | exact arr_zN)) ?_; (try simp only [Act.put, nq1, nq2, nq3, nq4, nq5, nq6])
  refine wpX_loadP rfl rfl rfl rfl HS.out (.tail _ (.head _)) rowN (.all (by first | exact NA.arr ‹_› | exact arr_zN)) ?_; (try simp only [Act.put, nq1, nq2, nq3, nq4, nq5, nq6])
  refine wpX_loadP rfl rfl rfl rfl HS.out (.tail _ (.head _)) rowN (.all (by first | exact NA.arr ‹_› | exact arr_zN)) ?_; (try simp only [Act.put, nq1, nq2, nq3, nq4, nq5, nq6])
  refine wpX_callF rfl rfl rfl en34_ru rfl (fun x => mulNA x ‹_› ‹_›) ?_; rintro xw e wy ⟨z, hz, rfl, hb⟩; refine ⟨_, rfl, hb, ?_⟩; (try simp only [Act.put, nq1, nq2, nq3, nq4, nq5, nq6])
  refine wpX_callF rfl rfl rfl en34_ru rfl (fun x => mulNA x ‹_› ‹_›) ?_; rintro xw e wy ⟨z, hz, rfl, hb⟩; refine ⟨_, rfl, hb, ?_⟩; (try simp only [Act.put, nq1, nq2, nq3, nq4, nq5, nq6])
  refine wpX_nil ?_; intro G xz hx0 hx hF; have hS9 := HS.out.floats hx0 hF _ (by decide) (fun _ h => h); simp only [List.map_cons, List.map_nil, List.cons_append, List.nil_append] at hS9; have HS := hide hS9; have HX := hide hx0; have HG := hide hF.at_; clear hS9 hF hx0 hx; simp only [putsE, List.foldl_cons, List.foldl_nil]; (try simp only [Act.put, nq1, nq2, nq3, nq4, nq5, nq6])
  refine wpS_storeF rfl rfl rfl rfl rfl HS.out HX.out (HG.out 5 (by simp)).1 rowN (.head) (by first | exact NA.arr ‹_› | exact arr_zN) (by first | exact NA.arr ‹_› | exact arr_zN) ?_; intro wz hS9 hX9; have HS := hide hS9; have HX := hide hX9; clear hS9 hX9; (try simp only [Act.put, nq1, nq2, nq3, nq4, nq5, nq6])
  refine wpS_nil ?_
  go_wp2_with fail
  have HS := hide HS.out.drew
  refine wp_region_XE [(12, 7)] [(0, 0), (1, 0), (3, 0), (4, 0), (5, 0), (7, 0), (2, 2), (6, 2), (8, 2), (9, 2), (10, 2), (11, 2)] (.op 13 2 (.nil)) zN 43 (by kernel_rfl) (by kernel_rfl) (by kernel_rfl) (by intro p hp; simp only [List.mem_cons, List.not_mem_nil, or_false] at hp; subst hp <;> exact flOp_of rfl rfl rfl (fun ev x => run_allocR rfl newN ev x)) (fun _ _ _ _ h => h) ?_
  refine wpX_loadP rfl rfl rfl rfl HS.out (.tail _ (.tail _ (.tail _ (.head _)))) rowN (.all (by first | exact NA.arr ‹_› | exact arr_zN)) ?_; (try simp only [Act.put, nq1, nq2, nq3, nq4, nq5, nq6])
  refine wpX_loadP rfl rfl rfl rfl HS.out (.head _) rowN (.all (by first | exact NA.arr ‹_› | exact arr_zN)) ?_; (try simp only [Act.put, nq1, nq2, nq3, nq4, nq5, nq6])
  refine wpX_loadP rfl rfl rfl rfl HS.out (.tail _ (.tail _ (.tail _ (.head _)))) rowN (.all (by first | exact NA.arr ‹_› | exact arr_zN)) ?_; (try simp only [Act.put, nq1, nq2, nq3, nq4, nq5, nq6])
  refine wpX_loadP rfl rfl rfl rfl HS.out (.head _) rowN (.all (by first | exact NA.arr ‹_› | exact arr_zN)) ?_; (try simp only [Act.put, nq1, nq2, nq3, nq4, nq5, nq6])
  refine wpX_loadP rfl rfl rfl rfl HS.out (.head _) rowN (.all (by first | exact NA.arr ‹_› | exact arr_zN)) ?_; (try simp only [Act.put, nq1, nq2, nq3, nq4, nq5, nq6])
  refine wpX_loadP rfl rfl rfl rfl HS.out (.tail _ (.tail _ (.head _))) rowN (.all (by first | exact NA.arr ‹_› | exact arr_zN)) ?_; (try simp only [Act.put, nq1, nq2, nq3, nq4, nq5, nq6])
  refine wpX_callF rfl rfl rfl en34_ru rfl (fun x => mulNA x ‹_› ‹_›) ?_; rintro xw e wy ⟨z, hz, rfl, hb⟩; refine ⟨_, rfl, hb, ?_⟩; (try simp only [Act.put, nq1, nq2, nq3, nq4, nq5, nq6])
  refine wpX_callF rfl rfl rfl en34_ru rfl (fun x => mulNA x ‹_› ‹_›) ?_; rintro xw e wy ⟨z, hz, rfl, hb⟩; refine ⟨_, rfl, hb, ?_⟩; (try simp only [Act.put, nq1, nq2, nq3, nq4, nq5, nq6])
  refine wpX_callF rfl rfl rfl en34_ru rfl (fun x => mulNA x ‹_› ‹_›) ?_; rintro xw e wy ⟨z, hz, rfl, hb⟩; refine ⟨_, rfl, hb, ?_⟩; (try simp only [Act.put, nq1, nq2, nq3, nq4, nq5, nq6])
  refine wpX_callF rfl rfl rfl en34_ru rfl (fun x => mulNA x ‹_› ‹_›) ?_; rintro xw e wy ⟨z, hz, rfl, hb⟩; refine ⟨_, rfl, hb, ?_⟩; (try simp only [Act.put, nq1, nq2, nq3, nq4, nq5, nq6])
  refine wpX_callF rfl rfl rfl en69_ru rfl (fun x => halfNA x ‹_›) ?_; rintro xw e wy ⟨z, hz, rfl, hb⟩; refine ⟨_, rfl, hb, ?_⟩; (try simp only [Act.put, nq1, nq2, nq3, nq4, nq5, nq6])
  refine wpX_callF rfl rfl rfl en34_ru rfl (fun x => mulNA x ‹_› ‹_›) ?_; rintro xw e wy ⟨z, hz, rfl, hb⟩; refine ⟨_, rfl, hb, ?_⟩; (try simp only [Act.put, nq1, nq2, nq3, nq4, nq5, nq6])
  refine wpX_nil ?_; intro G xz hx0 hx hF; have hS9 := HS.out.floats hx0 hF _ (by decide) (fun _ h => h); simp only [List.map_cons, List.map_nil, List.cons_append, List.nil_append] at hS9; have HS := hide hS9; have HX := hide hx0; have HG := hide hF.at_; clear hS9 hF hx0 hx; simp only [putsE, List.foldl_cons, List.foldl_nil]; (try simp only [Act.put, nq1, nq2, nq3, nq4, nq5, nq6])
  refine wpS_storeF rfl rfl rfl rfl rfl HS.out HX.out (HG.out 12 (by simp)).1 rowN (.head) (by first | exact NA.arr ‹_› | exact arr_zN) (by first | exact NA.arr ‹_› | exact arr_zN) ?_; intro wz hS9 hX9; have HS := hide hS9; have HX := hide hX9; clear hS9 hX9; (try simp only [Act.put, nq1, nq2, nq3, nq4, nq5, nq6])
  refine wpS_nil ?_
  have hX := ‹NA _ (U * (V * V * V) * fpow (U * (V * V * V * (V * V * V) * V)) (2 ^ 252 - 3))›
  rw [rtX_page] at hX
  go_wp2_with fail
  have HS := hide HS.out.drew
  refine wp_region_T [(0, 0), (1, 0), (2, 0), (5, 0), (3, 2), (4, 2), (6, 2), (7, 1)] (by kernel_rfl) (by kernel_rfl) (fun _ _ _ _ h => h) ?_
  refine wpT_loadP rfl rfl rfl rfl HS.out (.tail _ (.tail _ (.tail _ (.head _)))) rowN (.all (by first | exact NA.arr ‹_› | exact arr_zN)) ?_; (try simp only [Act.put, nq1, nq2, nq3, nq4, nq5, nq6])
  refine wpT_loadP rfl rfl rfl rfl HS.out (.head _) rowN (.all (by first | exact NA.arr ‹_› | exact arr_zN)) ?_; (try simp only [Act.put, nq1, nq2, nq3, nq4, nq5, nq6])
  refine wpT_loadP rfl rfl rfl rfl HS.out (.head _) rowN (.all (by first | exact NA.arr ‹_› | exact arr_zN)) ?_; (try simp only [Act.put, nq1, nq2, nq3, nq4, nq5, nq6])
  refine wpT_loadP rfl rfl rfl rfl HS.out (.tail _ (.tail _ (.tail _ (.tail _ (.head _))))) rowN (.all (by first | exact NA.arr ‹_› | exact arr_zN)) ?_; (try simp only [Act.put, nq1, nq2, nq3, nq4, nq5, nq6])
  refine wpT_callF rfl rfl rfl en34_ru rfl (mulNA _ ‹_› ‹_›) ?_; rintro e wy ⟨z, hz, rfl, hb⟩; refine ⟨_, rfl, hb, ?_⟩; have HS := hide (HS.out.call hb); (try simp only [Act.put, nq1, nq2, nq3, nq4, nq5, nq6])
  refine wpT_callF rfl rfl rfl en34_ru rfl (mulNA _ ‹_› ‹_›) ?_; rintro e wy ⟨z, hz, rfl, hb⟩; refine ⟨_, rfl, hb, ?_⟩; have HS := hide (HS.out.call hb); (try simp only [Act.put, nq1, nq2, nq3, nq4, nq5, nq6])
  refine wpT_callF rfl rfl rfl en47_ru rfl (sameNA _ ‹_› ‹_›) ?_; rintro e wy ⟨rfl, hb⟩; refine ⟨_, rfl, hb, ?_⟩; have HS := hide (HS.out.call hb); (try simp only [Act.put, nq1, nq2, nq3, nq4, nq5, nq6])
  (refine wpT_pure (v := ?_) rfl rfl ?_ ?_; rotate_left; (intro wx; go_simp; try go_bits) <;> (with_reducible rfl)); (try simp only [Act.put, nq1, nq2, nq3, nq4, nq5, nq6])
  refine wpT_nil ?_
  have HE := hide (show rtX U V * rtX U V * V = V * (rtX U V * rtX U V) by grind)
  by_cases c1 : V * (rtX U V * rtX U V) = U
  · have hF : rtF U V = some (evn (rtX U V)) := by unfold rtF; rw [HE.out, if_pos c1]
    have HC := hide c1
    clear c1
    rw [decide_eq_true HC.out, Bool.not_true]
    go_wp2_with fail
    have HS := hide HS.out.drew
    refine wp_region_T [(0, 0), (1, 0), (2, 0), (5, 0), (3, 2), (4, 2), (6, 2), (7, 1)] (by kernel_rfl) (by kernel_rfl) (fun _ _ _ _ h => h) ?_
    refine wpT_loadP rfl rfl rfl rfl HS.out (.tail _ (.tail _ (.tail _ (.head _)))) rowN (.all (by first | exact NA.arr ‹_› | exact arr_zN)) ?_; (try simp only [Act.put, nq1, nq2, nq3, nq4, nq5, nq6])
    refine wpT_loadP rfl rfl rfl rfl HS.out (.head _) rowN (.all (by first | exact NA.arr ‹_› | exact arr_zN)) ?_; (try simp only [Act.put, nq1, nq2, nq3, nq4, nq5, nq6])
    refine wpT_loadP rfl rfl rfl rfl HS.out (.head _) rowN (.all (by first | exact NA.arr ‹_› | exact arr_zN)) ?_; (try simp only [Act.put, nq1, nq2, nq3, nq4, nq5, nq6])
    refine wpT_loadP rfl rfl rfl rfl HS.out (.tail _ (.tail _ (.tail _ (.tail _ (.head _))))) rowN (.all (by first | exact NA.arr ‹_› | exact arr_zN)) ?_; (try simp only [Act.put, nq1, nq2, nq3, nq4, nq5, nq6])
    refine wpT_callF rfl rfl rfl en34_ru rfl (mulNA _ ‹_› ‹_›) ?_; rintro e wy ⟨z, hz, rfl, hb⟩; refine ⟨_, rfl, hb, ?_⟩; have HS := hide (HS.out.call hb); (try simp only [Act.put, nq1, nq2, nq3, nq4, nq5, nq6])
    refine wpT_callF rfl rfl rfl en34_ru rfl (mulNA _ ‹_› ‹_›) ?_; rintro e wy ⟨z, hz, rfl, hb⟩; refine ⟨_, rfl, hb, ?_⟩; have HS := hide (HS.out.call hb); (try simp only [Act.put, nq1, nq2, nq3, nq4, nq5, nq6])
    refine wpT_callF rfl rfl rfl en47_ru rfl (sameNA _ ‹_› ‹_›) ?_; rintro e wy ⟨rfl, hb⟩; refine ⟨_, rfl, hb, ?_⟩; have HS := hide (HS.out.call hb); (try simp only [Act.put, nq1, nq2, nq3, nq4, nq5, nq6])
    (refine wpT_pure (v := ?_) rfl rfl ?_ ?_; rotate_left; (intro wx; go_simp; try go_bits) <;> (with_reducible rfl)); (try simp only [Act.put, nq1, nq2, nq3, nq4, nq5, nq6])
    refine wpT_nil ?_
    rw [decide_eq_true HC.out, Bool.not_true]
    have HOD := hide (fun W => oddNA W hX)
    by_cases ho : (rtX U V).val % 2 = 1
    · have hev : evn (rtX U V) = 0 - (rtX U V) := by unfold evn; rw [if_pos ho, zsub]
      rw [hev] at hF
      rw [decide_eq_true ho] at HOD
      have HF := hide hF
      clear hF hev ho
      go_wp2_with (first | (go_at_call 51; (with_reducible refine (HOD.out _).mono ?_); rintro e wy ⟨rfl, hb⟩; have HS := hide (HS.out.call hb)) | (go_at_call 77; (with_reducible refine (subNA _ hc hX).mono ?_); rintro e wy ⟨zn, hzn, rfl, hb⟩; have HS := hide (HS.out.call hb)) | (refine wl_build0 rfl rfl (HZZ.out).1 ?_; (try simp only [Act.put, nq1, nq2, nq3, nq4, nq5, nq6])) | (refine wl_storeR rfl rfl rfl rfl HS.out rowN (.tail (.tail (.head))) (by first | exact NA.arr ‹_› | exact arr_zN) (by first | exact NA.arr ‹_› | exact arr_zN) ?_; intro wz hS9; have HS := hide hS9; clear hS9; (try simp only [Act.put, nq1, nq2, nq3, nq4, nq5, nq6])) | (refine wl_loadP rfl rfl rfl HS.out (.head _) rowN (.all (by first | exact NA.arr ‹_› | exact arr_zN)) ?_; (try simp only [Act.put, nq1, nq2, nq3, nq4, nq5, nq6])) | (refine wl_storeR rfl rfl rfl rfl HS.out rowN (.head) (by first | exact NA.arr ‹_› | exact arr_zN) (by first | exact NA.arr ‹_› | exact arr_zN) ?_; intro wz hS9; have HS := hide hS9; clear hS9; (try simp only [Act.put, nq1, nq2, nq3, nq4, nq5, nq6])))
      refine bodyPost_ret (results_cell_tmp_row rfl _ _ _ _ _ _ _ rfl (HS.out.heapM (by (repeat first | exact .head _ | apply List.Mem.tail))) Tryz.underlying43 rfl (by first | (rw [(EA.arr ‹_›).size]; kernel_rfl) | (rw [(NA.arr ‹_›).size]; kernel_rfl) | (rw [(qE ‹_› ‹_› ‹_› ‹_›).size]; kernel_rfl) | (rw [(qN ‹_› ‹_› ‹_› ‹_›).size]; kernel_rfl) | (rw [(PtN.arr ‹_›).size]; kernel_rfl) | (rw [(PtV.arr ‹_›).size]; kernel_rfl) | (rw [(QtN.arr ‹_›).size]; kernel_rfl))) rfl ?_
      rw [HF.out]
      exact ⟨_, hzn, rfl, HS.out.below⟩
    · have hev : evn (rtX U V) = rtX U V := by unfold evn; rw [if_neg ho]
      rw [hev] at hF
      rw [decide_eq_false ho] at HOD
      have HF := hide hF
      clear hF hev ho
      go_wp2_with (first | (go_at_call 51; (with_reducible refine (HOD.out _).mono ?_); rintro e wy ⟨rfl, hb⟩; have HS := hide (HS.out.call hb)) | (refine wl_storeR rfl rfl rfl rfl HS.out rowN (.tail (.tail (.head))) (by first | exact NA.arr ‹_› | exact arr_zN) (by first | exact NA.arr ‹_› | exact arr_zN) ?_; intro wz hS9; have HS := hide hS9; clear hS9; (try simp only [Act.put, nq1, nq2, nq3, nq4, nq5, nq6])) | (refine wl_loadP rfl rfl rfl HS.out (.head _) rowN (.all (by first | exact NA.arr ‹_› | exact arr_zN)) ?_; (try simp only [Act.put, nq1, nq2, nq3, nq4, nq5, nq6])) | (refine wl_storeR rfl rfl rfl rfl HS.out rowN (.head) (by first | exact NA.arr ‹_› | exact arr_zN) (by first | exact NA.arr ‹_› | exact arr_zN) ?_; intro wz hS9; have HS := hide hS9; clear hS9; (try simp only [Act.put, nq1, nq2, nq3, nq4, nq5, nq6])))
      refine bodyPost_ret (results_cell_tmp_row rfl _ _ _ _ _ _ _ rfl (HS.out.heapM (by (repeat first | exact .head _ | apply List.Mem.tail))) Tryz.underlying43 rfl (by first | (rw [(EA.arr ‹_›).size]; kernel_rfl) | (rw [(NA.arr ‹_›).size]; kernel_rfl) | (rw [(qE ‹_› ‹_› ‹_› ‹_›).size]; kernel_rfl) | (rw [(qN ‹_› ‹_› ‹_› ‹_›).size]; kernel_rfl) | (rw [(PtN.arr ‹_›).size]; kernel_rfl) | (rw [(PtV.arr ‹_›).size]; kernel_rfl) | (rw [(QtN.arr ‹_›).size]; kernel_rfl))) rfl ?_
      rw [HF.out]
      exact ⟨_, hX, rfl, HS.out.below⟩
  · have HC := hide c1
    clear c1
    rw [decide_eq_false HC.out, Bool.not_false]
    go_wp2_with fail
    have HS := hide HS.out.drew
    refine wp_region_T [(0, 0), (1, 2), (2, 2), (3, 3)] (by kernel_rfl) (by kernel_rfl) (fun _ _ _ _ h => h) ?_
    refine wpT_loadP rfl rfl rfl rfl HS.out (.head _) rowN (.all (by first | exact NA.arr ‹_› | exact arr_zN)) ?_; (try simp only [Act.put, nq1, nq2, nq3, nq4, nq5, nq6])
    refine wpT_callF rfl rfl rfl en70_ru rfl (iNA _) ?_; rintro e wy ⟨z, hz, rfl, hb⟩; refine ⟨_, rfl, hb, ?_⟩; have HS := hide (HS.out.call hb); (try simp only [Act.put, nq1, nq2, nq3, nq4, nq5, nq6])
    refine wpT_callF rfl rfl rfl en34_ru rfl (mulNA _ ‹_› ‹_›) ?_; rintro e wy ⟨z, hz, rfl, hb⟩; refine ⟨_, rfl, hb, ?_⟩; have HS := hide (HS.out.call hb); (try simp only [Act.put, nq1, nq2, nq3, nq4, nq5, nq6])
    refine wpT_late rfl rfl ?_; intro K hK; refine wp_storeR rfl rfl rfl HS.out rowN (.head) (by first | exact NA.arr ‹_› | exact arr_zN) (by first | exact NA.arr ‹_› | exact arr_zN) ?_; intro wz hS9; have HS := hide hS9; clear hS9; refine hK _ _ ?_; (try simp only [Act.put, nq1, nq2, nq3, nq4, nq5, nq6])
    refine wpT_nil ?_
    have hXI := ‹NA _ (rtX U V * iF)›
    go_wp2_with fail
    have HS := hide HS.out.drew
    refine wp_region_T [(0, 0), (1, 0), (2, 0), (5, 0), (3, 2), (4, 2), (6, 2), (7, 1)] (by kernel_rfl) (by kernel_rfl) (fun _ _ _ _ h => h) ?_
    refine wpT_loadP rfl rfl rfl rfl HS.out (.tail _ (.tail _ (.tail _ (.head _)))) rowN (.all (by first | exact NA.arr ‹_› | exact arr_zN)) ?_; (try simp only [Act.put, nq1, nq2, nq3, nq4, nq5, nq6])
    refine wpT_loadP rfl rfl rfl rfl HS.out (.head _) rowN (.all (by first | exact NA.arr ‹_› | exact arr_zN)) ?_; (try simp only [Act.put, nq1, nq2, nq3, nq4, nq5, nq6])
    refine wpT_loadP rfl rfl rfl rfl HS.out (.head _) rowN (.all (by first | exact NA.arr ‹_› | exact arr_zN)) ?_; (try simp only [Act.put, nq1, nq2, nq3, nq4, nq5, nq6])
    refine wpT_loadP rfl rfl rfl rfl HS.out (.tail _ (.tail _ (.tail _ (.tail _ (.head _))))) rowN (.all (by first | exact NA.arr ‹_› | exact arr_zN)) ?_; (try simp only [Act.put, nq1, nq2, nq3, nq4, nq5, nq6])
    refine wpT_callF rfl rfl rfl en34_ru rfl (mulNA _ ‹_› ‹_›) ?_; rintro e wy ⟨z, hz, rfl, hb⟩; refine ⟨_, rfl, hb, ?_⟩; have HS := hide (HS.out.call hb); (try simp only [Act.put, nq1, nq2, nq3, nq4, nq5, nq6])
    refine wpT_callF rfl rfl rfl en34_ru rfl (mulNA _ ‹_› ‹_›) ?_; rintro e wy ⟨z, hz, rfl, hb⟩; refine ⟨_, rfl, hb, ?_⟩; have HS := hide (HS.out.call hb); (try simp only [Act.put, nq1, nq2, nq3, nq4, nq5, nq6])
    refine wpT_callF rfl rfl rfl en47_ru rfl (sameNA _ ‹_› ‹_›) ?_; rintro e wy ⟨rfl, hb⟩; refine ⟨_, rfl, hb, ?_⟩; have HS := hide (HS.out.call hb); (try simp only [Act.put, nq1, nq2, nq3, nq4, nq5, nq6])
    (refine wpT_pure (v := ?_) rfl rfl ?_ ?_; rotate_left; (intro wx; go_simp; try go_bits) <;> (with_reducible rfl)); (try simp only [Act.put, nq1, nq2, nq3, nq4, nq5, nq6])
    refine wpT_nil ?_
    have HE2 := hide (show V * (rtX U V * iF * (rtX U V * iF)) = -(rtX U V * rtX U V * V) by have := iF_sq; grind)
    by_cases c2 : V * (rtX U V * iF * (rtX U V * iF)) = U
    · have hF : rtF U V = some (evn (rtX U V * iF)) := by unfold rtF; rw [if_neg (by rw [HE.out]; exact HC.out), if_pos (by have := HE2.out; rw [c2] at this; rw [this]; grind)]
      have HC2 := hide c2
      clear c2
      rw [decide_eq_true HC2.out, Bool.not_true]
      have HOD := hide (fun W => oddNA W hXI)
      by_cases ho : (rtX U V * iF).val % 2 = 1
      · have hev : evn (rtX U V * iF) = 0 - (rtX U V * iF) := by unfold evn; rw [if_pos ho, zsub]
        rw [hev] at hF
        rw [decide_eq_true ho] at HOD
        have HF := hide hF
        clear hF hev ho
        go_wp2_with (first | (go_at_call 51; (with_reducible refine (HOD.out _).mono ?_); rintro e wy ⟨rfl, hb⟩; have HS := hide (HS.out.call hb)) | (go_at_call 77; (with_reducible refine (subNA _ hc hXI).mono ?_); rintro e wy ⟨zn, hzn, rfl, hb⟩; have HS := hide (HS.out.call hb)) | (refine wl_build0 rfl rfl (HZZ.out).1 ?_; (try simp only [Act.put, nq1, nq2, nq3, nq4, nq5, nq6])) | (refine wl_storeR rfl rfl rfl rfl HS.out rowN (.tail (.tail (.head))) (by first | exact NA.arr ‹_› | exact arr_zN) (by first | exact NA.arr ‹_› | exact arr_zN) ?_; intro wz hS9; have HS := hide hS9; clear hS9; (try simp only [Act.put, nq1, nq2, nq3, nq4, nq5, nq6])) | (refine wl_loadP rfl rfl rfl HS.out (.head _) rowN (.all (by first | exact NA.arr ‹_› | exact arr_zN)) ?_; (try simp only [Act.put, nq1, nq2, nq3, nq4, nq5, nq6])) | (refine wl_storeR rfl rfl rfl rfl HS.out rowN (.head) (by first | exact NA.arr ‹_› | exact arr_zN) (by first | exact NA.arr ‹_› | exact arr_zN) ?_; intro wz hS9; have HS := hide hS9; clear hS9; (try simp only [Act.put, nq1, nq2, nq3, nq4, nq5, nq6])))
        refine bodyPost_ret (results_cell_tmp_row rfl _ _ _ _ _ _ _ rfl (HS.out.heapM (by (repeat first | exact .head _ | apply List.Mem.tail))) Tryz.underlying43 rfl (by first | (rw [(EA.arr ‹_›).size]; kernel_rfl) | (rw [(NA.arr ‹_›).size]; kernel_rfl) | (rw [(qE ‹_› ‹_› ‹_› ‹_›).size]; kernel_rfl) | (rw [(qN ‹_› ‹_› ‹_› ‹_›).size]; kernel_rfl) | (rw [(PtN.arr ‹_›).size]; kernel_rfl) | (rw [(PtV.arr ‹_›).size]; kernel_rfl) | (rw [(QtN.arr ‹_›).size]; kernel_rfl))) rfl ?_
        rw [HF.out]
        exact ⟨_, hzn, rfl, HS.out.below⟩
      · have hev : evn (rtX U V * iF) = rtX U V * iF := by unfold evn; rw [if_neg ho]
        rw [hev] at hF
        rw [decide_eq_false ho] at HOD
        have HF := hide hF
        clear hF hev ho
        go_wp2_with (first | (go_at_call 51; (with_reducible refine (HOD.out _).mono ?_); rintro e wy ⟨rfl, hb⟩; have HS := hide (HS.out.call hb)) | (refine wl_storeR rfl rfl rfl rfl HS.out rowN (.tail (.tail (.head))) (by first | exact NA.arr ‹_› | exact arr_zN) (by first | exact NA.arr ‹_› | exact arr_zN) ?_; intro wz hS9; have HS := hide hS9; clear hS9; (try simp only [Act.put, nq1, nq2, nq3, nq4, nq5, nq6])) | (refine wl_loadP rfl rfl rfl HS.out (.head _) rowN (.all (by first | exact NA.arr ‹_› | exact arr_zN)) ?_; (try simp only [Act.put, nq1, nq2, nq3, nq4, nq5, nq6])) | (refine wl_storeR rfl rfl rfl rfl HS.out rowN (.head) (by first | exact NA.arr ‹_› | exact arr_zN) (by first | exact NA.arr ‹_› | exact arr_zN) ?_; intro wz hS9; have HS := hide hS9; clear hS9; (try simp only [Act.put, nq1, nq2, nq3, nq4, nq5, nq6])))
        refine bodyPost_ret (results_cell_tmp_row rfl _ _ _ _ _ _ _ rfl (HS.out.heapM (by (repeat first | exact .head _ | apply List.Mem.tail))) Tryz.underlying43 rfl (by first | (rw [(EA.arr ‹_›).size]; kernel_rfl) | (rw [(NA.arr ‹_›).size]; kernel_rfl) | (rw [(qE ‹_› ‹_› ‹_› ‹_›).size]; kernel_rfl) | (rw [(qN ‹_› ‹_› ‹_› ‹_›).size]; kernel_rfl) | (rw [(PtN.arr ‹_›).size]; kernel_rfl) | (rw [(PtV.arr ‹_›).size]; kernel_rfl) | (rw [(QtN.arr ‹_›).size]; kernel_rfl))) rfl ?_
        rw [HF.out]
        exact ⟨_, hXI, rfl, HS.out.below⟩
    · have hF : rtF U V = none := by unfold rtF; rw [if_neg (by rw [HE.out]; exact HC.out), if_neg (by intro h; apply c2; rw [HE2.out, h]; grind)]
      have HC2 := hide c2
      have HF := hide hF
      clear c2 hF
      rw [decide_eq_false HC2.out, Bool.not_false]
      go_wp2_with (first | (refine wl_build0 rfl rfl (HZZ.out).1 ?_; (try simp only [Act.put, nq1, nq2, nq3, nq4, nq5, nq6])) | (refine wl_storeR rfl rfl rfl rfl HS.out rowN (.tail (.tail (.head))) (by first | exact NA.arr ‹_› | exact arr_zN) (by first | exact NA.arr ‹_› | exact arr_zN) ?_; intro wz hS9; have HS := hide hS9; clear hS9; (try simp only [Act.put, nq1, nq2, nq3, nq4, nq5, nq6])) | (refine wl_loadP rfl rfl rfl HS.out (.head _) rowN (.all (by first | exact NA.arr ‹_› | exact arr_zN)) ?_; (try simp only [Act.put, nq1, nq2, nq3, nq4, nq5, nq6])) | (refine wl_storeR rfl rfl rfl rfl HS.out rowN (.head) (by first | exact NA.arr ‹_› | exact arr_zN) (by first | exact NA.arr ‹_› | exact arr_zN) ?_; intro wz hS9; have HS := hide hS9; clear hS9; (try simp only [Act.put, nq1, nq2, nq3, nq4, nq5, nq6])))
      refine bodyPost_ret (results_cell_tmp_row rfl _ _ _ _ _ _ _ rfl (HS.out.heapM (by (repeat first | exact .head _ | apply List.Mem.tail))) Tryz.underlying43 rfl (by first | (rw [(EA.arr ‹_›).size]; kernel_rfl) | (rw [(NA.arr ‹_›).size]; kernel_rfl) | (rw [(qE ‹_› ‹_› ‹_› ‹_›).size]; kernel_rfl) | (rw [(qN ‹_› ‹_› ‹_› ‹_›).size]; kernel_rfl) | (rw [(PtN.arr ‹_›).size]; kernel_rfl) | (rw [(PtV.arr ‹_›).size]; kernel_rfl) | (rw [(QtN.arr ‹_›).size]; kernel_rfl))) rfl ?_
      rw [HF.out]
      exact ⟨_, hc, rfl, HS.out.below⟩
end Go.Proofs.YtkelegjppnfoaaaGreatDoor

namespace Go.Proofs.YtkelegjppnfoaaaGreatDoor
open Go.RowKit
set_option linter.unusedSimpArgs false

set_option maxRecDepth 100000 in
set_option maxHeartbeats 1600000 in
theorem packQ {v : Array Value} {P : Ed} (w : World) (hv : QtN v P) : Calls Tryz.prog 18 #[.agg v] w (ResB 5 w (packL P)) := by
  have HS := hide (St.init w NoB)
  obtain ⟨⟨X, Y, Z, T⟩, a, b, c, d, rfl, h1, h2, h3, h4, h5⟩ := hv.ex
  obtain ⟨l, r, hl31, hr128, e1, e2⟩ := top_bit P.y.val (Nat.lt_trans P.y.isLt pq_255)
  have HE1 := hide e1
  have HE2 := hide e2
  have HL31 := hide hl31
  have hpk : packL P = if P.x.val % 2 = 1 then l ++ [UInt8.ofNat (r + 128)] else l ++ [UInt8.ofNat r] := by
    unfold packL packN
    split
    · exact e2
    · rw [Nat.add_zero]; exact e1
  have HPK := hide hpk
  have hlen : (l ++ [UInt8.ofNat r]).length = 32 := by rw [List.length_append, hl31]; rfl
  have HLEN := hide hlen
  clear e1 e2 hpk hl31 hlen
  go_enter Tryz.func18, Tryz.ntmps18
  go_upto_region 3 with (first
    | (go_at_call 48; (with_reducible refine (invNA _ h3).mono ?_); rintro e wy ⟨zi, hzi, rfl, hb⟩; have HS := hide (HS.out.call hb))
    | (go_at_call 50; (with_reducible refine (mulNA _ h2 hzi).mono ?_); rintro e wy ⟨zy, hzy, rfl, hb⟩; rw [rp_y h5] at hzy; have HS := hide (HS.out.call hb))
    | (go_at_call 49; (with_reducible refine (bytesNA _ hzy).mono ?_); rintro e wy hRB; rw [HE1.out] at hRB; obtain ⟨B, dd, rfl, hb, ho⟩ := hRB; rw [HLEN.out] at ho ⊢; have HS := hide (HS.out.row hb ho); clear ho)
    | (refine wl_loadP rfl rfl rfl HS.out (by (repeat first | exact .head _ | apply List.Mem.tail)) (by first | exact rowE | exact rowP | exact rowN | exact rowQ) (by (first | exact .q0 (EA.arr ‹_›) | exact .q1 (EA.arr ‹_›) (EA.arr ‹_›) | exact .q2 (EA.arr ‹_›) (EA.arr ‹_›) (EA.arr ‹_›) | exact .q3 (EA.arr ‹_›) (EA.arr ‹_›) (EA.arr ‹_›) (EA.arr ‹_›) | exact .q0 (NA.arr ‹_›) | exact .q1 (NA.arr ‹_›) (NA.arr ‹_›) | exact .q2 (NA.arr ‹_›) (NA.arr ‹_›) (NA.arr ‹_›) | exact .q3 (NA.arr ‹_›) (NA.arr ‹_›) (NA.arr ‹_›) (NA.arr ‹_›) | exact .all (by (first | exact EA.arr ‹_› | exact NA.arr ‹_› | exact arr_zE | exact arr_zN | exact arr_zP | exact arr_zQ | exact PtN.arr ‹_› | exact PtV.arr ‹_› | exact QtN.arr ‹_› | exact qE ‹_› ‹_› ‹_› ‹_› | exact qN ‹_› ‹_› ‹_› ‹_›)))) ?_; (try simp only [Act.put, nq1, nq2, nq3, nq4, nq5, nq6])) | (refine wl_storeR rfl rfl rfl rfl HS.out (by first | exact rowE | exact rowP | exact rowN | exact rowQ) (by (repeat first | exact .head | apply Upd.tail)) (by (first | exact EA.arr ‹_› | exact NA.arr ‹_› | exact arr_zE | exact arr_zN | exact arr_zP | exact arr_zQ | exact PtN.arr ‹_› | exact PtV.arr ‹_› | exact QtN.arr ‹_› | exact qE ‹_› ‹_› ‹_› ‹_› | exact qN ‹_› ‹_› ‹_› ‹_›)) (by (first | exact EA.arr ‹_› | exact NA.arr ‹_› | exact arr_zE | exact arr_zN | exact arr_zP | exact arr_zQ | exact PtN.arr ‹_› | exact PtV.arr ‹_› | exact QtN.arr ‹_› | exact qE ‹_› ‹_› ‹_› ‹_› | exact qN ‹_› ‹_› ‹_› ‹_›)) ?_; intro wz hS9; have HS := hide hS9; clear hS9; (try simp only [Act.put, nq1, nq2, nq3, nq4, nq5, nq6])) | (refine wl_allocR rfl rfl HS.out (by first | exact newE | exact newP | exact newN | exact newQ) ?_; intro gz wz hS9; have HS := hide hS9; clear hS9; (try simp only [Act.put, nq1, nq2, nq3, nq4, nq5, nq6])) | (refine wl_boxR rfl rfl rfl HS.out ?_; intro gz wz hS9; have HS := hide hS9; clear hS9; (try simp only [Act.put, nq1, nq2, nq3, nq4, nq5, nq6])))
  have gB : ((bvs (l ++ [UInt8.ofNat r]))[31]? = some (.int .u8 (r : Int))) := by
    rw [bvs_get (list_top HL31.out (UInt8.ofNat r)).1, UInt8.toNat_ofNat', Nat.mod_eq_of_lt (by omega)]
  have GB := hide gB
  have hor := u8_or128 r hr128
  have HR := hide hr128
  clear gB
  have hx31 := rp_x h5
  by_cases hodd : P.x.val % 2 = 1
  · go_wp2_with (first
      | (go_at_call 50; (with_reducible refine (mulNA _ h1 hzi).mono ?_); rintro e wy ⟨zx, hzx, rfl, hb⟩; rw [hx31] at hzx; have HS := hide (HS.out.call hb))
      | (go_at_call 51; (with_reducible refine (oddNA _ hzx).mono ?_); rintro e wy ⟨rfl, hb⟩; rw [decide_eq_true hodd]; have HS := hide (HS.out.call hb); obtain ⟨g, c1, hvv, _, _, hcs, hfr, _⟩ := HS.out.rowOpen 0 rfl (by omega); injection hvv with hvv1 _ hvv3; subst hvv1 hvv3; have k31 := hcs 31 _ GB.out; have f31 := hfr 31; have HS9 := hide HS.out; clear hcs hfr)
      | (refine wl_loadP rfl rfl rfl HS.out (by (repeat first | exact .head _ | apply List.Mem.tail)) (by first | exact rowE | exact rowP | exact rowN | exact rowQ) (by (first | exact .q0 (EA.arr ‹_›) | exact .q1 (EA.arr ‹_›) (EA.arr ‹_›) | exact .q2 (EA.arr ‹_›) (EA.arr ‹_›) (EA.arr ‹_›) | exact .q3 (EA.arr ‹_›) (EA.arr ‹_›) (EA.arr ‹_›) (EA.arr ‹_›) | exact .q0 (NA.arr ‹_›) | exact .q1 (NA.arr ‹_›) (NA.arr ‹_›) | exact .q2 (NA.arr ‹_›) (NA.arr ‹_›) (NA.arr ‹_›) | exact .q3 (NA.arr ‹_›) (NA.arr ‹_›) (NA.arr ‹_›) (NA.arr ‹_›) | exact .all (by (first | exact EA.arr ‹_› | exact NA.arr ‹_› | exact arr_zE | exact arr_zN | exact arr_zP | exact arr_zQ | exact PtN.arr ‹_› | exact PtV.arr ‹_› | exact QtN.arr ‹_› | exact qE ‹_› ‹_› ‹_› ‹_› | exact qN ‹_› ‹_› ‹_› ‹_›)))) ?_; (try simp only [Act.put, nq1, nq2, nq3, nq4, nq5, nq6])) | (refine wl_storeR rfl rfl rfl rfl HS.out (by first | exact rowE | exact rowP | exact rowN | exact rowQ) (by (repeat first | exact .head | apply Upd.tail)) (by (first | exact EA.arr ‹_› | exact NA.arr ‹_› | exact arr_zE | exact arr_zN | exact arr_zP | exact arr_zQ | exact PtN.arr ‹_› | exact PtV.arr ‹_› | exact QtN.arr ‹_› | exact qE ‹_› ‹_› ‹_› ‹_› | exact qN ‹_› ‹_› ‹_› ‹_›)) (by (first | exact EA.arr ‹_› | exact NA.arr ‹_› | exact arr_zE | exact arr_zN | exact arr_zP | exact arr_zQ | exact PtN.arr ‹_› | exact PtV.arr ‹_› | exact QtN.arr ‹_› | exact qE ‹_› ‹_› ‹_› ‹_› | exact qN ‹_› ‹_› ‹_› ‹_›)) ?_; intro wz hS9; have HS := hide hS9; clear hS9; (try simp only [Act.put, nq1, nq2, nq3, nq4, nq5, nq6])) | (refine wl_allocR rfl rfl HS.out (by first | exact newE | exact newP | exact newN | exact newQ) ?_; intro gz wz hS9; have HS := hide hS9; clear hS9; (try simp only [Act.put, nq1, nq2, nq3, nq4, nq5, nq6])) | (refine wl_boxR rfl rfl rfl HS.out ?_; intro gz wz hS9; have HS := hide hS9; clear hS9; (try simp only [Act.put, nq1, nq2, nq3, nq4, nq5, nq6])))
    go_ret
    have h9 := HS9.out.rowSet 0 rfl 31 (.int .u8 ((r + 128 : Nat) : Int)) (by omega)
    rw [bvs_set _ _ _ (by have := HR.out; omega), (list_top HL31.out _).2] at h9
    refine resB_of h9 0 rfl ?_
    rw [HPK.out, if_pos hodd]
  · go_wp2_with (first
      | (go_at_call 50; (with_reducible refine (mulNA _ h1 hzi).mono ?_); rintro e wy ⟨zx, hzx, rfl, hb⟩; rw [hx31] at hzx; have HS := hide (HS.out.call hb))
      | (go_at_call 51; (with_reducible refine (oddNA _ hzx).mono ?_); rintro e wy ⟨rfl, hb⟩; rw [decide_eq_false hodd]; have HS := hide (HS.out.call hb))
      | (refine wl_loadP rfl rfl rfl HS.out (by (repeat first | exact .head _ | apply List.Mem.tail)) (by first | exact rowE | exact rowP | exact rowN | exact rowQ) (by (first | exact .q0 (EA.arr ‹_›) | exact .q1 (EA.arr ‹_›) (EA.arr ‹_›) | exact .q2 (EA.arr ‹_›) (EA.arr ‹_›) (EA.arr ‹_›) | exact .q3 (EA.arr ‹_›) (EA.arr ‹_›) (EA.arr ‹_›) (EA.arr ‹_›) | exact .q0 (NA.arr ‹_›) | exact .q1 (NA.arr ‹_›) (NA.arr ‹_›) | exact .q2 (NA.arr ‹_›) (NA.arr ‹_›) (NA.arr ‹_›) | exact .q3 (NA.arr ‹_›) (NA.arr ‹_›) (NA.arr ‹_›) (NA.arr ‹_›) | exact .all (by (first | exact EA.arr ‹_› | exact NA.arr ‹_› | exact arr_zE | exact arr_zN | exact arr_zP | exact arr_zQ | exact PtN.arr ‹_› | exact PtV.arr ‹_› | exact QtN.arr ‹_› | exact qE ‹_› ‹_› ‹_› ‹_› | exact qN ‹_› ‹_› ‹_› ‹_›)))) ?_; (try simp only [Act.put, nq1, nq2, nq3, nq4, nq5, nq6])) | (refine wl_storeR rfl rfl rfl rfl HS.out (by first | exact rowE | exact rowP | exact rowN | exact rowQ) (by (repeat first | exact .head | apply Upd.tail)) (by (first | exact EA.arr ‹_› | exact NA.arr ‹_› | exact arr_zE | exact arr_zN | exact arr_zP | exact arr_zQ | exact PtN.arr ‹_› | exact PtV.arr ‹_› | exact QtN.arr ‹_› | exact qE ‹_› ‹_› ‹_› ‹_› | exact qN ‹_› ‹_› ‹_› ‹_›)) (by (first | exact EA.arr ‹_› | exact NA.arr ‹_› | exact arr_zE | exact arr_zN | exact arr_zP | exact arr_zQ | exact PtN.arr ‹_› | exact PtV.arr ‹_› | exact QtN.arr ‹_› | exact qE ‹_› ‹_› ‹_› ‹_› | exact qN ‹_› ‹_› ‹_› ‹_›)) ?_; intro wz hS9; have HS := hide hS9; clear hS9; (try simp only [Act.put, nq1, nq2, nq3, nq4, nq5, nq6])) | (refine wl_allocR rfl rfl HS.out (by first | exact newE | exact newP | exact newN | exact newQ) ?_; intro gz wz hS9; have HS := hide hS9; clear hS9; (try simp only [Act.put, nq1, nq2, nq3, nq4, nq5, nq6])) | (refine wl_boxR rfl rfl rfl HS.out ?_; intro gz wz hS9; have HS := hide hS9; clear hS9; (try simp only [Act.put, nq1, nq2, nq3, nq4, nq5, nq6])))
    go_ret
    refine resB_of HS.out 0 rfl ?_
    rw [HPK.out, if_neg hodd]
end Go.Proofs.YtkelegjppnfoaaaGreatDoor

namespace Go.Proofs.YtkelegjppnfoaaaGreatDoor
open Go.RowKit
set_option linter.unusedSimpArgs false

theorem u8_and128 (n : Nat) (h : n < 256) : bits .and .u8 (n : Int) 128 = ((n / 128 * 128 : Nat) : Int) := by
  have : ∀ m : Fin 256, bits .and .u8 (m.val : Int) 128 = ((m.val / 128 * 128 : Nat) : Int) := by decide +kernel
  exact this ⟨n, h⟩
section
variable {P : Program} {ops : Array Oper} {Q : Exit → Act → World → Prop} {rest : List Oper} {o : Oper} {a : Act} {w0 w : World} {M : Nat → Prop} {H : List Chunk} {t e : TypeId} {n g off : Nat} {x : Operand} {cs part : Array Value}
theorem wl_loadG (hw : Region.wanted o (yielded ops a.tmps) = true) (ho : o.op = .load t x) (hx : a.eval x = .pointer (some ⟨g, off, none⟩)) (hS : St w0 M w H) (hm : Chunk.cells g cs e ∈ H) (hT : RowOf P t n) (hp : PartN n cs part off)
    (h : wpList P ops Q rest (a.put o.dst (.agg part)) w) : wpList P ops Q (o :: rest) a w :=
  wpList_step fun K hK => by
    rw [if_pos hw]
    unfold Oper.wp
    rw [run_load_part ho hT hx (hS.heapM hm) hp]
    exact hK _ _ h
theorem wl_build0G {v : Array Value} (hw : Region.wanted o (yielded ops a.tmps) = true) (ho : o.op = .build t #[]) (hB : P.built t [] = some v) (h : wpList P ops Q rest (a.put o.dst (.agg v)) w) : wpList P ops Q (o :: rest) a w :=
  wpList_step fun K hK => by
    rw [if_pos hw]
    have e : (execOp a.eval o).run P w = .ok (.value (.agg v)) w := by
      have e2 : ((#[] : Array (Nat × Operand)).map fun (i, x) => (i, a.eval x)).toList = [] := by simp
      unfold execOp
      simp only [ho]
      simp only [Sem.run_bind, run_build w t _ _ (by rw [e2]; exact hB), Result.andThen_ok]
      rfl
    unfold Oper.wp
    rw [e]
    exact hK _ _ h
end
def ResG (w : World) (o : Option Ed) (e : Ending) (w' : World) : Prop := ∃ v, QtN v (o.getD .zero) ∧ e = .returned (.tuple #[.agg v, .bool o.isSome]) ∧ Below w.heap.size w w'
theorem fromNA {A : Option Addr} {n c : Nat} {l : List UInt8} (hl : l.length = n) (hn : n ≤ 1000) (w : World) (hr : Rd w (.slice A n c) 1 n (bvs l)) : Calls Tryz.prog 75 #[.slice A n c] w (ResA w (fbytes l)) :=
  (frN_any A n c l w hl hn hr).mono fun _ _ h => by
    obtain ⟨xs, h1, h2, h3⟩ := h
    exact ⟨_, ⟨xs, rfl, h1⟩, h2, h3⟩
set_option maxRecDepth 100000 in
set_option maxHeartbeats 1600000 in
theorem unpack_no {A : Option Addr} {n c : Nat} {l : List UInt8} (w : World) (hl : l.length = n) (hn : n ≠ 32) : Calls Tryz.prog 34 #[.slice A n c] w (ResG w (pageL l)) := by
  have hF : pageL l = none := by unfold pageL; rw [if_neg (by omega)]
  have q0 : ((n : Int) != 32) = true := by simp; omega
  have HS := hide (St.init w NoB)
  rw [hF]
  clear hF hl hn
  go_enter Tryz.func34, Tryz.ntmps34
  go_wp2_with (first | (go_at_call 52; (with_reducible refine (zeroQ _).mono ?_); rintro e wy ⟨z0, hz0, rfl, hb⟩; have HS := hide (HS.out.call hb)) | (refine wl_loadP rfl rfl rfl HS.out (by (repeat first | exact .head _ | apply List.Mem.tail)) (by first | exact rowE | exact rowP | exact rowN | exact rowQ) (by (first | exact .q0 (EA.arr ‹_›) | exact .q1 (EA.arr ‹_›) (EA.arr ‹_›) | exact .q2 (EA.arr ‹_›) (EA.arr ‹_›) (EA.arr ‹_›) | exact .q3 (EA.arr ‹_›) (EA.arr ‹_›) (EA.arr ‹_›) (EA.arr ‹_›) | exact .q0 (NA.arr ‹_›) | exact .q1 (NA.arr ‹_›) (NA.arr ‹_›) | exact .q2 (NA.arr ‹_›) (NA.arr ‹_›) (NA.arr ‹_›) | exact .q3 (NA.arr ‹_›) (NA.arr ‹_›) (NA.arr ‹_›) (NA.arr ‹_›) | exact .all (by (first | exact EA.arr ‹_› | exact NA.arr ‹_› | exact arr_zE | exact arr_zN | exact arr_zP | exact arr_zQ | exact PtN.arr ‹_› | exact PtV.arr ‹_› | exact QtN.arr ‹_› | exact qE ‹_› ‹_› ‹_› ‹_› | exact qN ‹_› ‹_› ‹_› ‹_›)))) ?_; (try simp only [Act.put, nq1, nq2, nq3, nq4, nq5, nq6])) | (refine wl_storeR rfl rfl rfl rfl HS.out (by first | exact rowE | exact rowP | exact rowN | exact rowQ) (by (repeat first | exact .head | apply Upd.tail)) (by (first | exact EA.arr ‹_› | exact NA.arr ‹_› | exact arr_zE | exact arr_zN | exact arr_zP | exact arr_zQ | exact PtN.arr ‹_› | exact PtV.arr ‹_› | exact QtN.arr ‹_› | exact qE ‹_› ‹_› ‹_› ‹_› | exact qN ‹_› ‹_› ‹_› ‹_›)) (by (first | exact EA.arr ‹_› | exact NA.arr ‹_› | exact arr_zE | exact arr_zN | exact arr_zP | exact arr_zQ | exact PtN.arr ‹_› | exact PtV.arr ‹_› | exact QtN.arr ‹_› | exact qE ‹_› ‹_› ‹_› ‹_› | exact qN ‹_› ‹_› ‹_› ‹_›)) ?_; intro wz hS9; have HS := hide hS9; clear hS9; (try simp only [Act.put, nq1, nq2, nq3, nq4, nq5, nq6])) | (refine wl_allocR rfl rfl HS.out (by first | exact newE | exact newP | exact newN | exact newQ) ?_; intro gz wz hS9; have HS := hide hS9; clear hS9; (try simp only [Act.put, nq1, nq2, nq3, nq4, nq5, nq6])) | (refine wl_boxR rfl rfl rfl HS.out ?_; intro gz wz hS9; have HS := hide hS9; clear hS9; (try simp only [Act.put, nq1, nq2, nq3, nq4, nq5, nq6])))
  refine bodyPost_ret (results_cell_tmp_row rfl _ _ _ _ _ _ _ rfl (HS.out.heapM (by (repeat first | exact .head _ | apply List.Mem.tail))) Tryz.underlying45 rfl (by first | (rw [(EA.arr ‹_›).size]; kernel_rfl) | (rw [(NA.arr ‹_›).size]; kernel_rfl) | (rw [(qE ‹_› ‹_› ‹_› ‹_›).size]; kernel_rfl) | (rw [(qN ‹_› ‹_› ‹_› ‹_›).size]; kernel_rfl) | (rw [(PtN.arr ‹_›).size]; kernel_rfl) | (rw [(PtV.arr ‹_›).size]; kernel_rfl) | (rw [(QtN.arr ‹_›).size]; kernel_rfl))) rfl ?_
  exact ⟨_, hz0, rfl, HS.out.below⟩
theorem en33_up (args : Array Value) (w : World) : (callFunc 53 args).run Tryz.prog w = .ok (.enter 53 args) w := by kernel_rfl
theorem en34_up (args : Array Value) (w : World) : (callFunc 50 args).run Tryz.prog w = .ok (.enter 50 args) w := by kernel_rfl
theorem en40_up (args : Array Value) (w : World) : (callFunc 49 args).run Tryz.prog w = .ok (.enter 49 args) w := by kernel_rfl
theorem en42_up (args : Array Value) (w : World) : (callFunc 77 args).run Tryz.prog w = .ok (.enter 77 args) w := by kernel_rfl
theorem en43_up (args : Array Value) (w : World) : (callFunc 78 args).run Tryz.prog w = .ok (.enter 78 args) w := by kernel_rfl
theorem en44_up (args : Array Value) (w : World) : (callFunc 79 args).run Tryz.prog w = .ok (.enter 79 args) w := by kernel_rfl
theorem en55_up (args : Array Value) (w : World) : (callFunc 76 args).run Tryz.prog w = .ok (.enter 76 args) w := by kernel_rfl
set_option maxRecDepth 100000 in
set_option maxHeartbeats 6400000 in
theorem unpack_32 {A : Option Addr} {c : Nat} {l : List UInt8} (w : World) (hl : l.length = 32) (hr : Rd w (.slice A 32 c) 1 32 (bvs l)) : Calls Tryz.prog 34 #[.slice A 32 c] w (ResG w (pageL l)) := by
  obtain ⟨zz, hzz, hc⟩ : ∃ v, Tryz.prog.built 43 [] = some v ∧ NA v 0 := ⟨_, build0N, na_0⟩
  have HZZ := hide (And.intro hzz trivial)
  have HS := hide (St.init w NoB)
  obtain ⟨cb, hxb⟩ : ∃ cb, l[31]? = some cb := ⟨l[31], List.getElem?_eq_getElem _⟩
  have gB := bvs_get hxb
  obtain ⟨ch, hch⟩ : ∃ c : Nat, c = cb.toNat := ⟨_, rfl⟩
  have hc8 : ch < 256 := by rw [hch]; exact UInt8.toNat_lt _
  have hlow : lowL l = l.set 31 (UInt8.ofNat (ch % 128)) := by unfold lowL; rw [List.getD_eq_getElem?_getD, hxb, hch]; rfl
  have htop : topB l = decide (128 ≤ ch) := by unfold topB; rw [List.getD_eq_getElem?_getD, hxb, hch]; rfl
  rw [← hch] at gB
  have hand := u8_and127 ch hc8
  have hand2 := u8_and128 ch hc8
  have hm : ch % 128 < 256 := by omega
  obtain ⟨cm, hcm⟩ : ∃ m, m = ch % 128 := ⟨_, rfl⟩
  rw [← hcm] at hand hm hlow
  clear hcm
  obtain ⟨od, hod⟩ : ∃ b, b = topB l := ⟨_, rfl⟩
  obtain ⟨ct, hct⟩ : ∃ m, m = ch / 128 * 128 := ⟨_, rfl⟩
  rw [← hct] at hand2
  have ho0 : od = !decide (ct = 0) := by
    rw [hod, htop]
    by_cases h : 128 ≤ ch
    · rw [decide_eq_true h, decide_eq_false (by omega)]; rfl
    · rw [decide_eq_false h, decide_eq_true (by omega)]; rfl
  have ho4 : decide ((ct : Int) = 0) = decide (ct = 0) := decide_eq_decide.2 (by omega)
  have ho3 : decide ((ct : Int) = 0) = !od := by rw [ho4, ho0, Bool.not_not]
  have ho2 : ((ct : Int) == 0) = !od := ho3
  have ho1 : ((ct : Int) != 0) = od := by rw [bne, ho2, Bool.not_not]
  clear ho0 ho4
  have HR := hide hr
  have GB := hide gB
  have HLOW := hide hlow
  have HOD := hide hod
  have HL := hide hl
  have HM := hide hm
  clear hxb hch gB hlow htop hr hl hm hct hod hzz
  go_enter Tryz.func34, Tryz.ntmps34
  go_upto_region 4 with (first
    | (at_builtin; refine wl_append0 rfl rfl tyB HS.out rfl rfl (HR.out.below HS.out.below) (one_bvs _) (by omega) (by decide) ?_; intro A3 c3 w3 hS3; have HS := hide hS3; clear hS3)
    | (refine wl_loadP rfl rfl rfl HS.out (by (repeat first | exact .head _ | apply List.Mem.tail)) (by first | exact rowE | exact rowP | exact rowN | exact rowQ) (by (first | exact .q0 (EA.arr ‹_›) | exact .q1 (EA.arr ‹_›) (EA.arr ‹_›) | exact .q2 (EA.arr ‹_›) (EA.arr ‹_›) (EA.arr ‹_›) | exact .q3 (EA.arr ‹_›) (EA.arr ‹_›) (EA.arr ‹_›) (EA.arr ‹_›) | exact .q0 (NA.arr ‹_›) | exact .q1 (NA.arr ‹_›) (NA.arr ‹_›) | exact .q2 (NA.arr ‹_›) (NA.arr ‹_›) (NA.arr ‹_›) | exact .q3 (NA.arr ‹_›) (NA.arr ‹_›) (NA.arr ‹_›) (NA.arr ‹_›) | exact .all (by (first | exact EA.arr ‹_› | exact NA.arr ‹_› | exact arr_zE | exact arr_zN | exact arr_zP | exact arr_zQ | exact PtN.arr ‹_› | exact PtV.arr ‹_› | exact QtN.arr ‹_› | exact qE ‹_› ‹_› ‹_› ‹_› | exact qN ‹_› ‹_› ‹_› ‹_›)))) ?_; (try simp only [Act.put, nq1, nq2, nq3, nq4, nq5, nq6])) | (refine wl_storeR rfl rfl rfl rfl HS.out (by first | exact rowE | exact rowP | exact rowN | exact rowQ) (by (repeat first | exact .head | apply Upd.tail)) (by (first | exact EA.arr ‹_› | exact NA.arr ‹_› | exact arr_zE | exact arr_zN | exact arr_zP | exact arr_zQ | exact PtN.arr ‹_› | exact PtV.arr ‹_› | exact QtN.arr ‹_› | exact qE ‹_› ‹_› ‹_› ‹_› | exact qN ‹_› ‹_› ‹_› ‹_›)) (by (first | exact EA.arr ‹_› | exact NA.arr ‹_› | exact arr_zE | exact arr_zN | exact arr_zP | exact arr_zQ | exact PtN.arr ‹_› | exact PtV.arr ‹_› | exact QtN.arr ‹_› | exact qE ‹_› ‹_› ‹_› ‹_› | exact qN ‹_› ‹_› ‹_› ‹_›)) ?_; intro wz hS9; have HS := hide hS9; clear hS9; (try simp only [Act.put, nq1, nq2, nq3, nq4, nq5, nq6])) | (refine wl_allocR rfl rfl HS.out (by first | exact newE | exact newP | exact newN | exact newQ) ?_; intro gz wz hS9; have HS := hide hS9; clear hS9; (try simp only [Act.put, nq1, nq2, nq3, nq4, nq5, nq6])) | (refine wl_boxR rfl rfl rfl HS.out ?_; intro gz wz hS9; have HS := hide hS9; clear hS9; (try simp only [Act.put, nq1, nq2, nq3, nq4, nq5, nq6])))
  obtain ⟨g, c1, hvv, _, _, hcs, hfr, _⟩ := HS.out.rowOpen 0 rfl (by omega)
  injection hvv with hvv1 _ hvv3
  subst hvv1 hvv3
  have k31 := hcs 31 _ GB.out
  have f31 := hfr 31
  clear hcs hfr
  go_upto_region 6 with fail
  have h9 := HS.out.rowSet 0 rfl 31 (.int .u8 (cm : Int)) (by omega)
  simp only [List.set_cons_zero] at h9
  rw [bvs_set _ _ _ HM.out, ← HLOW.out] at h9
  have HS := hide h9
  have hll : (lowL l).length = 32 := by rw [lowL_len]; exact HL.out
  clear h9 k31 f31
  go_upto_region 7 with (first
    | (go_at_call 75; (with_reducible refine (fromNA hll (by decide) _ (HS.out.rd 0 rfl)).mono ?_); rintro e wy ⟨zy, hzy, rfl, hb⟩; have HS := hide (HS.out.call hb))
    | (refine wl_storeR rfl rfl rfl rfl HS.out rowN (.head) (by first | exact NA.arr ‹_› | exact arr_zN) (by first | exact NA.arr ‹_› | exact arr_zN) ?_; intro wz hS9; have HS := hide hS9; clear hS9; (try simp only [Act.put, nq1, nq2, nq3, nq4, nq5, nq6])) | (refine wl_allocR rfl rfl HS.out newN ?_; intro gz wz hS9; have HS := hide hS9; clear hS9; (try simp only [Act.put, nq1, nq2, nq3, nq4, nq5, nq6])))
  have HS := hide HS.out.drew
  refine wp_region_T [(0, 0), (3, 1), (4, 0), (1, 2), (2, 0), (5, 1)] (by kernel_rfl) (by kernel_rfl) (fun _ _ _ _ h => h) ?_
  generalize wz.drew = wd at HS ⊢
  have cvc : ∀ x, From wd x → (convert 22 9 (.slice (some ⟨g, 0, none⟩) 32 c3)).run Tryz.prog x = .ok (.string (strOf (lowL l))) x := fun x hx => run_str Tryz.underlying22 Tryz.underlying5 Tryz.underlying9 ((HS.out.rd 1 rfl).below hx)
  refine wpT_loadP rfl rfl rfl rfl HS.out (.head _) rowN (.all (by (first | exact EA.arr ‹_› | exact NA.arr ‹_› | exact arr_zE | exact arr_zN | exact arr_zP | exact arr_zQ | exact PtN.arr ‹_› | exact PtV.arr ‹_› | exact QtN.arr ‹_› | exact qE ‹_› ‹_› ‹_› ‹_› | exact qN ‹_› ‹_› ‹_› ‹_›))) ?_; (try simp only [Act.put, nq1, nq2, nq3, nq4, nq5, nq6])
  (refine wpT_pure (v := ?_) rfl rfl ?_ ?_; rotate_left; (intro wx; go_simp; try go_bits) <;> (with_reducible rfl)); (try simp only [Act.put, nq1, nq2, nq3, nq4, nq5, nq6])
  (refine wpT_read (v := ?_) rfl rfl ?_ ?_; rotate_left; (intro wx hx; go_simp; try go_bits) <;> (with_reducible rfl)); (try simp only [Act.put, nq1, nq2, nq3, nq4, nq5, nq6])
  refine wpT_callF rfl rfl rfl en40_up rfl (bytesNA _ hzy) ?_; rintro e wy ⟨B2, d2, rfl, hb, ho⟩; rw [leB_len] at ho ⊢; refine ⟨_, rfl, hb, ?_⟩; have HS := hide (HS.out.row hb ho); clear ho; (try simp only [Act.put, nq1, nq2, nq3, nq4, nq5, nq6])
  have cv2 : ∀ x, From wy x → (convert 22 9 (.slice B2 32 d2)).run Tryz.prog x = .ok (.string (strOf (leB 32 (fbytes (lowL l)).val))) x := fun x hx => run_str Tryz.underlying22 Tryz.underlying5 Tryz.underlying9 ((HS.out.rd 0 rfl).below hx)
  (refine wpT_read (v := ?_) rfl rfl ?_ ?_; rotate_left; (intro wx hx; go_simp; try go_bits) <;> (with_reducible rfl)); (try simp only [Act.put, nq1, nq2, nq3, nq4, nq5, nq6])
  by_cases hcan : leB 32 (fbytes (lowL l)).val = lowL l
  · have qc1 : (leB 32 (fbytes (lowL l)).val == lowL l) = true := by rw [hcan]; exact beq_self_eq_true _
    have qc2 : (leB 32 (fbytes (lowL l)).val != lowL l) = false := by rw [bne, qc1]; rfl
    have HCAN := hide hcan
    clear hcan
    (refine wpT_pure (v := ?_) rfl rfl ?_ ?_; rotate_left; (intro wx; go_simp; try go_bits) <;> (with_reducible rfl)); (try simp only [Act.put, nq1, nq2, nq3, nq4, nq5, nq6])
    refine wpT_nil ?_
    clear qc1 qc2 cvc cv2
    go_upto_region 10 with (first
      | (go_at_call 50; (with_reducible refine (mulNA _ hzy hzy).mono ?_); rintro e wy ⟨zs, hzs, rfl, hb⟩; have HS := hide (HS.out.call hb))
      | (refine wl_loadP rfl rfl rfl HS.out (.tail _ (.head _)) rowN (.all (by first | exact NA.arr ‹_› | exact arr_zN)) ?_; (try simp only [Act.put, nq1, nq2, nq3, nq4, nq5, nq6])) | (refine wl_storeR rfl rfl rfl rfl HS.out rowN (.head) (by first | exact NA.arr ‹_› | exact arr_zN) (by first | exact NA.arr ‹_› | exact arr_zN) ?_; intro wz hS9; have HS := hide hS9; clear hS9; (try simp only [Act.put, nq1, nq2, nq3, nq4, nq5, nq6])) | (refine wl_allocR rfl rfl HS.out newN ?_; intro gz wz hS9; have HS := hide hS9; clear hS9; (try simp only [Act.put, nq1, nq2, nq3, nq4, nq5, nq6])))
    have HS := hide HS.out.drew
    refine wp_region_XE [(12, 8)] [(0, 0), (4, 0), (1, 2), (2, 2), (3, 2), (5, 2), (6, 2), (7, 2), (8, 2), (9, 1), (10, 1), (11, 1)] (.op 13 2 (.op 14 1 (.nil))) zN 43 (by kernel_rfl) (by kernel_rfl) (by kernel_rfl) (by intro p hp; simp only [List.mem_cons, List.not_mem_nil, or_false] at hp; subst hp <;> exact flOp_of rfl rfl rfl (fun ev x => run_allocR rfl newN ev x)) (fun _ _ _ _ h => h) ?_
    refine wpX_loadP rfl rfl rfl rfl HS.out (.head _) rowN (.all (by first | exact NA.arr ‹_› | exact arr_zN)) ?_; (try simp only [Act.put, nq1, nq2, nq3, nq4, nq5, nq6])
    refine wpX_loadP rfl rfl rfl rfl HS.out (.head _) rowN (.all (by first | exact NA.arr ‹_› | exact arr_zN)) ?_; (try simp only [Act.put, nq1, nq2, nq3, nq4, nq5, nq6])
    refine wpX_callF rfl rfl rfl en33_up rfl (fun x => smallNA1 x) ?_; rintro xw e wy ⟨z, hz, rfl, hb⟩; refine ⟨_, rfl, hb, ?_⟩; (try simp only [Act.put, nq1, nq2, nq3, nq4, nq5, nq6])
    refine wpX_callF rfl rfl rfl en42_up rfl (fun x => subNA x ‹_› ‹_›) ?_; rintro xw e wy ⟨z, hz, rfl, hb⟩; refine ⟨_, rfl, hb, ?_⟩; (try simp only [Act.put, nq1, nq2, nq3, nq4, nq5, nq6])
    refine wpX_callF rfl rfl rfl en44_up rfl (fun x => dNA x) ?_; rintro xw e wy ⟨z, hz, rfl, hb⟩; refine ⟨_, rfl, hb, ?_⟩; (try simp only [Act.put, nq1, nq2, nq3, nq4, nq5, nq6])
    refine wpX_callF rfl rfl rfl en34_up rfl (fun x => mulNA x ‹_› ‹_›) ?_; rintro xw e wy ⟨z, hz, rfl, hb⟩; refine ⟨_, rfl, hb, ?_⟩; (try simp only [Act.put, nq1, nq2, nq3, nq4, nq5, nq6])
    refine wpX_callF rfl rfl rfl en33_up rfl (fun x => smallNA1 x) ?_; rintro xw e wy ⟨z, hz, rfl, hb⟩; refine ⟨_, rfl, hb, ?_⟩; (try simp only [Act.put, nq1, nq2, nq3, nq4, nq5, nq6])
    refine wpX_callF rfl rfl rfl en43_up rfl (fun x => addNA x ‹_› ‹_›) ?_; rintro xw e wy ⟨z, hz, rfl, hb⟩; refine ⟨_, rfl, hb, ?_⟩; (try simp only [Act.put, nq1, nq2, nq3, nq4, nq5, nq6])
    refine wpX_callF rfl rfl rfl en55_up rfl (fun x => rootN_any x (by assumption) (by assumption)) ?_; rintro xw e wy ⟨z, hz, rfl, hb⟩; refine ⟨_, rfl, hb, ?_⟩; (try simp only [Act.put, nq1, nq2, nq3, nq4, nq5, nq6])
    (refine wpX_pure (v := ?_) rfl rfl ?_ ?_; rotate_left; (intro wx; go_simp; try go_bits) <;> (with_reducible rfl)); (try simp only [Act.put, nq1, nq2, nq3, nq4, nq5, nq6])
    (refine wpX_pure (v := ?_) rfl rfl ?_ ?_; rotate_left; (intro wx; go_simp; try go_bits) <;> (with_reducible rfl)); (try simp only [Act.put, nq1, nq2, nq3, nq4, nq5, nq6])
    (refine wpX_pure (v := ?_) rfl rfl ?_ ?_; rotate_left; (intro wx; go_simp; try go_bits) <;> (with_reducible rfl)); (try simp only [Act.put, nq1, nq2, nq3, nq4, nq5, nq6])
    refine wpX_nil ?_; intro G xz hx0 hx hF; have hS9 := HS.out.floats hx0 hF _ (by decide) (fun _ h => h); simp only [List.map_cons, List.map_nil, List.cons_append, List.nil_append] at hS9; have HS := hide hS9; have HX := hide hx0; have HG := hide hF.at_; clear hS9 hF hx0 hx; simp only [putsE, List.foldl_cons, List.foldl_nil]; (try simp only [Act.put, nq1, nq2, nq3, nq4, nq5, nq6])
    refine wpS_storeF rfl rfl rfl rfl rfl HS.out HX.out (HG.out 12 (by simp)).1 rowN (.head) (by first | exact NA.arr ‹_› | exact arr_zN) (by first | exact NA.arr ‹_› | exact arr_zN) ?_; intro wz hS9 hX9; have HS := hide hS9; have HX := hide hX9; clear hS9 hX9; (try simp only [Act.put, nq1, nq2, nq3, nq4, nq5, nq6])
    (refine wpS_pure (v := ?_) rfl rfl ?_ ?_; rotate_left; (intro wx; go_simp; try go_bits) <;> (with_reducible rfl)); (try simp only [Act.put, nq1, nq2, nq3, nq4, nq5, nq6])
    refine wpS_nil ?_
    have hcm : dF * (fbytes (lowL l) * fbytes (lowL l)) = fbytes (lowL l) * fbytes (lowL l) * dF := fl2 _ _
    rw [hcm] at hz ⊢
    cases hrt : rtF (fbytes (lowL l) * fbytes (lowL l) - 1) (fbytes (lowL l) * fbytes (lowL l) * dF + 1) with
    | none =>
      have hF : pageL l = none := by unfold pageL; rw [if_pos HL.out, if_pos HCAN.out, unp_none hrt]
      simp only [Option.isSome_none]
      have HFK := hide hF
      clear hrt hF
      go_wp2_with (first | (go_at_call 52; (with_reducible refine (zeroQ _).mono ?_); rintro e wy ⟨z0, hz0, rfl, hb⟩; have HS := hide (HS.out.call hb)) | (refine wl_storeR rfl rfl rfl rfl HS.out rowQ (.tail (.tail (.tail (.tail (.tail (.head)))))) (by first | exact arr_zQ | exact QtN.arr ‹_› | exact qN ‹_› ‹_› ‹_› ‹_›) (by first | exact arr_zQ | exact QtN.arr ‹_› | exact qN ‹_› ‹_› ‹_› ‹_›) ?_; intro wz hS9; have HS := hide hS9; clear hS9; (try simp only [Act.put, nq1, nq2, nq3, nq4, nq5, nq6])) | (refine wl_build0 rfl rfl (HZZ.out).1 ?_; (try simp only [Act.put, nq1, nq2, nq3, nq4, nq5, nq6])) | (refine wl_loadG rfl rfl rfl HS.out (.head _) rowN (.all (by first | exact NA.arr ‹_› | exact arr_zN)) ?_; (try simp only [Act.put, nq1, nq2, nq3, nq4, nq5, nq6])))
      refine bodyPost_ret (results_cell_tmp_row rfl _ _ _ _ _ _ _ rfl (HS.out.heapM (by (repeat first | exact .head _ | apply List.Mem.tail))) Tryz.underlying45 rfl (by first | (rw [(EA.arr ‹_›).size]; kernel_rfl) | (rw [(NA.arr ‹_›).size]; kernel_rfl) | (rw [(qE ‹_› ‹_› ‹_› ‹_›).size]; kernel_rfl) | (rw [(qN ‹_› ‹_› ‹_› ‹_›).size]; kernel_rfl) | (rw [(PtN.arr ‹_›).size]; kernel_rfl) | (rw [(PtV.arr ‹_›).size]; kernel_rfl) | (rw [(QtN.arr ‹_›).size]; kernel_rfl))) rfl ?_
      rw [HFK.out]
      exact ⟨_, hz0, rfl, HS.out.below⟩
    | some x =>
      have hx := ‹NA _ ((rtF (fbytes (lowL l) * fbytes (lowL l) - 1) (fbytes (lowL l) * fbytes (lowL l) * dF + 1)).getD 0)›
      rw [hrt, Option.getD_some] at hx
      obtain ⟨P, hP, hPx, hPy⟩ := unp_some (odd := topB l) hrt
      have hF : pageL l = if topB l = true ∧ P.x = 0 then none else some P := by
        unfold pageL
        rw [if_pos HL.out, if_pos HCAN.out, hP]
      simp only [Option.isSome_some]
      rw [← HOD.out] at hF hPx
      have hpt := fun (a b c d : Array Value) (ha : NA a P.x) (hb : NA b P.y) (hc : NA c 1) (hd : NA d (P.x * P.y)) => (⟨⟨P.x, P.y, 1, P.x * P.y⟩, a, b, c, d, rfl, ha, hb, hc, hd, rp_of P⟩ : QtN (quad a b c d) P)
      have HPT := hide hpt
      clear hrt hP hpt
      rw [← hPy] at hzy
      have HSM := hide (fun W => sameNA W hx hc)
      cases od with
      | false =>
        have hPx2 : P.x = x := hPx
        have HF := hide (hF.trans (if_neg (fun h => by cases h.1)))
        rw [← hPx2] at hx
        clear hPx hF hPy
        go_upto_region 15 with fail
        have HS := hide HS.out.drew
        refine wp_region_T [(0, 0), (1, 0), (3, 0), (4, 0), (2, 2), (5, 2), (6, 1), (7, 3), (8, 1)] (by kernel_rfl) (by kernel_rfl) (fun _ _ _ _ h => h) ?_
        refine wpT_loadP rfl rfl rfl rfl HS.out (.head _) rowN (.all (by first | exact NA.arr ‹_› | exact arr_zN)) ?_; (try simp only [Act.put, nq1, nq2, nq3, nq4, nq5, nq6])
        refine wpT_loadP rfl rfl rfl rfl HS.out (.tail _ (.tail _ (.tail _ (.head _)))) rowN (.all (by first | exact NA.arr ‹_› | exact arr_zN)) ?_; (try simp only [Act.put, nq1, nq2, nq3, nq4, nq5, nq6])
        refine wpT_loadP rfl rfl rfl rfl HS.out (.head _) rowN (.all (by first | exact NA.arr ‹_› | exact arr_zN)) ?_; (try simp only [Act.put, nq1, nq2, nq3, nq4, nq5, nq6])
        refine wpT_loadP rfl rfl rfl rfl HS.out (.tail _ (.tail _ (.tail _ (.head _)))) rowN (.all (by first | exact NA.arr ‹_› | exact arr_zN)) ?_; (try simp only [Act.put, nq1, nq2, nq3, nq4, nq5, nq6])
        refine wpT_callF rfl rfl rfl en33_up rfl (smallNA1 _) ?_; rintro e wy ⟨z, hz, rfl, hb⟩; refine ⟨_, rfl, hb, ?_⟩; have HS := hide (HS.out.call hb); (try simp only [Act.put, nq1, nq2, nq3, nq4, nq5, nq6])
        refine wpT_callF rfl rfl rfl en34_up rfl (mulNA _ ‹_› ‹_›) ?_; rintro e wy ⟨z, hz, rfl, hb⟩; refine ⟨_, rfl, hb, ?_⟩; have HS := hide (HS.out.call hb); (try simp only [Act.put, nq1, nq2, nq3, nq4, nq5, nq6])
        refine wpT_pure rfl rfl (fun x => run_build4 rfl rfl rfl rfl rfl buildQ (exN ‹_›) (exN ‹_›) (exN ‹_›) (exN ‹_›) x) ?_; (try simp only [Act.put, nq1, nq2, nq3, nq4, nq5, nq6])
        refine wpT_late rfl rfl ?_; intro K hK; refine wp_storeR rfl rfl rfl HS.out rowQ (.tail (.tail (.tail (.tail (.tail (.head)))))) (by first | exact arr_zQ | exact QtN.arr ‹_› | exact qN ‹_› ‹_› ‹_› ‹_›) (by first | exact arr_zQ | exact QtN.arr ‹_› | exact qN ‹_› ‹_› ‹_› ‹_›) ?_; intro wz hS9; have HS := hide hS9; clear hS9; refine hK _ _ ?_; (try simp only [Act.put, nq1, nq2, nq3, nq4, nq5, nq6])
        (refine wpT_pure (v := ?_) rfl rfl ?_ ?_; rotate_left; (intro wx; go_simp; try go_bits) <;> (with_reducible rfl)); (try simp only [Act.put, nq1, nq2, nq3, nq4, nq5, nq6])
        refine wpT_nil ?_
        go_wp2_with fail
        refine bodyPost_ret (results_cell_tmp_row rfl _ _ _ _ _ _ _ rfl (HS.out.heapM (by (repeat first | exact .head _ | apply List.Mem.tail))) Tryz.underlying45 rfl (by first | (rw [(EA.arr ‹_›).size]; kernel_rfl) | (rw [(NA.arr ‹_›).size]; kernel_rfl) | (rw [(qE ‹_› ‹_› ‹_› ‹_›).size]; kernel_rfl) | (rw [(qN ‹_› ‹_› ‹_› ‹_›).size]; kernel_rfl) | (rw [(PtN.arr ‹_›).size]; kernel_rfl) | (rw [(PtV.arr ‹_›).size]; kernel_rfl) | (rw [(QtN.arr ‹_›).size]; kernel_rfl))) rfl ?_
        rw [HF.out]
        exact ⟨_, HPT.out _ _ _ _ (by assumption) (by assumption) (by assumption) (by assumption), rfl, HS.out.below⟩
      | true =>
        have hPx2 : P.x = 0 - x := by rw [zsub]; exact hPx
        by_cases hx0 : x = 0
        · have HF := hide (hF.trans (if_pos ⟨rfl, by rw [hPx2, hx0, zsub, fneg_zero']⟩))
          rw [decide_eq_true hx0] at HSM
          clear hPx hF hPy hx0 hPx2
          go_wp2_with (first | (go_at_call 52; (with_reducible refine (zeroQ _).mono ?_); rintro e wy ⟨z0, hz0, rfl, hb⟩; have HS := hide (HS.out.call hb)) | (refine wl_build0G rfl rfl (HZZ.out).1 ?_; (try simp only [Act.put, nq1, nq2, nq3, nq4, nq5, nq6])) | (go_at_call 80; (with_reducible refine (HSM.out _).mono ?_); rintro e wy ⟨rfl, hb⟩; have HS := hide (HS.out.call hb)) | (refine wl_loadG rfl rfl rfl HS.out (.head _) rowN (.all (by first | exact NA.arr ‹_› | exact arr_zN)) ?_; (try simp only [Act.put, nq1, nq2, nq3, nq4, nq5, nq6])) | (refine wl_storeR rfl rfl rfl rfl HS.out rowQ (.tail (.tail (.tail (.tail (.tail (.head)))))) (by first | exact arr_zQ | exact QtN.arr ‹_› | exact qN ‹_› ‹_› ‹_› ‹_›) (by first | exact arr_zQ | exact QtN.arr ‹_› | exact qN ‹_› ‹_› ‹_› ‹_›) ?_; intro wz hS9; have HS := hide hS9; clear hS9; (try simp only [Act.put, nq1, nq2, nq3, nq4, nq5, nq6])))
          refine bodyPost_ret (results_cell_tmp_row rfl _ _ _ _ _ _ _ rfl (HS.out.heapM (by (repeat first | exact .head _ | apply List.Mem.tail))) Tryz.underlying45 rfl (by first | (rw [(EA.arr ‹_›).size]; kernel_rfl) | (rw [(NA.arr ‹_›).size]; kernel_rfl) | (rw [(qE ‹_› ‹_› ‹_› ‹_›).size]; kernel_rfl) | (rw [(qN ‹_› ‹_› ‹_› ‹_›).size]; kernel_rfl) | (rw [(PtN.arr ‹_›).size]; kernel_rfl) | (rw [(PtV.arr ‹_›).size]; kernel_rfl) | (rw [(QtN.arr ‹_›).size]; kernel_rfl))) rfl ?_
          rw [HF.out]
          exact ⟨_, hz0, rfl, HS.out.below⟩
        · have HF := hide (hF.trans (if_neg (fun h => hx0 (by have := h.2; rw [hPx2] at this; grind))))
          rw [decide_eq_false hx0] at HSM
          have HP2 := hide hPx2
          clear hPx hF hPy hx0 hPx2
          go_upto_region 15 with (first | (go_at_call 77; (with_reducible refine (subNA _ hc hx).mono ?_); rintro e wy ⟨zn, hzn, rfl, hb⟩; have HS := hide (HS.out.call hb)) | (refine wl_build0 rfl rfl (HZZ.out).1 ?_; (try simp only [Act.put, nq1, nq2, nq3, nq4, nq5, nq6])) | (refine wl_build0G rfl rfl (HZZ.out).1 ?_; (try simp only [Act.put, nq1, nq2, nq3, nq4, nq5, nq6])) | (go_at_call 80; (with_reducible refine (HSM.out _).mono ?_); rintro e wy ⟨rfl, hb⟩; have HS := hide (HS.out.call hb)) | (refine wl_loadG rfl rfl rfl HS.out (.head _) rowN (.all (by first | exact NA.arr ‹_› | exact arr_zN)) ?_; (try simp only [Act.put, nq1, nq2, nq3, nq4, nq5, nq6])) | (refine wl_loadP rfl rfl rfl HS.out (.head _) rowN (.all (by first | exact NA.arr ‹_› | exact arr_zN)) ?_; (try simp only [Act.put, nq1, nq2, nq3, nq4, nq5, nq6])) | (refine wl_storeR rfl rfl rfl rfl HS.out rowN (.head) (by first | exact NA.arr ‹_› | exact arr_zN) (by first | exact NA.arr ‹_› | exact arr_zN) ?_; intro wz hS9; have HS := hide hS9; clear hS9; (try simp only [Act.put, nq1, nq2, nq3, nq4, nq5, nq6])))
          rw [← HP2.out] at hzn
          clear hx
          have HS := hide HS.out.drew
          refine wp_region_T [(0, 0), (1, 0), (3, 0), (4, 0), (2, 2), (5, 2), (6, 1), (7, 3), (8, 1)] (by kernel_rfl) (by kernel_rfl) (fun _ _ _ _ h => h) ?_
          refine wpT_loadP rfl rfl rfl rfl HS.out (.head _) rowN (.all (by first | exact NA.arr ‹_› | exact arr_zN)) ?_; (try simp only [Act.put, nq1, nq2, nq3, nq4, nq5, nq6])
          refine wpT_loadP rfl rfl rfl rfl HS.out (.tail _ (.tail _ (.tail _ (.head _)))) rowN (.all (by first | exact NA.arr ‹_› | exact arr_zN)) ?_; (try simp only [Act.put, nq1, nq2, nq3, nq4, nq5, nq6])
          refine wpT_loadP rfl rfl rfl rfl HS.out (.head _) rowN (.all (by first | exact NA.arr ‹_› | exact arr_zN)) ?_; (try simp only [Act.put, nq1, nq2, nq3, nq4, nq5, nq6])
          refine wpT_loadP rfl rfl rfl rfl HS.out (.tail _ (.tail _ (.tail _ (.head _)))) rowN (.all (by first | exact NA.arr ‹_› | exact arr_zN)) ?_; (try simp only [Act.put, nq1, nq2, nq3, nq4, nq5, nq6])
          refine wpT_callF rfl rfl rfl en33_up rfl (smallNA1 _) ?_; rintro e wy ⟨z, hz, rfl, hb⟩; refine ⟨_, rfl, hb, ?_⟩; have HS := hide (HS.out.call hb); (try simp only [Act.put, nq1, nq2, nq3, nq4, nq5, nq6])
          refine wpT_callF rfl rfl rfl en34_up rfl (mulNA _ ‹_› ‹_›) ?_; rintro e wy ⟨z, hz, rfl, hb⟩; refine ⟨_, rfl, hb, ?_⟩; have HS := hide (HS.out.call hb); (try simp only [Act.put, nq1, nq2, nq3, nq4, nq5, nq6])
          refine wpT_pure rfl rfl (fun x => run_build4 rfl rfl rfl rfl rfl buildQ (exN ‹_›) (exN ‹_›) (exN ‹_›) (exN ‹_›) x) ?_; (try simp only [Act.put, nq1, nq2, nq3, nq4, nq5, nq6])
          refine wpT_late rfl rfl ?_; intro K hK; refine wp_storeR rfl rfl rfl HS.out rowQ (.tail (.tail (.tail (.tail (.tail (.head)))))) (by first | exact arr_zQ | exact QtN.arr ‹_› | exact qN ‹_› ‹_› ‹_› ‹_›) (by first | exact arr_zQ | exact QtN.arr ‹_› | exact qN ‹_› ‹_› ‹_› ‹_›) ?_; intro wz hS9; have HS := hide hS9; clear hS9; refine hK _ _ ?_; (try simp only [Act.put, nq1, nq2, nq3, nq4, nq5, nq6])
          (refine wpT_pure (v := ?_) rfl rfl ?_ ?_; rotate_left; (intro wx; go_simp; try go_bits) <;> (with_reducible rfl)); (try simp only [Act.put, nq1, nq2, nq3, nq4, nq5, nq6])
          refine wpT_nil ?_
          go_wp2_with fail
          refine bodyPost_ret (results_cell_tmp_row rfl _ _ _ _ _ _ _ rfl (HS.out.heapM (by (repeat first | exact .head _ | apply List.Mem.tail))) Tryz.underlying45 rfl (by first | (rw [(EA.arr ‹_›).size]; kernel_rfl) | (rw [(NA.arr ‹_›).size]; kernel_rfl) | (rw [(qE ‹_› ‹_› ‹_› ‹_›).size]; kernel_rfl) | (rw [(qN ‹_› ‹_› ‹_› ‹_›).size]; kernel_rfl) | (rw [(PtN.arr ‹_›).size]; kernel_rfl) | (rw [(PtV.arr ‹_›).size]; kernel_rfl) | (rw [(QtN.arr ‹_›).size]; kernel_rfl))) rfl ?_
          rw [HF.out]
          exact ⟨_, HPT.out _ _ _ _ (by assumption) (by assumption) (by assumption) (by assumption), rfl, HS.out.below⟩
  · have qc1 : (leB 32 (fbytes (lowL l)).val == lowL l) = false := by simp [hcan]
    have qc2 : (leB 32 (fbytes (lowL l)).val != lowL l) = true := by rw [bne, qc1]; rfl
    have hF : pageL l = none := by unfold pageL; rw [if_pos HL.out, if_neg hcan]
    have HFK := hide hF
    clear hcan hF
    (refine wpT_pure (v := ?_) rfl rfl ?_ ?_; rotate_left; (intro wx; go_simp; try go_bits) <;> (with_reducible rfl)); (try simp only [Act.put, nq1, nq2, nq3, nq4, nq5, nq6])
    refine wpT_nil ?_
    clear qc1 qc2 cvc cv2
    go_wp2_with (first | (go_at_call 52; (with_reducible refine (zeroQ _).mono ?_); rintro e wy ⟨z0, hz0, rfl, hb⟩; have HS := hide (HS.out.call hb)) | (refine wl_storeR rfl rfl rfl rfl HS.out rowQ (.tail (.tail (.tail (.head)))) (by first | exact arr_zQ | exact QtN.arr ‹_› | exact qN ‹_› ‹_› ‹_› ‹_›) (by first | exact arr_zQ | exact QtN.arr ‹_› | exact qN ‹_› ‹_› ‹_› ‹_›) ?_; intro wz hS9; have HS := hide hS9; clear hS9; (try simp only [Act.put, nq1, nq2, nq3, nq4, nq5, nq6])))
    refine bodyPost_ret (results_cell_tmp_row rfl _ _ _ _ _ _ _ rfl (HS.out.heapM (by (repeat first | exact .head _ | apply List.Mem.tail))) Tryz.underlying45 rfl (by first | (rw [(EA.arr ‹_›).size]; kernel_rfl) | (rw [(NA.arr ‹_›).size]; kernel_rfl) | (rw [(qE ‹_› ‹_› ‹_› ‹_›).size]; kernel_rfl) | (rw [(qN ‹_› ‹_› ‹_› ‹_›).size]; kernel_rfl) | (rw [(PtN.arr ‹_›).size]; kernel_rfl) | (rw [(PtV.arr ‹_›).size]; kernel_rfl) | (rw [(QtN.arr ‹_›).size]; kernel_rfl))) rfl ?_
    rw [HFK.out]
    exact ⟨_, hz0, rfl, HS.out.below⟩
end Go.Proofs.YtkelegjppnfoaaaGreatDoor

namespace Go.Proofs.YtkelegjppnfoaaaGreatDoor
open Go.RowKit
set_option linter.unusedSimpArgs false

theorem mulV_far (l : List UInt8) (j : Nat) (h : l.length ≤ j / 8) : mulV l / 2 ^ j = 0 := by
  unfold mulV
  have h1 := bval_lt (l.take 32)
  refine Nat.div_eq_of_lt (Nat.lt_of_lt_of_le h1 ?_)
  rw [show (256 : Nat) = 2 ^ 8 from rfl, ← Nat.pow_mul]
  exact Nat.pow_le_pow_right (by decide) (by rw [List.length_take]; omega)
set_option maxRecDepth 100000 in
set_option maxHeartbeats 6400000 in
theorem timesQ {v : Array Value} {P : Ed} (A : Option Addr) (n c : Nat) (l : List UInt8) (w : World) (hv : QtN v P) (hl : l.length = n) (hn : n ≤ 1000) (hr : Rd w (.slice A n c) 1 n (bvs l)) :
    Calls Tryz.prog 19 #[.agg v, .slice A n c] w (ResQ w (tmE P (mulV l))) := by
  have HM := hide (show mulV l < 2 ^ 256 by
    unfold mulV
    have h1 := bval_lt (l.take 32)
    refine Nat.lt_of_lt_of_le h1 ?_
    rw [show (256 : Nat) = 2 ^ 8 from rfl, ← Nat.pow_mul]
    exact Nat.pow_le_pow_right (by decide) (by rw [List.length_take]; omega))
  have HBIT := hide (fun (j : Nat) (c : UInt8) (hc : l[j / 8]? = some c) (hj : j < 256) => show c.toNat / 2 ^ (j % 8) % 2 = mulV l / 2 ^ j % 2 from by
    have h : (l.take 32)[j / 8]? = some c := by rw [List.getElem?_take_of_lt (by omega)]; exact hc
    have := bval_bit (l.take 32) h (Nat.mod_lt j (by decide))
    rwa [Nat.div_add_mod] at this)
  have HFAR := hide (fun (j : Nat) (h : n ≤ j / 8) => mulV_far l j (by omega))
  have HR := hide hr
  have HL := hide hl
  generalize mulV l = V at *
  have HS := hide (St.init w NoB)
  clear hr hl
  go_enter Tryz.func19, Tryz.ntmps19
  go_wp2_with (first | (go_at_call 52; (with_reducible refine (zeroQ _).mono ?_); rintro e wy ⟨z, hz, rfl, hb⟩; have HS := hide (HS.out.call hb); clear hb) | (have _q := hz; refine wl_allocR rfl rfl HS.out newQ ?_; intro gz wz hS9; have HS := hide hS9; clear hS9; (try simp only [Act.put, nq1, nq2, nq3, nq4, nq5, nq6])) | (refine wl_allocR rfl rfl HS.out newQ ?_; intro gR wz hS9; have HS := hide hS9; clear hS9; (try simp only [Act.put, nq1, nq2, nq3, nq4, nq5, nq6])) | (refine wl_boxR rfl rfl rfl HS.out ?_; intro gP wz hS9; have HS := hide hS9; clear hS9; (try simp only [Act.put, nq1, nq2, nq3, nq4, nq5, nq6])) | (refine wl_loadP rfl rfl rfl HS.out (by (repeat first | exact .head _ | apply List.Mem.tail)) (by first | exact rowE | exact rowP | exact rowN | exact rowQ) (by (first | exact .q0 (EA.arr ‹_›) | exact .q1 (EA.arr ‹_›) (EA.arr ‹_›) | exact .q2 (EA.arr ‹_›) (EA.arr ‹_›) (EA.arr ‹_›) | exact .q3 (EA.arr ‹_›) (EA.arr ‹_›) (EA.arr ‹_›) (EA.arr ‹_›) | exact .q0 (NA.arr ‹_›) | exact .q1 (NA.arr ‹_›) (NA.arr ‹_›) | exact .q2 (NA.arr ‹_›) (NA.arr ‹_›) (NA.arr ‹_›) | exact .q3 (NA.arr ‹_›) (NA.arr ‹_›) (NA.arr ‹_›) (NA.arr ‹_›) | exact .all (by (first | exact EA.arr ‹_› | exact NA.arr ‹_› | exact arr_zE | exact arr_zN | exact arr_zP | exact arr_zQ | exact PtN.arr ‹_› | exact PtV.arr ‹_› | exact QtN.arr ‹_› | exact qE ‹_› ‹_› ‹_› ‹_› | exact qN ‹_› ‹_› ‹_› ‹_›)))) ?_; (try simp only [Act.put, nq1, nq2, nq3, nq4, nq5, nq6])) | (refine wl_storeR rfl rfl rfl rfl HS.out (by first | exact rowE | exact rowP | exact rowN | exact rowQ) (by (repeat first | exact .head | apply Upd.tail)) (by (first | exact EA.arr ‹_› | exact NA.arr ‹_› | exact arr_zE | exact arr_zN | exact arr_zP | exact arr_zQ | exact PtN.arr ‹_› | exact PtV.arr ‹_› | exact QtN.arr ‹_› | exact qE ‹_› ‹_› ‹_› ‹_› | exact qN ‹_› ‹_› ‹_› ‹_›)) (by (first | exact EA.arr ‹_› | exact NA.arr ‹_› | exact arr_zE | exact arr_zN | exact arr_zP | exact arr_zQ | exact PtN.arr ‹_› | exact PtV.arr ‹_› | exact QtN.arr ‹_› | exact qE ‹_› ‹_› ‹_› ‹_› | exact qN ‹_› ‹_› ‹_› ‹_›)) ?_; intro wz hS9; have HS := hide hS9; clear hS9; (try simp only [Act.put, nq1, nq2, nq3, nq4, nq5, nq6])) | (refine wl_allocR rfl rfl HS.out (by first | exact newE | exact newP | exact newN | exact newQ) ?_; intro gz wz hS9; have HS := hide hS9; clear hS9; (try simp only [Act.put, nq1, nq2, nq3, nq4, nq5, nq6])) | (refine wl_boxR rfl rfl rfl HS.out ?_; intro gz wz hS9; have HS := hide hS9; clear hS9; (try simp only [Act.put, nq1, nq2, nq3, nq4, nq5, nq6])))
  go_loopw [6] (fun iv wr => ∃ (j : Nat) (u : Array Value), j ≤ 256 ∧ iv = .int .i64 ((j : Int) - 1) ∧ Hid (QtN u (tmE P (V / 2 ^ j))) ∧ Hid (St w NoB wr [.cells gz u 45, .cells gR zQ 45, .cells gP v 45])) (fun iv _ => (1 + intOf iv).toNat)
  case atStart =>
    refine ⟨256, z, by omega, rfl, hide ?_, HS⟩
    rw [Nat.div_eq_of_lt HM.out]
    exact hz
  case round =>
    clear HS hz
    obtain ⟨j, u, hj, rfl, HU, HS⟩ := hrel
    cases j with
    | zero =>
      have e0 : ((0 : Nat) : Int) - 1 = -1 := by omega
      simp only [e0]
      have hu := HU.out
      go_wp2_with (first | (refine wl_loadP rfl rfl rfl HS.out (by (repeat first | exact .head _ | apply List.Mem.tail)) (by first | exact rowE | exact rowP | exact rowN | exact rowQ) (by (first | exact .q0 (EA.arr ‹_›) | exact .q1 (EA.arr ‹_›) (EA.arr ‹_›) | exact .q2 (EA.arr ‹_›) (EA.arr ‹_›) (EA.arr ‹_›) | exact .q3 (EA.arr ‹_›) (EA.arr ‹_›) (EA.arr ‹_›) (EA.arr ‹_›) | exact .q0 (NA.arr ‹_›) | exact .q1 (NA.arr ‹_›) (NA.arr ‹_›) | exact .q2 (NA.arr ‹_›) (NA.arr ‹_›) (NA.arr ‹_›) | exact .q3 (NA.arr ‹_›) (NA.arr ‹_›) (NA.arr ‹_›) (NA.arr ‹_›) | exact .all (by (first | exact EA.arr ‹_› | exact NA.arr ‹_› | exact arr_zE | exact arr_zN | exact arr_zP | exact arr_zQ | exact PtN.arr ‹_› | exact PtV.arr ‹_› | exact QtN.arr ‹_› | exact qE ‹_› ‹_› ‹_› ‹_› | exact qN ‹_› ‹_› ‹_› ‹_›)))) ?_; (try simp only [Act.put, nq1, nq2, nq3, nq4, nq5, nq6])) | (refine wl_storeR rfl rfl rfl rfl HS.out (by first | exact rowE | exact rowP | exact rowN | exact rowQ) (by (repeat first | exact .head | apply Upd.tail)) (by (first | exact EA.arr ‹_› | exact NA.arr ‹_› | exact arr_zE | exact arr_zN | exact arr_zP | exact arr_zQ | exact PtN.arr ‹_› | exact PtV.arr ‹_› | exact QtN.arr ‹_› | exact qE ‹_› ‹_› ‹_› ‹_› | exact qN ‹_› ‹_› ‹_› ‹_›)) (by (first | exact EA.arr ‹_› | exact NA.arr ‹_› | exact arr_zE | exact arr_zN | exact arr_zP | exact arr_zQ | exact PtN.arr ‹_› | exact PtV.arr ‹_› | exact QtN.arr ‹_› | exact qE ‹_› ‹_› ‹_› ‹_› | exact qN ‹_› ‹_› ‹_› ‹_›)) ?_; intro wz hS9; have HS := hide hS9; clear hS9; (try simp only [Act.put, nq1, nq2, nq3, nq4, nq5, nq6])) | (refine wl_allocR rfl rfl HS.out (by first | exact newE | exact newP | exact newN | exact newQ) ?_; intro gz wz hS9; have HS := hide hS9; clear hS9; (try simp only [Act.put, nq1, nq2, nq3, nq4, nq5, nq6])) | (refine wl_boxR rfl rfl rfl HS.out ?_; intro gz wz hS9; have HS := hide hS9; clear hS9; (try simp only [Act.put, nq1, nq2, nq3, nq4, nq5, nq6])))
      refine bodyPost_ret (results_cell_row rfl _ _ _ _ _ _ _ rfl (HS.out.heapM (by (repeat first | exact .head _ | apply List.Mem.tail))) Tryz.underlying45 rfl (by first | (rw [(EA.arr ‹_›).size]; kernel_rfl) | (rw [(NA.arr ‹_›).size]; kernel_rfl) | (rw [(qE ‹_› ‹_› ‹_› ‹_›).size]; kernel_rfl) | (rw [(qN ‹_› ‹_› ‹_› ‹_›).size]; kernel_rfl) | (rw [(PtN.arr ‹_›).size]; kernel_rfl) | (rw [(PtV.arr ‹_›).size]; kernel_rfl) | (rw [(QtN.arr ‹_›).size]; kernel_rfl))) rfl ?_
      rw [Nat.pow_zero, Nat.div_one] at hu
      exact ⟨_, hu, rfl, HS.out.below⟩
    | succ j =>
      have e1 : (((j + 1 : Nat) : Int) - 1) = (j : Int) := by omega
      simp only [e1]
      have di : decide ((0 : Int) ≤ (j : Int)) = true := by simp
      have j256 : (j : Int) < 256 := by omega
      obtain ⟨q, hq⟩ : ∃ q, q = j / 8 := ⟨_, rfl⟩
      obtain ⟨r, hrr⟩ : ∃ r, r = j % 8 := ⟨_, rfl⟩
      have tq : (j : Int).tdiv 8 = (q : Int) := by rw [Int.tdiv_eq_ediv_of_nonneg (by omega)]; omega
      have tr : (j : Int).tmod 8 = (r : Int) := by rw [Int.tmod_eq_emod_of_nonneg (by omega)]; omega
      have q32 : (q : Int) < 32 := by omega
      have r8 : (r : Int) < 8 := by omega
      have hu := HU.out
      have HSTEP := hide (tmE_bit P V j)
      have HJ := hide hj
      clear e1 hj
      by_cases hqn : q < n
      · have dq : decide ((q : Int) < (n : Int)) = true := by simp; omega
        have qn : (q : Int) < (n : Int) := by omega
        obtain ⟨cb, hxb⟩ : ∃ cb, l[q]? = some cb := ⟨l[q]'(by have := HL.out; omega), List.getElem?_eq_getElem _⟩
        obtain ⟨b, o, rfl, hcb⟩ := rd_at' HR.out (bvs_get hxb)
        have hbl := World.block_lt_of_cell? _ _ hcb
        obtain ⟨ch, hch⟩ : ∃ c : Nat, c = cb.toNat := ⟨_, rfl⟩
        have hbit := HBIT.out j cb (by rw [← hq]; exact hxb) (by omega)
        have hc8 : ch < 256 := by rw [hch]; exact UInt8.toNat_lt _
        rw [← hch] at hcb hbit
        rw [← hrr] at hbit
        have HB := hide (fun W (h : Below w.heap.size w W) => (h.cell (p := ⟨b, o + q, none⟩) hbl).trans hcb)
        obtain ⟨bt, hbt⟩ : ∃ t, t = ch / 2 ^ r % 2 := ⟨_, rfl⟩
        obtain ⟨cs, hcs⟩ : ∃ t, t = ch / 2 ^ r := ⟨_, rfl⟩
        have s1 : (ch : Int) / 2 ^ r = (cs : Int) := by rw [hcs, Int.natCast_ediv, Int.natCast_pow]; rfl
        have cs8' : cs < 256 := by have := Nat.div_le_self ch (2 ^ r); omega
        have cs8 : (cs : Int) < 256 := by omega
        have s2 : bits .and .u8 (cs : Int) 1 = (bt : Int) := by rw [u8_and1 _ cs8', hbt, ← hcs]
        rw [← hbt] at hbit
        rw [← hbit] at HSTEP
        clear hbt hcs hbit cs8' hxb hch hcb hbl hq hrr hqn
        by_cases hb1 : bt = 1
        · subst hb1
          rw [if_pos rfl] at HSTEP
          go_wp2_with (first | (go_at_call 35; (with_reducible refine (plusQ _ hu2 hv).mono ?_); rintro e wy ⟨zhu3, hu3, rfl, hb⟩; have HS := hide (HS.out.call hb); clear hb) | (go_at_call 35; (with_reducible refine (plusQ _ hu hu).mono ?_); rintro e wy ⟨zhu2, hu2, rfl, hb⟩; have HS := hide (HS.out.call hb); clear hb) | (refine wl_storeR rfl rfl rfl rfl HS.out rowQ .head (QtN.arr hu2) (QtN.arr hu3) ?_; intro wz hS9; have HS := hide hS9; have hq9 := HB.out _ hS9.below; clear hS9; (try simp only [Act.put, nq1, nq2, nq3, nq4, nq5, nq6])) | (refine wl_storeR rfl rfl rfl rfl HS.out rowQ .head (QtN.arr hu) (QtN.arr hu2) ?_; intro wz hS9; have HS := hide hS9; have hq9 := HB.out _ hS9.below; clear hS9; (try simp only [Act.put, nq1, nq2, nq3, nq4, nq5, nq6])) | (refine wl_loadP rfl rfl rfl HS.out (.tail _ (.tail _ (.head _))) rowQ (.all (QtN.arr hv)) ?_; (try simp only [Act.put, nq1, nq2, nq3, nq4, nq5, nq6])) | (refine wl_loadP rfl rfl rfl HS.out (.head _) rowQ (.all (QtN.arr hu2)) ?_; (try simp only [Act.put, nq1, nq2, nq3, nq4, nq5, nq6])) | (refine wl_loadP rfl rfl rfl HS.out (.head _) rowQ (.all (QtN.arr hu)) ?_; (try simp only [Act.put, nq1, nq2, nq3, nq4, nq5, nq6])))
          go_roundw
          case rel => exact ⟨j, _, by have := HJ.out; omega, by first | rfl | go_num, hide (by rw [HSTEP.out]; assumption), HS⟩
          case measure => (simp [intOf]) <;> omega
        · have b0 : (((bt : Nat) : Int) == 1) = false := by simp; omega
          have b0' : (bt == 1) = false := by simp; omega
          have b0d : decide (((bt : Nat) : Int) = 1) = false := by simp; omega
          rw [if_neg hb1] at HSTEP
          clear hb1
          go_wp2_with (first | (go_at_call 35; (with_reducible refine (plusQ _ hu hu).mono ?_); rintro e wy ⟨zhu2, hu2, rfl, hb⟩; have HS := hide (HS.out.call hb); clear hb) | (refine wl_storeR rfl rfl rfl rfl HS.out rowQ .head (QtN.arr hu) (QtN.arr hu2) ?_; intro wz hS9; have HS := hide hS9; have hq9 := HB.out _ hS9.below; clear hS9; (try simp only [Act.put, nq1, nq2, nq3, nq4, nq5, nq6])) | (refine wl_loadP rfl rfl rfl HS.out (.head _) rowQ (.all (QtN.arr hu2)) ?_; (try simp only [Act.put, nq1, nq2, nq3, nq4, nq5, nq6])) | (refine wl_loadP rfl rfl rfl HS.out (.head _) rowQ (.all (QtN.arr hu)) ?_; (try simp only [Act.put, nq1, nq2, nq3, nq4, nq5, nq6])))
          go_roundw
          case rel => exact ⟨j, _, by have := HJ.out; omega, by first | rfl | go_num, hide (by rw [HSTEP.out]; assumption), HS⟩
          case measure => (simp [intOf]) <;> omega
      · have dq : decide ((q : Int) < (n : Int)) = false := by simp; omega
        have dq2 : decide (q < n) = false := by simp; omega
        have nq : ¬ (q : Int) < (n : Int) := by omega
        have hfar := HFAR.out j (by omega)
        have HSTEP := hide (HSTEP.out.trans (if_neg (by rw [hfar]; decide)))
        clear hq hrr hqn hfar
        go_wp2_with (first | (go_at_call 35; (with_reducible refine (plusQ _ hu hu).mono ?_); rintro e wy ⟨zhu2, hu2, rfl, hb⟩; have HS := hide (HS.out.call hb); clear hb) | (refine wl_storeR rfl rfl rfl rfl HS.out rowQ .head (QtN.arr hu) (QtN.arr hu2) ?_; intro wz hS9; have HS := hide hS9; clear hS9; (try simp only [Act.put, nq1, nq2, nq3, nq4, nq5, nq6])) | (refine wl_loadP rfl rfl rfl HS.out (.head _) rowQ (.all (QtN.arr hu2)) ?_; (try simp only [Act.put, nq1, nq2, nq3, nq4, nq5, nq6])) | (refine wl_loadP rfl rfl rfl HS.out (.head _) rowQ (.all (QtN.arr hu)) ?_; (try simp only [Act.put, nq1, nq2, nq3, nq4, nq5, nq6])))
        go_roundw
        case rel => exact ⟨j, _, by have := HJ.out; omega, by first | rfl | go_num, hide (by rw [HSTEP.out]; assumption), HS⟩
        case measure => (simp [intOf]) <;> omega
end Go.Proofs.YtkelegjppnfoaaaGreatDoor

namespace Go.Proofs.YtkelegjppnfoaaaGreatDoor
open Go.RowKit
set_option linter.unusedSimpArgs false

theorem unpack_any {A : Option Addr} {n c : Nat} {l : List UInt8} (w : World) (hl : l.length = n) (hr : Rd w (.slice A n c) 1 n (bvs l)) : Calls Tryz.prog 34 #[.slice A n c] w (ResG w (fromL l)) := by
  rw [from_page]
  by_cases h : n = 32
  · subst h
    exact unpack_32 w hl hr
  · exact unpack_no w hl h
theorem packQ32 {v : Array Value} {P : Ed} (w : World) (hv : QtN v P) : Calls Tryz.prog 18 #[.agg v] w fun e w' => ∃ A c, e = .returned (.slice A 32 c) ∧ Below w.heap.size w w' ∧ w'.ownsRow w.heap.size 5 1 (.slice A 32 c) 32 (bvs (packL P)) :=
  (packQ w hv).mono fun e w' h => by
    unfold ResB at h
    rw [packL_len] at h
    exact h
end Go.Proofs.YtkelegjppnfoaaaGreatDoor

namespace Go.Proofs.YtkelegjppnfoaaaGreatDoor
open Go.RowKit
set_option linter.unusedSimpArgs false

def lL : List UInt8 := [0xed, 0xd3, 0xf5, 0x5c, 0x1a, 0x63, 0x12, 0x58, 0xd6, 0x9c, 0xf7, 0xa2, 0xde, 0xf9, 0xde, 0x14, 0, 0, 0, 0, 0, 0, 0, 0, 0, 0, 0, 0, 0, 0, 0, 16]
theorem lL_val : mulV lL = Lq := by unfold Lq; decide +kernel
end Go.Proofs.YtkelegjppnfoaaaGreatDoor

namespace Go.Proofs.YtkelegjppnfoaaaGreatDoor
open Go.RowKit
set_option linter.unusedSimpArgs false
theorem unpack_none {A : Option Addr} {n c : Nat} {l : List UInt8} (w : World) (h : fromL l = none) (hl : l.length = n) (hr : Rd w (.slice A n c) 1 n (bvs l)) : Calls Tryz.prog 34 #[.slice A n c] w fun e w' => ∃ v, QtN v .zero ∧ e = .returned (.tuple #[.agg v, .bool false]) ∧ Below w.heap.size w w' := by
  have := unpack_any w hl hr
  rw [h] at this
  exact this
theorem unpack_some {A : Option Addr} {n c : Nat} {l : List UInt8} {P : Ed} (w : World) (h : fromL l = some P) (hl : l.length = n) (hr : Rd w (.slice A n c) 1 n (bvs l)) : Calls Tryz.prog 34 #[.slice A n c] w fun e w' => ∃ v, QtN v P ∧ e = .returned (.tuple #[.agg v, .bool true]) ∧ Below w.heap.size w w' := by
  have := unpack_any w hl hr
  rw [h] at this
  exact this
def ob (c : Nat) : Nat := if c < 128 then c + 128 else c
end Go.Proofs.YtkelegjppnfoaaaGreatDoor
