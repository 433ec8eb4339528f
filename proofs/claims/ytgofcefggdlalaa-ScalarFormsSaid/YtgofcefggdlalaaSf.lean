/-
  The walk of layer 3's MulAdd.
-/
import Derived.Test.YtgofcefggdlalaaSe
namespace Go.Proofs.Ytgofcefggdlalaa
open Go.RowKit

theorem mad_aux (C P o ca t s : Nat) (hP : P ≤ C * C) (ho : o ≤ C) (hca : ca ≤ C) (e : s + t * (C + 1) = P + o + ca) : t < C + 1 := by
  have h1 : t * (C + 1) < (C + 1) * (C + 1) := by
    rw [Nat.add_mul C 1 (C + 1), Nat.mul_add C C 1]
    omega
  exact Nat.lt_of_mul_lt_mul_right h1
theorem mad_sum (s2 h c1 c2 B P o ca l s1 : Nat) (m1 : l + h * B = P) (a1 : s1 + c1 * B = l + o + 0) (b1 : s2 + c2 * B = s1 + ca + 0) : s2 + (h + c1 + c2) * B = P + o + ca := by
  rw [Nat.add_mul, Nat.add_mul]
  omega
/-- A word of a product, added into a word that is there, with what goes over. -/
theorem mad_spec (x y o ca : Nat) (hx : x < 18446744073709551616) (hy : y < 18446744073709551616) (ho : o < 18446744073709551616) (hca : ca < 18446744073709551616) :
    adS (adS (muL x y) o 0) ca 0 + (muH x y + adC (muL x y) o 0 + adC (adS (muL x y) o 0) ca 0) * 18446744073709551616 = x * y + o + ca ∧ adS (adS (muL x y) o 0) ca 0 < 18446744073709551616 ∧
      muH x y + adC (muL x y) o 0 < 18446744073709551616 ∧ muH x y + adC (muL x y) o 0 + adC (adS (muL x y) o 0) ca 0 < 18446744073709551616 := by
  obtain ⟨m1, m2, m3⟩ := mu_spec x y hx hy
  obtain ⟨a1, a2, a3⟩ := ad_spec (muL x y) o 0 m2 ho (Nat.zero_le 1)
  obtain ⟨b1, b2, b3⟩ := ad_spec (adS (muL x y) o 0) ca 0 a2 hca (Nat.zero_le 1)
  have hxy : x * y ≤ 18446744073709551615 * 18446744073709551615 := Nat.mul_le_mul (by omega) (by omega)
  generalize x * y = P at *
  generalize adS (adS (muL x y) o 0) ca 0 = s2 at *
  generalize adC (adS (muL x y) o 0) ca 0 = c2 at *
  generalize adS (muL x y) o 0 = s1 at *
  generalize adC (muL x y) o 0 = c1 at *
  generalize muL x y = l at *
  generalize muH x y = h at *
  clear hx hy
  have HXY := hide hxy
  clear hxy
  have e1 : s2 + (h + c1 + c2) * 18446744073709551616 = P + o + ca := mad_sum s2 h c1 c2 18446744073709551616 P o ca l s1 m1 a1 b1
  have h4 := mad_aux 18446744073709551615 P o ca (h + c1 + c2) s2 HXY.out (by omega) (by omega) (by omega)
  refine ⟨e1, b2, by omega, by omega⟩
/-- The inner loop's step. -/
theorem mad_step (os ys : List Nat) (i k x y o T ca s ca' : Nat) (ho : os[i + k]? = some o) (hy : ys[k]? = some y) (hs : s + ca' * 18446744073709551616 = x * y + o + ca)
    (h : lv os + ca * 18446744073709551616 ^ (i + k) = T + x * lv (ys.take k) * 18446744073709551616 ^ i) :
    lv (os.set (i + k) s) + ca' * 18446744073709551616 ^ (i + k + 1) = T + x * lv (ys.take (k + 1)) * 18446744073709551616 ^ i := by
  have h1 := lv_set os (i + k) o s ho
  rw [lv_take hy, Nat.mul_add, Nat.add_mul, Nat.pow_succ]
  have e : x * (y * 18446744073709551616 ^ k) * 18446744073709551616 ^ i = x * y * 18446744073709551616 ^ (i + k) := by
    rw [Nat.pow_add, ← Nat.mul_assoc, Nat.mul_assoc (x * y), Nat.mul_comm (18446744073709551616 ^ k)]
  rw [e, show ca' * (18446744073709551616 ^ (i + k) * 18446744073709551616) = ca' * 18446744073709551616 * 18446744073709551616 ^ (i + k) from by rw [Nat.mul_comm (18446744073709551616 ^ (i + k)), Nat.mul_assoc]]
  have h2 := congrArg (· * 18446744073709551616 ^ (i + k)) hs
  simp only [Nat.add_mul] at h2
  omega
/-- What goes over is carried on. -/
theorem car_step (os : List Nat) (k o T ca s ca' : Nat) (ho : os[k]? = some o) (hs : s + ca' * 18446744073709551616 = o + ca) (h : lv os + ca * 18446744073709551616 ^ k = T) :
    lv (os.set k s) + ca' * 18446744073709551616 ^ (k + 1) = T := by
  have h1 := lv_set os k o s ho
  rw [Nat.pow_succ, show ca' * (18446744073709551616 ^ k * 18446744073709551616) = ca' * 18446744073709551616 * 18446744073709551616 ^ k from by rw [Nat.mul_comm (18446744073709551616 ^ k), Nat.mul_assoc]]
  have h2 := congrArg (· * 18446744073709551616 ^ k) hs
  simp only [Nat.add_mul] at h2
  omega
theorem mad_bound (xs ys zs : List Nat) (i : Nat) (hx : Words xs) (hy : Words ys) (hz : Words zs) (hxl : xs.length = 4) (hyl : ys.length = 4) (hzl : zs.length = 4) :
    lv zs + lv (xs.take i) * lv ys < 18446744073709551616 ^ 8 := by
  have h1 := lv_lt (xs.take i) fun x h => hx x (List.mem_of_mem_take h)
  have h2 := lv_lt ys hy
  have h3 := lv_lt zs hz
  have h4 : (18446744073709551616 : Nat) ^ (xs.take i).length ≤ 18446744073709551616 ^ 4 := Nat.pow_le_pow_right (by omega) (by rw [List.length_take]; omega)
  rw [hyl] at h2
  rw [hzl] at h3
  have h5 : lv (xs.take i) * lv ys ≤ (18446744073709551616 ^ 4 - 1) * (18446744073709551616 ^ 4 - 1) := Nat.mul_le_mul (by omega) (by omega)
  have h6 : (18446744073709551616 : Nat) ^ 8 = 18446744073709551616 ^ 4 * 18446744073709551616 ^ 4 := by rw [← Nat.pow_add]
  rw [h6]
  generalize hB : (18446744073709551616 : Nat) ^ 4 = B at *
  have hB1 : 2 ≤ B := by rw [← hB]; decide
  have h7 : (B - 1) * (B - 1) + (B - 1) < B * B := by
    obtain ⟨c, rfl⟩ : ∃ c, B = c + 1 := ⟨B - 1, by omega⟩
    simp only [Nat.add_sub_cancel]
    rw [Nat.add_mul, Nat.mul_add]
    omega
  omega

/-- What is held through it. -/
def MaH (g7 g8 g9 g10 : Nat) (xs ys zs os : List Nat) : List Chunk :=
  [.cells g7 (uvs xs).toArray 35, .cells g8 (uvs ys).toArray 35, .cells g9 (uvs zs).toArray 35, .cells g10 (uvs os).toArray 42]
def MaRel (w : World) (g7 g8 g9 g10 : Nat) (xs ys zs : List Nat) (T k : Nat) (cav : Value) (wr : World) : Prop :=
  ∃ (os : List Nat) (ca : Nat), os.length = 8 ∧ Words os ∧ cav = .int .u64 (ca : Int) ∧ ca < 18446744073709551616 ∧ lv os + ca * 18446744073709551616 ^ k = T ∧ St w NoB wr (MaH g7 g8 g9 g10 xs ys zs os)
set_option maxRecDepth 100000 in
set_option maxHeartbeats 1600000 in
theorem muladd_walk (A B C : Option Addr) (ca cb cc : Nat) (a b c : List UInt8) (w : World) (hla : a.length = 32) (hlb : b.length = 32) (hlc : c.length = 32)
    (ha : Rd w (.slice A 32 ca) 1 32 (bvs a)) (hb : Rd w (.slice B 32 cb) 1 32 (bvs b)) (hc : Rd w (.slice C 32 cc) 1 32 (bvs c)) :
    Calls Try.prog 13 #[.slice A 32 ca, .slice B 32 cb, .slice C 32 cc] w (ResB 5 w (leB 32 ((bval a * bval b + bval c) % Lq))) := by
  have HA := hide ha
  have HB := hide hb
  have HC := hide hc
  have LA := hide hla
  have LB := hide hlb
  have LC := hide hlc
  clear ha hb hc hla hlb hlc
  go_enter Try.func13, Try.ntmps13
  go_upto_region 5 with (first
    | (go_at_call 22; ((with_reducible refine (from_walk A ca a _ LA.out HA.out).mono ?_); rintro e w1 ⟨x0, x1, x2, x3, hxw, hxv, rfl, hb1⟩; have HXV := hide hxv; clear hxv))
    | (go_at_call 22; ((with_reducible refine (from_walk B cb b _ LB.out (HB.out.below hb1)).mono ?_); rintro e w2 ⟨y0, y1, y2, y3, hyw, hyv, rfl, hb2⟩; have HYV := hide hyv; clear hyv; have hb12 := hb1.trans (hb2.mono hb1.size)))
    | (go_at_call 22; ((with_reducible refine (from_walk C cc c _ LC.out (HC.out.below hb12)).mono ?_); rintro e w3 ⟨z0, z1, z2, z3, hzw, hzv, rfl, hb3⟩; have HZV := hide hzv; clear hzv; have hb13 := hb12.trans (hb3.mono hb12.size))))
  have hS0 := ((((St.init w NoB).call hb13).alloc (uvs [x0, x1, x2, x3]).toArray 35).alloc (uvs [y0, y1, y2, y3]).toArray 35).alloc (uvs [z0, z1, z2, z3]).toArray 35
  have hS1 := hS0.alloc (uvs [0, 0, 0, 0, 0, 0, 0, 0]).toArray 42
  simp only [size_alloc1] at hS1
  have hS2 := hS1.pickL (H' := MaH w3.heap.size (w3.heap.size + 1) (w3.heap.size + 1 + 1) (w3.heap.size + 1 + 1 + 1) [x0, x1, x2, x3] [y0, y1, y2, y3] [z0, z1, z2, z3] [0, 0, 0, 0, 0, 0, 0, 0]) [3, 2, 1, 0] (by decide) rfl
  obtain ⟨g7, hg7⟩ : ∃ g7, g7 = w3.heap.size := ⟨_, rfl⟩
  obtain ⟨g8, hg8⟩ : ∃ g8, g8 = w3.heap.size + 1 := ⟨_, rfl⟩
  obtain ⟨g9, hg9⟩ : ∃ g9, g9 = w3.heap.size + 1 + 1 := ⟨_, rfl⟩
  obtain ⟨g10, hg10⟩ : ∃ g10, g10 = w3.heap.size + 1 + 1 + 1 := ⟨_, rfl⟩
  rw [← hg10, ← hg9, ← hg8, ← hg7] at hS2 ⊢
  have hS3 := hS2.drew
  clear hS0 hS1 hS2 hb1 hb2 hb3 hb12 hb13 hg7 hg8 hg9 hg10
  refine wp_region_MF (fun i => i == 2) (by kernel_rfl) ?_
  (refine wpM_takeU (i := 0) (v := ?_) rfl (by kernel_rfl) (by kernel_rfl) (by kernel_rfl) (fun _ _ _ h => h) (From.refl _) rfl (Or.inl ⟨by first | kernel_rfl | rfl, ?_⟩) ?_; rotate_left; (intro wx; go_simp) <;> (with_reducible rfl); (try simp only [Act.put, List.setIfInBounds_toArray, List.set_cons_zero, List.set_cons_succ, List.getElem_toArray, List.getElem_cons_succ, List.getElem_cons_zero])); (refine wpM_takeU (i := 1) (v := ?_) rfl (by kernel_rfl) (by kernel_rfl) (by kernel_rfl) (fun _ _ _ h => h) (From.refl _) rfl (Or.inl ⟨by first | kernel_rfl | rfl, ?_⟩) ?_; rotate_left; (intro wx; go_simp) <;> (with_reducible rfl); (try simp only [Act.put, List.setIfInBounds_toArray, List.set_cons_zero, List.set_cons_succ, List.getElem_toArray, List.getElem_cons_succ, List.getElem_cons_zero]))
  (refine wpM_late (i := 2) (by kernel_rfl) rfl rfl ?_; intro K hK; (try simp only [Act.put, List.setIfInBounds_toArray, List.set_cons_zero, List.set_cons_succ, List.getElem_toArray, List.getElem_cons_succ, List.getElem_cons_zero]))
  unfold MaH at hS3
  refine step_copy rfl rfl Try.underlying43 tyU64 hS3 3 rfl (dn := 8) (dc := 8) (m := 4) (ys := uvs [z0, z1, z2, z3]) rfl rfl (rd_cells hS3 2 rfl 4 rfl (by decide)) (by omega) (by omega) (by decide) (uvs_one _) ?_
  intro w4 hS4
  refine hK _ _ ?_
  clear hK K hS3
  (try simp only [Act.put, List.setIfInBounds_toArray, List.set_cons_zero, List.set_cons_succ, List.getElem_toArray, List.getElem_cons_succ, List.getElem_cons_zero])
  refine wpAny_done (by kernel_rfl) ?_ _
  have hS5 : St w NoB w4 (MaH g7 g8 g9 g10 [x0, x1, x2, x3] [y0, y1, y2, y3] [z0, z1, z2, z3] [z0, z1, z2, z3, 0, 0, 0, 0]) := hS4
  obtain ⟨xs, hxs⟩ : ∃ xs, xs = [x0, x1, x2, x3] := ⟨_, rfl⟩
  obtain ⟨ys, hys⟩ : ∃ ys, ys = [y0, y1, y2, y3] := ⟨_, rfl⟩
  obtain ⟨zs, hzs⟩ : ∃ zs, zs = [z0, z1, z2, z3] := ⟨_, rfl⟩
  have hxl : xs.length = 4 := by rw [hxs]; rfl
  have hyl : ys.length = 4 := by rw [hys]; rfl
  have hzl : zs.length = 4 := by rw [hzs]; rfl
  have hos : Words [z0, z1, z2, z3, 0, 0, 0, 0] := by
    intro v hv
    have h4 := hzw
    rw [show [z0, z1, z2, z3, 0, 0, 0, 0] = [z0, z1, z2, z3] ++ [0, 0, 0, 0] from rfl] at hv
    rcases List.mem_append.1 hv with h | h
    · exact h4 v h
    · simp only [List.mem_cons, List.not_mem_nil, or_false, or_self] at h; omega
  have hov : lv [z0, z1, z2, z3, 0, 0, 0, 0] = lv [z0, z1, z2, z3] := by simp [lv]
  rw [← hxs] at hxw HXV hS5
  rw [← hys] at hyw HYV hS5
  rw [← hzs] at hzw HZV hS5 hov
  have HS5 := hide hS5
  have HOV := hide hov
  have HOS := hide hos
  have HXL := hide hxl
  have HYL := hide hyl
  have HZL := hide hzl
  have HXW := hide hxw
  have HYW := hide hyw
  have HZW := hide hzw
  clear hS5 hS4 hxs hys hzs hxl hyl hzl hxw hyw hzw hos hov
  go_wp2_with fail
  go_loopw [40] (fun i wr => ∃ k : Nat, k ≤ 4 ∧ i = .int .i64 (k : Int) ∧ MaRel w g7 g8 g9 g10 xs ys zs (lv zs + lv (xs.take k) * lv ys) 8 (.int .u64 0) wr) (fun i _ => 4 - (intOf i).toNat)
  case atStart => exact ⟨0, by omega, rfl, _, 0, rfl, HOS.out, rfl, by omega, by rw [HOV.out]; simp [lv], HS5.out⟩
  case round =>
    obtain ⟨i, hi, rfl, os, c0, hol, how, hc0, _, hov, hS⟩ := hrel
    obtain rfl : c0 = 0 := by injection hc0 with _ h; omega
    clear hc0 HS5
    have HOV2 := hide (show lv os = lv zs + lv (xs.take i) * lv ys by rw [← hov]; simp)
    by_cases hlt : i < 4
    · obtain ⟨x, hx⟩ := lim_get xs HXL.out i hlt
      have hxx := words_get HXW.out hx
      have hbd := mad_bound xs ys zs (i + 1) HXW.out HYW.out HZW.out HXL.out HYL.out HZL.out
      rw [lv_take hx] at hbd
      have HBD := hide hbd
      have HX := hide hx
      have HXX := hide hxx
      have HOL := hide hol
      have HOW := hide how
      have HS := hide hS
      have hi4 : (i : Int) < 4 := by omega
      clear hbd hx hxx hol how hS hov
      go_wp2_with fail
      go_loopw [12, 43] (fun cv kv wr => ∃ k : Nat, k ≤ 4 ∧ kv = .int .i64 (k : Int) ∧ MaRel w g7 g8 g9 g10 xs ys zs (lv os + x * lv (ys.take k) * 18446744073709551616 ^ i) (i + k) cv wr) (fun _ kv _ => 4 - (intOf kv).toNat)
      case atStart => exact ⟨0, by omega, rfl, os, 0, HOL.out, HOW.out, rfl, by omega, by simp [lv], HS.out⟩
      case round =>
        obtain ⟨k, hk, rfl, os2, ca, hol2, how2, rfl, hcaw, hov2, hS2⟩ := hrel
        by_cases hlt2 : k < 4
        · obtain ⟨y, hy⟩ := lim_get ys HYL.out k hlt2
          obtain ⟨o, ho⟩ : ∃ o, os2[i + k]? = some o := ⟨os2[i + k]'(by omega), List.getElem?_eq_getElem _⟩
          have hyy := words_get HYW.out hy
          have hoo := words_get how2 ho
          obtain ⟨p1, p2, p3, p4⟩ := mad_spec x y o ca HXX.out hyy hoo hcaw
          have hstep := hide (mad_step os2 ys i k x y o _ ca _ _ ho hy p1 hov2)
          have hmul := fun W => mul_any x y W HXX.out hyy
          have HMUL := hide hmul
          clear hmul p1 hov2
          generalize muH x y = hiw at *
          generalize muL x y = low at *
          have A1 := add0_any low o
          have A2 := add0_any (adS low o 0) ca
          generalize adS (adS low o 0) ca 0 = s2 at *
          generalize adC (adS low o 0) ca 0 = c2 at *
          generalize adS low o 0 = s1 at *
          generalize adC low o 0 = c1 at *
          have hw1 : IntKind.u64.wrap ((hiw : Int) + (c1 : Int)) = ((hiw + c1 : Nat) : Int) := by rw [IntKind.wrap_u64]; omega
          have hw2 : IntKind.u64.wrap (((hiw + c1 : Nat) : Int) + (c2 : Int)) = ((hiw + c1 + c2 : Nat) : Int) := by rw [IntKind.wrap_u64]; omega
          have P2 := hide p2
          have P4 := hide p4
          have HW2 := hide how2
          have HL2 := hide hol2
          have HS2 := hide hS2
          have hS3 := hide hS2.drew
          have cx : ∀ z, From wr.drew z → z.cell? ⟨g7, i, none⟩ = some (.int .u64 (x : Int)) := fun z hz => by
            rw [hz.cell (p := ⟨g7, i, none⟩) (Chunk.lt (hS3.out.sat 0 _ rfl) rfl), hS3.out.cell 0 rfl i]
            exact uvs_get HX.out
          have cy : ∀ z, From wr.drew z → z.cell? ⟨g8, k, none⟩ = some (.int .u64 (y : Int)) := fun z hz => by
            rw [hz.cell (p := ⟨g8, k, none⟩) (Chunk.lt (hS3.out.sat 1 _ rfl) rfl), hS3.out.cell 1 rfl k]
            exact uvs_get hy
          have co : wr.drew.cell? ⟨g10, i + k, none⟩ = some (.int .u64 (o : Int)) := by
            rw [hS3.out.cell 3 rfl (i + k)]
            exact uvs_get ho
          have fo := hS3.out.free 3 rfl (i + k)
          have hk4 : (k : Int) < 4 := by omega
          have hik8 : (i : Int) + (k : Int) < 8 := by omega
          have hikn : ((i : Int) + (k : Int)).toNat = i + k := by omega
          clear p2 p3 p4 how2 hol2 hS2 ho hy hyy hoo hcaw
          go_wp2_with fail
          refine wp_region_F (by kernel_rfl) ?_
          (refine wpG_take (i := 0) (v := ?_) rfl (by kernel_rfl) (by kernel_rfl) (by kernel_rfl) (fun _ _ _ h => h) (From.refl _) (Or.inl ⟨by first | kernel_rfl | rfl, ?_⟩) ?_; rotate_left; (intro wx hx; go_simp) <;> (with_reducible rfl); (try simp only [Act.put, List.setIfInBounds_toArray, List.set_cons_zero, List.set_cons_succ, List.getElem_toArray, List.getElem_cons_succ, List.getElem_cons_zero])); (refine wpG_take (i := 1) (v := ?_) rfl (by kernel_rfl) (by kernel_rfl) (by kernel_rfl) (fun _ _ _ h => h) (From.refl _) (Or.inl ⟨by first | kernel_rfl | rfl, ?_⟩) ?_; rotate_left; (intro wx hx; go_simp) <;> (with_reducible rfl); (try simp only [Act.put, List.setIfInBounds_toArray, List.set_cons_zero, List.set_cons_succ, List.getElem_toArray, List.getElem_cons_succ, List.getElem_cons_zero])); (refine wpG_take (i := 2) (v := ?_) rfl (by kernel_rfl) (by kernel_rfl) (by kernel_rfl) (fun _ _ _ h => h) (From.refl _) (Or.inl ⟨by first | kernel_rfl | rfl, ?_⟩) ?_; rotate_left; (intro wx hx; go_simp) <;> (with_reducible rfl); (try simp only [Act.put, List.setIfInBounds_toArray, List.set_cons_zero, List.set_cons_succ, List.getElem_toArray, List.getElem_cons_succ, List.getElem_cons_zero])); (refine wpG_take (i := 3) (v := ?_) rfl (by kernel_rfl) (by kernel_rfl) (by kernel_rfl) (fun _ _ _ h => h) (From.refl _) (Or.inl ⟨by first | kernel_rfl | rfl, ?_⟩) ?_; rotate_left; (intro wx hx; go_simp) <;> (with_reducible rfl); (try simp only [Act.put, List.setIfInBounds_toArray, List.set_cons_zero, List.set_cons_succ, List.getElem_toArray, List.getElem_cons_succ, List.getElem_cons_zero])); (refine wpG_take (i := 4) (v := ?_) rfl (by kernel_rfl) (by kernel_rfl) (by kernel_rfl) (fun _ _ _ h => h) (From.refl _) (Or.inl ⟨by first | kernel_rfl | rfl, ?_⟩) ?_; rotate_left; (intro wx hx; go_simp) <;> (with_reducible rfl); (try simp only [Act.put, List.setIfInBounds_toArray, List.set_cons_zero, List.set_cons_succ, List.getElem_toArray, List.getElem_cons_succ, List.getElem_cons_zero])); (refine wpG_take (i := 5) (v := ?_) rfl (by kernel_rfl) (by kernel_rfl) (by kernel_rfl) (fun _ _ _ h => h) (From.refl _) (Or.inl ⟨by first | kernel_rfl | rfl, ?_⟩) ?_; rotate_left; (intro wx hx; go_simp) <;> (with_reducible rfl); (try simp only [Act.put, List.setIfInBounds_toArray, List.set_cons_zero, List.set_cons_succ, List.getElem_toArray, List.getElem_cons_succ, List.getElem_cons_zero]))
          (refine wpG_one (i := 6) (by kernel_rfl) rfl ?_; intro K hK; (try simp only [Act.put, List.setIfInBounds_toArray, List.set_cons_zero, List.set_cons_succ, List.getElem_toArray, List.getElem_cons_succ, List.getElem_cons_zero]))
          refine step_call rfl rfl enMul rfl (HMUL.out _) ?_
          rintro e w5 ⟨rfl, rfl⟩
          refine ⟨_, rfl, hK (From wr.drew) _ _ (fun _ h => h) (From.refl _) ?_⟩
          clear hK K
          (try simp only [Act.put, List.setIfInBounds_toArray, List.set_cons_zero, List.set_cons_succ, List.getElem_toArray, List.getElem_cons_succ, List.getElem_cons_zero])
          (refine wpG_take (i := 7) (v := ?_) rfl (by kernel_rfl) (by kernel_rfl) (by kernel_rfl) (fun _ _ _ h => h) (From.refl _) (Or.inl ⟨by first | kernel_rfl | rfl, ?_⟩) ?_; rotate_left; (intro wx hx; go_simp) <;> (with_reducible rfl); (try simp only [Act.put, List.setIfInBounds_toArray, List.set_cons_zero, List.set_cons_succ, List.getElem_toArray, List.getElem_cons_succ, List.getElem_cons_zero])); (refine wpG_take (i := 8) (v := ?_) rfl (by kernel_rfl) (by kernel_rfl) (by kernel_rfl) (fun _ _ _ h => h) (From.refl _) (Or.inl ⟨by first | kernel_rfl | rfl, ?_⟩) ?_; rotate_left; (intro wx hx; go_simp) <;> (with_reducible rfl); (try simp only [Act.put, List.setIfInBounds_toArray, List.set_cons_zero, List.set_cons_succ, List.getElem_toArray, List.getElem_cons_succ, List.getElem_cons_zero])); (refine wpG_take (i := 9) (v := ?_) rfl (by kernel_rfl) (by kernel_rfl) (by kernel_rfl) (fun _ _ _ h => h) (From.refl _) (Or.inl ⟨by first | kernel_rfl | rfl, ?_⟩) ?_; rotate_left; (intro wx hx; go_simp) <;> (with_reducible rfl); (try simp only [Act.put, List.setIfInBounds_toArray, List.set_cons_zero, List.set_cons_succ, List.getElem_toArray, List.getElem_cons_succ, List.getElem_cons_zero])); (refine wpG_take (i := 10) (v := ?_) rfl (by kernel_rfl) (by kernel_rfl) (by kernel_rfl) (fun _ _ _ h => h) (From.refl _) (Or.inl ⟨by first | kernel_rfl | rfl, ?_⟩) ?_; rotate_left; (intro wx hx; go_simp) <;> (with_reducible rfl); (try simp only [Act.put, List.setIfInBounds_toArray, List.set_cons_zero, List.set_cons_succ, List.getElem_toArray, List.getElem_cons_succ, List.getElem_cons_zero])); (refine wpG_take (i := 11) (v := ?_) rfl (by kernel_rfl) (by kernel_rfl) (by kernel_rfl) (fun _ _ _ h => h) (From.refl _) (Or.inl ⟨by first | kernel_rfl | rfl, ?_⟩) ?_; rotate_left; (intro wx hx; go_simp) <;> (with_reducible rfl); (try simp only [Act.put, List.setIfInBounds_toArray, List.set_cons_zero, List.set_cons_succ, List.getElem_toArray, List.getElem_cons_succ, List.getElem_cons_zero]))
          refine wpG_done (by kernel_rfl) ?_ _
          go_wp2_with fail
          go_roundw
          case rel =>
            have hw3 : IntKind.u64.wrap ((hiw : Int) + (c1 : Int) + (c2 : Int)) = ((hiw + c1 + c2 : Nat) : Int) := by
              have := P4.out
              rw [IntKind.wrap_u64]; omega
            refine ⟨k + 1, by omega, by go_num, os2.set (i + k) s2, hiw + c1 + c2, by rw [List.length_set]; exact HL2.out, words_set HW2.out _ _ P2.out, congrArg (Value.int .u64) hw3, P4.out, hstep.out, ?_⟩
            have := (HS2.out.setCell 3 rfl (i + k) (.int .u64 (s2 : Int))).drew
            rw [uvs_set] at this
            exact this
          case measure => simp [intOf]; try omega
        · obtain rfl : k = 4 := by omega
          have HS2 := hide hS2
          have HL2 := hide hol2
          have HW2 := hide how2
          have hT : lv os2 + ca * 18446744073709551616 ^ (i + 4) = lv zs + lv (xs.take (i + 1)) * lv ys := by
            have e4 : ys.take 4 = ys := List.take_of_length_le (by rw [HYL.out]; exact Nat.le_refl _)
            rw [hov2, HOV2.out, lv_take HX.out, Nat.add_mul, e4, Nat.add_assoc, Nat.mul_right_comm x]
          have HTT := hide hT
          clear hS2 hol2 how2 hT hov2
          go_wp2_with fail
          go_loopw [12, 17] (fun cv kv wr => ∃ k : Nat, k ≤ 8 ∧ i + 4 ≤ k ∧ kv = .int .i64 (k : Int) ∧ MaRel w g7 g8 g9 g10 xs ys zs (lv zs + lv (xs.take (i + 1)) * lv ys) k cv wr) (fun _ kv _ => 8 - (intOf kv).toNat)
          case atStart => exact ⟨i + 4, by omega, by omega, by go_num, os2, ca, HL2.out, HW2.out, rfl, hcaw, HTT.out, HS2.out⟩
          case round =>
            obtain ⟨k, hk8, hki, rfl, os3, cb', hol3, how3, rfl, hcbw, hov3, hS3⟩ := hrel
            clear HS2 HL2 HW2 HTT
            by_cases hlt3 : k < 8
            · obtain ⟨o, ho⟩ : ∃ o, os3[k]? = some o := ⟨os3[k]'(by omega), List.getElem?_eq_getElem _⟩
              have hoo := words_get how3 ho
              obtain ⟨a1, a2, a3⟩ := ad_spec o cb' 0 hoo hcbw (Nat.zero_le 1)
              have hstep := hide (car_step os3 k o _ cb' _ _ ho (by rw [Nat.add_zero] at a1; exact a1) hov3)
              have A1 := add0_any o cb'
              generalize adS o cb' 0 = s1 at *
              generalize adC o cb' 0 = c1 at *
              have HS3 := hide hS3
              have HL3 := hide hol3
              have HW3 := hide how3
              have AA2 := hide a2
              have co : wr.cell? ⟨g10, k, none⟩ = some (.int .u64 (o : Int)) := by
                rw [hS3.cell 3 rfl k]
                exact uvs_get ho
              have fo := hS3.free 3 rfl k
              clear hS3 hol3 how3 hov3 ho hoo a1 a2
              go_wp2_with fail
              go_roundw
              case rel =>
                refine ⟨k + 1, by omega, by omega, by go_num, os3.set k s1, c1, by rw [List.length_set]; exact HL3.out, words_set HW3.out _ _ AA2.out, rfl, by omega, hstep.out, ?_⟩
                have := HS3.out.setCell 3 rfl k (.int .u64 (s1 : Int))
                rw [uvs_set] at this
                exact this
              case measure => simp [intOf]; try omega
            · obtain rfl : k = 8 := by omega
              have hc0 : cb' = 0 := by
                have h1 := HBD.out
                rw [← lv_take HX.out, ← hov3] at h1
                rcases Nat.eq_zero_or_pos cb' with h | h
                · exact h
                · have : 18446744073709551616 ^ 8 ≤ cb' * 18446744073709551616 ^ 8 := Nat.le_mul_of_pos_left _ h
                  omega
              have HC0 := hide hc0
              have HS3 := hide hS3
              have HL3 := hide hol3
              have HW3 := hide how3
              have HO3 := hide hov3
              clear hS3 hol3 how3 hov3 hc0
              go_wp2_with fail
              go_roundw
              case rel => exact ⟨i + 1, by omega, by go_num, os3, 0, HL3.out, HW3.out, rfl, by omega, by rw [← HO3.out, HC0.out], HS3.out⟩
              case measure => simp [intOf]; try omega
    · obtain rfl : i = 4 := by omega
      have hv8 : lv os < 256 ^ 64 := by
        have := lv_lt os how
        rw [hol] at this
        rw [show (256 : Nat) ^ 64 = 18446744073709551616 ^ 8 from by decide]
        exact this
      have SP := fun W => spelt_walk (some ⟨g10, 0, none⟩) 8 8 os W hol (by omega)
      have hsp := spB_eq os how
      rw [hol, show 8 * 8 = 64 from rfl] at hsp
      have RD := fun (W : World) (A : Option Addr) (c : Nat) => reduce_walk A 64 c (leB 64 (lv os)) W (leB_len 64 _) (Nat.le_refl 64)
      rw [bval_leB, Nat.mod_eq_of_lt hv8] at RD
      have hfin : lv os = bval a * bval b + bval c := by
        rw [HOV2.out, List.take_of_length_le (by rw [HXL.out]; exact Nat.le_refl _), HXV.out, HYV.out, HZV.out, Nat.add_comm]
      rw [hfin] at RD hsp
      have HSP := hide SP
      have HRD := hide RD
      have HSPE := hide hsp
      have HS := hide hS
      clear SP RD hsp hS hv8 hfin how hov
      go_wp2_with (first
        | (go_at_call 27; refine (HSP.out _ (rd_cells HS.out 3 rfl 8 (by rw [uvs_len]; exact hol) (by decide))).mono ?_; rintro e w5 ⟨B5, d5, rfl, hb5, ho5⟩; rw [HSPE.out] at ho5 ⊢; rw [leB_len] at ho5 ⊢; have hS5 := HS.out.row hb5 ho5)
        | (go_at_call 11; refine (HRD.out _ B5 d5 (hS5.rd 0 rfl)).mono ?_; rintro e w6 ⟨B6, d6, rfl, hb6, ho6⟩; have hS6 := hS5.row hb6 ho6))
      go_ret
      exact resB_of hS6 0 rfl rfl
end Go.Proofs.Ytgofcefggdlalaa
