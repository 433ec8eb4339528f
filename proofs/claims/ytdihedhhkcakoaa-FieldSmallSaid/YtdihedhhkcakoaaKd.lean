/-
  The walk of layer 2's From: the number of bytes.
-/
import Derived.Test.YtdihedhhkcakoaaKc
import Derived.Laws.CopyRow
import Derived.Deep.DeepCutAuto
namespace Go.Proofs.Ytdihedhhkcakoaa
open Go.RowKit

theorem pow_split (i : Nat) : 256 ^ i = 18446744073709551616 ^ (i / 8) * 256 ^ (i % 8) := by
  rw [show (18446744073709551616 : Nat) = 256 ^ 8 from by decide, ← Nat.pow_mul, ← Nat.pow_add]
  congr 1
  omega
/-- The word that a byte goes into is below the byte's place. -/
theorem from_word (cur : List Nat) (i x : Nat) (hx : cur[i / 8]? = some x) (hv : lv cur < 256 ^ i) : x < 256 ^ (i % 8) := by
  have h1 := lv_get_le cur (i / 8) x hx
  have h2 := pow_split i
  rw [h2] at hv
  have h3 : x * 18446744073709551616 ^ (i / 8) < 256 ^ (i % 8) * 18446744073709551616 ^ (i / 8) := by rw [Nat.mul_comm (256 ^ (i % 8))]; omega
  exact Nat.lt_of_mul_lt_mul_right h3
theorem from_lt (x c i : Nat) (hx : x < 256 ^ (i % 8)) (hc : c < 256) : x + c * 256 ^ (i % 8) < 18446744073709551616 := by
  have h8 : i % 8 < 8 := Nat.mod_lt _ (by omega)
  have h1 : c * 256 ^ (i % 8) + 256 ^ (i % 8) ≤ 256 ^ (i % 8 + 1) := by
    rw [Nat.pow_succ, ← Nat.succ_mul, Nat.mul_comm (256 ^ (i % 8))]
    exact Nat.mul_le_mul_right _ (by omega)
  have h2 : 256 ^ (i % 8 + 1) ≤ 256 ^ 8 := Nat.pow_le_pow_right (by omega) (by omega)
  have h3 : (256 : Nat) ^ 8 = 18446744073709551616 := by decide
  omega
theorem from_step (cur : List Nat) (l : List UInt8) (i x : Nat) (c : UInt8) (hx : cur[i / 8]? = some x) (hc : l[i]? = some c) (hv : lv cur = bval (l.take i)) :
    lv (cur.set (i / 8) (x + c.toNat * 256 ^ (i % 8))) = bval (l.take (i + 1)) := by
  have h1 := lv_set cur (i / 8) x (x + c.toNat * 256 ^ (i % 8)) hx
  rw [bval_take hc, pow_split i, ← hv]
  rw [Nat.add_mul] at h1
  rw [show c.toNat * 256 ^ (i % 8) * 18446744073709551616 ^ (i / 8) = c.toNat * (18446744073709551616 ^ (i / 8) * 256 ^ (i % 8)) from by rw [Nat.mul_assoc, Nat.mul_comm (256 ^ (i % 8))]] at h1
  omega
theorem from_or (x c i : Nat) (hx : x < 256 ^ (i % 8)) (hc : c < 256) :
    bits .or .u64 (x : Int) (IntKind.u64.wrap ((c : Int) * 2 ^ (i % 8 * 8))) = ((x + c * 256 ^ (i % 8) : Nat) : Int) := by
  have hlt := from_lt x c i hx hc
  have e2 : (2 : Nat) ^ (i % 8 * 8) = 256 ^ (i % 8) := by rw [Nat.mul_comm, Nat.pow_mul]
  have e : IntKind.u64.wrap ((c : Int) * 2 ^ (i % 8 * 8)) = ((c * 256 ^ (i % 8) : Nat) : Int) := by
    rw [show ((c : Int) * 2 ^ (i % 8 * 8)) = ((c * 2 ^ (i % 8 * 8) : Nat) : Int) from by simp, e2, IntKind.wrap_u64]
    omega
  rw [e, u64_or_nat _ _ (by omega) (by omega), Nat.or_comm]
  have := nat_join (i % 8 * 8) (c * 256 ^ (i % 8)) x (by rw [e2]; exact Nat.mul_mod_left _ _) (by rw [e2]; exact hx)
  rw [this, Nat.add_comm]


/-- The first 32 bytes, zeros behind. -/
@[irreducible] def fullL (l : List UInt8) : List UInt8 := (l ++ List.replicate 32 0).take 32
theorem fullL_len (l : List UInt8) : (fullL l).length = 32 := by unfold fullL; rw [List.length_take, List.length_append, List.length_replicate]; omega
theorem fullL_bvs (l : List UInt8) (zs : List Value) (hz : zs = List.replicate 32 (.int .u8 0)) : (bvs l).take 32 ++ zs.drop (min l.length 32) = bvs (fullL l) := by
  subst hz
  unfold fullL
  rw [List.take_append, bvs, bvs, List.map_append, List.map_take, List.map_take, List.map_replicate, List.drop_replicate, List.take_replicate]
  congr 1
  rw [show min (32 - l.length) 32 = 32 - min l.length 32 from by omega]
  rfl

def f1 (x y : Nat) : Nat := (x / T51 + y % 2 ^ 51 * 2 ^ 13) % T51
def f2 (x y : Nat) : Nat := (x / 274877906944 + y % 2 ^ 38 * 2 ^ 26) % T51
def f3 (x y : Nat) : Nat := (x / 33554432 + y % 2 ^ 25 * 2 ^ 39) % T51
theorem f1_eq (x y : Nat) (hx : x < 18446744073709551616) : f1 x y = x / T51 + y % 274877906944 * 8192 := by unfold f1 T51; omega
theorem f2_eq (x y : Nat) (hx : x < 18446744073709551616) : f2 x y = x / 274877906944 + y % 33554432 * 67108864 := by unfold f2 T51; omega
theorem f3_eq (x y : Nat) (hx : x < 18446744073709551616) : f3 x y = x / 33554432 + y % 4096 * 549755813888 := by unfold f3 T51; omega
theorem f_sum (T W x0 a y0 b z0 c u0 d m1 m2 m3 s1 s2 s3 p2 p3 : Nat) (h0 : W = T * s1) (h1 : W = m1 * s2) (h2 : s1 * m1 = T) (h3 : W = m2 * s3) (h4 : s2 * m2 = T) (h6 : s3 * m3 = T) :
    (x0 + T * a) + W * ((y0 + m1 * b) + W * ((z0 + m2 * c) + W * (u0 + m3 * d))) = x0 + T * ((a + y0 * s1) + T * ((b + z0 * s2) + T * ((c + u0 * s3) + T * d))) := by
  have e1 := hor W m1 s2 T s1 y0 b (z0 + m2 * c + W * (u0 + m3 * d)) h1 h2
  have e2 := hor W m2 s3 T s2 z0 c (u0 + m3 * d) h3 h4
  have e3 := hor 0 m3 0 T s3 u0 d 0 (by simp) h6
  rw [Nat.mul_comm _ s2, e2, Nat.mul_comm _ s3] at e1
  simp only [Nat.mul_zero, Nat.zero_mul, Nat.add_zero] at e3
  rw [e3] at e1
  rw [show W * ((y0 + m1 * b) + W * ((z0 + m2 * c) + W * (u0 + m3 * d))) = T * (s1 * ((y0 + m1 * b) + W * ((z0 + m2 * c) + W * (u0 + m3 * d)))) from by rw [← Nat.mul_assoc, ← h0], e1, Nat.add_assoc, ← Nat.mul_add]
  simp only [Nat.add_assoc]
theorem f_val (x y z u : Nat) (hx : x < 18446744073709551616) (hy : y < 18446744073709551616) (hz : z < 18446744073709551616) : fv T51 [x % T51, f1 x y, f2 y z, f3 z u, u / 4096] = lv [x, y, z, u] := by
  have := f_sum T51 18446744073709551616 (x % T51) (x / T51) (y % 274877906944) (y / 274877906944) (z % 33554432) (z / 33554432) (u % 4096) (u / 4096) 274877906944 33554432 4096 8192 67108864 549755813888 0 0 (by decide) (by decide) (by decide) (by decide) (by decide) (by decide)
  rw [Nat.mod_add_div, Nat.mod_add_div, Nat.mod_add_div, Nat.mod_add_div] at this
  rw [f1_eq x y hx, f2_eq y z hy, f3_eq z u hz]
  simp only [lv, fv, Nat.mul_zero, Nat.add_zero]
  exact this.symm

section
variable {P : Program} {w0 w : World} {M : Nat → Prop} {H : List Chunk}
/-- copy(d, s): as much as there is room. -/
theorem wp_copyMin {o : Oper} {a : Act} {K : Act → World → Prop} {Q : Exit → Act → World → Prop} {d s : Operand} {dT sT elem : TypeId}
    (ho : o.op = .call { callee := .builtin .copy, args := #[d, s], argTypes := #[dT, sT] }) (hu : P.underlying dT = some (.slice elem)) (hsz : (P.info? elem).map (·.size) = some 1)
    (hS : St w0 M w H) (i : Nat) {g : Nat} {cur : Array Value} {e : TypeId} (hi : H[i]? = some (.cells g cur e)) {dn dc m : Nat} (hd : a.eval d = .slice (some ⟨g, 0, none⟩) dn dc)
    {y : Value} {ys : List Value} (hx : a.eval s = y) (hr : Rd w y 1 m ys) (hfit : dn ≤ cur.size) (h1 : ∀ u ∈ ys, u.oneCell' = true)
    (h : ∀ w', St w0 M w' (H.set i (.cells g (ys.take dn ++ cur.toList.drop (min m dn)).toArray e)) → K (a.put o.dst (goInt (min m dn : Nat))) w') : Oper.wp P o a w K Q := by
  rcases hr.cases with ⟨rfl, rfl, rfl⟩ | ⟨b, off, sp, c, rfl, hb, hnc, hcm, hl, hsp, hc⟩
  · have hrun := run_copy_nil (P := P) w dT sT o.type elem ⟨g, 0, none⟩ dn dc hu (by rw [hsz]; rfl)
    unfold Oper.wp execOp
    simp only [ho, resolve, invoke, builtin, Sem.run_bind, Sem.run_pure, Result.andThen_ok, List.map_toArray, List.map_cons, List.map_nil, hd, hx, hrun]
    have := h w (by
      have e1 : (([] : List Value).take dn ++ cur.toList.drop (min 0 dn)).toArray = cur := by simp
      rw [e1]
      have e2 : H.set i (.cells g cur e) = H := by
        refine List.ext_getElem? fun k => ?_
        by_cases hk : k = i
        · subst hk; rw [List.getElem?_set_self (List.getElem?_eq_some_iff.1 hi).1, hi]
        · rw [List.getElem?_set_ne (by omega)]
      rw [e2]
      exact hS)
    rw [Nat.zero_min] at this
    exact this
  · have hl' : ys.length = m := by omega
    have hrun := run_copy_row (P := P) w dT sT o.type elem g 0 dn dc ⟨b, off, sp⟩ m c cur e (ys.take dn) hu hsz (hS.heap i hi) (by rw [List.length_take, hl']; exact Nat.min_comm _ _) (fun j v hv => by
      have hj := (List.getElem?_eq_some_iff.1 hv).1
      rw [List.length_take] at hj
      obtain rfl : sp = none := hsp (by omega)
      rw [List.getElem?_take_of_lt (by omega)] at hv
      rw [Addr.add_lit]
      exact hc j v hv) (by rw [List.length_take]; omega) (fun u hu => h1 u (List.mem_of_mem_take hu))
    unfold Oper.wp execOp
    simp only [ho, resolve, invoke, builtin, Sem.run_bind, Sem.run_pure, Result.andThen_ok, List.map_toArray, List.map_cons, List.map_nil, hd, hx, hrun]
    have := hS.setRow i hi (cur.toList.take 0 ++ ys.take dn ++ cur.toList.drop (0 + (ys.take dn).length)).toArray
    have e3 : (ys.take dn).length = min m dn := by rw [List.length_take, hl', Nat.min_comm]
    rw [List.take_zero, List.nil_append, Nat.zero_add, e3] at this
    simp only [List.take_zero, List.nil_append, Nat.zero_add, e3]
    exact h _ this
theorem wl_copyMin {ops : Array Oper} {rest : List Oper} {o : Oper} {a : Act} {Q : Exit → Act → World → Prop} (hgd : o.guard = none) {d s : Operand} {dT sT elem : TypeId}
    (ho : o.op = .call { callee := .builtin .copy, args := #[d, s], argTypes := #[dT, sT] }) (hu : P.underlying dT = some (.slice elem)) (hsz : (P.info? elem).map (·.size) = some 1)
    (hS : St w0 M w H) (i : Nat) {g : Nat} {cur : Array Value} {e : TypeId} (hi : H[i]? = some (.cells g cur e)) {dn dc m : Nat} (hd : a.eval d = .slice (some ⟨g, 0, none⟩) dn dc)
    {y : Value} {ys : List Value} (hx : a.eval s = y) (hr : Rd w y 1 m ys) (hfit : dn ≤ cur.size) (h1 : ∀ u ∈ ys, u.oneCell' = true)
    (h : ∀ w', St w0 M w' (H.set i (.cells g (ys.take dn ++ cur.toList.drop (min m dn)).toArray e)) → wpList P ops Q rest (a.put o.dst (goInt (min m dn : Nat))) w') : wpList P ops Q (o :: rest) a w :=
  wpList_plain hgd fun _ hK => wp_copyMin ho hu hsz hS i hi hd hx hr hfit h1 fun w' h2 => hK _ _ (h w' h2)
theorem run_index_arr (t e : TypeId) (n k : Nat) (cs : Array Value) (v : Value) (ik : IntKind) (h : P.underlying t = some (.array n e)) (he : P.underlying e = some (.int ik)) (hs : (P.info? e).map (·.size) = some 1) (hk : k < n) (hv : cs[k]? = some v) (W : World) :
    (Instr.index t (.agg cs) (.int .i64 (k : Int))).run P W = .ok v W := by
  have hag : ∀ w, (isAgg e).run P w = .ok false w := fun w => by
    unfold isAgg
    rw [Sem.run_bind, run_underlying he w]
    rfl
  have hsz : ∀ w, (sizeOf e).run P w = .ok 1 w := fun w => by
    cases hq : P.info? e with
    | none => simp [hq] at hs
    | some i =>
      have hi : i.size = 1 := by simpa [hq] using hs
      simp [sizeOf, typeInfo, hq, hi]
  simp [Instr.index, run_underlying h, asIntOf, go_sem, hv, hag, hsz, hk]
end
theorem limb_eq (k x y : Nat) (hk : k ≤ 64) (hx : x < 2 ^ k) : ∃ u, u = x + y % 2 ^ (64 - k) * 2 ^ k ∧ bits .or .u64 (x : Int) (IntKind.u64.wrap ((y : Int) * ((2 ^ k : Nat) : Int))) = (u : Int) ∧ bits .and .u64 (u : Int) 2251799813685247 = ((u % T51 : Nat) : Int) := by
  refine ⟨_, rfl, glue k x y hk hx, and_mask _ ?_⟩
  have e1 : 2 ^ (64 - k) * 2 ^ k = 18446744073709551616 := by rw [← Nat.pow_add, show 64 - k + k = 64 from by omega]
  have h1 : y % 2 ^ (64 - k) + 1 ≤ 2 ^ (64 - k) := Nat.mod_lt _ (Nat.pow_pos (by omega))
  have h2 := Nat.mul_le_mul_right (2 ^ k) h1
  rw [e1, Nat.add_mul, Nat.one_mul] at h2
  omega
def FromRel (w : World) (g : Nat) (H : List Chunk) (l : List UInt8) (i : Value) (wr : World) : Prop :=
  ∃ (k : Nat) (cur : List Nat), k ≤ 32 ∧ i = .int .i64 (k : Int) ∧ cur.length = 4 ∧ Words cur ∧ lv cur = bval (l.take k) ∧ St w NoB wr (.cells g (uvs cur).toArray 51 :: H)
set_option maxRecDepth 100000 in
set_option maxHeartbeats 800000 in
theorem from_walk (A : Option Addr) (n c : Nat) (l : List UInt8) (w : World) (hl : l.length = n) (hn : n ≤ 1000) (hr : Rd w (.slice A n c) 1 n (bvs l)) :
    Calls Try.prog 10 #[.slice A n c] w fun r w' => ∃ a b c d e : Nat, ev [a, b, c, d, e] = bval (fullL l) % Pq ∧ Red [a, b, c, d, e] ∧ r = .returned (.agg #[.int .u64 (a : Int), .int .u64 (b : Int), .int .u64 (c : Int), .int .u64 (d : Int), .int .u64 (e : Int)]) ∧ Below w.heap.size w w' := by
  have HR := hide hr
  have HL := hide hl
  have hS0 := ((St.init w NoB).alloc #[.int .u64 0, .int .u64 0, .int .u64 0, .int .u64 0, .int .u64 0] 27).alloc #[.int .u8 0, .int .u8 0, .int .u8 0, .int .u8 0, .int .u8 0, .int .u8 0, .int .u8 0, .int .u8 0, .int .u8 0, .int .u8 0, .int .u8 0, .int .u8 0, .int .u8 0, .int .u8 0, .int .u8 0, .int .u8 0, .int .u8 0, .int .u8 0, .int .u8 0, .int .u8 0, .int .u8 0, .int .u8 0, .int .u8 0, .int .u8 0, .int .u8 0, .int .u8 0, .int .u8 0, .int .u8 0, .int .u8 0, .int .u8 0, .int .u8 0, .int .u8 0] 50
  simp only [size_alloc1] at hS0
  have HS0 := hide hS0
  clear hr hl hS0
  obtain ⟨F, hF⟩ : ∃ F, F = fullL l := ⟨_, rfl⟩
  have HFL : Hid (F.length = 32) := hide (by rw [hF]; exact fullL_len l)
  have HFE := hide hF
  have HF : Hid ((bvs l).take 32 ++ (#[.int .u8 0, .int .u8 0, .int .u8 0, .int .u8 0, .int .u8 0, .int .u8 0, .int .u8 0, .int .u8 0, .int .u8 0, .int .u8 0, .int .u8 0, .int .u8 0, .int .u8 0, .int .u8 0, .int .u8 0, .int .u8 0, .int .u8 0, .int .u8 0, .int .u8 0, .int .u8 0, .int .u8 0, .int .u8 0, .int .u8 0, .int .u8 0, .int .u8 0, .int .u8 0, .int .u8 0, .int .u8 0, .int .u8 0, .int .u8 0, .int .u8 0, .int .u8 0] : Array Value).toList.drop (min n 32) = bvs F) := hide (by rw [hF, ← HL.out]; exact fullL_bvs l _ rfl)
  have HSZ : Hid ((Try.prog.info? 50).map (·.size) = some (bvs F).toArray.size) := hide (by rw [List.size_toArray, length_bvs, HFL.out]; kernel_rfl)
  clear hF
  go_enter Try.func10, Try.ntmps10
  go_upto_region 5 with (first
    | (refine wl_copyMin (d := .tmp 7) (s := .tmp 8) rfl rfl Try.underlying22 (by kernel_rfl) HS0.out 0 rfl rfl rfl (HR.out.st HS0.out) (by decide) (one_bvs _) ?_; intro w1 hS1; rw [HF.out] at hS1; have hS1 := hS1.alloc #[.int .u64 0, .int .u64 0, .int .u64 0, .int .u64 0] 51)
    | (refine wpList_load_row rfl 50 (.tmp 3) rfl (w.heap.size + 1) rfl _ _ _ _ (hS1.heap 1 rfl) Try.underlying50 rfl HSZ.out ?_))
  have HS1 := hide (hS1.pickL (H' := [.cells w1.heap.size #[.int .u64 0, .int .u64 0, .int .u64 0, .int .u64 0] 51, .cells w.heap.size #[.int .u64 0, .int .u64 0, .int .u64 0, .int .u64 0, .int .u64 0] 27]) [0, 2] (by decide) rfl)
  clear hS1 HS0 HF HSZ HL
  go_loopw [11] (fun i wr => FromRel w w1.heap.size [.cells w.heap.size #[.int .u64 0, .int .u64 0, .int .u64 0, .int .u64 0, .int .u64 0] 27] F i wr) (fun i _ => 32 - (intOf i).toNat)
  case atStart => exact ⟨0, [0, 0, 0, 0], by omega, rfl, rfl, by unfold Words; decide, rfl, HS1.out⟩
  case round =>
    obtain ⟨k, cur, hk, rfl, hcl, hcw, hval, hS⟩ := hrel
    by_cases hlt : k < 32
    · obtain ⟨x, hx⟩ := lim_get cur hcl (k / 8) (by omega)
      obtain ⟨ch, hch⟩ : ∃ ch, F[k]? = some ch := ⟨F[k]'(by rw [HFL.out]; exact hlt), List.getElem?_eq_getElem _⟩
      have hvl : lv cur < 256 ^ k := by
        rw [hval]
        have := bval_lt (F.take k)
        rwa [List.length_take, HFL.out, Nat.min_eq_left (by omega)] at this
      have hxw := from_word cur k x hx hvl
      have hch2 := UInt8.toNat_lt ch
      have hor := from_or x ch.toNat k hxw hch2
      have hlt2 := from_lt x ch.toNat k hxw hch2
      have hstep := hide (from_step cur F k x ch hx hch hval)
      obtain ⟨y, hy⟩ : ∃ y, y = x + ch.toNat * 256 ^ (k % 8) := ⟨_, rfl⟩
      rw [← hy] at hor hlt2 hstep
      have hS' := hS.drew
      have hHS := hide hS'
      have hix := run_index_arr (P := Try.prog) 50 5 32 k (bvs F).toArray (.int .u8 (ch.toNat : Int)) .u8 Try.underlying50 Try.underlying5 (by kernel_rfl) hlt (by simp only [bvs, List.getElem?_toArray, List.getElem?_map, hch]; rfl)
      obtain ⟨cn, hcn⟩ : ∃ cn, cn = ch.toNat := ⟨_, rfl⟩
      rw [← hcn] at hor hix hch2
      have cx : ∀ z, From wr.drew z → z.cell? ⟨w1.heap.size, k / 8, none⟩ = some (.int .u64 (x : Int)) := fun z hz => by
        rw [hz.cell (p := ⟨w1.heap.size, k / 8, none⟩) (Chunk.lt (hHS.out.sat 0 _ rfl) rfl), hHS.out.cell 0 rfl (k / 8)]
        exact uvs_get hx
      obtain ⟨q, hq⟩ : ∃ q, q = k / 8 := ⟨_, rfl⟩
      obtain ⟨r, hr⟩ : ∃ r, r = k % 8 * 8 := ⟨_, rfl⟩
      have hq4 : q < 4 := by omega
      have htd : (k : Int).tdiv 8 = (q : Int) := by rw [Int.tdiv_eq_ediv_of_nonneg (by omega)]; omega
      have htm : (k : Int).tmod 8 = ((k % 8 : Nat) : Int) := by rw [Int.tmod_eq_emod_of_nonneg (by omega)]; omega
      have hwr : IntKind.i64.wrap ((k : Int).tmod 8 * 8) = (r : Int) := by rw [htm, IntKind.wrap_i64]; omega
      have hwc : IntKind.u64.wrap (cn : Int) = (cn : Int) := by rw [IntKind.wrap_u64]; omega
      have hr64 : r < 64 := by omega
      have hq4i : (q : Int) < 4 := by omega
      have hr64i : (r : Int) < 64 := by omega
      have hwq : IntKind.i64.wrap (q : Int) = (q : Int) := by rw [IntKind.wrap_i64]; omega
      have hwr2 : IntKind.i64.wrap (r : Int) = (r : Int) := by rw [IntKind.wrap_i64]; omega
      rw [← hr] at hor
      rw [← hq] at cx hstep
      clear htm
      have D1 := hide hlt2
      have HCW := hide hcw
      have HCL := hide hcl
      clear hS hS' hx hxw hval hcw hcl hvl hlt2 hy hcn hch hq hr
      go_wp2_with fail
      refine wp_region_M (fun i => i == 12) (From wr.drew) (by kernel_rfl) ?_
      (refine wpM_takeU (i := 0) (v := ?_) rfl (by kernel_rfl) (by kernel_rfl) (by kernel_rfl) (fun _ _ _ h => h) (From.refl _) rfl (Or.inl ⟨by first | kernel_rfl | rfl, ?_⟩) ?_; rotate_left; (intro wx; go_simp) <;> (with_reducible rfl); (try simp only [Act.put, List.setIfInBounds_toArray, List.set_cons_zero, List.set_cons_succ, List.getElem_toArray, List.getElem_cons_succ, List.getElem_cons_zero])); (refine wpM_takeU (i := 1) (v := ?_) rfl (by kernel_rfl) (by kernel_rfl) (by kernel_rfl) (fun _ _ _ h => h) (From.refl _) rfl (Or.inl ⟨by first | kernel_rfl | rfl, ?_⟩) ?_; rotate_left; (intro wx; go_simp) <;> (with_reducible rfl); (try simp only [Act.put, List.setIfInBounds_toArray, List.set_cons_zero, List.set_cons_succ, List.getElem_toArray, List.getElem_cons_succ, List.getElem_cons_zero]))
      (refine wpM_take (i := 2) (v := ?_) rfl (by kernel_rfl) (by kernel_rfl) (by kernel_rfl) (fun _ _ _ h => h) (From.refl _) rfl (by kernel_rfl) (Or.inl ⟨by first | kernel_rfl | rfl, ?_⟩) ?_; rotate_left; (intro wx hx; go_simp) <;> (with_reducible rfl); (try simp only [Act.put, List.setIfInBounds_toArray, List.set_cons_zero, List.set_cons_succ, List.getElem_toArray, List.getElem_cons_succ, List.getElem_cons_zero])); (refine wpM_take (i := 3) (v := ?_) rfl (by kernel_rfl) (by kernel_rfl) (by kernel_rfl) (fun _ _ _ h => h) (From.refl _) rfl (by kernel_rfl) (Or.inl ⟨by first | kernel_rfl | rfl, ?_⟩) ?_; rotate_left; (intro wx hx; go_simp) <;> (with_reducible rfl); (try simp only [Act.put, List.setIfInBounds_toArray, List.set_cons_zero, List.set_cons_succ, List.getElem_toArray, List.getElem_cons_succ, List.getElem_cons_zero]))
      (refine wpM_takeU (i := 4) (v := ?_) rfl (by kernel_rfl) (by kernel_rfl) (by kernel_rfl) (fun _ _ _ h => h) (From.refl _) rfl (Or.inl ⟨by first | kernel_rfl | rfl, ?_⟩) ?_; rotate_left; (intro wx; go_simp) <;> (with_reducible rfl); (try simp only [Act.put, List.setIfInBounds_toArray, List.set_cons_zero, List.set_cons_succ, List.getElem_toArray, List.getElem_cons_succ, List.getElem_cons_zero])); (refine wpM_takeU (i := 5) (v := ?_) rfl (by kernel_rfl) (by kernel_rfl) (by kernel_rfl) (fun _ _ _ h => h) (From.refl _) rfl (Or.inl ⟨by first | kernel_rfl | rfl, ?_⟩) ?_; rotate_left; (intro wx; go_simp) <;> (with_reducible rfl); (try simp only [Act.put, List.setIfInBounds_toArray, List.set_cons_zero, List.set_cons_succ, List.getElem_toArray, List.getElem_cons_succ, List.getElem_cons_zero])); (refine wpM_takeU (i := 6) (v := ?_) rfl (by kernel_rfl) (by kernel_rfl) (by kernel_rfl) (fun _ _ _ h => h) (From.refl _) rfl (Or.inl ⟨by first | kernel_rfl | rfl, ?_⟩) ?_; rotate_left; (intro wx; go_simp) <;> (with_reducible rfl); (try simp only [Act.put, List.setIfInBounds_toArray, List.set_cons_zero, List.set_cons_succ, List.getElem_toArray, List.getElem_cons_succ, List.getElem_cons_zero])); (refine wpM_takeU (i := 7) (v := ?_) rfl (by kernel_rfl) (by kernel_rfl) (by kernel_rfl) (fun _ _ _ h => h) (From.refl _) rfl (Or.inl ⟨by first | kernel_rfl | rfl, ?_⟩) ?_; rotate_left; (intro wx; go_simp) <;> (with_reducible rfl); (try simp only [Act.put, List.setIfInBounds_toArray, List.set_cons_zero, List.set_cons_succ, List.getElem_toArray, List.getElem_cons_succ, List.getElem_cons_zero])); (refine wpM_takeU (i := 8) (v := ?_) rfl (by kernel_rfl) (by kernel_rfl) (by kernel_rfl) (fun _ _ _ h => h) (From.refl _) rfl (Or.inl ⟨by first | kernel_rfl | rfl, ?_⟩) ?_; rotate_left; (intro wx; go_simp) <;> (with_reducible rfl); (try simp only [Act.put, List.setIfInBounds_toArray, List.set_cons_zero, List.set_cons_succ, List.getElem_toArray, List.getElem_cons_succ, List.getElem_cons_zero])); (refine wpM_takeU (i := 9) (v := ?_) rfl (by kernel_rfl) (by kernel_rfl) (by kernel_rfl) (fun _ _ _ h => h) (From.refl _) rfl (Or.inl ⟨by first | kernel_rfl | rfl, ?_⟩) ?_; rotate_left; (intro wx; go_simp) <;> (with_reducible rfl); (try simp only [Act.put, List.setIfInBounds_toArray, List.set_cons_zero, List.set_cons_succ, List.getElem_toArray, List.getElem_cons_succ, List.getElem_cons_zero])); (refine wpM_takeU (i := 10) (v := ?_) rfl (by kernel_rfl) (by kernel_rfl) (by kernel_rfl) (fun _ _ _ h => h) (From.refl _) rfl (Or.inl ⟨by first | kernel_rfl | rfl, ?_⟩) ?_; rotate_left; (intro wx; go_simp) <;> (with_reducible rfl); (try simp only [Act.put, List.setIfInBounds_toArray, List.set_cons_zero, List.set_cons_succ, List.getElem_toArray, List.getElem_cons_succ, List.getElem_cons_zero])); (refine wpM_takeU (i := 11) (v := ?_) rfl (by kernel_rfl) (by kernel_rfl) (by kernel_rfl) (fun _ _ _ h => h) (From.refl _) rfl (Or.inl ⟨by first | kernel_rfl | rfl, ?_⟩) ?_; rotate_left; (intro wx; go_simp) <;> (with_reducible rfl); (try simp only [Act.put, List.setIfInBounds_toArray, List.set_cons_zero, List.set_cons_succ, List.getElem_toArray, List.getElem_cons_succ, List.getElem_cons_zero]))
      (refine wpM_late (i := 12) (by kernel_rfl) rfl rfl ?_; intro K hK; (try simp only [Act.put, List.setIfInBounds_toArray, List.set_cons_zero, List.set_cons_succ, List.getElem_toArray, List.getElem_cons_succ, List.getElem_cons_zero]))
      refine step_store rfl rfl tyU64 hHS.out 0 rfl q (by rw [List.size_toArray, uvs_len, HCL.out]; exact hq4) rfl (v := .int .u64 (y : Int)) rfl rfl ?_
      intro w2 hS2
      refine hK _ _ ?_
      clear hK K
      (try simp only [Act.put, List.setIfInBounds_toArray, List.set_cons_zero, List.set_cons_succ, List.getElem_toArray, List.getElem_cons_succ, List.getElem_cons_zero])
      refine wpAny_done (by kernel_rfl) ?_ _
      go_wp2_with fail
      go_roundw
      case rel =>
        rw [uvs_set] at hS2
        exact ⟨k + 1, cur.set q y, by omega, by go_num, by rw [List.length_set]; exact HCL.out, words_set HCW.out q _ D1.out, hstep.out, hS2⟩
      case measure => simp [intOf]; omega
    · obtain rfl : k = 32 := by omega
      match cur, hcl with
      | [a0, a1, a2, a3], _ =>
        have hS' : St w NoB wr [.cells w1.heap.size #[.int .u64 (a0 : Int), .int .u64 (a1 : Int), .int .u64 (a2 : Int), .int .u64 (a3 : Int)] 51, .cells w.heap.size #[.int .u64 0, .int .u64 0, .int .u64 0, .int .u64 0, .int .u64 0] 27] := hS
        have n0 : wr.cell? ⟨w1.heap.size, 0, none⟩ = some (.int .u64 (a0 : Int)) := hS'.cell 0 rfl 0
        have n1 : wr.cell? ⟨w1.heap.size, 1, none⟩ = some (.int .u64 (a1 : Int)) := hS'.cell 0 rfl 1
        have n2 : wr.cell? ⟨w1.heap.size, 2, none⟩ = some (.int .u64 (a2 : Int)) := hS'.cell 0 rfl 2
        have n3 : wr.cell? ⟨w1.heap.size, 3, none⟩ = some (.int .u64 (a3 : Int)) := hS'.cell 0 rfl 3
        have b0 : a0 < 18446744073709551616 := words_get hcw (k := 0) rfl
        have b1 : a1 < 18446744073709551616 := words_get hcw (k := 1) rfl
        have b2 : a2 < 18446744073709551616 := words_get hcw (k := 2) rfl
        have b3 : a3 < 18446744073709551616 := words_get hcw (k := 3) rfl
        have hv := f_val a0 a1 a2 a3 b0 b1 b2
        rw [hval, ← HFL.out, List.take_length] at hv
        have e0 := and_mask a0 b0
        obtain ⟨u1, hu1, e1, e1'⟩ := limb_eq 13 (a0 / 2251799813685248) a1 (by omega) (by omega)
        obtain ⟨u2, hu2, e2, e2'⟩ := limb_eq 26 (a1 / 274877906944) a2 (by omega) (by omega)
        obtain ⟨u3, hu3, e3, e3'⟩ := limb_eq 39 (a2 / 33554432) a3 (by omega) (by omega)
        replace e1 : bits .or .u64 ((a0 : Int) / 2251799813685248) (IntKind.u64.wrap ((a1 : Int) * 8192)) = (u1 : Int) := e1
        replace e2 : bits .or .u64 ((a1 : Int) / 274877906944) (IntKind.u64.wrap ((a2 : Int) * 67108864)) = (u2 : Int) := e2
        replace e3 : bits .or .u64 ((a2 : Int) / 33554432) (IntKind.u64.wrap ((a3 : Int) * 549755813888)) = (u3 : Int) := e3
        have g1 : u1 % T51 = f1 a0 a1 := by rw [hu1]; rfl
        have g2 : u2 % T51 = f2 a1 a2 := by rw [hu2]; rfl
        have g3 : u3 % T51 = f3 a2 a3 := by rw [hu3]; rfl
        rw [g1] at e1'
        rw [g2] at e2'
        rw [g3] at e3'
        have l0 : a0 % T51 < T51 := Nat.mod_lt _ (by decide)
        have l1 : f1 a0 a1 < T51 := Nat.mod_lt _ (by decide)
        have l2 : f2 a1 a2 < T51 := Nat.mod_lt _ (by decide)
        have l3 : f3 a2 a3 < T51 := Nat.mod_lt _ (by decide)
        have l4 : a3 / 4096 < 2 * T51 := by unfold T51; omega
        generalize a0 % T51 = p0 at e0 hv l0
        generalize f1 a0 a1 = p1 at e1' hv l1
        generalize f2 a1 a2 = p2 at e2' hv l2
        generalize f3 a2 a3 = p3 at e3' hv l3
        have e4 : ((a3 : Int) / 4096) = ((a3 / 4096 : Nat) : Int) := by omega
        generalize a3 / 4096 = p4 at e4 hv l4
        have hlow : Low [p0, p1, p2, p3, p4] := fun k x hx => by
          match k, hx with
          | 0, hx => injection hx with hx; unfold T51 at *; omega
          | 1, hx => injection hx with hx; unfold T51 at *; omega
          | 2, hx => injection hx with hx; unfold T51 at *; omega
          | 3, hx => injection hx with hx; unfold T51 at *; omega
          | 4, hx => injection hx with hx; unfold T51 at *; omega
        have HC := hide (fun W => carried_any p0 p1 p2 p3 p4 W hlow)
        have HV : Hid (ev [p0, p1, p2, p3, p4] = bval F % Pq) := hide (by unfold ev; rw [hv])
        have HSE := hide hS'
        clear hS hS' hval hcw hv hlow l0 l1 l2 l3 l4 b0 b1 b2 b3 hu1 hu2 hu3 g1 g2 g3
        go_wp2_with (go_at_call 30; with_reducible refine (HC.out _).mono ?_; rintro r w2 ⟨r0, r1, r2, r3, r4, hev, hred, rfl, hb2⟩; have hS2 := HSE.out.call hb2; have z0 : w2.cell? ⟨w.heap.size, 0, none⟩ = some (.int .u64 0) := hS2.cell 1 rfl 0; have z1 : w2.cell? ⟨w.heap.size, 1, none⟩ = some (.int .u64 0) := hS2.cell 1 rfl 1; have z2 : w2.cell? ⟨w.heap.size, 2, none⟩ = some (.int .u64 0) := hS2.cell 1 rfl 2; have z3 : w2.cell? ⟨w.heap.size, 3, none⟩ = some (.int .u64 0) := hS2.cell 1 rfl 3; have z4 : w2.cell? ⟨w.heap.size, 4, none⟩ = some (.int .u64 0) := hS2.cell 1 rfl 4; have y0 := hS2.free 1 rfl 0; have y1 := hS2.free 1 rfl 1; have y2 := hS2.free 1 rfl 2; have y3 := hS2.free 1 rfl 3; have y4 := hS2.free 1 rfl 4)
        have HS := hide (((((hS2.setCell 1 rfl 0 (.int .u64 (r0 : Int))).setCell 1 rfl 1 (.int .u64 (r1 : Int))).setCell 1 rfl 2 (.int .u64 (r2 : Int))).setCell 1 rfl 3 (.int .u64 (r3 : Int))).setCell 1 rfl 4 (.int .u64 (r4 : Int)))
        refine bodyPost_ret (results_cell_row rfl _ _ w.heap.size _ _ _ _ rfl (HS.out.heap 1 rfl) Try.underlying27 rfl (by kernel_rfl)) rfl ?_
        exact ⟨r0, r1, r2, r3, r4, by rw [hev, HV.out, HFE.out], hred, rfl, HS.out.below⟩
end Go.Proofs.Ytdihedhhkcakoaa
