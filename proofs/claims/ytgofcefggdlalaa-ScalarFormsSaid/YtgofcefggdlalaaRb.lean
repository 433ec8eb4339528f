/-
  The page's Reduce.
-/
import Derived.Test.YtgofcefggdlalaaRa
namespace Go.Proofs.Ytgofcefggdlalaa
open Go.RowKit
set_option linter.unusedSimpArgs false

/-- What is carried into row k. -/
def crS (c : Int) (ys : List Int) : Nat → Int
  | 0 => c
  | k + 1 => (crS c ys k + ys.getD k 0) / 256
def dgS (c : Int) (ys : List Int) (k : Nat) : Int := (crS c ys k + ys.getD k 0) % 256
def dgL (c : Int) (ys : List Int) (k : Nat) : List Int := (List.range k).map (dgS c ys)
theorem dgL_len (c : Int) (ys : List Int) (k : Nat) : (dgL c ys k).length = k := by simp [dgL]
theorem dgL_succ (c : Int) (ys : List Int) (k : Nat) : dgL c ys (k + 1) = dgL c ys k ++ [dgS c ys k] := by unfold dgL; rw [List.range_succ, List.map_append]; rfl
theorem dgL_byt (c : Int) (ys : List Int) (k : Nat) : Byt (dgL c ys k) := fun x hx => by
  simp only [dgL, List.mem_map] at hx
  obtain ⟨j, _, rfl⟩ := hx
  unfold dgS
  omega
theorem split256 (T s : Int) : T * (s % 256) + T * 256 * (s / 256) = T * s := by
  rw [Int.mul_assoc, ← Int.mul_add, Int.emod_add_mul_ediv]
theorem dgL_dv (c : Int) (ys : List Int) : ∀ k, k ≤ ys.length → dv (dgL c ys k) + 256 ^ k * crS c ys k = c + dv (ys.take k)
  | 0, _ => by simp [dgL, crS, dv]
  | k + 1, h => by
    have hx : ys[k]? = some ys[k] := List.getElem?_eq_getElem (by omega)
    have hs := getD_of hx
    have ih := dgL_dv c ys k (by omega)
    rw [dgL_succ, dv_append, dgL_len, dv_take hx]
    simp only [dv, Int.mul_zero, Int.add_zero, dgS, crS, hs, Int.pow_succ]
    have h1 := split256 ((256 : Int) ^ k) (crS c ys k + ys[k])
    rw [Int.mul_add] at h1
    rw [Int.mul_comm ys[k]]
    omega
theorem crS_bd (c : Int) (ys : List Int) (hc : -4 ≤ c ∧ c ≤ 4) (hy : ∀ k, -512 ≤ ys.getD k 0 ∧ ys.getD k 0 ≤ 512) : ∀ k, -4 ≤ crS c ys k ∧ crS c ys k ≤ 4
  | 0 => hc
  | k + 1 => by
    have ih := crS_bd c ys hc hy k
    have := hy k
    rw [crS]
    omega
theorem dgL_all (c : Int) (ys : List Int) (hl : ys.length = 33) (h0 : 0 ≤ c + dv ys) (h1 : c + dv ys < 256 ^ 33) : dv (dgL c ys 33) = c + dv ys := by
  have h := dgL_dv c ys 33 (by omega)
  rw [List.take_of_length_le (by omega)] at h
  have hb := dv_byt _ (dgL_byt c ys 33)
  rw [dgL_len] at hb
  generalize crS c ys 33 = k at *
  have hT : (256 : Int) ^ 33 = 29642774844752946028434172162224104410437116074403984394101141506025761187823616 := by decide
  rw [hT] at h hb h1
  omega
/-- A row under work. -/
def wkS (c : Int) (ys xs : List Int) (k : Nat) : List Int := dgL c ys k ++ xs.drop k
theorem wkS_len (c : Int) (ys xs : List Int) (h : xs.length = 33) (k : Nat) (hk : k ≤ 33) : (wkS c ys xs k).length = 33 := by unfold wkS; rw [List.length_append, dgL_len, List.length_drop, h]; omega
theorem wkS_get (c : Int) (ys xs : List Int) (h : xs.length = 33) {k : Nat} (hk : k < 33) : (wkS c ys xs k)[k]? = some (xs.getD k 0) := by
  unfold wkS
  rw [List.getElem?_append_right (by rw [dgL_len]; omega), dgL_len, Nat.sub_self, List.getElem?_drop, Nat.add_zero]
  exact some_getD (by omega)
theorem wkS_set (c : Int) (ys xs : List Int) (h : xs.length = 33) {k : Nat} (hk : k < 33) : (wkS c ys xs k).set k (dgS c ys k) = wkS c ys xs (k + 1) := by
  unfold wkS
  rw [List.set_append_right _ _ (by rw [dgL_len]; omega), dgL_len, Nat.sub_self, List.drop_eq_getElem_cons (by omega), List.set_cons_zero, dgL_succ, List.append_assoc]
  rfl
theorem wkS_all (c : Int) (ys xs : List Int) (h : xs.length = 33) : wkS c ys xs 33 = dgL c ys 33 := by
  unfold wkS
  rw [List.drop_of_length_le (by omega), List.append_nil]
/-- Twice the rows; the rows less l. -/
def dbL (xs : List Int) : List Int := xs.map (2 * ·)
def sbL (xs : List Int) : List Int := List.zipWith (· - ·) xs (ordL ++ [0])
theorem dbL_dv : ∀ xs : List Int, dv (dbL xs) = 2 * dv xs
  | [] => rfl
  | x :: xs => by
    show 2 * x + 256 * dv (dbL xs) = _
    rw [dbL_dv xs, dv]
    omega
theorem dv_zip : ∀ (xs ys : List Int), xs.length = ys.length → dv (List.zipWith (· - ·) xs ys) = dv xs - dv ys
  | [], [], _ => rfl
  | x :: xs, y :: ys, h => by
    simp only [List.zipWith_cons_cons, dv, dv_zip xs ys (by simpa using h)]
    omega
  | [], _ :: _, h => by simp at h
  | _ :: _, [], h => by simp at h
theorem sbL_dv {xs : List Int} (h : xs.length = 33) : dv (sbL xs) = dv xs - (Lq : Int) := by
  unfold sbL
  rw [dv_zip _ _ (by rw [h]; rfl), dv_append, ordL_dv]
  simp [dv]
theorem dbL_getD {xs : List Int} (h : xs.length = 33) {k : Nat} : (dbL xs).getD k 0 = 2 * xs.getD k 0 := by
  unfold dbL
  simp only [List.getD_eq_getElem?_getD, List.getElem?_map]
  cases xs[k]? <;> simp
theorem sbL_getD {xs : List Int} (h : xs.length = 33) {k : Nat} (hk : k < 33) : (sbL xs).getD k 0 = xs.getD k 0 - (if k < 32 then ordL.getD k 0 else 0) := by
  unfold sbL
  rw [List.getD_eq_getElem?_getD, List.getElem?_zipWith, some_getD (by omega)]
  rcases Nat.lt_or_ge k 32 with h32 | h32
  · rw [if_pos h32, List.getElem?_append_left (by simpa [ordL] using h32), some_getD (by simpa [ordL] using h32)]
    rfl
  · obtain rfl : k = 32 := by omega
    rfl
theorem dbL_bd {xs : List Int} (h : xs.length = 33) (hb : Byt xs) (k : Nat) : -512 ≤ (dbL xs).getD k 0 ∧ (dbL xs).getD k 0 ≤ 512 := by
  rw [dbL_getD h]
  have := byt_getD hb k
  omega
theorem sbL_bd {xs : List Int} (h : xs.length = 33) (hb : Byt xs) (k : Nat) : -512 ≤ (sbL xs).getD k 0 ∧ (sbL xs).getD k 0 ≤ 512 := by
  rcases Nat.lt_or_ge k 33 with hk | hk
  · rw [sbL_getD h hk]
    have := byt_getD hb k
    have := byt_getD ordL_byt k
    split <;> omega
  · rw [List.getD_eq_getElem?_getD, List.getElem?_eq_none (by unfold sbL; rw [List.length_zipWith, h]; exact Nat.le_trans (Nat.min_le_left _ _) hk)]
    simp
/-- Bit number i. -/
theorem bval_bit (l : List UInt8) {q r : Nat} {c : UInt8} (hc : l[q]? = some c) (hr : r < 8) : c.toNat / 2 ^ r % 2 = bval l / 2 ^ (8 * q + r) % 2 := by
  have hq := (List.getElem?_eq_some_iff.1 hc).1
  have h1 : bval l = bval (l.take q) + 256 ^ q * (c.toNat + 256 * bval (l.drop (q + 1))) := by
    have e := bval_append (l.take q) (l.drop q)
    rw [List.take_append_drop, List.length_take, Nat.min_eq_left (by omega)] at e
    rw [e, List.drop_eq_getElem_cons hq]
    rw [List.getElem?_eq_getElem hq] at hc
    injection hc with hc
    rw [hc, bval]
  have h2 := bval_lt (l.take q)
  rw [List.length_take, Nat.min_eq_left (by omega)] at h2
  have hp : (2 : Nat) ^ (8 * q + r) = 256 ^ q * 2 ^ r := by rw [Nat.pow_add, Nat.pow_mul]
  rw [hp, ← Nat.div_div_eq_div_mul, h1, Nat.add_mul_div_left _ _ (Nat.pos_of_ne_zero (by omega)), Nat.div_eq_of_lt h2, Nat.zero_add]
  generalize bval (l.drop (q + 1)) = R
  generalize c.toNat = C
  match r, hr with
  | 0, _ => omega
  | 1, _ => omega
  | 2, _ => omega
  | 3, _ => omega
  | 4, _ => omega
  | 5, _ => omega
  | 6, _ => omega
  | 7, _ => omega
theorem redR_step (B i : Nat) (bit : Nat) (hbit : bit = B / 2 ^ i % 2) : (2 * (B / 2 ^ (i + 1) % Lq) + bit) % Lq = B / 2 ^ i % Lq := by
  have h1 : B / 2 ^ i = 2 * (B / 2 ^ (i + 1)) + bit := by
    rw [hbit, Nat.pow_succ, ← Nat.div_div_eq_div_mul]
    omega
  rw [h1, Nat.add_mod, Nat.mul_mod_mod, ← Nat.add_mod]
/-- The rows behind the bits from number j on. -/
def RdI (l : List UInt8) (j : Nat) (xs : List Int) : Prop := xs.length = 33 ∧ Byt xs ∧ dv xs = ((bval l / 2 ^ j % Lq : Nat) : Int)
def RjRel (w : World) (l : List UInt8) (g3 g4 : Nat) (iv : Value) (wr : World) : Prop :=
  ∃ (j : Nat) (xs : List Int), j ≤ 8 * l.length ∧ iv = .int .i64 ((j : Int) - 1) ∧ RdI l j xs ∧ St w NoB wr [.cells g4 (ivs xs).toArray 48, .cells g3 ordA 50]
def RkRel (w : World) (c : Int) (ys xs : List Int) (g3 g4 : Nat) (cv kv : Value) (wr : World) : Prop :=
  ∃ k : Nat, k ≤ 33 ∧ kv = .int .i64 (k : Int) ∧ cv = .int .i64 (crS c ys k) ∧ St w NoB wr [.cells g4 (ivs (wkS c ys xs k)).toArray 48, .cells g3 ordA 50]
def RoRel (w : World) (xs : List Int) (g4 gb : Nat) (kv : Value) (wr : World) : Prop :=
  ∃ k : Nat, k ≤ 32 ∧ kv = .int .i64 (k : Int) ∧ St w NoB wr [.row (.slice (some ⟨gb, 0, none⟩) 32 32) 5 1 32 (bvs ((xs.take k).map (fun x : Int => UInt8.ofNat x.toNat) ++ List.replicate (32 - k) 0)), .cells g4 (ivs xs).toArray 48]
theorem enReduceR (args : Array Value) (w : World) : (callFunc 16 args).run Try.prog w = .ok (.enter 16 args) w := by kernel_rfl
set_option maxRecDepth 100000 in
set_option maxHeartbeats 1600000 in
theorem reduceR_nil (A : Option Addr) (n c : Nat) (w : World) (hn : 64 < n) : Calls Try.prog 16 #[.slice A n c] w fun e w' => e = .returned (.slice none 0 0) ∧ w = w' := by
  have hne : decide (64 < (n : Int)) = true := by simp; omega
  go_enter Try.func16, Try.ntmps16
  go_wp2
  go_ret
  exact ⟨rfl, rfl⟩
set_option maxRecDepth 100000 in
set_option maxHeartbeats 4000000 in
theorem reduceR (A : Option Addr) (n c : Nat) (l : List UInt8) (w : World) (hl : l.length = n) (hn : n ≤ 64) (hr : Rd w (.slice A n c) 1 n (bvs l)) :
    Calls Try.prog 16 #[.slice A n c] w fun e w' => ∃ B d, e = .returned (.slice B 32 d) ∧ Below w.heap.size w w' ∧ w'.ownsRow w.heap.size 5 1 (.slice B 32 d) 32 (bvs (redL l)) := by
  have HR := hide hr
  have HL := hide hl
  have HN := hide hn
  have dn : decide (64 < (n : Int)) = false := by simp; omega
  have n64 : (n : Int) ≤ 64 := by omega
  have hz := zero32v
  have hz3 := zero33v
  have w8 : wrap64 (8 * (n : Int)) = 8 * (n : Int) := IntWalk.wrap64_in _ ⟨by omega, by omega⟩
  clear hr hl hn
  go_enter Try.func16, Try.ntmps16
  go_upto_region 3 with fail
  refine wp_region_list ?_
  refine wl_callN rfl rfl enOrdR rfl (order_r _) ?_
  rintro e w1 ⟨rfl, hb1⟩
  refine ⟨_, rfl, ?_⟩
  have HS1 := hide ((St.init w NoB).call hb1)
  refine wpList_plain rfl ?_
  intro K hK
  go_simp
  refine hK _ _ ?_
  clear hK K
  have HS2 := hide (HS1.out.alloc zer32 50)
  obtain ⟨g3, hg⟩ : ∃ g, g = w1.heap.size := ⟨_, rfl⟩
  rw [← hg] at HS2
  have HS3 := hide (show St w NoB _ [.cells g3 ordA 50] from HS2.out.setRow 0 rfl ordA)
  refine wpList_store_row rfl 50 (.tmp 3) (.tmp 15) rfl g3 ordA (by rw [hg]; rfl) rfl 50 _ (HS2.out.heap 0 rfl) (by rw [ordA_size]; kernel_rfl) (by rw [ordA_size]; unfold zer32; rfl) (by unfold ordA; kernel_rfl) ?_
  refine wpList_nil ?_
  have hgE : w1.heap.size = g3 := hg.symm
  simp only [hgE]
  generalize ((w1.alloc (.cells zer32 50)).setRow g3 ordA) = wq at HS3 ⊢
  clear hgE hg HS2 HS1 hb1 hz
  have HS4 := hide (HS3.out.alloc (ivs (List.replicate 33 0)).toArray 48)
  go_wp2_with fail
  obtain ⟨g4, hg⟩ : ∃ g, g = wq.heap.size := ⟨_, rfl⟩
  rw [← hg] at HS4 ⊢
  clear hg HS3 hz3
  have hI0 : RdI l (8 * n) (List.replicate 33 0) := by
    refine ⟨rfl, fun x hx => by have := (List.mem_replicate.1 hx).2; omega, ?_⟩
    have hb := bval_lt l
    rw [HL.out] at hb
    rw [Nat.div_eq_of_lt (by rw [Nat.pow_mul]; exact hb), Nat.zero_mod]
    decide
  have HI0 := hide hI0
  clear hI0
  go_loopw [5] (fun i wr => RjRel w l g3 g4 i wr) (fun i _ => (intOf i + 1).toNat)
  case atStart => exact ⟨8 * n, _, by rw [HL.out]; omega, by go_num, HI0.out, HS4.out⟩
  case round =>
    clear HS4 HI0 w8
    obtain ⟨j, xs, hj, rfl, hI, hS⟩ := hrel
    rw [HL.out] at hj
    have HS := hide hS
    have HI := hide hI
    clear hS hI
    cases j with
    | zero =>
      have d0 : decide ((0 : Int) ≤ -1) = false := by decide
      have hI := HI.out
      have hV : dv xs = ((bval l % Lq : Nat) : Int) := by rw [hI.2.2, Nat.pow_zero, Nat.div_one]
      have hV2 : 0 ≤ dv xs ∧ dv xs < (Lq : Int) := by
        rw [hV]
        have := Nat.mod_lt (bval l) (Lq_lt.2)
        omega
      have hx := dv_take (some_getD (xs := xs) (k := 32) (by rw [hI.1]; omega))
      have hb32 := dv_byt _ (byt_take hI.2.1 32)
      rw [List.length_take, hI.1] at hb32
      rw [List.take_of_length_le (by rw [hI.1]; omega)] at hx
      have hx32 := byt_getD hI.2.1 32
      have hT : dv (xs.take 32) = dv xs := by
        have h4 := Lq_pow.1
        rw [show min 32 33 = 32 from rfl] at hb32
        generalize xs.getD 32 0 = t at *
        generalize (256 : Int) ^ 32 = T at *
        rcases Int.lt_or_le 0 t with h0 | h0
        · have : 1 * T ≤ t * T := Int.mul_le_mul_of_nonneg_right (by omega) (by omega)
          omega
        · obtain rfl : t = 0 := by omega
          omega
      have hout : (xs.take 32).map (fun x : Int => UInt8.ofNat x.toNat) = redL l := by
        have h := byt_leB _ (byt_take hI.2.1 32)
        rw [List.length_take, hI.1, hT, hV] at h
        rw [h]
        unfold redL
        rfl
      have HOUT := hide hout
      clear hI hV hV2 hx hb32 hx32 hT hout hj
      go_upto_region 27 with (refine wl_makeB (n := 32) rfl rfl Try.underlying22 infoB HS.out rfl rfl (by decide) ?_; intro gb w6 hS6 hb6; have HS6 := hide hS6; clear hS6 hb6)
      have HS7 := hide (HS6.out.pickL [0, 1] (by decide) rfl : St w NoB w6 [.row (.slice (some ⟨gb, 0, none⟩) 32 32) 5 1 32 (bvs (List.replicate 32 0)), .cells g4 (ivs xs).toArray 48])
      clear HS6 HS
      go_wp2_with fail
      go_loopw [79] (fun k wr => RoRel w xs g4 gb k wr) (fun k _ => 32 - (intOf k).toNat)
      case atStart => exact ⟨0, by omega, rfl, HS7.out⟩
      case round =>
        clear HS7
        obtain ⟨k, hk, rfl, hS⟩ := hrel
        have HS := hide hS
        by_cases hlt : k < 32
        · have d32 : decide ((k : Int) < 32) = true := by simp; omega
          have k32 : (k : Int) < 32 := by omega
          have k33 : (k : Int) < 33 := by omega
          have c0 : wr.cell? ⟨g4, k, none⟩ = some (.int .i64 (xs.getD k 0)) := by rw [hS.cell 1 rfl k]; exact ivs_get (some_getD (by rw [HI.out.1]; omega))
          have hne : gb ≠ g4 := fun e => hS.apart 0 1 _ _ g4 (by decide) rfl rfl (by rw [e]; rfl) rfl
          have hne2 : g4 ≠ gb := fun e => hne e.symm
          obtain ⟨g', c', hv, _, _, hcell, hfree, _⟩ := hS.rowOpen 0 rfl (by omega)
          injection hv with hv1 _ hv3
          injection hv1 with hv1
          injection hv1 with hv1
          subst hv1 hv3
          have hlen : ((xs.take k).map (fun x : Int => UInt8.ofNat x.toNat)).length = k := by rw [List.length_map, List.length_take, HI.out.1]; omega
          have ce := hcell k (.int .u8 ((0 : UInt8).toNat : Int)) (bvs_get (by rw [List.getElem?_append_right (by rw [hlen]; exact Nat.le_refl _), hlen, Nat.sub_self, List.getElem?_replicate, if_pos (by omega)]))
          have fe := hfree k
          have hxb := byt_getD HI.out.2.1 k
          obtain ⟨x, hx⟩ : ∃ x : Nat, (x : Int) = xs.getD k 0 := ⟨(xs.getD k 0).toNat, by omega⟩
          rw [← hx] at c0 hxb
          have x256 : (x : Int) < 256 := hxb.2
          have hT : ((xs.take k).map (fun x : Int => UInt8.ofNat x.toNat) ++ List.replicate (32 - k) 0).set k (UInt8.ofNat x) = (xs.take (k + 1)).map (fun x : Int => UInt8.ofNat x.toNat) ++ List.replicate (32 - (k + 1)) 0 := by
            rw [List.set_append_right _ _ (by rw [hlen]; exact Nat.le_refl _), hlen, Nat.sub_self, show 32 - k = (32 - (k + 1)) + 1 from by omega, List.replicate_succ, List.set_cons_zero, List.take_add_one, some_getD (by rw [HI.out.1]; omega), ← hx, Option.toList_some, List.map_append, List.append_assoc]
            rfl
          have hRow := hS.rowSet 0 rfl k (.int .u8 (x : Int)) (by omega)
          rw [List.set_cons_zero, bvs_set _ _ _ (by omega), hT] at hRow
          have HRow := hide hRow
          clear hcell hfree hlen hx hxb hT hRow hS
          go_wp2_with fail
          go_roundw
          case rel => exact ⟨k + 1, by omega, by go_num, HRow.out⟩
          case measure => (simp [intOf]) <;> omega
        · obtain rfl : k = 32 := by omega
          rw [HOUT.out, Nat.sub_self, List.replicate_zero, List.append_nil] at hS
          have HS9 := hide hS
          clear hS HS
          go_wp2_with fail
          go_ret
          exact ⟨_, _, rfl, HS9.out.below, HS9.out.ownsRow 0 rfl⟩
    | succ i =>
      have hn := HN.out
      have HJ := hide hj
      have e1 : (((i + 1 : Nat) : Int) - 1) = (i : Int) := by omega
      simp only [e1]
      have di : decide ((0 : Int) ≤ (i : Int)) = true := by simp
      have i512 : (i : Int) < 512 := by omega
      obtain ⟨q, hq⟩ : ∃ q, q = i / 8 := ⟨_, rfl⟩
      obtain ⟨r, hr⟩ : ∃ r, r = i % 8 := ⟨_, rfl⟩
      have td : (i : Int).tdiv 8 = (q : Int) := by rw [Int.tdiv_eq_ediv_of_nonneg (by omega)]; omega
      have tm : (i : Int).tmod 8 = (r : Int) := by rw [Int.tmod_eq_emod_of_nonneg (by omega)]; omega
      have ed : (i : Int) / 8 = (q : Int) := by omega
      have em : (i : Int) % 8 = (r : Int) := by omega
      have qn : (q : Int) < (n : Int) := by omega
      have r8 : (r : Int) < 8 := by omega
      have hxb : l[q]? = some (l.getD q 0) := by rw [List.getD_eq_getElem?_getD, List.getElem?_eq_getElem (by rw [HL.out]; omega)]; rfl
      obtain ⟨b, o, rfl, hcb⟩ := rd_at' (HR.out.st HS.out) (bvs_get hxb)
      have hbit := bval_bit l hxb (show r < 8 by omega)
      obtain ⟨ch, hch⟩ : ∃ c : Nat, c = (l.getD q 0).toNat := ⟨_, rfl⟩
      have hc8 : ch < 256 := by rw [hch]; exact UInt8.toNat_lt _
      rw [← hch] at hcb hbit
      obtain ⟨bt, hbt⟩ : ∃ t, t = ch / 2 ^ r % 2 := ⟨_, rfl⟩
      obtain ⟨cs, hcs⟩ : ∃ t, t = ch / 2 ^ r := ⟨_, rfl⟩
      have s1 : (ch : Int) / 2 ^ r = (cs : Int) := by rw [hcs, Int.natCast_ediv, Int.natCast_pow]; rfl
      have cs8 : (cs : Int) < 256 := by have := Nat.div_le_self ch (2 ^ r); omega
      have s2 : bits .and .i64 (cs : Int) 1 = (bt : Int) := by rw [i64_and1, hbt, ← hcs]; omega
      have bt2 : bt < 2 := by omega
      have bti : (bt : Int) < 2 := by omega
      have hstep := redR_step (bval l) i bt (by rw [hbt, hbit]; congr 3; omega)
      have HST := hide hstep
      clear hq hr hxb hch hbit hbt hcs hstep hj hn e1
      go_wp2_with fail
      go_loopw [6, 35] (fun cv kv wr => RkRel w (bt : Int) (dbL xs) xs g3 g4 cv kv wr) (fun _ k _ => 33 - (intOf k).toNat)
      case atStart => exact ⟨0, by omega, rfl, rfl, HS.out⟩
      case round =>
        clear HS
        obtain ⟨k, hk, rfl, rfl, hS⟩ := hrel
        have HS := hide hS
        by_cases hlt : k < 33
        · have d33 : decide ((k : Int) < 33) = true := by simp; omega
          have k33 : (k : Int) < 33 := by omega
          have c0 : wr.cell? ⟨g4, k, none⟩ = some (.int .i64 (xs.getD k 0)) := by rw [hS.cell 0 rfl k]; exact ivs_get (wkS_get _ _ xs HI.out.1 hlt)
          have f0 := hS.free 0 rfl k
          have hcb := crS_bd (bt : Int) (dbL xs) (by omega) (dbL_bd HI.out.1 HI.out.2.1) k
          have hxb := byt_getD HI.out.2.1 k
          have HT := hide (wkS_set (bt : Int) (dbL xs) xs HI.out.1 hlt)
          have hD : dgS (bt : Int) (dbL xs) k = (crS (bt : Int) (dbL xs) k + (dbL xs).getD k 0) % 256 := rfl
          have hE : crS (bt : Int) (dbL xs) (k + 1) = (crS (bt : Int) (dbL xs) k + (dbL xs).getD k 0) / 256 := rfl
          rw [dbL_getD HI.out.1] at hD hE
          obtain ⟨cc, hcc⟩ : ∃ x, x = crS (bt : Int) (dbL xs) k := ⟨_, rfl⟩
          obtain ⟨x, hx⟩ : ∃ y, y = xs.getD k 0 := ⟨_, rfl⟩
          obtain ⟨D, hDD⟩ : ∃ y, y = dgS (bt : Int) (dbL xs) k := ⟨_, rfl⟩
          obtain ⟨E, hEE⟩ : ∃ y, y = crS (bt : Int) (dbL xs) (k + 1) := ⟨_, rfl⟩
          rw [← hcc] at hD hE hcb
          rw [← hx] at hD hE hxb c0
          rw [← hDD] at hD HT
          rw [← hEE] at hE
          simp only [← hcc]
          have HEE := hide hEE
          have a1 : bits .and .i64 (cc + 2 * x) 255 = D := by rw [i64_and255]; exact hD.symm
          have a2 : (cc + 2 * x) / 256 = E := hE.symm
          obtain ⟨b0, b1⟩ := hcb
          obtain ⟨b2, b3⟩ := hxb
          clear hD hE hcc hx hDD hEE hS
          go_wp2_with fail
          go_roundw
          case rel =>
            have h3 := HS.out.setCell 0 rfl k (.int .i64 D)
            rw [List.set_cons_zero, ivs_set, HT.out] at h3
            exact ⟨k + 1, by omega, by go_num, by rw [HEE.out], h3⟩
          case measure => (simp [intOf]) <;> omega
        · obtain rfl : k = 33 := by omega
          have hI := HI.out
          rw [wkS_all _ _ xs hI.1] at hS
          have hV : 0 ≤ (bt : Int) + dv (dbL xs) ∧ (bt : Int) + dv (dbL xs) < 256 ^ 33 ∧ dv (dbL xs) = 2 * dv xs ∧ dv xs < (Lq : Int) := by
            have h1 := dbL_dv xs
            have h2 := dv_byt _ hI.2.1
            have h3 : dv xs < (Lq : Int) := by
              rw [hI.2.2]
              have := Nat.mod_lt (bval l / 2 ^ (i + 1)) (Lq_lt.2)
              omega
            have h4 := Lq_pow.1
            have h5 : (256 : Int) ^ 33 = 256 ^ 32 * 256 := Int.pow_succ _ _
            omega
          have hdv := dgL_all (bt : Int) (dbL xs) (by unfold dbL; rw [List.length_map]; exact hI.1) hV.1 hV.2.1
          rw [hV.2.2.1] at hdv
          obtain ⟨ds, hds⟩ : ∃ d, d = dgL (bt : Int) (dbL xs) 33 := ⟨_, rfl⟩
          have hdl : ds.length = 33 := by rw [hds]; exact dgL_len _ _ _
          have hdb : Byt ds := by rw [hds]; exact dgL_byt _ _ _
          rw [← hds] at hS hdv
          have HB := hide (fun W => below_r ds W hdl hdb)
          have HDL := hide hdl
          have HDB := hide hdb
          have HDV := hide hdv
          have HVV := hide hV.2.2.2
          obtain ⟨da, hda⟩ : ∃ a, a = (ivs ds).toArray := ⟨_, rfl⟩
          have hsz : da.size = 33 := by rw [hda, List.size_toArray, ivs_len, hdl]
          have HS1 := hide hS
          rw [← hda] at HB
          have HS2 := hide (show St w NoB wr [.cells g4 da 48, .cells g3 ordA 50] by rw [hda]; exact hS)
          obtain ⟨bb, hbb⟩ : ∃ b, b = decide (dv ds < (Lq : Int)) := ⟨_, rfl⟩
          rw [← hbb] at HB
          have HBB := hide hbb
          clear hS hI hV hdv hds hdl hdb hda HS hbb
          go_upto_region 15 with fail
          refine wp_region_list ?_
          refine wpList_load_row rfl 48 (.tmp 4) rfl g4 rfl 48 da _ _ (HS2.out.heap 0 rfl) Try.underlying48 rfl (by rw [hsz]; kernel_rfl) ?_
          refine wl_callN rfl rfl enBelowR rfl (HB.out _) ?_
          rintro e w5 ⟨rfl, hb5⟩
          refine ⟨_, rfl, ?_⟩
          have HS := hide (HS1.out.call hb5)
          clear HS1 HS2 HB hb5
          cases bb with
          | true =>
            have hlt := of_decide_eq_true HBB.out.symm
            have HR2 := hide (show RdI l i ds from ⟨HDL.out, HDB.out, by
              have h := HDV.out
              have h2 := HI.out.2.2
              rw [← HST.out]
              generalize bval l / 2 ^ (i + 1) % Lq = V at *
              rw [h2] at h
              rw [h] at hlt ⊢
              rw [Nat.mod_eq_of_lt (by omega)]
              omega⟩)
            clear hlt HBB
            go_wp2_with fail
            go_roundw
            case rel => exact ⟨i, ds, by (have := HJ.out); (rw [HL.out]); omega, by go_num, HR2.out, HS.out⟩
            case measure => (simp [intOf]) <;> omega
          | false =>
            have hge := of_decide_eq_false HBB.out.symm
            have HGE := hide hge
            clear hge HBB
            go_wp2_with fail
            go_loopw [8, 54] (fun cv kv wr => RkRel w 0 (sbL ds) ds g3 g4 cv kv wr) (fun _ k _ => 33 - (intOf k).toNat)
            case atStart => exact ⟨0, by omega, rfl, rfl, HS.out⟩
            case round =>
              clear HS
              obtain ⟨k, hk, rfl, rfl, hS⟩ := hrel
              have HS := hide hS
              by_cases hlt : k < 33
              · have d33 : decide ((k : Int) < 33) = true := by simp; omega
                have k33 : (k : Int) < 33 := by omega
                have c0 : wr.cell? ⟨g4, k, none⟩ = some (.int .i64 (ds.getD k 0)) := by rw [hS.cell 0 rfl k]; exact ivs_get (wkS_get _ _ ds HDL.out hlt)
                have f0 := hS.free 0 rfl k
                have hcb := crS_bd 0 (sbL ds) (by omega) (sbL_bd HDL.out HDB.out) k
                have hxb := byt_getD HDB.out k
                have HT := hide (wkS_set 0 (sbL ds) ds HDL.out hlt)
                have hD : dgS 0 (sbL ds) k = (crS 0 (sbL ds) k + (sbL ds).getD k 0) % 256 := rfl
                have hE : crS 0 (sbL ds) (k + 1) = (crS 0 (sbL ds) k + (sbL ds).getD k 0) / 256 := rfl
                rw [sbL_getD HDL.out hlt] at hD hE
                have hob := byt_getD ordL_byt k
                obtain ⟨cc, hcc⟩ : ∃ x, x = crS 0 (sbL ds) k := ⟨_, rfl⟩
                obtain ⟨x, hx⟩ : ∃ y, y = ds.getD k 0 := ⟨_, rfl⟩
                obtain ⟨D, hDD⟩ : ∃ y, y = dgS 0 (sbL ds) k := ⟨_, rfl⟩
                obtain ⟨E, hEE⟩ : ∃ y, y = crS 0 (sbL ds) (k + 1) := ⟨_, rfl⟩
                rw [← hcc] at hD hE hcb
                rw [← hx] at hD hE hxb c0
                rw [← hDD] at hD HT
                rw [← hEE] at hE
                simp only [← hcc]
                have HEE := hide hEE
                obtain ⟨b0, b1⟩ := hcb
                obtain ⟨b2, b3⟩ := hxb
                by_cases h32 : k < 32
                · have d32 : decide ((k : Int) < 32) = true := by simp; omega
                  have k32 : (k : Int) < 32 := by omega
                  have c1 : wr.cell? ⟨g3, k, none⟩ = some (.int .i64 (ordL.getD k 0)) := by rw [hS.cell 1 rfl k]; exact ordA_get h32
                  rw [if_pos h32] at hD hE
                  obtain ⟨y, hy⟩ : ∃ y, y = ordL.getD k 0 := ⟨_, rfl⟩
                  rw [← hy] at hD hE hob c1
                  obtain ⟨b4, b5⟩ := hob
                  have a1 : bits .and .i64 (cc + x - y) 255 = D := by rw [i64_and255, hD]; congr 1; omega
                  have a2 : (cc + x - y) / 256 = E := by rw [hE]; congr 1; omega
                  clear hD hE hcc hx hDD hEE hS hy
                  go_wp2_with fail
                  go_roundw
                  case rel =>
                    have h3 := HS.out.setCell 0 rfl k (.int .i64 D)
                    rw [List.set_cons_zero, ivs_set, HT.out] at h3
                    exact ⟨k + 1, by omega, by go_num, by rw [HEE.out], h3⟩
                  case measure => (simp [intOf]) <;> omega
                · obtain rfl : k = 32 := by omega
                  rw [if_neg h32, Int.sub_zero] at hD hE
                  have a1 : bits .and .i64 (cc + x) 255 = D := by rw [i64_and255, hD]
                  have a2 : (cc + x) / 256 = E := hE.symm
                  clear hD hE hcc hx hDD hEE hS hob h32
                  go_wp2_with fail
                  go_roundw
                  case rel =>
                    have h3 := HS.out.setCell 0 rfl 32 (.int .i64 D)
                    rw [List.set_cons_zero, ivs_set, HT.out] at h3
                    exact ⟨33, by omega, rfl, by rw [HEE.out], h3⟩
                  case measure => (simp [intOf]) <;> omega
              · obtain rfl : k = 33 := by omega
                rw [wkS_all _ _ ds HDL.out] at hS
                have hsv := sbL_dv HDL.out
                have hge := HGE.out
                have hdv := HDV.out
                have hvv := HVV.out
                have hlp := Lq_pow
                have h2 := dgL_all 0 (sbL ds) (by unfold sbL; rw [List.length_zipWith, HDL.out]; rfl) (by rw [hsv]; omega) (by
                  rw [hsv]
                  have h5 : (256 : Int) ^ 33 = 256 ^ 32 * 256 := Int.pow_succ _ _
                  omega)
                have HR2 := hide (show RdI l i (dgL 0 (sbL ds) 33) from ⟨dgL_len _ _ _, dgL_byt _ _ _, by
                  rw [h2, hsv, hdv, HI.out.2.2, ← HST.out]
                  rw [HI.out.2.2] at hdv hvv
                  rw [hdv] at hge
                  generalize bval l / 2 ^ (i + 1) % Lq = V at *
                  have e : 2 * V + bt = (2 * V + bt - Lq) + Lq := by omega
                  rw [e, Nat.add_mod_right, Nat.mod_eq_of_lt (by omega)]
                  omega⟩)
                have HS9 := hide hS
                clear hS HS hsv hge hdv hvv hlp h2
                go_wp2_with fail
                go_roundw
                case rel => exact ⟨i, _, by (have := HJ.out); (rw [HL.out]); omega, by go_num, HR2.out, HS9.out⟩
                case measure => (simp [intOf]) <;> omega
end Go.Proofs.Ytgofcefggdlalaa
