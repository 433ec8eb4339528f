/-
  Layer 18: the store's Named.
-/
import Derived.Test.YthpioncehigoaaaYu
namespace Go.Proofs.Ythpioncehigoaaa
open Go.RowKit
set_option linter.unusedSimpArgs false

/-- Names with lengths, in order. -/
noncomputable def cmpK (a b : List UInt8 × Int) : Int := orI (cmpS a.1 b.1) (cmpI a.2 b.2)
theorem cmpK_ord : IsOrd cmpK := (cmpS_ord.via Prod.fst).or (cmpI_ord.via Prod.snd)
def keyF (f : Fc) : List UInt8 × Int := (f.name, (f.ts.length : Int))
noncomputable def cmpN (s : List UInt8) (n : Int) (f : Fc) : Int := cmpK (keyF f) (s, n)
theorem cmpN_orL (s : List UInt8) (n : Int) (f : Fc) : cmpN s n f = orL [cmpS f.name s, cmpI (f.ts.length : Int) n] := by
  show orI _ _ = orI _ (orI _ 0)
  unfold keyF orI
  split <;> (try split) <;> simp_all
theorem key_le {x y : Fc} (h : cmpF x y < 0) : cmpK (keyF x) (keyF y) ≤ 0 := by
  unfold cmpF at h
  rw [orL4] at h
  unfold cmpK keyF orI at *
  repeat' split at h
  all_goals first
    | (simp_all; done)
    | (simp_all; omega)
theorem cmpN_lo {s : List UInt8} {n : Int} {x y : Fc} (h : cmpF x y < 0) (hy : cmpN s n y < 0) : cmpN s n x < 0 := by
  have h1 := key_le h
  have h2 := cmpK_ord.lt (keyF x) (keyF y) (s, n) h1 (by unfold cmpN at hy; omega)
  have h3 := cmpK_ord.lt' (keyF x) (keyF y) (s, n) h1 (by unfold cmpN at hy; omega)
  unfold cmpN at *
  omega
theorem cmpN_le {s : List UInt8} {n : Int} {x y : Fc} (h : cmpF x y < 0) (hy : cmpN s n y ≤ 0) : cmpN s n x ≤ 0 := cmpK_ord.lt (keyF x) (keyF y) (s, n) (key_le h) hy
theorem part_n {l : List Fc} (h : RisF l) (s : List UInt8) (n : Int) : PartF (cmpN s n) l (plc (cmpN s n) l) := by
  refine ⟨plc_le _ l, fun i x hi hlt => plc_lo _ l i x hi hlt, fun i x hi hle => ?_⟩
  have hil := (List.getElem?_eq_some_iff.1 hi).1
  have hpl : plc (cmpN s n) l < l.length := by omega
  have hy := plc_at (cmpN s n) l _ (List.getElem?_eq_getElem hpl)
  by_cases e : plc (cmpN s n) l = i
  · rw [← e, List.getElem?_eq_getElem hpl] at hi
    injection hi with hi
    rw [← hi]
    exact hy
  · intro hx
    exact hy (cmpN_lo (risF_lt l h _ i _ x (by omega) (List.getElem?_eq_getElem hpl) hi) hx)
/-- Those of a name and a length. -/
noncomputable def namF (s : List UInt8) (n : Int) (l : List Fc) : List Fc := l.filter fun f => decide (cmpN s n f = 0)
theorem filter_mid (p : Fc → Bool) (l : List Fc) (j t : Nat) (hjt : j ≤ t) (h1 : ∀ i x, l[i]? = some x → i < j → p x = false) (h2 : ∀ i x, l[i]? = some x → j ≤ i → i < t → p x = true) (h3 : ∀ i x, l[i]? = some x → t ≤ i → p x = false) :
    l.filter p = (l.drop j).take (t - j) := by
  have e : l = l.take j ++ ((l.drop j).take (t - j) ++ l.drop t) := by
    have e2 : l.drop t = (l.drop j).drop (t - j) := by rw [List.drop_drop]; congr 1; omega
    rw [e2, List.take_append_drop, List.take_append_drop]
  conv => lhs; rw [e]
  rw [List.filter_append, List.filter_append, List.filter_eq_nil_iff.2, List.filter_eq_self.2, List.filter_eq_nil_iff.2, List.nil_append, List.append_nil]
  · intro x hx
    obtain ⟨i, hi⟩ := List.getElem?_of_mem hx
    rw [List.getElem?_drop] at hi
    rw [h3 _ x hi (by omega)]
    exact Bool.false_ne_true
  · intro x hx
    obtain ⟨i, hi⟩ := List.getElem?_of_mem hx
    have hil := (List.getElem?_eq_some_iff.1 hi).1
    rw [List.getElem?_take_of_lt (by rw [List.length_take] at hil; omega), List.getElem?_drop] at hi
    exact h2 _ x hi (by omega) (by rw [List.length_take] at hil; omega)
  · intro x hx
    obtain ⟨i, hi⟩ := List.getElem?_of_mem hx
    have hil := (List.getElem?_eq_some_iff.1 hi).1
    rw [List.length_take] at hil
    rw [List.getElem?_take_of_lt (by omega)] at hi
    rw [h1 _ x hi (by omega)]
    exact Bool.false_ne_true
theorem nam_mid {l : List Fc} (hr : RisF l) (s : List UInt8) (n : Int) (t : Nat) (h1 : plc (cmpN s n) l ≤ t) (h2 : ∀ i x, l[i]? = some x → plc (cmpN s n) l ≤ i → i < t → cmpN s n x = 0) (h3 : ∀ x, l[t]? = some x → cmpN s n x ≠ 0) :
    namF s n l = (l.drop (plc (cmpN s n) l)).take (t - plc (cmpN s n) l) := by
  have hp := part_n hr s n
  refine filter_mid _ l _ t h1 (fun i x hi hlt => ?_) (fun i x hi h4 h5 => decide_eq_true (h2 i x hi h4 h5)) (fun i x hi hle => ?_)
  · have := hp.lo i x hi hlt
    exact decide_eq_false (by omega)
  · refine decide_eq_false fun h0 => ?_
    have hil := (List.getElem?_eq_some_iff.1 hi).1
    have htl : t < l.length := by omega
    have hy := h3 _ (List.getElem?_eq_getElem htl)
    have hy2 := hp.hi t _ (List.getElem?_eq_getElem htl) h1
    by_cases e : t = i
    · subst e
      rw [List.getElem?_eq_getElem htl] at hi
      injection hi with hi
      rw [hi] at hy
      exact hy h0
    · have := cmpN_le (s := s) (n := n) (risF_lt l hr t i _ x (by omega) (List.getElem?_eq_getElem htl) hi) (by omega)
      omega
theorem run_midG {P : Program} {t : TypeId} {size : Nat} (ht : P.underlying t = some (.slice (P.elem t))) (hs : ∀ W : World, (sizeOf (P.elem t)).run P W = .ok size W) (A : Option Addr) (n c j k : Nat) (hjk : j ≤ k) (hk : k ≤ c) (W : World) :
    (Instr.sliceAt t (.slice A n c) (some (.int .i64 (j : Int))) (some (.int .i64 (k : Int))) none).run P W = .ok (sliced A j k c size) W := by
  rw [run_sliceAt_slice W t _ _ _ _ ht, run_slice_lh W t A n c ht .i64 .i64 (j : Int) (k : Int) (by omega) (by omega) (by omega), hs]
  rfl
theorem enNam (args : Array Value) (w : World) : (callFunc 46 args).run Try.prog w = .ok (.enter 46 args) w := by kernel_rfl
set_option maxRecDepth 100000 in
set_option maxHeartbeats 1600000 in
theorem namC_any {W : World} {g : Nat} (s : List UInt8) (n : Int) (f : Fc) (hg : W.cell? ⟨g, 0, none⟩ = some (.string (strOf s))) (hf : FcOK W f) :
    Calls Try.prog 46 #[f.val, .int .i64 n, .pointer (some ⟨g, 0, none⟩)] W fun e w' => e = .returned (.int .i64 (cmpN s n f)) ∧ Below W.heap.size W w' := by
  have hgl := World.block_lt_of_cell? _ _ hg
  have hgl : g < W.heap.size := hgl
  have H1 := hide (fun W => cmpS_any f.name s W)
  have H2 := hide (fun W => cmpI_any (f.ts.length : Int) n W)
  have hbf := hf.bd
  have HV : Hid (cmpN s n f = orL [cmpS f.name s, cmpI (f.ts.length : Int) n]) := hide (cmpN_orL s n f)
  have HG := hide (fun W1 (h : Below W.heap.size W W1) => (h.cell (p := ⟨g, 0, none⟩) hgl).trans hg)
  have HS := hide (((St.init W NoB).alloc #[.string (strOf f.name), .slice f.A f.ts.length f.c, .int .u32 f.o] 27).drew)
  clear hf
  generalize cmpN s n f = res at HV ⊢
  generalize cmpS f.name s = r1 at *
  generalize cmpI (f.ts.length : Int) n = r2 at *
  have H5 := hide (fun W v (h : Rd W v 1 2 (ivs [r1, r2])) => or_any v [r1, r2] W (by simp) h)
  unfold Fc.val Fc.row at *
  go_enter Try.func46, Try.ntmps46
  go_wp2_with fail
  refine wp_region_T [(0, 1), (1, 1), (2, 0), (3, 0), (5, 1), (6, 1), (7, 0), (8, 1), (9, 1), (4, 2), (10, 2), (11, 2), (12, 2), (13, 1)] (by kernel_rfl) (by kernel_rfl) (fun _ _ _ _ h => h) ?_
  generalize hwd : World.drew _ = wd at HS ⊢
  clear hwd
  have g0 := HG.out _ HS.out.below
  have a0 := HS.out.cell 0 rfl 0
  have a1 := HS.out.cell 0 rfl 1
  have a2 := HS.out.cell 0 rfl 2
  have HR : Hid (Rd (wd.alloc (.cells #[.int .i64 r1, .int .i64 r2] 3)) (.slice (some ⟨wd.heap.size, 0, none⟩) 2 2) 1 2 (ivs [r1, r2])) := hide (rd_new wd (ivs [r1, r2]) 3 1 2 rfl (by decide))
  have hb4 : Below wd.heap.size wd (wd.alloc (.cells #[.int .i64 r1, .int .i64 r2] 3)) := (Below.refl _ _).al _
  have HS2 := hide (HS.out.call hb4)
  go_wp2_with (first
    | (go_at_call 28; (with_reducible refine (H1.out _).mono ?_); rintro e w' ⟨rfl, rfl⟩)
    | (go_at_call 29; (with_reducible refine (H2.out _).mono ?_); rintro e w' ⟨rfl, rfl⟩)
    | (go_at_call 27; (with_reducible refine (H5.out _ _ HR.out).mono ?_); rintro e w5 ⟨rfl, rfl⟩)
    | (refine wpT_nil ?_)   | ((with_reducible refine fromT_refl ?_); (try simp only [Act.put, List.setIfInBounds_toArray, List.set_cons_zero, List.set_cons_succ, List.getElem_toArray, List.getElem_cons_succ, List.getElem_cons_zero]))   | ((with_reducible refine fromT_mk (by assumption) ?_); (try simp only [Act.put, List.setIfInBounds_toArray, List.set_cons_zero, List.set_cons_succ, List.getElem_toArray, List.getElem_cons_succ, List.getElem_cons_zero]))   | (refine wpT_pure (v := ?_) rfl rfl ?_ ?_; rotate_left; (intro wx; go_simp; try go_bits) <;> (with_reducible rfl); (try simp only [Act.put, List.setIfInBounds_toArray, List.set_cons_zero, List.set_cons_succ, List.getElem_toArray, List.getElem_cons_succ, List.getElem_cons_zero]))   | (refine wpT_load (v := ?_) rfl rfl rfl ?_ ?_; rotate_left; (go_simp; try go_bits) <;> (with_reducible rfl); (try simp only [Act.put, List.setIfInBounds_toArray, List.set_cons_zero, List.set_cons_succ, List.getElem_toArray, List.getElem_cons_succ, List.getElem_cons_zero]))   | (refine wpT_read (v := ?_) rfl rfl ?_ ?_; rotate_left; (intro wx hx; go_simp; try go_bits) <;> (with_reducible rfl); (try simp only [Act.put, List.setIfInBounds_toArray, List.set_cons_zero, List.set_cons_succ, List.getElem_toArray, List.getElem_cons_succ, List.getElem_cons_zero]))   | (refine wpT_call rfl rfl ?_; intro K hK)   | (refine wpT_late rfl rfl ?_; intro K hK)   | (refine wpT_any rfl rfl ?_; intro K hK)   | (refine wpT_skip rfl rfl ?_; (try simp only [Act.put, List.setIfInBounds_toArray, List.set_cons_zero, List.set_cons_succ, List.getElem_toArray, List.getElem_cons_succ, List.getElem_cons_zero])))
  go_ret
  rw [HV.out]
  exact ⟨rfl, HS2.out.below⟩
set_option maxRecDepth 100000 in
set_option maxHeartbeats 1600000 in
theorem bsN_any (va : Value) (l : List Fc) (g : Nat) (s : List UInt8) (nn : Int) (j : Nat) (w : World) (hv : FcsAt w va l) (hg : w.cell? ⟨g, 0, none⟩ = some (.string (strOf s))) (hn6 : l.length ≤ 1000000) (hp : PartF (cmpN s nn) l j) :
    Calls Try.prog 47 #[va, .int .i64 nn, .func (.func 46) #[] #[.pointer (some ⟨g, 0, none⟩)]] w
      fun e w' => e = .returned (.tuple #[.int .i64 (j : Int), .bool (fndF (cmpN s nn) l j)]) ∧ Below w.heap.size w w' := by
  obtain ⟨A, c, rfl, hr⟩ := Rd.isSlice hv.1
  have HA := hide hr
  have HOK := hide hv.2
  obtain ⟨n, hn⟩ : ∃ n, n = l.length := ⟨_, rfl⟩
  have HN := hide hn
  rw [← hn] at HA hn6 ⊢
  have HP := hide hp
  have hjn : j ≤ n := by rw [hn]; exact hp.le
  have hgl := World.block_lt_of_cell? _ _ hg
  have hgl : g < w.heap.size := hgl
  have HG := hide (fun W1 (h : Below w.heap.size w W1) => (h.cell (p := ⟨g, 0, none⟩) hgl).trans hg)
  have HCL := hide (fun W x (h : Below w.heap.size w W) (hx : FcOK w x) => namC_any s nn x (HG.out W h) (hx.on h))
  clear hv hr hn hp hg
  have hen := enNam
  go_enter Try.func47, Try.ntmps47
  go_wp2_with fail
  go_loopw [9, 10] (fun a b wr => ∃ lo hi : Nat, lo ≤ j ∧ j ≤ hi ∧ hi ≤ n ∧ a = .int .i64 (lo : Int) ∧ b = .int .i64 (hi : Int) ∧ Hid (Below w.heap.size w wr)) (fun a b _ => (intOf b - intOf a).toNat)
  case atStart => exact ⟨0, n, Nat.zero_le _, hjn, Nat.le_refl _, rfl, rfl, hide (Below.refl _ _)⟩
  case round =>
    obtain ⟨lo, hi, h1, h2, h3, rfl, rfl, HS⟩ := hrel
    by_cases hlt : lo < hi
    · have d : decide ((lo : Int) < (hi : Int)) = true := by simp; omega
      have d' : decide (lo < hi) = true := by simp; omega
      obtain ⟨m, hm⟩ : ∃ m, m = (lo + hi) / 2 := ⟨_, rfl⟩
      have em : (((lo : Int) + (hi : Int)) / 2) = (m : Int) := by omega
      have em2 : (((lo + hi : Nat) : Int) / 2) = (m : Int) := by omega
      have m1 : lo ≤ m := by omega
      have m2 : m < hi := by omega
      have mn : (m : Int) < (n : Int) := by omega
      have ml : m < l.length := by have := HN.out; omega
      have hlk : l[m]? = some l[m] := List.getElem?_eq_getElem ml
      obtain ⟨b, o, rfl, hb8, c0, c1, c2⟩ := fc_at (HA.out.below HS.out) hlk
      have HC := hide (HCL.out wr l[m] HS.out (HOK.out l[m] (List.getElem_mem ml)))
      have HLK := hide hlk
      generalize l[m] = x at c0 c1 c2 HC HLK
      obtain ⟨z, hz⟩ : ∃ z, z = cmpN s nn x := ⟨_, rfl⟩
      rw [← hz] at HC
      have HZ := hide hz
      clear hm hz hlk ml
      unfold Fc.val Fc.row at HC
      unfold Fc.row at c1
      by_cases hz : z < 0
      · have dz : decide (z < 0) = true := decide_eq_true hz
        have HJ : Hid (m < j) := hide (by
          refine Nat.lt_of_not_le fun h => HP.out.hi m x HLK.out h ?_
          rw [← HZ.out]
          exact hz)
        clear hz
        go_wp2_with ((with_reducible refine HC.out.mono ?_); rintro e w2 ⟨rfl, hb⟩; have HS2 := hide (HS.out.trans (hb.mono HS.out.size)))
        go_roundw
        case rel => exact ⟨m + 1, hi, by have := HJ.out; omega, h2, h3, by go_num, rfl, HS2⟩
        case measure => (have := HJ.out); (simp [intOf]) <;> omega
      · have dz : decide (z < 0) = false := decide_eq_false hz
        have HJ : Hid (j ≤ m) := hide (by
          refine Nat.le_of_not_lt fun h => hz ?_
          rw [HZ.out]
          exact HP.out.lo m x HLK.out h)
        clear hz
        go_wp2_with ((with_reducible refine HC.out.mono ?_); rintro e w2 ⟨rfl, hb⟩; have HS2 := hide (HS.out.trans (hb.mono HS.out.size)))
        go_roundw
        case rel => exact ⟨lo, m, h1, by have := HJ.out; omega, by omega, rfl, by go_num, HS2⟩
        case measure => (simp [intOf]) <;> omega
    · obtain rfl : lo = j := by omega
      obtain rfl : hi = lo := by omega
      have d : decide ((hi : Int) < (hi : Int)) = false := by simp
      have d' : decide (hi < hi) = false := by simp
      by_cases hln : hi < n
      · have dl : decide ((hi : Int) < (n : Int)) = true := by simp; omega
        have dl' : decide (hi < n) = true := by simp; omega
        have hin : (hi : Int) < (n : Int) := by omega
        have ml : hi < l.length := by have := HN.out; omega
        have hlk : l[hi]? = some l[hi] := List.getElem?_eq_getElem ml
        obtain ⟨b, o, rfl, hb8, c0, c1, c2⟩ := fc_at (HA.out.below HS.out) hlk
        have HC := hide (HCL.out wr l[hi] HS.out (HOK.out l[hi] (List.getElem_mem ml)))
        have HLK := hide hlk
        generalize l[hi] = x at c0 c1 c2 HC HLK
        obtain ⟨z, hz⟩ : ∃ z, z = cmpN s nn x := ⟨_, rfl⟩
        rw [← hz] at HC
        have HZ : Hid (fndF (cmpN s nn) l hi = decide (z = 0)) := hide (by unfold fndF; rw [HLK.out, hz])
        obtain ⟨zb, hzb⟩ : ∃ b, decide (z = 0) = b := ⟨_, rfl⟩
        have qz : (z == 0) = zb := by rw [← hzb, Bool.eq_iff_iff]; simp
        rw [hzb] at HZ
        clear hz hlk ml hzb
        unfold Fc.val Fc.row at HC
        unfold Fc.row at c1
        go_wp2_with ((with_reducible refine HC.out.mono ?_); rintro e w2 ⟨rfl, hb⟩; have HS2 := hide (HS.out.trans (hb.mono HS.out.size)))
        go_ret2
        rw [HZ.out]
        exact ⟨rfl, HS2.out⟩
      · have dl : decide ((hi : Int) < (n : Int)) = false := by simp; omega
        have dl' : decide (hi < n) = false := by simp; omega
        have HZ : Hid (fndF (cmpN s nn) l hi = false) := hide (by unfold fndF; rw [List.getElem?_eq_none (by have := HN.out; omega)])
        go_wp2_with fail
        go_ret2
        rw [HZ.out]
        exact ⟨rfl, HS.out⟩
set_option maxRecDepth 100000 in
set_option maxHeartbeats 1600000 in
theorem named18_any (p : Nat) (S : List Fc) (s : List UInt8) (nn : Int) (w : World) (hst : Sto w p S) (h6 : S.length ≤ 1000000) :
    Calls Try.prog 23 #[.pointer (some ⟨p, 0, none⟩), .string (strOf s), .int .i64 nn] w fun e w' => ∃ B l', e = .returned (.slice B l'.length l'.length) ∧ l'.map shF = (namF s nn S).map shF ∧ FcsAt w' (.slice B l'.length l'.length) l' ∧ Below w.heap.size w w' := by
  obtain ⟨A, c, hp, hv, hris, hmay⟩ := hst
  have hnil := fun W => nilS p W
  have hpl := World.block_lt_of_cell? _ _ hp
  have hpl : p < w.heap.size := hpl
  have HPC := hide (fun W1 (h : Below w.heap.size w W1) => (h.cell (p := ⟨p, 0, none⟩) hpl).trans hp)
  have HA := hide hv.1
  have HOK := hide hv.2
  have hcap := rd_nilcap hv.1
  obtain ⟨j, hj⟩ : ∃ j, j = plc (cmpN s nn) S := ⟨_, rfl⟩
  have HPT := hide (part_n hris s nn)
  have HMD := hide (nam_mid hris s nn)
  have HSM := hide (fun x hx => ok_sm (hmay x hx))
  rw [← hj] at HPT HMD
  obtain ⟨n, hn⟩ : ∃ n, n = S.length := ⟨_, rfl⟩
  have hjn : j ≤ n := by rw [hn]; exact HPT.out.le
  have HN := hide hn
  have HS0 := hide ((St.init w NoB).alloc #[.string (strOf s)] 9)
  have HBS := hide (fun W (h : Below w.heap.size w W) (hg : W.cell? ⟨w.heap.size, 0, none⟩ = some (.string (strOf s))) => bsN_any (.slice A S.length c) S w.heap.size s nn j W (hv.on h) hg h6 HPT.out)
  have HCL := hide (fun W x (h : Below w.heap.size w W) (hg : W.cell? ⟨w.heap.size, 0, none⟩ = some (.string (strOf s))) (hx : FcOK w x) => namC_any s nn x hg (hx.on h))
  rw [← hn] at HA HBS HPC h6 hcap
  clear hp hv hris hmay hj hn
  have hen := enNam
  have p0 := HPC.out _ HS0.out.below
  go_enter Try.func23, Try.ntmps23
  go_wp2_with (go_at_call 47; (with_reducible refine (HBS.out _ HS0.out.below (HS0.out.cell 0 rfl 0)).mono ?_); rintro e w2 ⟨rfl, hb⟩; have HS2 := hide (HS0.out.call hb))
  clear p0
  go_loopw [10] (fun i wr => ∃ t : Nat, j ≤ t ∧ t ≤ n ∧ i = .int .i64 (t : Int) ∧ Hid (∀ i x, S[i]? = some x → j ≤ i → i < t → cmpN s nn x = 0) ∧ Hid (St w NoB wr [.cells w.heap.size #[.string (strOf s)] 9])) (fun i _ => (n - intOf i).toNat)
  case atStart => exact ⟨j, Nat.le_refl _, hjn, rfl, hide (fun i x _ h1 h2 => by omega), HS2⟩
  case round =>
    clear HS0 HS2
    obtain ⟨t, hjt, htn, rfl, HX, HS⟩ := hrel
    have p0 := HPC.out _ HS.out.below
    by_cases hlt : t < n
    · have hd : decide ((t : Int) < (n : Int)) = true := by simp; omega
      have hd' : decide (t < n) = true := by simp; omega
      have tn : (t : Int) < (n : Int) := by omega
      have tl : t < S.length := by have := HN.out; omega
      have hlk : S[t]? = some S[t] := List.getElem?_eq_getElem tl
      obtain ⟨b, o, rfl, hb8, c0, c1, c2⟩ := fc_at (HA.out.st HS.out) hlk
      have HC := hide (HCL.out wr S[t] HS.out.below (HS.out.cell 0 rfl 0) (HOK.out S[t] (List.getElem_mem tl)))
      have HLK := hide hlk
      generalize S[t] = x at c0 c1 c2 HC HLK
      obtain ⟨z, hz⟩ : ∃ z, z = cmpN s nn x := ⟨_, rfl⟩
      rw [← hz] at HC
      have HZ := hide hz
      have HL := hide hlt
      clear hz hlk tl hlt
      unfold Fc.val Fc.row at HC
      unfold Fc.row at c1
      by_cases hz : z = 0
      · have qz : (z == 0) = true := by rw [hz]; rfl
        have HX2 : Hid (∀ i x, S[i]? = some x → j ≤ i → i < t + 1 → cmpN s nn x = 0) := hide (fun i y hy h1 h2 => by
          by_cases e : i = t
          · rw [e, HLK.out] at hy
            injection hy with hy
            rw [← hy, ← HZ.out]
            exact hz
          · exact HX.out i y hy h1 (by omega))
        clear hz
        go_wp2_with ((with_reducible refine HC.out.mono ?_); rintro e w2 ⟨rfl, hb⟩; have HS2 := hide (HS.out.call hb))
        go_roundw
        case rel => exact ⟨t + 1, by omega, by have := HL.out; omega, by go_num, HX2, HS2⟩
        case measure => (have := HL.out); (simp [intOf]) <;> omega
      · have qz : (z == 0) = false := by simp [hz]
        have HM := hide (HMD.out t hjt HX.out (fun y hy => by
          rw [HLK.out] at hy
          injection hy with hy
          rw [← hy, ← HZ.out]
          exact hz))
        clear hz
        obtain ⟨r, hr⟩ : ∃ r, r = (S.drop j).take (t - j) := ⟨_, rfl⟩
        have hrl : r.length = t - j := by rw [hr, List.length_take, List.length_drop]; have := HN.out; omega
        have HRD := hide (fun W (h : Below w.heap.size w W) => (show Rd W (sliced (some ⟨b, o, none⟩) j t c 3) 3 r.length (fcCells r) by
          have h1 := rd_dropG (rd_takeG (HA.out.below h) t htn) j hjt (by decide)
          rw [hrl, hr, fcCells_take, fcCells_drop]
          rw [List.drop_take, ← Nat.sub_mul] at h1
          exact h1))
        obtain ⟨sv, hsv⟩ : ∃ v, v = sliced (some ⟨b, o, none⟩) j t c 3 := ⟨_, rfl⟩
        have sl := fun W => run_midG (t := 29) (P := Try.prog) Try.underlying29 szFc (some ⟨b, o, none⟩) n c j t hjt (by have := hcap.1; omega) W
        rw [← hsv] at HRD sl
        have HAL := hide (fun W (h : Below w.heap.size w W) => all_any sv r W ⟨HRD.out W h, fun x hx => (HOK.out x (List.mem_of_mem_drop (List.mem_of_mem_take (by rw [hr] at hx; exact hx)))).on h⟩ (by omega) (fun x hx => HSM.out x (List.mem_of_mem_drop (List.mem_of_mem_take (by rw [hr] at hx; exact hx)))))
        rw [← hr] at HM
        clear hr hrl hsv HRD
        go_wp2_with (first
          | ((with_reducible refine HC.out.mono ?_); rintro e w2 ⟨rfl, hb⟩; have HS2 := hide (HS.out.call hb); have p2 := HPC.out _ HS2.out.below)
          | (go_at_call 33; (with_reducible refine (HAL.out _ HS2.out.below).mono ?_); rintro e w3 ⟨B, l', rfl, hsh, hv, hb⟩; have HB := hide (HS2.out.below.trans (hb.mono HS2.out.below.size)); have HSH := hide hsh; have HVV := hide hv; clear hsh hv hb))
        go_ret
        exact ⟨B, l', rfl, by rw [HSH.out, HM.out], HVV.out, HB.out⟩
    · obtain rfl : t = n := by omega
      have hd : decide ((t : Int) < (t : Int)) = false := by simp
      have hd' : decide (t < t) = false := by simp
      have HM := hide (HMD.out t hjt HX.out (fun y hy => by
          rw [List.getElem?_eq_none (by have := HN.out; omega)] at hy
          cases hy))
      obtain ⟨r, hr⟩ : ∃ r, r = (S.drop j).take (t - j) := ⟨_, rfl⟩
      have hrl : r.length = t - j := by rw [hr, List.length_take, List.length_drop]; have := HN.out; omega
      have HRD := hide (fun W (h : Below w.heap.size w W) => (show Rd W (sliced (A) j t c 3) 3 r.length (fcCells r) by
        have h1 := rd_dropG (rd_takeG (HA.out.below h) t htn) j hjt (by decide)
        rw [hrl, hr, fcCells_take, fcCells_drop]
        rw [List.drop_take, ← Nat.sub_mul] at h1
        exact h1))
      obtain ⟨sv, hsv⟩ : ∃ v, v = sliced (A) j t c 3 := ⟨_, rfl⟩
      have sl := fun W => run_midG (t := 29) (P := Try.prog) Try.underlying29 szFc (A) t c j t hjt (by have := hcap.1; omega) W
      rw [← hsv] at HRD sl
      have HAL := hide (fun W (h : Below w.heap.size w W) => all_any sv r W ⟨HRD.out W h, fun x hx => (HOK.out x (List.mem_of_mem_drop (List.mem_of_mem_take (by rw [hr] at hx; exact hx)))).on h⟩ (by omega) (fun x hx => HSM.out x (List.mem_of_mem_drop (List.mem_of_mem_take (by rw [hr] at hx; exact hx)))))
      rw [← hr] at HM
      clear hr hrl hsv HRD
      go_wp2_with (first
        | (go_at_call 33; (with_reducible refine (HAL.out _ HS.out.below).mono ?_); rintro e w3 ⟨B, l', rfl, hsh, hv, hb⟩; have HB := hide (HS.out.below.trans (hb.mono HS.out.below.size)); have HSH := hide hsh; have HVV := hide hv; clear hsh hv hb))
      go_ret
      exact ⟨B, l', rfl, by rw [HSH.out, HM.out], HVV.out, HB.out⟩
end Go.Proofs.Ythpioncehigoaaa
