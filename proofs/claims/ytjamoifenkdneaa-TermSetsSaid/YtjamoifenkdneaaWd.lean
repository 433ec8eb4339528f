/-
  Layer 7: the page's Set, walked.
-/
import Derived.Test.YtjamoifenkdneaaVa
import Derived.Test.YtjamoifenkdneaaRs
import Derived.Test.YtjamoifenkdneaaTz
namespace Go.Proofs.Ytjamoifenkdneaa
open Go.RowKit
set_option linter.unusedSimpArgs false

theorem szTm4 (W : World) : (sizeOf (Try.prog.elem 22)).run Try.prog W = .ok 4 W := by kernel_rfl
theorem tmCells_take (l : List Tm) (k : Nat) : (tmCells l).take (k * 4) = tmCells (l.take k) := by
  induction k generalizing l with
  | zero => simp [tmCells]
  | succ k ih =>
    cases l with
    | nil => simp [tmCells]
    | cons x l =>
      rw [List.take_succ_cons, Nat.succ_mul]
      show (x.cells ++ tmCells l).take (k * 4 + 4) = x.cells ++ tmCells (l.take k)
      rw [← ih l, List.take_append, List.take_of_length_le (by rw [Tm.cells_length]; omega), Tm.cells_length, Nat.add_sub_cancel]
theorem tmCells_drop (l : List Tm) (k : Nat) : (tmCells l).drop (k * 4) = tmCells (l.drop k) := by
  induction k generalizing l with
  | zero => simp
  | succ k ih =>
    cases l with
    | nil => simp [tmCells]
    | cons x l =>
      rw [List.drop_succ_cons, Nat.succ_mul]
      show (x.cells ++ tmCells l).drop (k * 4 + 4) = tmCells (l.drop k)
      rw [← ih l, List.drop_append, List.drop_of_length_le (by rw [Tm.cells_length]; omega), Tm.cells_length, Nat.add_sub_cancel, List.nil_append]
theorem rd_takeT {w : World} {A : Option Addr} {n c : Nat} {l : List Tm} (h : Rd w (.slice A n c) 4 n (tmCells l)) (k : Nat) (hk : k ≤ n) : Rd w (.slice A k c) 4 k (tmCells (l.take k)) := by
  rw [← tmCells_take]
  exact rd_takeG h k hk
theorem rd_dropT {w : World} {A : Option Addr} {n c : Nat} {l : List Tm} (h : Rd w (.slice A n c) 4 n (tmCells l)) (k : Nat) (hk : k ≤ n) : Rd w (sliced A k n c 4) 4 (n - k) (tmCells (l.drop k)) := by
  rw [← tmCells_drop]
  exact rd_dropG h k hk (by decide)
theorem rd_nilcap {w : World} {A : Option Addr} {n c size : Nat} {xs : List Value} (h : Rd w (.slice A n c) size n xs) : n ≤ c ∧ (A = none → c = 0) := by
  obtain ⟨A', c', e, _, h2, _, h4, _⟩ := h
  injection e with e1 _ e3
  subst e1 e3
  exact ⟨h2, h4⟩
/-- Whether a row of terms is refused. -/
noncomputable def badL (l : List Tm) : Bool := match l with
  | [] => false
  | y :: r => (y :: r).any (badT y.k)
theorem badL_of {l : List Tm} {y : Tm} (h : l[0]? = some y) : badL l = l.any (badT y.k) := by
  cases l with
  | nil => simp at h
  | cons a r => simp only [List.getElem?_cons_zero, Option.some.injEq] at h; subst h; rfl
/-- A set of these terms has come back. -/
def SetRp (w : World) (r : List Tm) (e : Ending) (w' : World) : Prop := ∃ B d, e = .returned (.tuple #[.agg #[.int .i64 7, .int .i64 0, .string ⟨#[]⟩, .slice B r.length d], .int .i64 0]) ∧ Below w.heap.size w w' ∧ TmsAt w' (.slice B r.length d) r
/-- Refused. -/
def SetE (w : World) (e : Ending) (w' : World) : Prop := e = .returned (.tuple #[.agg #[.int .i64 0, .int .i64 0, .string ⟨#[]⟩, .slice none 0 0], .int .i64 1]) ∧ Below w.heap.size w w'
set_option maxRecDepth 100000 in
set_option maxHeartbeats 800000 in
theorem setR_long {w : World} (v : Value) (l : List Tm) (hv : TmsAt w v l) (hm : l.length ≤ 140737488351232) (h16 : 16 < l.length) :
    Calls Try.prog 25 #[v] w fun e w' => SetE w e w' := by
  obtain ⟨A, c, rfl, hr⟩ := Rd.isSlice hv.1
  obtain ⟨n, hn⟩ : ∃ n, n = l.length := ⟨_, rfl⟩
  rw [← hn] at hm h16 ⊢
  have hS0 := (St.init w NoB).alloc #[.int .i64 0, .int .i64 0, .string ⟨#[]⟩, .slice none 0 0] 24
  have HS0 := hide hS0
  have d : decide (16 < (n : Int)) = true := by simp; omega
  have d' : decide (16 < n) = true := by simp; omega
  clear hv hr hS0 hn
  go_enter Try.func25, Try.ntmps25
  go_wp2_with fail
  refine bodyPost_ret (results_cell_tmp_row rfl _ _ w.heap.size _ #[.int .i64 0, .int .i64 0, .string ⟨#[]⟩, .slice none 0 0] _ _ rfl (HS0.out.heap 0 rfl) Try.underlying24 rfl (by kernel_rfl)) rfl ?_
  exact ⟨rfl, HS0.out.below⟩
theorem foldl_take {α β : Type} (f : β → α → β) (b : β) (l : List α) (k : Nat) (x : α) (h : l[k]? = some x) : (l.take (k + 1)).foldl f b = f ((l.take k).foldl f b) x := by
  rw [List.take_add_one, h, List.foldl_append]
  rfl
theorem insL_len (l : List Tm) (x : Tm) : (insL l x).length ≤ l.length + 1 := by
  induction l with
  | nil => simp [insL]
  | cons y r ih =>
    rw [insL]
    split
    · simp only [List.length_cons]; omega
    · split <;> simp only [List.length_cons] <;> omega

set_option maxRecDepth 100000 in
set_option maxHeartbeats 8000000 in
theorem setR_any {w : World} (v : Value) (l : List Tm) (hv : TmsAt w v l) (h16 : l.length ≤ 16) :
    Calls Try.prog 25 #[v] w fun e w' => (badL l = true ∧ SetE w e w') ∨ (badL l = false ∧ SetRp w (insA l) e w') := by
  obtain ⟨A, c, rfl, hr⟩ := Rd.isSlice hv.1
  have HOK := hide hv.2
  have HA := hide hr
  obtain ⟨n, hn⟩ : ∃ n, n = l.length := ⟨_, rfl⟩
  rw [← hn] at HA h16 ⊢
  have HN := hide hn
  have hS0 := (St.init w NoB).alloc #[.int .i64 0, .int .i64 0, .string ⟨#[]⟩, .slice none 0 0] 24
  have HS0 := hide hS0
  have d16 : decide (16 < (n : Int)) = false := by simp; omega
  have d16' : decide (16 < n) = false := by simp; omega
  clear hv hr hS0 hn
  go_enter Try.func25, Try.ntmps25
  go_wp2_with fail
  go_loopw [15] (fun i wr => ∃ (k : Nat) (B : Option Addr) (d : Nat) (out : List Tm), k ≤ n ∧ i = .int .i64 (k : Int) ∧ Hid (out = (l.take k).foldl insL [] ∧ out.length ≤ k ∧ (∀ x ∈ out, x ∈ l) ∧ ∀ y, l[0]? = some y → ∀ x ∈ l.take k, badT y.k x = false) ∧
    Hid (St w NoB wr [.cells (w.heap.size + 1) #[.int .i64 7, .int .i64 0, .string ⟨#[]⟩, .slice B out.length d] 24, .row (.slice B out.length d) 24 4 out.length (tmCells out), .cells w.heap.size #[.int .i64 0, .int .i64 0, .string ⟨#[]⟩, .slice none 0 0] 24]))  (fun i _ => (n - intOf i).toNat)
  case atStart => exact ⟨0, none, 0, [], by omega, rfl, hide ⟨rfl, by simp, (fun x hx => by cases hx), fun y _ x hx => by simp at hx⟩,
    hide (by have h := (HS0.out.row (Below.refl _ _) (World.ownsRow_nil _ _ 24 4)).alloc #[.int .i64 7, .int .i64 0, .string ⟨#[]⟩, .slice none 0 0] 24; rw [size_alloc1] at h; exact h)⟩
  case round =>
    obtain ⟨k, B, d, out, hk, rfl, HX, HS⟩ := hrel
    clear HS0
    by_cases hlt : k < n
    · have hd : decide ((k : Int) < (n : Int)) = true := by simp; omega
      have hkl : k < l.length := by have := HN.out; omega
      have h0l : 0 < l.length := by omega
      have HXK := hide (show l[k]? = some l[k] from List.getElem?_eq_getElem hkl)
      have HY0 := hide (show l[0]? = some l[0] from List.getElem?_eq_getElem h0l)
      obtain ⟨b, o, rfl, hb8, hc⟩ := tm_at HA.out HXK.out
      obtain ⟨c0, c1, c2, c3⟩ := hc _ HS.out.below
      obtain ⟨b', o', e', _, hc'⟩ := tm_at HA.out HY0.out
      injection e' with e'
      injection e' with e1' e2'
      subst e1' e2'
      have HOX := hide (HOK.out l[k] (List.getElem_mem hkl))
      generalize l[k] = x at c0 c1 c2 c3 HXK HOX
      generalize l[0] = y at hc' HY0
      have HY : Hid (∀ w', Below w.heap.size w w' → w'.cell? ⟨b, o, none⟩ = some (.int .i64 y.k)) := hide (fun w' hw => by have := (hc' w' hw).1; rw [Nat.zero_mul, Nat.add_zero] at this; exact this)
      clear hc hc' hkl h0l
      have HFX := hide (fun W (hW : Below w.heap.size w W) => fixedR_any HOX.out W hW)
      have HL := hide hlt
      have kn : (k : Int) < (n : Int) := by omega
      have kn' : k < n := hlt
      have n0 : (0 : Int) < (n : Int) := by omega
      have n0' : 0 < n := by omega
      have hbr : b < wr.heap.size := by have := HS.out.below.size; omega
      have HS1 := hide (HS.out.alloc #[.int .i64 x.k, .int .i64 x.n, .string (strOf x.s), .slice x.A x.l.length x.c] 24).drew
      have HBL := hide (badL_of HY0.out)
      obtain ⟨b7, h7⟩ : ∃ bb, decide (x.k = 7) = bb := ⟨_, rfl⟩
      obtain ⟨bn, hne⟩ : ∃ bb, decide (x.k ≠ y.k) = bb := ⟨_, rfl⟩
      have q7 : (x.k == 7) = b7 := by rw [← h7, Bool.eq_iff_iff]; simp
      have qn : (x.k != y.k) = bn := by rw [← hne, Bool.eq_iff_iff]; simp
      have HV : Hid (badT y.k x = (!fixT x || (b7 || bn))) := hide (by unfold badT; rw [h7, hne])
      obtain ⟨f, hf⟩ : ∃ f, f = fixT x := ⟨_, rfl⟩
      rw [← hf] at HV HFX
      have HFC := hide hf
      clear h7 hne hf
      unfold Tm.val Tm.row at *
      by_cases hg : (!f || (b7 || bn)) = true
      · have HBAD : Hid (badL l = true) := hide (by rw [HBL.out, List.any_eq_true]; exact ⟨x, List.mem_of_getElem? HXK.out, by rw [HV.out, hg]⟩)
        cases f <;> cases b7 <;> cases bn
        case true.false.false => exact absurd hg (by decide)
        all_goals
          clear hg
          go_wp2_with fail
          refine wp_region_T [(0, 0), (1, 2), (2, 1), (3, 1), (4, 1), (5, 0), (6, 1), (7, 1), (8, 1), (9, 1), (10, 0), (11, 1), (12, 1), (13, 1), (14, 0), (15, 1), (16, 1)] (by kernel_rfl) (by kernel_rfl) (fun _ _ _ _ h => h) ?_
          go_wp2_with (first
            | (refine wpT_nil ?_)   | ((with_reducible refine fromT_refl ?_); (try simp only [Act.put, List.setIfInBounds_toArray, List.set_cons_zero, List.set_cons_succ, List.getElem_toArray, List.getElem_cons_succ, List.getElem_cons_zero]))   | ((with_reducible refine fromT_mk (by assumption) ?_); (try simp only [Act.put, List.setIfInBounds_toArray, List.set_cons_zero, List.set_cons_succ, List.getElem_toArray, List.getElem_cons_succ, List.getElem_cons_zero]))   | (refine wpT_pure (v := ?_) rfl rfl ?_ ?_; rotate_left; (intro wx; go_simp; try go_bits) <;> (with_reducible rfl); (try simp only [Act.put, List.setIfInBounds_toArray, List.set_cons_zero, List.set_cons_succ, List.getElem_toArray, List.getElem_cons_succ, List.getElem_cons_zero]))   | (refine wpT_load (v := ?_) rfl rfl rfl ?_ ?_; rotate_left; (go_simp; try go_bits) <;> (with_reducible rfl); (try simp only [Act.put, List.setIfInBounds_toArray, List.set_cons_zero, List.set_cons_succ, List.getElem_toArray, List.getElem_cons_succ, List.getElem_cons_zero]))   | (refine wpT_read (v := ?_) rfl rfl ?_ ?_; rotate_left; (intro wx hx; go_simp; try go_bits) <;> (with_reducible rfl); (try simp only [Act.put, List.setIfInBounds_toArray, List.set_cons_zero, List.set_cons_succ, List.getElem_toArray, List.getElem_cons_succ, List.getElem_cons_zero]))   | (refine wpT_call rfl rfl ?_; intro K hK)   | (refine wpT_late rfl rfl ?_; intro K hK)   | (refine wpT_any rfl rfl ?_; intro K hK)   | (refine wpT_skip rfl rfl ?_; (try simp only [Act.put, List.setIfInBounds_toArray, List.set_cons_zero, List.set_cons_succ, List.getElem_toArray, List.getElem_cons_succ, List.getElem_cons_zero]))
            | (go_at_call 19; (with_reducible refine (HFX.out _ HS1.out.below).mono ?_); rintro e w2 ⟨rfl, hb⟩; have HS2 := hide (HS1.out.call hb); have y0 := HY.out _ HS2.out.below; have x0 := HS2.out.cell 0 rfl 0; have r0 := HS2.out.cell 3 rfl 0; have r1 := HS2.out.cell 3 rfl 1; have r2 := HS2.out.cell 3 rfl 2; have r3 := HS2.out.cell 3 rfl 3; have fr0 := HS2.out.free 3 rfl 0; have fr1 := HS2.out.free 3 rfl 1; have fr2 := HS2.out.free 3 rfl 2; have fr3 := HS2.out.free 3 rfl 3))
          have HS3 := hide ((((HS2.out.setCell 3 rfl 0 (.int .i64 0)).setCell 3 rfl 1 (.int .i64 0)).setCell 3 rfl 2 (.string ⟨#[]⟩)).setCell 3 rfl 3 (.slice none 0 0))
          refine bodyPost_ret (results_cell_tmp_row rfl _ _ w.heap.size _ #[.int .i64 0, .int .i64 0, .string ⟨#[]⟩, .slice none 0 0] _ _ rfl (HS3.out.heap 3 rfl) Try.underlying24 rfl (by kernel_rfl)) rfl ?_
          exact .inl ⟨HBAD.out, rfl, HS3.out.below⟩
      · have HG : Hid (badT y.k x = false) := hide (by rw [HV.out]; exact Bool.eq_false_iff.2 hg)
        cases f <;> cases b7 <;> cases bn
        case true.false.false =>
          clear hg
          obtain ⟨xa, hxa⟩ : ∃ g, g = wr.heap.size := ⟨_, rfl⟩
          obtain ⟨m, hm⟩ : ∃ m, m = out.length := ⟨_, rfl⟩
          rw [← hm] at HS1 HS
          have HM := hide hm
          have hm16 : m ≤ 16 := by have := HX.out.2.1; omega
          clear hm
          go_wp2_with fail
          refine wp_region_T [(0, 0), (1, 2), (2, 1), (3, 1), (4, 1), (5, 0), (6, 1), (7, 1), (8, 1), (9, 1), (10, 0), (11, 1), (12, 1), (13, 1), (14, 0), (15, 1), (16, 1)] (by kernel_rfl) (by kernel_rfl) (fun _ _ _ _ h => h) ?_
          go_wp2_with (first
            | (refine wpT_nil ?_)   | ((with_reducible refine fromT_refl ?_); (try simp only [Act.put, List.setIfInBounds_toArray, List.set_cons_zero, List.set_cons_succ, List.getElem_toArray, List.getElem_cons_succ, List.getElem_cons_zero]))   | ((with_reducible refine fromT_mk (by assumption) ?_); (try simp only [Act.put, List.setIfInBounds_toArray, List.set_cons_zero, List.set_cons_succ, List.getElem_toArray, List.getElem_cons_succ, List.getElem_cons_zero]))   | (refine wpT_pure (v := ?_) rfl rfl ?_ ?_; rotate_left; (intro wx; go_simp; try go_bits) <;> (with_reducible rfl); (try simp only [Act.put, List.setIfInBounds_toArray, List.set_cons_zero, List.set_cons_succ, List.getElem_toArray, List.getElem_cons_succ, List.getElem_cons_zero]))   | (refine wpT_load (v := ?_) rfl rfl rfl ?_ ?_; rotate_left; (go_simp; try go_bits) <;> (with_reducible rfl); (try simp only [Act.put, List.setIfInBounds_toArray, List.set_cons_zero, List.set_cons_succ, List.getElem_toArray, List.getElem_cons_succ, List.getElem_cons_zero]))   | (refine wpT_read (v := ?_) rfl rfl ?_ ?_; rotate_left; (intro wx hx; go_simp; try go_bits) <;> (with_reducible rfl); (try simp only [Act.put, List.setIfInBounds_toArray, List.set_cons_zero, List.set_cons_succ, List.getElem_toArray, List.getElem_cons_succ, List.getElem_cons_zero]))   | (refine wpT_call rfl rfl ?_; intro K hK)   | (refine wpT_late rfl rfl ?_; intro K hK)   | (refine wpT_any rfl rfl ?_; intro K hK)   | (refine wpT_skip rfl rfl ?_; (try simp only [Act.put, List.setIfInBounds_toArray, List.set_cons_zero, List.set_cons_succ, List.getElem_toArray, List.getElem_cons_succ, List.getElem_cons_zero]))
            | (go_at_call 19; (with_reducible refine (HFX.out _ HS1.out.below).mono ?_); rintro e w2 ⟨rfl, hb⟩; have HS2 := hide (HS1.out.call hb); have y0 := HY.out _ HS2.out.below; have x0 := HS2.out.cell 0 rfl 0))
          clear HS1
          rw [← hxa] at HS2 ⊢
          have HXA := hide hxa
          clear hxa
          go_loopw [7] (fun s wr2 => ∃ j : Nat, j ≤ m ∧ s = .int .i64 (j : Int) ∧ Hid (∀ i, i < j → ∃ z, out[i]? = some z ∧ cmpA z x < 0) ∧ Hid (St w NoB wr2 [.cells xa #[.int .i64 x.k, .int .i64 x.n, .string (strOf x.s), .slice x.A x.l.length x.c] 24, .cells (w.heap.size + 1) #[.int .i64 7, .int .i64 0, .string ⟨#[]⟩, .slice B m d] 24, .row (.slice B m d) 24 4 m (tmCells out), .cells w.heap.size #[.int .i64 0, .int .i64 0, .string ⟨#[]⟩, .slice none 0 0] 24])) (fun s _ => (m - intOf s).toNat)
          case atStart => exact ⟨0, by omega, rfl, hide (fun i h => absurd h (Nat.not_lt_zero _)), HS2⟩
          case round =>
            clear HS2 x0 y0
            obtain ⟨j, hj, rfl, HJ, HSj⟩ := hrel
            have HSd := hide HSj.out.drew
            have q3 := HSd.out.cell 1 rfl 3
            have x0 := HSd.out.cell 0 rfl 0
            have x1 := HSd.out.cell 0 rfl 1
            have x2 := HSd.out.cell 0 rfl 2
            have x3 := HSd.out.cell 0 rfl 3
            by_cases hjm : j < m
            · have dj : decide ((j : Int) < (m : Int)) = true := by simp; omega
              have dj' : decide (j < m) = true := by simp; omega
              have jm : (j : Int) < (m : Int) := by omega
              have hjl : j < out.length := by have := HM.out; omega
              have HZ := hide (show out[j]? = some out[j] from List.getElem?_eq_getElem hjl)
              have HZM := hide (HX.out.2.2.1 _ (List.getElem_mem hjl))
              obtain ⟨b2, o2, rfl, hb2, hcz⟩ := tm_at (HSd.out.rd 2 rfl) HZ.out
              obtain ⟨z0, z1, z2, z3⟩ := hcz _ (Below.refl _ _)
              generalize out[j] = z at z0 z1 z2 z3 HZ HZM hcz
              have HCZ := hide hcz
              have HOZ := hide (HOK.out z HZM.out)
              have HCM := hide (compareR_any z x _ (HOZ.out.on HSd.out.below) (HOX.out.on HSd.out.below))
              have HSM := hide (fun W (hW : Below w.heap.size w W) => sameR_any z x W (HOZ.out.on hW) (HOX.out.on hW))
              have HSE : Hid (samT z x = decide (cmpA z x = 0)) := hide rfl
              obtain ⟨q, hq⟩ : ∃ q, q = cmpA z x := ⟨_, rfl⟩
              rw [← hq] at HCM HSE
              have HQ := hide hq
              clear hq hcz hjl
              unfold Tm.row at z3
              unfold Tm.val Tm.row at HCM HSM
              by_cases hq0 : q < 0 <;> have HQ0 := hide hq0
              · have dq : decide (q < 0) = true := decide_eq_true hq0
                go_wp2_with fail
                refine wp_region_T [(0, 1), (1, 1), (2, 0), (3, 1), (4, 1), (5, 1), (6, 1), (7, 0), (8, 1), (9, 1), (10, 0), (11, 0), (12, 2), (13, 1), (14, 1)] (by kernel_rfl) (by kernel_rfl) (fun _ _ _ _ h => h) ?_
                go_wp2_with (first
                  | (refine wpT_nil ?_)   | ((with_reducible refine fromT_refl ?_); (try simp only [Act.put, List.setIfInBounds_toArray, List.set_cons_zero, List.set_cons_succ, List.getElem_toArray, List.getElem_cons_succ, List.getElem_cons_zero]))   | ((with_reducible refine fromT_mk (by assumption) ?_); (try simp only [Act.put, List.setIfInBounds_toArray, List.set_cons_zero, List.set_cons_succ, List.getElem_toArray, List.getElem_cons_succ, List.getElem_cons_zero]))   | (refine wpT_pure (v := ?_) rfl rfl ?_ ?_; rotate_left; (intro wx; go_simp; try go_bits) <;> (with_reducible rfl); (try simp only [Act.put, List.setIfInBounds_toArray, List.set_cons_zero, List.set_cons_succ, List.getElem_toArray, List.getElem_cons_succ, List.getElem_cons_zero]))   | (refine wpT_load (v := ?_) rfl rfl rfl ?_ ?_; rotate_left; (go_simp; try go_bits) <;> (with_reducible rfl); (try simp only [Act.put, List.setIfInBounds_toArray, List.set_cons_zero, List.set_cons_succ, List.getElem_toArray, List.getElem_cons_succ, List.getElem_cons_zero]))   | (refine wpT_read (v := ?_) rfl rfl ?_ ?_; rotate_left; (intro wx hx; go_simp; try go_bits) <;> (with_reducible rfl); (try simp only [Act.put, List.setIfInBounds_toArray, List.set_cons_zero, List.set_cons_succ, List.getElem_toArray, List.getElem_cons_succ, List.getElem_cons_zero]))   | (refine wpT_call rfl rfl ?_; intro K hK)   | (refine wpT_late rfl rfl ?_; intro K hK)   | (refine wpT_any rfl rfl ?_; intro K hK)   | (refine wpT_skip rfl rfl ?_; (try simp only [Act.put, List.setIfInBounds_toArray, List.set_cons_zero, List.set_cons_succ, List.getElem_toArray, List.getElem_cons_succ, List.getElem_cons_zero]))
                  | (go_at_call 16; (with_reducible refine HCM.out.mono ?_); rintro e w4 ⟨rfl, hb⟩; have HS4 := hide (HSd.out.call hb)))
                go_roundw
                case rel => exact ⟨j + 1, by omega, by go_num, hide (fun i hi => by
                    by_cases e : i = j
                    · rw [e]; exact ⟨z, HZ.out, by rw [← HQ.out]; exact HQ0.out⟩
                    · exact HJ.out i (by omega)), HS4⟩
                case measure => (simp [intOf]) <;> omega
              · have dq : decide (q < 0) = false := decide_eq_false hq0
                go_wp2_with fail
                refine wp_region_T [(0, 1), (1, 1), (2, 0), (3, 1), (4, 1), (5, 1), (6, 1), (7, 0), (8, 1), (9, 1), (10, 0), (11, 0), (12, 2), (13, 1), (14, 1)] (by kernel_rfl) (by kernel_rfl) (fun _ _ _ _ h => h) ?_
                go_wp2_with (first
                  | (refine wpT_nil ?_)   | ((with_reducible refine fromT_refl ?_); (try simp only [Act.put, List.setIfInBounds_toArray, List.set_cons_zero, List.set_cons_succ, List.getElem_toArray, List.getElem_cons_succ, List.getElem_cons_zero]))   | ((with_reducible refine fromT_mk (by assumption) ?_); (try simp only [Act.put, List.setIfInBounds_toArray, List.set_cons_zero, List.set_cons_succ, List.getElem_toArray, List.getElem_cons_succ, List.getElem_cons_zero]))   | (refine wpT_pure (v := ?_) rfl rfl ?_ ?_; rotate_left; (intro wx; go_simp; try go_bits) <;> (with_reducible rfl); (try simp only [Act.put, List.setIfInBounds_toArray, List.set_cons_zero, List.set_cons_succ, List.getElem_toArray, List.getElem_cons_succ, List.getElem_cons_zero]))   | (refine wpT_load (v := ?_) rfl rfl rfl ?_ ?_; rotate_left; (go_simp; try go_bits) <;> (with_reducible rfl); (try simp only [Act.put, List.setIfInBounds_toArray, List.set_cons_zero, List.set_cons_succ, List.getElem_toArray, List.getElem_cons_succ, List.getElem_cons_zero]))   | (refine wpT_read (v := ?_) rfl rfl ?_ ?_; rotate_left; (intro wx hx; go_simp; try go_bits) <;> (with_reducible rfl); (try simp only [Act.put, List.setIfInBounds_toArray, List.set_cons_zero, List.set_cons_succ, List.getElem_toArray, List.getElem_cons_succ, List.getElem_cons_zero]))   | (refine wpT_call rfl rfl ?_; intro K hK)   | (refine wpT_late rfl rfl ?_; intro K hK)   | (refine wpT_any rfl rfl ?_; intro K hK)   | (refine wpT_skip rfl rfl ?_; (try simp only [Act.put, List.setIfInBounds_toArray, List.set_cons_zero, List.set_cons_succ, List.getElem_toArray, List.getElem_cons_succ, List.getElem_cons_zero]))
                  | (go_at_call 16; (with_reducible refine HCM.out.mono ?_); rintro e w4 ⟨rfl, hb⟩; have HS4 := hide (HSd.out.call hb); have HB4 := hide hb.drew))
                clear x0 x1 x2 x3 z0 z1 z2 z3 q3
                have HS5 := hide HS4.out.drew
                have q3 := HS5.out.cell 1 rfl 3
                have x0 := HS5.out.cell 0 rfl 0
                have x1 := HS5.out.cell 0 rfl 1
                have x2 := HS5.out.cell 0 rfl 2
                have x3 := HS5.out.cell 0 rfl 3
                obtain ⟨z0, z1, z2, z3⟩ := HCZ.out _ HB4.out
                unfold Tm.row at z3
                have HAT := hide (fun (h : ¬ cmpA z x < 0) => insL_at out x j (by have := HM.out; omega) HJ.out (fun y hy => by rw [HZ.out] at hy; injection hy with hy; rw [← hy]; exact h))
                by_cases hq1 : q = 0
                · rw [hq1] at HSE
                  rw [HSE.out] at HSM
                  have e0 : decide ((0 : Int) = 0) = true := rfl
                  rw [e0] at HSM
                  have HO2 : Hid (insL out x = out) := hide (by rw [HAT.out (by rw [← HQ.out]; exact Int.not_lt.2 HQ0.out), if_pos ⟨z, HZ.out, HSE.out⟩])
                  go_wp2_with fail
                  refine wp_region_T [(0, 1), (1, 1), (2, 0), (3, 1), (4, 1), (5, 1), (6, 1), (7, 0), (8, 1), (9, 1), (10, 0), (11, 0), (12, 2), (13, 1)] (by kernel_rfl) (by kernel_rfl) (fun _ _ _ _ h => h) ?_
                  go_wp2_with (first
                    | (refine wpT_nil ?_)   | ((with_reducible refine fromT_refl ?_); (try simp only [Act.put, List.setIfInBounds_toArray, List.set_cons_zero, List.set_cons_succ, List.getElem_toArray, List.getElem_cons_succ, List.getElem_cons_zero]))   | ((with_reducible refine fromT_mk (by assumption) ?_); (try simp only [Act.put, List.setIfInBounds_toArray, List.set_cons_zero, List.set_cons_succ, List.getElem_toArray, List.getElem_cons_succ, List.getElem_cons_zero]))   | (refine wpT_pure (v := ?_) rfl rfl ?_ ?_; rotate_left; (intro wx; go_simp; try go_bits) <;> (with_reducible rfl); (try simp only [Act.put, List.setIfInBounds_toArray, List.set_cons_zero, List.set_cons_succ, List.getElem_toArray, List.getElem_cons_succ, List.getElem_cons_zero]))   | (refine wpT_load (v := ?_) rfl rfl rfl ?_ ?_; rotate_left; (go_simp; try go_bits) <;> (with_reducible rfl); (try simp only [Act.put, List.setIfInBounds_toArray, List.set_cons_zero, List.set_cons_succ, List.getElem_toArray, List.getElem_cons_succ, List.getElem_cons_zero]))   | (refine wpT_read (v := ?_) rfl rfl ?_ ?_; rotate_left; (intro wx hx; go_simp; try go_bits) <;> (with_reducible rfl); (try simp only [Act.put, List.setIfInBounds_toArray, List.set_cons_zero, List.set_cons_succ, List.getElem_toArray, List.getElem_cons_succ, List.getElem_cons_zero]))   | (refine wpT_call rfl rfl ?_; intro K hK)   | (refine wpT_late rfl rfl ?_; intro K hK)   | (refine wpT_any rfl rfl ?_; intro K hK)   | (refine wpT_skip rfl rfl ?_; (try simp only [Act.put, List.setIfInBounds_toArray, List.set_cons_zero, List.set_cons_succ, List.getElem_toArray, List.getElem_cons_succ, List.getElem_cons_zero]))
                    | (go_at_call 17; (with_reducible refine (HSM.out _ HS5.out.below).mono ?_); rintro e w6 ⟨rfl, hb⟩; have HS6 := hide (HS5.out.call hb)))
                  go_roundw
                  case rel => exact ⟨k + 1, _, d, out, by omega, by go_num, hide ⟨by rw [foldl_take _ _ _ _ _ HXK.out, ← HX.out.1, HO2.out], by have := HX.out.2.1; omega, HX.out.2.2.1, fun y' hy' u hu => by
                      rw [List.take_add_one, HXK.out] at hu
                      rcases List.mem_append.1 hu with hu | hu
                      · exact HX.out.2.2.2 y' hy' u hu
                      · rw [HY0.out] at hy'; injection hy' with hy'; simp only [Option.toList_some, List.mem_singleton] at hu; rw [hu, ← hy']; exact HG.out⟩, hide (by rw [← HM.out]; exact HS6.out.tail)⟩
                  case measure => (simp [intOf]) <;> omega
                · have e0 : decide (q = 0) = false := decide_eq_false hq1
                  rw [HSE.out, e0] at HSM
                  have HO2 : Hid (insL out x = out.take j ++ x :: out.drop j) := hide (by rw [HAT.out (by rw [← HQ.out]; exact Int.not_lt.2 HQ0.out), if_neg (by rintro ⟨y', hy', e⟩; rw [HZ.out] at hy'; injection hy' with hy'; rw [← hy', HSE.out, e0] at e; exact Bool.false_ne_true e)])
                  go_wp2_with fail
                  refine wp_region_T [(0, 1), (1, 1), (2, 0), (3, 1), (4, 1), (5, 1), (6, 1), (7, 0), (8, 1), (9, 1), (10, 0), (11, 0), (12, 2), (13, 1)] (by kernel_rfl) (by kernel_rfl) (fun _ _ _ _ h => h) ?_
                  go_wp2_with (first
                    | (refine wpT_nil ?_)   | ((with_reducible refine fromT_refl ?_); (try simp only [Act.put, List.setIfInBounds_toArray, List.set_cons_zero, List.set_cons_succ, List.getElem_toArray, List.getElem_cons_succ, List.getElem_cons_zero]))   | ((with_reducible refine fromT_mk (by assumption) ?_); (try simp only [Act.put, List.setIfInBounds_toArray, List.set_cons_zero, List.set_cons_succ, List.getElem_toArray, List.getElem_cons_succ, List.getElem_cons_zero]))   | (refine wpT_pure (v := ?_) rfl rfl ?_ ?_; rotate_left; (intro wx; go_simp; try go_bits) <;> (with_reducible rfl); (try simp only [Act.put, List.setIfInBounds_toArray, List.set_cons_zero, List.set_cons_succ, List.getElem_toArray, List.getElem_cons_succ, List.getElem_cons_zero]))   | (refine wpT_load (v := ?_) rfl rfl rfl ?_ ?_; rotate_left; (go_simp; try go_bits) <;> (with_reducible rfl); (try simp only [Act.put, List.setIfInBounds_toArray, List.set_cons_zero, List.set_cons_succ, List.getElem_toArray, List.getElem_cons_succ, List.getElem_cons_zero]))   | (refine wpT_read (v := ?_) rfl rfl ?_ ?_; rotate_left; (intro wx hx; go_simp; try go_bits) <;> (with_reducible rfl); (try simp only [Act.put, List.setIfInBounds_toArray, List.set_cons_zero, List.set_cons_succ, List.getElem_toArray, List.getElem_cons_succ, List.getElem_cons_zero]))   | (refine wpT_call rfl rfl ?_; intro K hK)   | (refine wpT_late rfl rfl ?_; intro K hK)   | (refine wpT_any rfl rfl ?_; intro K hK)   | (refine wpT_skip rfl rfl ?_; (try simp only [Act.put, List.setIfInBounds_toArray, List.set_cons_zero, List.set_cons_succ, List.getElem_toArray, List.getElem_cons_succ, List.getElem_cons_zero]))
                    | (go_at_call 17; (with_reducible refine (HSM.out _ HS5.out.below).mono ?_); rintro e w6 ⟨rfl, hb⟩; have HS6 := hide (HS5.out.call hb)))
                  clear x0 x1 x2 x3 z0 z1 z2 z3 q3
                  go_wp2_with fail
                  refine wp_region_S (.op 0 1 (.op 1 0 (.op 2 1 (.op 3 1 (.op 5 0 (.op 8 1 (.op 9 0 (.op 10 1 (.op 11 1 (.two 4 6 (.op 6 2 (.op 7 2 (.op 12 2 (.op 13 1 (.op 14 3 (.nil)))))) (.op 4 2 (.op 7 2 (.op 12 2 (.op 13 1 (.op 14 3 (.nil)))))))))))))))) (by kernel_rfl) (by kernel_rfl) (fun _ _ _ _ h => h) ?_
                  have HS7 := hide HS6.out.drew
                  generalize hwm : World.drew _ = wm at HS7 ⊢
                  clear hwm
                  have q3 := HS7.out.cell 1 rfl 3
                  have x0 := HS7.out.cell 0 rfl 0
                  have x1 := HS7.out.cell 0 rfl 1
                  have x2 := HS7.out.cell 0 rfl 2
                  have x3 := HS7.out.cell 0 rfl 3
                  have rd1 := HS7.out.rd 2 rfl
                  have nc := rd_nilcap rd1
                  have tk := fun W => run_takeG (t := 22) (P := Try.prog) Try.underlying22 szTm4 (some ⟨b2, o2, none⟩) m d j (by have := nc.1; omega) nc.2 W
                  have dr := fun W => run_dropG (t := 22) (P := Try.prog) Try.underlying22 szTm4 (some ⟨b2, o2, none⟩) m d j (by omega) W
                  obtain ⟨sv, hsv⟩ : ∃ v, v = sliced (some ⟨b2, o2, none⟩) j m d 4 := ⟨_, rfl⟩
                  rw [← hsv] at dr
                  have HRT := hide (rd_takeT rd1 j (by omega))
                  have HRD := hide (rd_dropT rd1 j (by omega))
                  rw [← hsv] at HRD
                  clear hsv
                  have hmj : m ≤ 16 := hm16
                  clear nc rd1
                  have hbx : Below wm.heap.size wm (wm.alloc (.cells #[.int .i64 x.k, .int .i64 x.n, .string (strOf x.s), .slice x.A x.l.length x.c] 24)) := (Below.refl _ _).al _
                  have HFIN : Hid (∀ (w10 : World) (A3 : Option Addr) (c3 : Nat), Below wm.heap.size wm w10 → w10.ownsRow wm.heap.size 24 4 (.slice A3 (j + 1 + (m - j)) c3) (j + 1 + (m - j)) (tmCells (out.take j) ++ x.cells ++ tmCells (out.drop j)) →
                      St w NoB w10 [.row (.slice A3 (insL out x).length c3) 24 4 (insL out x).length (tmCells (insL out x)), .cells xa #[.int .i64 x.k, .int .i64 x.n, .string (strOf x.s), .slice x.A x.l.length x.c] 24, .cells (w.heap.size + 1) #[.int .i64 7, .int .i64 0, .string ⟨#[]⟩, .slice (some ⟨b2, o2, none⟩) m d] 24, .row (.slice (some ⟨b2, o2, none⟩) m d) 24 4 m (tmCells out), .cells w.heap.size #[.int .i64 0, .int .i64 0, .string ⟨#[]⟩, .slice none 0 0] 24] ∧ j + 1 + (m - j) = (insL out x).length) := hide (fun w10 A3 c3 hb ho => by
                    have e11 : tmCells (out.take j) ++ x.cells ++ tmCells (out.drop j) = tmCells (insL out x) := by
                      rw [HO2.out]
                      unfold tmCells
                      rw [List.flatMap_append, List.flatMap_cons, List.append_assoc]
                    have l11 : j + 1 + (m - j) = (insL out x).length := by
                      rw [HO2.out, List.length_append, List.length_cons, List.length_take, List.length_drop, ← HM.out]; omega
                    rw [e11, l11] at ho
                    exact ⟨HS7.out.row hb ho, l11⟩)
                  have HREL : Hid ((insL out x = (l.take (k + 1)).foldl insL []) ∧ (insL out x).length ≤ k + 1 ∧ (∀ u ∈ insL out x, u ∈ l) ∧ ∀ y', l[0]? = some y' → ∀ u ∈ l.take (k + 1), badT y'.k u = false) := hide ⟨by rw [foldl_take _ _ _ _ _ HXK.out, ← HX.out.1], by have := insL_len out x; have := HX.out.2.1; omega, fun u hu => by
                      rcases insL_mem out x u hu with e | e
                      · rw [e]; exact List.mem_of_getElem? HXK.out
                      · exact HX.out.2.2.1 u e, fun y' hy' u hu => by
                      rw [List.take_add_one, HXK.out] at hu
                      rcases List.mem_append.1 hu with hu | hu
                      · exact HX.out.2.2.2 y' hy' u hu
                      · rw [HY0.out] at hy'; injection hy' with hy'; simp only [Option.toList_some, List.mem_singleton] at hu; rw [hu, ← hy']; exact HG.out⟩
                  go_wp2_with (first
                    | (refine wpS_nil ?_)   | ((with_reducible refine fromT_refl ?_); (try simp only [Act.put, List.setIfInBounds_toArray, List.set_cons_zero, List.set_cons_succ, List.getElem_toArray, List.getElem_cons_succ, List.getElem_cons_zero]))   | ((with_reducible refine fromT_mk (by assumption) ?_); (try simp only [Act.put, List.setIfInBounds_toArray, List.set_cons_zero, List.set_cons_succ, List.getElem_toArray, List.getElem_cons_succ, List.getElem_cons_zero]))   | (refine wpS_pure (v := ?_) rfl rfl ?_ ?_; rotate_left; (intro wx; go_simp; try go_bits) <;> (with_reducible rfl); (try simp only [Act.put, List.setIfInBounds_toArray, List.set_cons_zero, List.set_cons_succ, List.getElem_toArray, List.getElem_cons_succ, List.getElem_cons_zero]))   | (refine wpS_load (v := ?_) rfl rfl rfl ?_ ?_; rotate_left; (go_simp; try go_bits) <;> (with_reducible rfl); (try simp only [Act.put, List.setIfInBounds_toArray, List.set_cons_zero, List.set_cons_succ, List.getElem_toArray, List.getElem_cons_succ, List.getElem_cons_zero]))   | (refine wpS_read (v := ?_) rfl rfl ?_ ?_; rotate_left; (intro wx hx; go_simp; try go_bits) <;> (with_reducible rfl); (try simp only [Act.put, List.setIfInBounds_toArray, List.set_cons_zero, List.set_cons_succ, List.getElem_toArray, List.getElem_cons_succ, List.getElem_cons_zero]))   | (refine wpS_call rfl rfl ?_; intro K hK)   | (refine wpS_late rfl rfl ?_; intro K hK)   | (refine wpS_any rfl rfl ?_; intro K hK)   | (refine wpS_skip rfl rfl ?_; (try simp only [Act.put, List.setIfInBounds_toArray, List.set_cons_zero, List.set_cons_succ, List.getElem_toArray, List.getElem_cons_succ, List.getElem_cons_zero])))
                  refine wpS_two ?_ ?_
                  · have HS0 := hide (show St wm NoB wm [.row (.slice none 0 0) 24 4 0 []] from (St.init wm NoB).row (Below.refl _ _) (World.ownsRow_nil _ _ 24 4))
                    go_wp2_with (first
                      | (refine wpS_call rfl rfl ?_; intro K hK; refine wp_append rfl rowTm HS0.out 0 rfl rfl rfl HRT.out (tmCells_one _) (by omega) (by decide) ?_; intro A1 c1' w8 hS8; rw [Nat.zero_add, List.nil_append] at hS8; have HS8 := hide hS8; have hb8 := hS8.below; have hb8a : Below wm.heap.size wm (w8.alloc (.cells #[.int .i64 x.k, .int .i64 x.n, .string (strOf x.s), .slice x.A x.l.length x.c] 24)) := hb8.al _; clear hS8; rw [Nat.zero_add])
                      | (refine wpS_call rfl rfl ?_; intro K hK; refine wp_append (n := j) rfl rowTm (HS8.out.skip _) 0 rfl rfl rfl (rd_new w8 x.cells 24 4 1 rfl (by decide)) x.one (by omega) (by decide) ?_; intro A2 c2' w9 hS9; have HS9 := hide hS9; have hb9 := hS9.below; clear hS9)
                      | (refine wpS_call rfl rfl ?_; intro K hK; refine wp_append (n := j + 1) rfl rowTm HS9.out 0 rfl rfl rfl (HRD.out.below HS9.out.below) (tmCells_one _) (by omega) (by decide) ?_; intro A3 c3' w10 hS10; have hb10 := hS10.below; obtain ⟨h10, l10⟩ := HFIN.out _ _ _ hS10.below (hS10.ownsRow 0 rfl); have q3' := h10.cell 2 rfl 3; have f3' := h10.free 2 rfl 3; have HS10 := hide h10; clear h10 hS10)
                      | (refine wpS_nil ?_)   | ((with_reducible refine fromT_refl ?_); (try simp only [Act.put, List.setIfInBounds_toArray, List.set_cons_zero, List.set_cons_succ, List.getElem_toArray, List.getElem_cons_succ, List.getElem_cons_zero]))   | ((with_reducible refine fromT_mk (by assumption) ?_); (try simp only [Act.put, List.setIfInBounds_toArray, List.set_cons_zero, List.set_cons_succ, List.getElem_toArray, List.getElem_cons_succ, List.getElem_cons_zero]))   | (refine wpS_pure (v := ?_) rfl rfl ?_ ?_; rotate_left; (intro wx; go_simp; try go_bits) <;> (with_reducible rfl); (try simp only [Act.put, List.setIfInBounds_toArray, List.set_cons_zero, List.set_cons_succ, List.getElem_toArray, List.getElem_cons_succ, List.getElem_cons_zero]))   | (refine wpS_load (v := ?_) rfl rfl rfl ?_ ?_; rotate_left; (go_simp; try go_bits) <;> (with_reducible rfl); (try simp only [Act.put, List.setIfInBounds_toArray, List.set_cons_zero, List.set_cons_succ, List.getElem_toArray, List.getElem_cons_succ, List.getElem_cons_zero]))   | (refine wpS_read (v := ?_) rfl rfl ?_ ?_; rotate_left; (intro wx hx; go_simp; try go_bits) <;> (with_reducible rfl); (try simp only [Act.put, List.setIfInBounds_toArray, List.set_cons_zero, List.set_cons_succ, List.getElem_toArray, List.getElem_cons_succ, List.getElem_cons_zero]))   | (refine wpS_call rfl rfl ?_; intro K hK)   | (refine wpS_late rfl rfl ?_; intro K hK)   | (refine wpS_any rfl rfl ?_; intro K hK)   | (refine wpS_skip rfl rfl ?_; (try simp only [Act.put, List.setIfInBounds_toArray, List.set_cons_zero, List.set_cons_succ, List.getElem_toArray, List.getElem_cons_succ, List.getElem_cons_zero])))
                    first | rw [l10] | rw [show j + 1 = (insL out x).length by omega] | skip
                    go_roundw
                    case rel =>
                      have h11 := HS10.out.setCell 2 rfl 3 (.slice A3 (insL out x).length c3')
                      exact ⟨k + 1, A3, c3', insL out x, by omega, by go_num, HREL, hide (h11.pickL [2, 0, 4] (by decide) rfl)⟩
                    case measure => (simp [intOf]) <;> omega
                  · have HS0 := hide (show St (wm.alloc (.cells #[.int .i64 x.k, .int .i64 x.n, .string (strOf x.s), .slice x.A x.l.length x.c] 24)) NoB (wm.alloc (.cells #[.int .i64 x.k, .int .i64 x.n, .string (strOf x.s), .slice x.A x.l.length x.c] 24)) [.row (.slice none 0 0) 24 4 0 []] from (St.init _ NoB).row (Below.refl _ _) (World.ownsRow_nil _ _ 24 4))
                    go_wp2_with (first
                      | (refine wpS_call rfl rfl ?_; intro K hK; refine wp_append rfl rowTm HS0.out 0 rfl rfl rfl (HRT.out.below hbx) (tmCells_one _) (by omega) (by decide) ?_; intro A1 c1' w8 hS8; rw [Nat.zero_add, List.nil_append] at hS8; have HS8 := hide hS8; have hb8 := hbx.trans (hS8.below.mono hbx.size); clear hS8; rw [Nat.zero_add])
                      | (refine wpS_call rfl rfl ?_; intro K hK; refine wp_append (n := j) rfl rowTm HS8.out 0 rfl rfl rfl ((rd_new wm x.cells 24 4 1 rfl (by decide)).below HS8.out.below) x.one (by omega) (by decide) ?_; intro A2 c2' w9 hS9; have HS9 := hide hS9; have hb9 := hbx.trans (hS9.below.mono hbx.size); clear hS9)
                      | (refine wpS_call rfl rfl ?_; intro K hK; refine wp_append (n := j + 1) rfl rowTm HS9.out 0 rfl rfl rfl (HRD.out.below hb9) (tmCells_one _) (by omega) (by decide) ?_; intro A3 c3' w10 hS10; have hb10 := hbx.trans (hS10.below.mono hbx.size); obtain ⟨h10, l10⟩ := HFIN.out _ _ _ hb10 ((hS10.ownsRow 0 rfl).mono hbx.size); have q3' := h10.cell 2 rfl 3; have f3' := h10.free 2 rfl 3; have HS10 := hide h10; clear h10 hS10)
                      | (refine wpS_nil ?_)   | ((with_reducible refine fromT_refl ?_); (try simp only [Act.put, List.setIfInBounds_toArray, List.set_cons_zero, List.set_cons_succ, List.getElem_toArray, List.getElem_cons_succ, List.getElem_cons_zero]))   | ((with_reducible refine fromT_mk (by assumption) ?_); (try simp only [Act.put, List.setIfInBounds_toArray, List.set_cons_zero, List.set_cons_succ, List.getElem_toArray, List.getElem_cons_succ, List.getElem_cons_zero]))   | (refine wpS_pure (v := ?_) rfl rfl ?_ ?_; rotate_left; (intro wx; go_simp; try go_bits) <;> (with_reducible rfl); (try simp only [Act.put, List.setIfInBounds_toArray, List.set_cons_zero, List.set_cons_succ, List.getElem_toArray, List.getElem_cons_succ, List.getElem_cons_zero]))   | (refine wpS_load (v := ?_) rfl rfl rfl ?_ ?_; rotate_left; (go_simp; try go_bits) <;> (with_reducible rfl); (try simp only [Act.put, List.setIfInBounds_toArray, List.set_cons_zero, List.set_cons_succ, List.getElem_toArray, List.getElem_cons_succ, List.getElem_cons_zero]))   | (refine wpS_read (v := ?_) rfl rfl ?_ ?_; rotate_left; (intro wx hx; go_simp; try go_bits) <;> (with_reducible rfl); (try simp only [Act.put, List.setIfInBounds_toArray, List.set_cons_zero, List.set_cons_succ, List.getElem_toArray, List.getElem_cons_succ, List.getElem_cons_zero]))   | (refine wpS_call rfl rfl ?_; intro K hK)   | (refine wpS_late rfl rfl ?_; intro K hK)   | (refine wpS_any rfl rfl ?_; intro K hK)   | (refine wpS_skip rfl rfl ?_; (try simp only [Act.put, List.setIfInBounds_toArray, List.set_cons_zero, List.set_cons_succ, List.getElem_toArray, List.getElem_cons_succ, List.getElem_cons_zero])))
                    first | rw [l10] | rw [show j + 1 = (insL out x).length by omega] | skip
                    go_roundw
                    case rel =>
                      have h11 := HS10.out.setCell 2 rfl 3 (.slice A3 (insL out x).length c3')
                      exact ⟨k + 1, A3, c3', insL out x, by omega, by go_num, HREL, hide (h11.pickL [2, 0, 4] (by decide) rfl)⟩
                    case measure => (simp [intOf]) <;> omega
            · obtain rfl : j = m := by omega
              have dj : decide ((j : Int) < (j : Int)) = false := by simp
              have dj' : decide (j < j) = false := by simp
              have HO2 : Hid (insL out x = out.take j ++ x :: out.drop j) := hide (by rw [insL_at out x j (by have := HM.out; omega) HJ.out (fun y hy => by have := (List.getElem?_eq_some_iff.1 hy).1; have := HM.out; omega), if_neg (by rintro ⟨y', hy', e⟩; have := (List.getElem?_eq_some_iff.1 hy').1; have := HM.out; omega)])
              go_wp2_with fail
              refine wp_region_T [(0, 1), (1, 1), (2, 0), (3, 1), (4, 1), (5, 1), (6, 1), (7, 0), (8, 1), (9, 1), (10, 0), (11, 0), (12, 2), (13, 1), (14, 1)] (by kernel_rfl) (by kernel_rfl) (fun _ _ _ _ h => h) ?_
              go_wp2_with (first | (refine wpT_nil ?_)   | ((with_reducible refine fromT_refl ?_); (try simp only [Act.put, List.setIfInBounds_toArray, List.set_cons_zero, List.set_cons_succ, List.getElem_toArray, List.getElem_cons_succ, List.getElem_cons_zero]))   | ((with_reducible refine fromT_mk (by assumption) ?_); (try simp only [Act.put, List.setIfInBounds_toArray, List.set_cons_zero, List.set_cons_succ, List.getElem_toArray, List.getElem_cons_succ, List.getElem_cons_zero]))   | (refine wpT_pure (v := ?_) rfl rfl ?_ ?_; rotate_left; (intro wx; go_simp; try go_bits) <;> (with_reducible rfl); (try simp only [Act.put, List.setIfInBounds_toArray, List.set_cons_zero, List.set_cons_succ, List.getElem_toArray, List.getElem_cons_succ, List.getElem_cons_zero]))   | (refine wpT_load (v := ?_) rfl rfl rfl ?_ ?_; rotate_left; (go_simp; try go_bits) <;> (with_reducible rfl); (try simp only [Act.put, List.setIfInBounds_toArray, List.set_cons_zero, List.set_cons_succ, List.getElem_toArray, List.getElem_cons_succ, List.getElem_cons_zero]))   | (refine wpT_read (v := ?_) rfl rfl ?_ ?_; rotate_left; (intro wx hx; go_simp; try go_bits) <;> (with_reducible rfl); (try simp only [Act.put, List.setIfInBounds_toArray, List.set_cons_zero, List.set_cons_succ, List.getElem_toArray, List.getElem_cons_succ, List.getElem_cons_zero]))   | (refine wpT_call rfl rfl ?_; intro K hK)   | (refine wpT_late rfl rfl ?_; intro K hK)   | (refine wpT_any rfl rfl ?_; intro K hK)   | (refine wpT_skip rfl rfl ?_; (try simp only [Act.put, List.setIfInBounds_toArray, List.set_cons_zero, List.set_cons_succ, List.getElem_toArray, List.getElem_cons_succ, List.getElem_cons_zero])))
              clear x0 x1 x2 x3 q3
              have HS6 := hide HSd.out.drew
              have q3 := HS6.out.cell 1 rfl 3
              go_wp2_with fail
              refine wp_region_T [(0, 1), (1, 1), (2, 0), (3, 1), (4, 1), (5, 1), (6, 1), (7, 0), (8, 1), (9, 1), (10, 0), (11, 0), (12, 2), (13, 1)] (by kernel_rfl) (by kernel_rfl) (fun _ _ _ _ h => h) ?_
              go_wp2_with (first | (refine wpT_nil ?_)   | ((with_reducible refine fromT_refl ?_); (try simp only [Act.put, List.setIfInBounds_toArray, List.set_cons_zero, List.set_cons_succ, List.getElem_toArray, List.getElem_cons_succ, List.getElem_cons_zero]))   | ((with_reducible refine fromT_mk (by assumption) ?_); (try simp only [Act.put, List.setIfInBounds_toArray, List.set_cons_zero, List.set_cons_succ, List.getElem_toArray, List.getElem_cons_succ, List.getElem_cons_zero]))   | (refine wpT_pure (v := ?_) rfl rfl ?_ ?_; rotate_left; (intro wx; go_simp; try go_bits) <;> (with_reducible rfl); (try simp only [Act.put, List.setIfInBounds_toArray, List.set_cons_zero, List.set_cons_succ, List.getElem_toArray, List.getElem_cons_succ, List.getElem_cons_zero]))   | (refine wpT_load (v := ?_) rfl rfl rfl ?_ ?_; rotate_left; (go_simp; try go_bits) <;> (with_reducible rfl); (try simp only [Act.put, List.setIfInBounds_toArray, List.set_cons_zero, List.set_cons_succ, List.getElem_toArray, List.getElem_cons_succ, List.getElem_cons_zero]))   | (refine wpT_read (v := ?_) rfl rfl ?_ ?_; rotate_left; (intro wx hx; go_simp; try go_bits) <;> (with_reducible rfl); (try simp only [Act.put, List.setIfInBounds_toArray, List.set_cons_zero, List.set_cons_succ, List.getElem_toArray, List.getElem_cons_succ, List.getElem_cons_zero]))   | (refine wpT_call rfl rfl ?_; intro K hK)   | (refine wpT_late rfl rfl ?_; intro K hK)   | (refine wpT_any rfl rfl ?_; intro K hK)   | (refine wpT_skip rfl rfl ?_; (try simp only [Act.put, List.setIfInBounds_toArray, List.set_cons_zero, List.set_cons_succ, List.getElem_toArray, List.getElem_cons_succ, List.getElem_cons_zero])))
              clear q3
              go_wp2_with fail
              refine wp_region_S (.op 0 1 (.op 1 0 (.op 2 1 (.op 3 1 (.op 5 0 (.op 8 1 (.op 9 0 (.op 10 1 (.op 11 1 (.two 4 6 (.op 6 2 (.op 7 2 (.op 12 2 (.op 13 1 (.op 14 3 (.nil)))))) (.op 4 2 (.op 7 2 (.op 12 2 (.op 13 1 (.op 14 3 (.nil)))))))))))))))) (by kernel_rfl) (by kernel_rfl) (fun _ _ _ _ h => h) ?_
              have HS7 := hide HS6.out.drew
              generalize hwm : World.drew _ = wm at HS7 ⊢
              clear hwm
              have q3 := HS7.out.cell 1 rfl 3
              have x0 := HS7.out.cell 0 rfl 0
              have x1 := HS7.out.cell 0 rfl 1
              have x2 := HS7.out.cell 0 rfl 2
              have x3 := HS7.out.cell 0 rfl 3
              have rd1 := HS7.out.rd 2 rfl
              have nc := rd_nilcap rd1
              have tk := fun W => run_takeG (t := 22) (P := Try.prog) Try.underlying22 szTm4 B j d j (by have := nc.1; omega) nc.2 W
              have dr := fun W => run_dropG (t := 22) (P := Try.prog) Try.underlying22 szTm4 B j d j (by omega) W
              obtain ⟨sv, hsv⟩ : ∃ v, v = sliced B j j d 4 := ⟨_, rfl⟩
              rw [← hsv] at dr
              have HRT := hide (rd_takeT rd1 j (by omega))
              have HRD := hide (rd_dropT rd1 j (by omega))
              rw [← hsv] at HRD
              clear hsv
              have hmj : j ≤ 16 := hm16
              clear nc rd1
              have hbx : Below wm.heap.size wm (wm.alloc (.cells #[.int .i64 x.k, .int .i64 x.n, .string (strOf x.s), .slice x.A x.l.length x.c] 24)) := (Below.refl _ _).al _
              have HFIN : Hid (∀ (w10 : World) (A3 : Option Addr) (c3 : Nat), Below wm.heap.size wm w10 → w10.ownsRow wm.heap.size 24 4 (.slice A3 (j + 1 + (j - j)) c3) (j + 1 + (j - j)) (tmCells (out.take j) ++ x.cells ++ tmCells (out.drop j)) →
                  St w NoB w10 [.row (.slice A3 (insL out x).length c3) 24 4 (insL out x).length (tmCells (insL out x)), .cells xa #[.int .i64 x.k, .int .i64 x.n, .string (strOf x.s), .slice x.A x.l.length x.c] 24, .cells (w.heap.size + 1) #[.int .i64 7, .int .i64 0, .string ⟨#[]⟩, .slice B j d] 24, .row (.slice B j d) 24 4 j (tmCells out), .cells w.heap.size #[.int .i64 0, .int .i64 0, .string ⟨#[]⟩, .slice none 0 0] 24] ∧ j + 1 + (j - j) = (insL out x).length) := hide (fun w10 A3 c3 hb ho => by
                have e11 : tmCells (out.take j) ++ x.cells ++ tmCells (out.drop j) = tmCells (insL out x) := by
                  rw [HO2.out]
                  unfold tmCells
                  rw [List.flatMap_append, List.flatMap_cons, List.append_assoc]
                have l11 : j + 1 + (j - j) = (insL out x).length := by
                  rw [HO2.out, List.length_append, List.length_cons, List.length_take, List.length_drop, ← HM.out]; omega
                rw [e11, l11] at ho
                exact ⟨HS7.out.row hb ho, l11⟩)
              have HREL : Hid ((insL out x = (l.take (k + 1)).foldl insL []) ∧ (insL out x).length ≤ k + 1 ∧ (∀ u ∈ insL out x, u ∈ l) ∧ ∀ y', l[0]? = some y' → ∀ u ∈ l.take (k + 1), badT y'.k u = false) := hide ⟨by rw [foldl_take _ _ _ _ _ HXK.out, ← HX.out.1], by have := insL_len out x; have := HX.out.2.1; omega, fun u hu => by
                  rcases insL_mem out x u hu with e | e
                  · rw [e]; exact List.mem_of_getElem? HXK.out
                  · exact HX.out.2.2.1 u e, fun y' hy' u hu => by
                  rw [List.take_add_one, HXK.out] at hu
                  rcases List.mem_append.1 hu with hu | hu
                  · exact HX.out.2.2.2 y' hy' u hu
                  · rw [HY0.out] at hy'; injection hy' with hy'; simp only [Option.toList_some, List.mem_singleton] at hu; rw [hu, ← hy']; exact HG.out⟩
              go_wp2_with (first
                | (refine wpS_nil ?_)   | ((with_reducible refine fromT_refl ?_); (try simp only [Act.put, List.setIfInBounds_toArray, List.set_cons_zero, List.set_cons_succ, List.getElem_toArray, List.getElem_cons_succ, List.getElem_cons_zero]))   | ((with_reducible refine fromT_mk (by assumption) ?_); (try simp only [Act.put, List.setIfInBounds_toArray, List.set_cons_zero, List.set_cons_succ, List.getElem_toArray, List.getElem_cons_succ, List.getElem_cons_zero]))   | (refine wpS_pure (v := ?_) rfl rfl ?_ ?_; rotate_left; (intro wx; go_simp; try go_bits) <;> (with_reducible rfl); (try simp only [Act.put, List.setIfInBounds_toArray, List.set_cons_zero, List.set_cons_succ, List.getElem_toArray, List.getElem_cons_succ, List.getElem_cons_zero]))   | (refine wpS_load (v := ?_) rfl rfl rfl ?_ ?_; rotate_left; (go_simp; try go_bits) <;> (with_reducible rfl); (try simp only [Act.put, List.setIfInBounds_toArray, List.set_cons_zero, List.set_cons_succ, List.getElem_toArray, List.getElem_cons_succ, List.getElem_cons_zero]))   | (refine wpS_read (v := ?_) rfl rfl ?_ ?_; rotate_left; (intro wx hx; go_simp; try go_bits) <;> (with_reducible rfl); (try simp only [Act.put, List.setIfInBounds_toArray, List.set_cons_zero, List.set_cons_succ, List.getElem_toArray, List.getElem_cons_succ, List.getElem_cons_zero]))   | (refine wpS_call rfl rfl ?_; intro K hK)   | (refine wpS_late rfl rfl ?_; intro K hK)   | (refine wpS_any rfl rfl ?_; intro K hK)   | (refine wpS_skip rfl rfl ?_; (try simp only [Act.put, List.setIfInBounds_toArray, List.set_cons_zero, List.set_cons_succ, List.getElem_toArray, List.getElem_cons_succ, List.getElem_cons_zero])))
              refine wpS_two ?_ ?_
              · have HS0 := hide (show St wm NoB wm [.row (.slice none 0 0) 24 4 0 []] from (St.init wm NoB).row (Below.refl _ _) (World.ownsRow_nil _ _ 24 4))
                go_wp2_with (first
                  | (refine wpS_call rfl rfl ?_; intro K hK; refine wp_append rfl rowTm HS0.out 0 rfl rfl rfl HRT.out (tmCells_one _) (by omega) (by decide) ?_; intro A1 c1' w8 hS8; rw [Nat.zero_add, List.nil_append] at hS8; have HS8 := hide hS8; have hb8 := hS8.below; have hb8a : Below wm.heap.size wm (w8.alloc (.cells #[.int .i64 x.k, .int .i64 x.n, .string (strOf x.s), .slice x.A x.l.length x.c] 24)) := hb8.al _; clear hS8; rw [Nat.zero_add])
                  | (refine wpS_call rfl rfl ?_; intro K hK; refine wp_append (n := j) rfl rowTm (HS8.out.skip _) 0 rfl rfl rfl (rd_new w8 x.cells 24 4 1 rfl (by decide)) x.one (by omega) (by decide) ?_; intro A2 c2' w9 hS9; have HS9 := hide hS9; have hb9 := hS9.below; clear hS9)
                  | (refine wpS_call rfl rfl ?_; intro K hK; refine wp_append (n := j + 1) rfl rowTm HS9.out 0 rfl rfl rfl (HRD.out.below HS9.out.below) (tmCells_one _) (by omega) (by decide) ?_; intro A3 c3' w10 hS10; have hb10 := hS10.below; obtain ⟨h10, l10⟩ := HFIN.out _ _ _ hS10.below (hS10.ownsRow 0 rfl); have q3' := h10.cell 2 rfl 3; have f3' := h10.free 2 rfl 3; have HS10 := hide h10; clear h10 hS10)
                  | (refine wpS_nil ?_)   | ((with_reducible refine fromT_refl ?_); (try simp only [Act.put, List.setIfInBounds_toArray, List.set_cons_zero, List.set_cons_succ, List.getElem_toArray, List.getElem_cons_succ, List.getElem_cons_zero]))   | ((with_reducible refine fromT_mk (by assumption) ?_); (try simp only [Act.put, List.setIfInBounds_toArray, List.set_cons_zero, List.set_cons_succ, List.getElem_toArray, List.getElem_cons_succ, List.getElem_cons_zero]))   | (refine wpS_pure (v := ?_) rfl rfl ?_ ?_; rotate_left; (intro wx; go_simp; try go_bits) <;> (with_reducible rfl); (try simp only [Act.put, List.setIfInBounds_toArray, List.set_cons_zero, List.set_cons_succ, List.getElem_toArray, List.getElem_cons_succ, List.getElem_cons_zero]))   | (refine wpS_load (v := ?_) rfl rfl rfl ?_ ?_; rotate_left; (go_simp; try go_bits) <;> (with_reducible rfl); (try simp only [Act.put, List.setIfInBounds_toArray, List.set_cons_zero, List.set_cons_succ, List.getElem_toArray, List.getElem_cons_succ, List.getElem_cons_zero]))   | (refine wpS_read (v := ?_) rfl rfl ?_ ?_; rotate_left; (intro wx hx; go_simp; try go_bits) <;> (with_reducible rfl); (try simp only [Act.put, List.setIfInBounds_toArray, List.set_cons_zero, List.set_cons_succ, List.getElem_toArray, List.getElem_cons_succ, List.getElem_cons_zero]))   | (refine wpS_call rfl rfl ?_; intro K hK)   | (refine wpS_late rfl rfl ?_; intro K hK)   | (refine wpS_any rfl rfl ?_; intro K hK)   | (refine wpS_skip rfl rfl ?_; (try simp only [Act.put, List.setIfInBounds_toArray, List.set_cons_zero, List.set_cons_succ, List.getElem_toArray, List.getElem_cons_succ, List.getElem_cons_zero])))
                first | rw [l10] | rw [show j + 1 = (insL out x).length by omega] | skip
                go_roundw
                case rel =>
                  have h11 := HS10.out.setCell 2 rfl 3 (.slice A3 (insL out x).length c3')
                  exact ⟨k + 1, A3, c3', insL out x, by omega, by go_num, HREL, hide (h11.pickL [2, 0, 4] (by decide) rfl)⟩
                case measure => (simp [intOf]) <;> omega
              · have HS0 := hide (show St (wm.alloc (.cells #[.int .i64 x.k, .int .i64 x.n, .string (strOf x.s), .slice x.A x.l.length x.c] 24)) NoB (wm.alloc (.cells #[.int .i64 x.k, .int .i64 x.n, .string (strOf x.s), .slice x.A x.l.length x.c] 24)) [.row (.slice none 0 0) 24 4 0 []] from (St.init _ NoB).row (Below.refl _ _) (World.ownsRow_nil _ _ 24 4))
                go_wp2_with (first
                  | (refine wpS_call rfl rfl ?_; intro K hK; refine wp_append rfl rowTm HS0.out 0 rfl rfl rfl (HRT.out.below hbx) (tmCells_one _) (by omega) (by decide) ?_; intro A1 c1' w8 hS8; rw [Nat.zero_add, List.nil_append] at hS8; have HS8 := hide hS8; have hb8 := hbx.trans (hS8.below.mono hbx.size); clear hS8; rw [Nat.zero_add])
                  | (refine wpS_call rfl rfl ?_; intro K hK; refine wp_append (n := j) rfl rowTm HS8.out 0 rfl rfl rfl ((rd_new wm x.cells 24 4 1 rfl (by decide)).below HS8.out.below) x.one (by omega) (by decide) ?_; intro A2 c2' w9 hS9; have HS9 := hide hS9; have hb9 := hbx.trans (hS9.below.mono hbx.size); clear hS9)
                  | (refine wpS_call rfl rfl ?_; intro K hK; refine wp_append (n := j + 1) rfl rowTm HS9.out 0 rfl rfl rfl (HRD.out.below hb9) (tmCells_one _) (by omega) (by decide) ?_; intro A3 c3' w10 hS10; have hb10 := hbx.trans (hS10.below.mono hbx.size); obtain ⟨h10, l10⟩ := HFIN.out _ _ _ hb10 ((hS10.ownsRow 0 rfl).mono hbx.size); have q3' := h10.cell 2 rfl 3; have f3' := h10.free 2 rfl 3; have HS10 := hide h10; clear h10 hS10)
                  | (refine wpS_nil ?_)   | ((with_reducible refine fromT_refl ?_); (try simp only [Act.put, List.setIfInBounds_toArray, List.set_cons_zero, List.set_cons_succ, List.getElem_toArray, List.getElem_cons_succ, List.getElem_cons_zero]))   | ((with_reducible refine fromT_mk (by assumption) ?_); (try simp only [Act.put, List.setIfInBounds_toArray, List.set_cons_zero, List.set_cons_succ, List.getElem_toArray, List.getElem_cons_succ, List.getElem_cons_zero]))   | (refine wpS_pure (v := ?_) rfl rfl ?_ ?_; rotate_left; (intro wx; go_simp; try go_bits) <;> (with_reducible rfl); (try simp only [Act.put, List.setIfInBounds_toArray, List.set_cons_zero, List.set_cons_succ, List.getElem_toArray, List.getElem_cons_succ, List.getElem_cons_zero]))   | (refine wpS_load (v := ?_) rfl rfl rfl ?_ ?_; rotate_left; (go_simp; try go_bits) <;> (with_reducible rfl); (try simp only [Act.put, List.setIfInBounds_toArray, List.set_cons_zero, List.set_cons_succ, List.getElem_toArray, List.getElem_cons_succ, List.getElem_cons_zero]))   | (refine wpS_read (v := ?_) rfl rfl ?_ ?_; rotate_left; (intro wx hx; go_simp; try go_bits) <;> (with_reducible rfl); (try simp only [Act.put, List.setIfInBounds_toArray, List.set_cons_zero, List.set_cons_succ, List.getElem_toArray, List.getElem_cons_succ, List.getElem_cons_zero]))   | (refine wpS_call rfl rfl ?_; intro K hK)   | (refine wpS_late rfl rfl ?_; intro K hK)   | (refine wpS_any rfl rfl ?_; intro K hK)   | (refine wpS_skip rfl rfl ?_; (try simp only [Act.put, List.setIfInBounds_toArray, List.set_cons_zero, List.set_cons_succ, List.getElem_toArray, List.getElem_cons_succ, List.getElem_cons_zero])))
                first | rw [l10] | rw [show j + 1 = (insL out x).length by omega] | skip
                go_roundw
                case rel =>
                  have h11 := HS10.out.setCell 2 rfl 3 (.slice A3 (insL out x).length c3')
                  exact ⟨k + 1, A3, c3', insL out x, by omega, by go_num, HREL, hide (h11.pickL [2, 0, 4] (by decide) rfl)⟩
                case measure => (simp [intOf]) <;> omega
        all_goals exact absurd rfl hg
    · obtain rfl : k = n := by omega
      have hd : decide ((k : Int) < (k : Int)) = false := by simp
      have HXL := hide (show l.take k = l from List.take_of_length_le (by have := HN.out; omega))
      have t0 := HS.out.cell 0 rfl 0
      have t1 := HS.out.cell 0 rfl 1
      have t2 := HS.out.cell 0 rfl 2
      have t3 := HS.out.cell 0 rfl 3
      go_wp2_with (first
        | (refine wl_storeC rfl rfl HS.out 2 rfl (vs := [.int .i64 7, .int .i64 0, .string ⟨#[]⟩, .slice B out.length d]) szTerm (Nat.le_refl _) rfl rfl (by intro u hu; simp only [List.mem_cons, List.not_mem_nil, or_false] at hu; rcases hu with rfl | rfl | rfl | rfl <;> rfl) ?_; intro w5 hS5; have HS5 := hide hS5; clear hS5))
      refine bodyPost_ret (results_cell_tmp_row rfl _ _ w.heap.size _ #[.int .i64 7, .int .i64 0, .string ⟨#[]⟩, .slice B out.length d] _ _ rfl (HS5.out.heap 2 rfl) Try.underlying24 rfl (by kernel_rfl)) rfl ?_
      have e1 : out = insA l := by rw [HX.out.1, HXL.out]; rfl
      have e2 : badL l = false := by
        have h4 := HX.out.2.2.2
        rw [HXL.out] at h4
        cases l with
        | nil => rfl
        | cons y r => exact List.any_eq_false.2 (fun u hu => by rw [h4 y rfl u hu]; exact Bool.false_ne_true)
      refine .inr ⟨e2, ?_⟩
      unfold SetRp
      rw [← e1]
      exact ⟨B, d, rfl, HS5.out.below, HS5.out.rd 1 rfl, fun u hu => (HOK.out u (HX.out.2.2.1 u hu)).on HS5.out.below⟩
end Go.Proofs.Ytjamoifenkdneaa
