/-
  Layer 18: how much a fact holds; few.
-/
import Derived.Test.YthpioncehigoaaaYm
set_option linter.unusedVariables false
namespace Go.Proofs.Ythpioncehigoaaa
open Go.RowKit
set_option linter.unusedSimpArgs false

theorem sizeT_any (t : Tm) (w : World) (ht : TmOK w t) : Calls Try.prog 52 #[t.val] w fun e w' => e = .returned (.int .i64 (szT 6 [t] 0 : Int)) ∧ Below w.heap.size w w' := by
  have hW : Below w.heap.size w ((w.alloc (.cells #[.int .i64 t.k, .int .i64 t.n, .string (strOf t.s), .slice t.A t.l.length t.c] 62)).alloc (.cells #[.int .i64 t.k, .int .i64 t.n, .string (strOf t.s), .slice t.A t.l.length t.c] 62)) := ((Below.refl _ _).al _).al _
  have hr := rd_new (w.alloc (.cells #[.int .i64 t.k, .int .i64 t.n, .string (strOf t.s), .slice t.A t.l.length t.c] 62)) t.cells 62 4 1 rfl (by decide)
  rw [size_alloc1] at hr
  have hc : t.cells = tmCells [t] := by unfold tmCells; simp
  rw [hc] at hr
  have H := hide (size_any 6 (by omega) (.slice (some ⟨w.heap.size + 1, 0, none⟩) 1 1) [t] 0 ((w.alloc (.cells #[.int .i64 t.k, .int .i64 t.n, .string (strOf t.s), .slice t.A t.l.length t.c] 62)).alloc (.cells #[.int .i64 t.k, .int .i64 t.n, .string (strOf t.s), .slice t.A t.l.length t.c] 62)) (by decide) ⟨by have h := hr; rw [← hc] at h ⊢; exact h, fun x hx => by rw [List.mem_singleton.1 hx]; exact ht.on hW⟩ (by simp))
  rw [show ((0 : Nat) : Int) = 0 from rfl, show ((6 : Nat) : Int) = 6 from rfl] at H
  have HW := hide hW
  clear hW hr hc ht
  generalize szT 6 [t] 0 = z at H ⊢
  unfold Tm.val Tm.row
  go_enter Try.func52, Try.ntmps52
  go_wp2_with (go_at_call 70; (with_reducible refine H.out.mono ?_); rintro e w' ⟨rfl, hb⟩; have HB := hide (HW.out.trans (hb.mono HW.out.size)); clear hb)
  go_ret
  exact ⟨rfl, HB.out⟩
def sumZ : List Tm → Nat
  | [] => 0
  | t :: l => szT 6 [t] 0 + sumZ l
theorem sumZ_le : ∀ l : List Tm, sumZ l ≤ l.length * 100
  | [] => Nat.le_refl _
  | t :: l => by
    have h1 := sumZ_le l
    have h2 : szT 6 [t] 0 ≤ 100 := szT_le 6 [t] 0 (by omega)
    rw [sumZ, List.length_cons]
    omega
theorem sumZ_snoc : ∀ (l : List Tm) (t : Tm), sumZ (l ++ [t]) = sumZ l + szT 6 [t] 0
  | [], t => by simp [sumZ]
  | a :: l, t => by rw [List.cons_append, sumZ, sumZ, sumZ_snoc l t, Nat.add_assoc]
def wtF (f : Fc) : Nat := min (f.ts.length + sumZ f.ts) 400
set_option maxRecDepth 100000 in
set_option maxHeartbeats 1600000 in
theorem weight_any (f : Fc) (w : World) (hf : FcOK w f) :
    Calls Try.prog 26 #[.agg #[.string (strOf f.name), .slice f.A f.ts.length f.c, .slice none 0 0, .slice none 0 0, .slice none 0 0]] w fun e w' => e = .returned (.int .i64 (wtF f : Int)) ∧ Below w.heap.size w w' := by
  have HS0 := hide ((St.init w NoB).alloc #[.string (strOf f.name), .slice f.A f.ts.length f.c, .slice none 0 0, .slice none 0 0, .slice none 0 0] 56)
  have HA := hide hf.ts.1
  have HOK := hide hf.ts.2
  have hb := hf.bd.2.1
  have HW : Hid (wtF f = min (f.ts.length + sumZ f.ts) 400) := hide rfl
  have hsum := sumZ_le f.ts
  unfold Fc.row at HA
  obtain ⟨n, hn⟩ : ∃ n, n = f.ts.length := ⟨_, rfl⟩
  rw [← hn] at HS0 HA hb HW hsum ⊢
  have HN := hide hn
  have a1 := HS0.out.cell 0 rfl 1
  have a2 := HS0.out.cell 0 rfl 2
  have a3 := HS0.out.cell 0 rfl 3
  have a4 := HS0.out.cell 0 rfl 4
  clear hf hn
  go_enter Try.func26, Try.ntmps26
  go_wp2_with fail
  go_loopw [3, 26] (fun s i wr => ∃ k : Nat, k ≤ n ∧ i = .int .i64 (k : Int) ∧ s = .int .i64 ((n + sumZ (f.ts.take k) : Nat) : Int) ∧ Hid (St w NoB wr [.cells w.heap.size #[.string (strOf f.name), .slice f.A n f.c, .slice none 0 0, .slice none 0 0, .slice none 0 0] 56])) (fun _ i _ => (n - intOf i).toNat)
  case atStart => exact ⟨0, by omega, rfl, by simp [sumZ], HS0⟩
  case round =>
    clear HS0 a1 a2 a3 a4
    obtain ⟨k, hk, rfl, rfl, HS⟩ := hrel
    by_cases hlt : k < n
    · have d : decide ((k : Int) < (n : Int)) = true := by simp; omega
      have d' : decide (k < n) = true := by simp; omega
      have kn : (k : Int) < (n : Int) := by omega
      have kn' : k < n := hlt
      have kl : k < f.ts.length := by have := HN.out; omega
      have hlk : f.ts[k]? = some f.ts[k] := List.getElem?_eq_getElem kl
      obtain ⟨b, o, hAB, hb8, hc⟩ := tm_at HA.out hlk
      obtain ⟨c0, c1, c2, c3⟩ := hc _ HS.out.below
      have HOX := hide (HOK.out f.ts[k] (List.getElem_mem kl))
      have hs1 := sumZ_snoc (f.ts.take k) f.ts[k]
      have et : f.ts.take k ++ [f.ts[k]] = f.ts.take (k + 1) := by rw [List.take_add_one, hlk]; rfl
      rw [et] at hs1
      have hle := sumZ_le (f.ts.take (k + 1))
      rw [List.length_take] at hle
      have hz := szT_le 6 [f.ts[k]] 0 (by omega)
      generalize f.ts[k] = x at c0 c1 c2 c3 HOX hs1 hz
      have hbr : b < wr.heap.size := by have := HS.out.below.size; omega
      have HS1 := hide (HS.out.alloc #[.int .i64 x.k, .int .i64 x.n, .string (strOf x.s), .slice x.A x.l.length x.c] 62)
      have HSX := hide (sizeT_any x _ (HOX.out.on HS1.out.below))
      generalize szT 6 [x] 0 = zx at HSX hs1 hz
      generalize sumZ (f.ts.take k) = sk at hs1 ⊢
      have es : ((n + sk : Nat) : Int) + (zx : Int) = ((n + (sk + zx) : Nat) : Int) := by omega
      have eb : n + (sk + zx) ≤ 20000000000000000 := by omega
      have HS1E := hide hs1
      have HABH := hide hAB
      rw [HABH.out] at HS1 HS ⊢
      clear hc hlk kl hlt hAB hs1 hle et
      unfold Tm.val Tm.row at HSX
      unfold Tm.row at c3
      have ew : IntKind.i64.wrap (((n + sk : Nat) : Int) + (zx : Int)) = ((n + (sk + zx) : Nat) : Int) := by rw [IntKind.wrap_i64]; omega
      go_wp2_with (go_at_call 52; (with_reducible refine HSX.out.mono ?_); rintro e w2 ⟨rfl, hb2⟩; have HS2 := hide (HS1.out.call hb2).tail)
      go_roundw
      case rel => exact ⟨k + 1, by omega, by go_num, by rw [HS1E.out]; go_num, (by first | exact HS2 | (rw [HABH.out]; exact HS2))⟩
      case measure => (simp [intOf]) <;> omega
    · obtain rfl : k = n := by omega
      have d : decide ((k : Int) < (k : Int)) = false := by simp
      have d' : decide (k < k) = false := by simp
      have et : f.ts.take k = f.ts := List.take_of_length_le (by have := HN.out; omega)
      rw [et]
      generalize sumZ f.ts = sz at *
      obtain ⟨tot, ht⟩ : ∃ t, t = k + sz := ⟨_, rfl⟩
      rw [← ht] at HW ⊢
      have htb : tot ≤ 20000000000000000 := by omega
      have a1 := HS.out.cell 0 rfl 1
      have a2 := HS.out.cell 0 rfl 2
      have a3 := HS.out.cell 0 rfl 3
      clear ht et
      obtain ⟨res, hres⟩ : ∃ r : Nat, r = min tot 400 := ⟨_, rfl⟩
      have hmn : ∀ W, (Builtin.min_ #[3, 3] 3 #[.int .i64 (tot : Int), .int .i64 400]).run Try.prog W = .ok (.int .i64 (res : Int)) W := fun W => by
        rw [run_min_int2]
        have e : (if (400 : Int) < (tot : Int) then (400 : Int) else (tot : Int)) = (res : Int) := by split <;> omega
        first | rw [e] | (simp only [gt_iff_lt]; rw [e])
      rw [← hres] at HW
      clear hres
      go_wp2_with fail
      go_loopw [3, 38] (fun s i wq => i = .int .i64 0 ∧ s = .int .i64 (tot : Int) ∧ wq = wr) (fun _ _ _ => 0)
      case atStart => exact ⟨rfl, rfl, rfl⟩
      case round =>
        obtain ⟨rfl, rfl, rfl⟩ := hrel
        go_wp2_with fail
        go_loopw [3, 66] (fun s i wq => i = .int .i64 0 ∧ s = .int .i64 (tot : Int) ∧ wq = wr) (fun _ _ _ => 0)
        case atStart => exact ⟨rfl, rfl, rfl⟩
        case round =>
          obtain ⟨rfl, rfl, rfl⟩ := hrel
          go_wp2_with fail
          go_ret
          rw [HW.out]
          exact ⟨rfl, HS.out.below⟩
/-- Few: the facts' weights do not go beyond. -/
def fewF : Nat → List Fc → Bool
  | _, [] => true
  | n, f :: l => if 600 < n + (1 + wtF f) then false else fewF (n + (1 + wtF f)) l
theorem wtF_le (f : Fc) : wtF f ≤ 400 := Nat.min_le_right _ _
theorem few_len : ∀ (l : List Fc) (n : Nat), n ≤ 600 → fewF n l = true → n + l.length ≤ 600
  | [], n, hn, _ => by simpa using hn
  | f :: l, n, hn, h => by
    rw [fewF] at h
    split at h
    · cases h
    · rename_i h1
      have := few_len l _ (by omega) h
      rw [List.length_cons]
      omega
set_option maxRecDepth 100000 in
set_option maxHeartbeats 1600000 in
theorem few18_any (v : Value) (l : List Fc) (w : World) (hv : FcsAt w v l) (hm : l.length ≤ 140737488351232) :
    Calls Try.prog 9 #[v] w fun e w' => e = .returned (.bool (fewF 0 l)) ∧ Below w.heap.size w w' := by
  obtain ⟨A, c, rfl, hr⟩ := Rd.isSlice hv.1
  have HA := hide hr
  have HOK := hide hv.2
  obtain ⟨n, hn⟩ : ∃ n, n = l.length := ⟨_, rfl⟩
  have HN := hide hn
  rw [← hn] at HA hm ⊢
  clear hv hr hn
  go_enter Try.func9, Try.ntmps9
  go_wp2_with fail
  go_loopw [3, 8] (fun s i wr => ∃ (k m : Nat), k ≤ n ∧ m ≤ 600 ∧ i = .int .i64 (k : Int) ∧ s = .int .i64 (m : Int) ∧ Hid (fewF m (l.drop k) = fewF 0 l) ∧ Hid (St w NoB wr [])) (fun _ i _ => (n - intOf i).toNat)
  case atStart => exact ⟨0, 0, by omega, by omega, rfl, rfl, hide rfl, hide (St.init _ _)⟩
  case round =>
    obtain ⟨k, m, hk, hm6, rfl, rfl, HX, HS⟩ := hrel
    by_cases hlt : k < n
    · have d : decide ((k : Int) < (n : Int)) = true := by simp; omega
      have d' : decide (k < n) = true := by simp; omega
      have kn : (k : Int) < (n : Int) := by omega
      have kn' : k < n := hlt
      have kl : k < l.length := by have := HN.out; omega
      have hlk : l[k]? = some l[k] := List.getElem?_eq_getElem kl
      obtain ⟨b, o, hAB, hb8, c0, c1, c2⟩ := fc_at (HA.out.st HS.out) hlk
      have hx := HX.out
      rw [List.drop_eq_getElem_cons kl, fewF] at hx
      have HOX := hide (HOK.out l[k] (List.getElem_mem kl))
      generalize l[k] = f at c0 c1 c2 HOX hx
      have HS1 := hide (HS.out.alloc #[.string (strOf f.name), .slice f.A f.ts.length f.c, .int .u32 f.o] 27)
      have HWT := hide (weight_any f _ (HOX.out.on HS1.out.below))
      have hwl := wtF_le f
      generalize wtF f = z at HWT hx hwl
      subst hAB
      unfold Fc.row at c1
      have ew : IntKind.i64.wrap ((m : Int) + (1 + (z : Int))) = ((m + (1 + z) : Nat) : Int) := by rw [IntKind.wrap_i64]; omega
      have HL := hide hlt
      clear hlk kl hlt
      by_cases h6 : 600 < m + (1 + z)
      · have q : decide ((600 : Int) < ((m + (1 + z) : Nat) : Int)) = true := by simp; omega
        have q' : decide (600 < m + (1 + z)) = true := by simp; omega
        have q2 : decide ((600 : Int) < (m : Int) + (1 + (z : Int))) = true := by simp; omega
        rw [if_pos h6] at hx
        have HX2 := hide hx
        clear hx h6
        go_wp2_with (go_at_call 26; (with_reducible refine HWT.out.mono ?_); rintro e w2 ⟨rfl, hb2⟩; have HS2 := hide (HS1.out.call hb2).tail)
        go_ret
        rw [← HX2.out]
        exact ⟨rfl, HS2.out.below⟩
      · have q : decide ((600 : Int) < ((m + (1 + z) : Nat) : Int)) = false := by simp; omega
        have q' : decide (600 < m + (1 + z)) = false := by simp; omega
        have q2 : decide ((600 : Int) < (m : Int) + (1 + (z : Int))) = false := by simp; omega
        rw [if_neg h6] at hx
        have HX2 := hide hx
        have hb6 : m + (1 + z) ≤ 600 := by omega
        clear hx h6
        go_wp2_with (go_at_call 26; (with_reducible refine HWT.out.mono ?_); rintro e w2 ⟨rfl, hb2⟩; have HS2 := hide (HS1.out.call hb2).tail)
        go_roundw
        case rel => exact ⟨k + 1, m + (1 + z), by have := HL.out; omega, hb6, by go_num, by go_num, HX2, HS2⟩
        case measure => (have := HL.out); (simp [intOf]) <;> omega
    · obtain rfl : k = n := by omega
      have d : decide ((k : Int) < (k : Int)) = false := by simp
      have d' : decide (k < k) = false := by simp
      have hx := HX.out
      rw [List.drop_of_length_le (by have := HN.out; omega), fewF] at hx
      have HX2 := hide hx
      clear hx
      go_wp2_with fail
      go_ret
      rw [← HX2.out]
      exact ⟨rfl, HS.out.below⟩
end Go.Proofs.Ythpioncehigoaaa
