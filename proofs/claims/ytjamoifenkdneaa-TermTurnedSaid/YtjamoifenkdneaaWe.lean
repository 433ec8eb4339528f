/-
  Layer 7: Set of no terms; what Set answers, in one sentence; both sets compared.
-/
import Derived.Test.YtjamoifenkdneaaWd
namespace Go.Proofs.Ytjamoifenkdneaa
open Go.RowKit
set_option linter.unusedSimpArgs false

theorem m_len0 {g n c : Nat} {A : Option Addr} {w : World} (hc : w.cell? ⟨g, 0, none⟩ = some (.slice A n c)) :
    (method 187 50 (.pointer (some ⟨g, 0, none⟩)) "Len").run Try.prog w = .ok (39, .slice A n c) w := by
  have e : (loadVar 47 ⟨g, 0, none⟩).run Try.prog w = (load ⟨g, 0, none⟩).run Try.prog w := by kernel_rfl
  rw [m_Len g 186, m_recv, e, run_load, hc]
  rfl
set_option maxRecDepth 100000 in
set_option maxHeartbeats 800000 in
theorem init0_any (g c : Nat) (A : Option Addr) (w : World) (hc : w.cell? ⟨g, 0, none⟩ = some (.slice A 0 c)) :
    Calls Try.prog 38 #[hpV g] w fun e w' => e = .returned (.tuple #[]) ∧ w = w' := by
  have m0 := m_len0 hc
  have HL := hide (fun W => pLen_any A 0 c W)
  unfold hpV
  go_enter Try.func38, Try.ntmps38
  go_wp2_with (go_at_call 39; (with_reducible refine (HL.out _).mono ?_); rintro e w1 ⟨rfl, rfl⟩)
  go_loopw [3] (fun s wr => s = .int .i64 (-1) ∧ w = wr) (fun s _ => (intOf s + 1).toNat)
  case atStart => exact ⟨rfl, rfl⟩
  case round =>
    obtain ⟨rfl, rfl⟩ := hrel
    go_wp2_with fail
    go_end0
    exact ⟨rfl, rfl⟩
set_option maxRecDepth 100000 in
set_option maxHeartbeats 1600000 in
theorem set_nil {w : World} (v : Value) (hv : TmsAt w v []) : Calls Try.prog 24 #[v] w fun e w' => SetRp w [] e w' := by
  obtain ⟨A, c, rfl, hr⟩ := Rd.isSlice hv.1
  have hr : Rd w (.slice A 0 c) 4 0 (tmCells []) := hr
  have hS0 := ((St.init w NoB).alloc #[.slice A 0 c] 22).alloc #[.int .i64 0, .int .i64 0, .string ⟨#[]⟩, .slice none 0 0] 24
  rw [size_alloc1] at hS0
  have HS0 := hide hS0
  have HRD := hide (fun W (h : Below w.heap.size w W) => hr.below h)
  have HCF := hide (fun W (h : St w NoB W [.cells (w.heap.size + 1) #[.int .i64 0, .int .i64 0, .string ⟨#[]⟩, .slice none 0 0] 24, .cells w.heap.size #[.slice A 0 c] 22]) => contF_any 36 enSet #[.pointer (some ⟨w.heap.size, 0, none⟩)] (fun _ => false) (.slice A 0 c) [] W (HRD.out W h.below) (by decide) (fun W2 hW2 x hx => by cases hx))
  have HCL := hide (fun W (h : St w NoB W [.cells (w.heap.size + 1) #[.int .i64 0, .int .i64 0, .string ⟨#[]⟩, .slice none 0 0] 24, .cells w.heap.size #[.slice A 0 c] 22]) => clone_any (.slice A 0 c) [] (HRD.out W h.below) (by decide) h)
  rw [show ([] : List Tm).any (fun _ => false) = false from rfl] at HCF
  rw [show ([] : List Tm).length = 0 from rfl] at HCL
  clear hv hr hS0
  go_enter Try.func24, Try.ntmps24
  go_wp2_with (first
    | (go_at_call 32; (with_reducible refine (HCF.out _ HS0.out).mono ?_); rintro e w1 ⟨rfl, hb1⟩; have HS1 := hide (HS0.out.call hb1); have c1 := HS1.out.cell 1 rfl 0; clear hb1)
    | (go_at_call 37; (with_reducible refine (HCL.out _ HS1.out).mono ?_); rintro e w2 ⟨A', c', rfl, hS2⟩; have HS2 := hide (hS2.alloc #[.slice A' 0 c'] 47); clear hS2; have HIN := hide (init0_any w2.heap.size c' A' _ (HS2.out.cell 0 rfl 0)); unfold hpV at HIN)
    | (go_at_call 38; (with_reducible refine HIN.out.mono ?_); rintro e w3 ⟨rfl, rfl⟩; have HPL := hide (fun W => pLen_any A' 0 c' W)))
  go_loopg [8] (0) (fun left s wr => left = 0 ∧ Hid (St w NoB wr [.cells (w2.heap.size + 1) #[.int .i64 7, .int .i64 0, .string ⟨#[]⟩, .slice none 0 0] 24, .cells w2.heap.size #[.slice A' 0 c'] 47, .row (.slice A' 0 c') 24 4 0 (tmCells []), .cells (w.heap.size + 1) #[.int .i64 0, .int .i64 0, .string ⟨#[]⟩, .slice none 0 0] 24, .cells w.heap.size #[.slice A 0 c] 22]))
  case atStart => exact ⟨rfl, hide (by have h := HS2.out.alloc #[.int .i64 7, .int .i64 0, .string ⟨#[]⟩, .slice none 0 0] 24; rw [size_alloc1] at h; exact h)⟩
  case round =>
    obtain ⟨rfl, HS⟩ := hrel
    have p0 : wr.cell? ⟨w2.heap.size, 0, none⟩ = some (.slice A' 0 c') := HS.out.cell 1 rfl 0
    have q0 := HS.out.cell 0 rfl 0
    have q1 := HS.out.cell 0 rfl 1
    have q2 := HS.out.cell 0 rfl 2
    have q3 := HS.out.cell 0 rfl 3
    go_wp2_with (first
      | (go_at_call 39; (with_reducible refine (HPL.out _).mono ?_); rintro e w4 ⟨rfl, rfl⟩)
      | (refine wl_storeC rfl rfl HS.out 3 rfl (vs := [.int .i64 7, .int .i64 0, .string ⟨#[]⟩, .slice none 0 0]) szTerm (Nat.le_refl _) rfl rfl (by intro u hu; simp only [List.mem_cons, List.not_mem_nil, or_false] at hu; rcases hu with rfl | rfl | rfl | rfl <;> rfl) ?_; intro w5 hS5; have HS5 := hide hS5; clear hS5))
    refine bodyPost_ret (results_cell_tmp_row rfl _ _ (w.heap.size + 1) _ #[.int .i64 7, .int .i64 0, .string ⟨#[]⟩, .slice none 0 0] _ _ rfl (HS5.out.heap 3 rfl) Try.underlying24 rfl (by kernel_rfl)) rfl ?_
    exact ⟨none, 0, rfl, HS5.out.below, rd_nil _ 4, fun x hx => by cases hx⟩
/-- What is refused. -/
noncomputable def refT (l : List Tm) : Bool := decide (16 < l.length) || badL l
/-- What Set answers: refused, or the set s. -/
def SetP (w : World) (l s : List Tm) (e : Ending) (w' : World) : Prop := (refT l = true ∧ SetE w e w') ∨ (refT l = false ∧ SetRp w s e w')
theorem setL_nil : setL [] = [] := by unfold setL; rfl
theorem set_any {w : World} (v : Value) (l : List Tm) (hv : TmsAt w v l) (hm : l.length ≤ 140737488351232) : Calls Try.prog 24 #[v] w fun e w' => SetP w l (setL l) e w' := by
  cases hb : refT l with
  | true =>
    refine (set_err v l hv hm fun h16 => ?_).mono fun e w' h => .inl ⟨hb, h⟩
    unfold refT at hb
    rw [decide_eq_false (by omega), Bool.false_or] at hb
    cases l with
    | nil => cases hb
    | cons y r => exact ⟨y, rfl, hb⟩
  | false =>
    have hb2 := hb
    unfold refT at hb2
    rw [Bool.or_eq_false_iff] at hb2
    have h16 := of_decide_eq_false hb2.1
    cases l with
    | nil =>
      refine (set_nil v hv).mono fun e w' h => .inr ⟨hb, ?_⟩
      rw [setL_nil]
      exact h
    | cons y r =>
      refine (set_ok v (y :: r) hv (by omega) (by simp) fun z hz => ?_).mono fun e w' h => .inr ⟨hb, h⟩
      rw [← badL_of hz]
      exact hb2.2
theorem setRef_any {w : World} (v : Value) (l : List Tm) (hv : TmsAt w v l) (hm : l.length ≤ 140737488351232) : Calls Try.prog 25 #[v] w fun e w' => SetP w l (insA l) e w' := by
  by_cases h16 : 16 < l.length
  · exact (setR_long v l hv hm h16).mono fun e w' h => .inl ⟨by unfold refT; rw [decide_eq_true h16]; rfl, h⟩
  · have e0 : refT l = badL l := by unfold refT; rw [decide_eq_false h16]; rfl
    refine (setR_any v l hv (by omega)).mono fun e w' h => ?_
    unfold SetP
    rw [e0]
    exact h
theorem ddL_len : ∀ (r out : List Tm), (ddL out r).length ≤ out.length + r.length
  | [], out => by rw [ddL]; simp
  | x :: r, out => by
    rw [ddL, List.length_cons]
    cases h : out.getLast? with
    | none =>
      have := ddL_len r [x]
      rw [List.length_singleton] at this
      simp only
      omega
    | some y =>
      simp only
      split
      · have := ddL_len r out
        omega
      · have := ddL_len r (out ++ [x])
        rw [List.length_append, List.length_singleton] at this
        omega
theorem popA_len : ∀ (n : Nat) (l : List Tm), (popA n l).length = n
  | 0, _ => rfl
  | n + 1, l => by rw [popA, List.length_cons, popA_len n]
theorem setL_len (l : List Tm) : (setL l).length ≤ l.length := by
  unfold setL
  have := ddL_len (popA l.length (hpI (l.length / 2) l l.length)) []
  rw [popA_len] at this
  simpa using this
theorem insF_len : ∀ (l out : List Tm), (l.foldl insL out).length ≤ out.length + l.length
  | [], out => by simp
  | x :: l, out => by
    rw [List.foldl_cons, List.length_cons]
    have := insF_len l (insL out x)
    have := insL_len out x
    omega
theorem insA_len (l : List Tm) : (insA l).length ≤ l.length := by
  have := insF_len l []
  unfold insA
  simpa using this
/-- A term of these. -/
def tS (B : Option Addr) (d : Nat) (s : List Tm) : Tm := .mk 7 0 [] B d s
theorem tS_ok {w : World} {B : Option Addr} {d : Nat} {s : List Tm} (h : TmsAt w (.slice B s.length d) s) (hl : s.length ≤ 140737488351232) : TmOK w (tS B d s) :=
  .mk _ h.1 ⟨(show I64 7 from ⟨by decide, by decide⟩), (show I64 0 from ⟨by decide, by decide⟩), by simp [tS, Tm.s], hl⟩ h.2
def t0S : Tm := .mk 0 0 [] none 0 []
theorem t0S_ok (w : World) : TmOK w t0S := .mk _ (rd_nil w 4) ⟨(show I64 0 from ⟨by decide, by decide⟩), (show I64 0 from ⟨by decide, by decide⟩), by simp [t0S, Tm.s], by simp [t0S, Tm.l]⟩ (fun x hx => by cases hx)
theorem mayE_flat {t : Tm} (h : mayE t = true) : t.l = [] := by
  have key : t.l.length = 0 := by
    unfold mayE at h
    repeat' split at h
    all_goals first
      | exact absurd h Bool.false_ne_true
      | (simp only [Bool.and_eq_true, decide_eq_true_eq] at h
         first
          | exact h.2.2
          | exact h.2
          | exact h.2.2.2)
  exact List.eq_nil_of_length_eq_zero key
/-- Those that a set takes hold nothing. -/
theorem good_flat {l : List Tm} (h : badL l = false) : ∀ x ∈ l, fixT x = true ∧ x.k ≠ 7 ∧ x.l = [] ∧ ∀ y ∈ l, x.k = y.k := by
  cases l with
  | nil => intro x hx; cases hx
  | cons y r =>
    have h' : ∀ x ∈ y :: r, badT y.k x = false := fun x hx => by
      have := List.any_eq_false.1 (show (y :: r).any (badT y.k) = false from h) x hx
      simpa using this
    have key : ∀ x ∈ y :: r, fixT x = true ∧ x.k ≠ 7 ∧ x.k = y.k := fun x hx => by
      have := h' x hx
      unfold badT at this
      rw [Bool.or_eq_false_iff, Bool.or_eq_false_iff] at this
      refine ⟨by simpa using this.1, of_decide_eq_false this.2.1, ?_⟩
      have := of_decide_eq_false this.2.2
      exact Decidable.byContradiction this
    intro x hx
    obtain ⟨k1, k2, k3⟩ := key x hx
    refine ⟨k1, k2, ?_, fun z hz => k3.trans (key z hz).2.2.symm⟩
    have h1 : x.k ≠ 1 := fun e => by rw [fixT_1 e] at k1; cases k1
    rw [fixT_e h1 k2] at k1
    exact mayE_flat k1
theorem cmpT_flat {x y : Tm} (hx : x.l = []) (hy : y.l = []) (d : Nat) : cmpT d x y = cmp0 x y := by
  cases d with
  | zero => rfl
  | succ d =>
    rw [cmpT, hx, hy, cmpL, orI]
    split
    · rename_i h; exact h.symm
    · rfl
theorem strNil : strOf [] = ⟨#[]⟩ := by rw [strOf_eq]
theorem tS_val (B : Option Addr) (d : Nat) (s : List Tm) : (tS B d s).val = .agg #[.int .i64 7, .int .i64 0, .string ⟨#[]⟩, .slice B s.length d] := by
  unfold Tm.val Tm.row
  show Value.agg #[.int .i64 7, .int .i64 0, .string (strOf []), .slice B s.length d] = _
  rw [strNil]
theorem t0S_val : t0S.val = .agg #[.int .i64 0, .int .i64 0, .string ⟨#[]⟩, .slice none 0 0] := by
  unfold Tm.val Tm.row
  show Value.agg #[.int .i64 0, .int .i64 0, .string (strOf []), .slice none 0 0] = _
  rw [strNil]
theorem eqT_len : ∀ {a b : List Tm}, EqT a b → a.length = b.length
  | [], [], _ => rfl
  | x :: a, y :: b, h => by rw [List.length_cons, List.length_cons, eqT_len h.2]
  | [], _ :: _, h => h.elim
  | _ :: _, [], h => h.elim
theorem eqT_cmp (d : Nat) : ∀ {a b : List Tm}, EqT a b → (∀ x ∈ a, x.l = []) → (∀ x ∈ b, x.l = []) → cmpL (cmpT d) a b = 0
  | [], [], _, _, _ => rfl
  | x :: a, y :: b, h, ha, hb => by
    have e : cmpT d x y = 0 := by
      rw [cmpT_flat (ha x (List.mem_cons_self ..)) (hb y (List.mem_cons_self ..))]
      have := h.1
      unfold cmpA at this
      rw [cmpT_flat (ha x (List.mem_cons_self ..)) (hb y (List.mem_cons_self ..))] at this
      exact this
    rw [cmpL, e, orI, if_pos rfl]
    exact eqT_cmp d h.2 (fun z hz => ha z (List.mem_cons_of_mem _ hz)) (fun z hz => hb z (List.mem_cons_of_mem _ hz))
  | [], _ :: _, h, _, _ => h.elim
  | _ :: _, [], h, _, _ => h.elim
theorem tS_same {B B' : Option Addr} {d d' : Nat} {a b : List Tm} (h : EqT a b) (ha : ∀ x ∈ a, x.l = []) (hb : ∀ x ∈ b, x.l = []) : samT (tS B d a) (tS B' d' b) = true := by
  unfold samT cmpA
  rw [cmpT]
  have e : cmp0 (tS B d a) (tS B' d' b) = 0 := cmp0_z rfl rfl rfl
  rw [e, orI, if_pos rfl]
  exact decide_eq_true (eqT_cmp 2 h ha hb)
theorem eqT_any {a b : List Tm} (h : EqT a b) (t : Tm) : a.any (fun x => samT x t) = b.any (fun x => samT x t) := by
  induction a generalizing b with
  | nil => cases b with
    | nil => rfl
    | cons y b => exact h.elim
  | cons x a ih => cases b with
    | nil => exact h.elim
    | cons y b =>
      rw [List.any_cons, List.any_cons, ih h.2]
      congr 1
      unfold samT
      rw [cmpA_ord.eq_l h.1]
end Go.Proofs.Ytjamoifenkdneaa
