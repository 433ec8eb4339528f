/-
  Layer 7: the walk of TermTurned.
-/
import Derived.Test.YtjamoifenkdneaaWf
namespace Go.Proofs.Ytjamoifenkdneaa
open Go.RowKit
set_option linter.unusedSimpArgs false

theorem szF_len (g : List Tm → Nat → Nat) (z : Bool) (hg : z = false → ∀ l n, g l n < 100 → n ≤ g l n) : ∀ (l : List Tm) (n : Nat), szF g z l n < 100 → n + l.length ≤ szF g z l n
  | [], n, _ => by rw [szF]; simp
  | t :: l, n, h => by
    rw [szF] at h ⊢
    rw [List.length_cons]
    split
    · rename_i h1
      rw [if_pos h1] at h
      split
      · rename_i hz
        rw [if_pos hz] at h
        split
        · rename_i h2; rw [if_pos h2] at h; omega
        · rename_i h2
          rw [if_neg h2] at h
          have := szF_len g z hg l _ h
          omega
      · rename_i hz
        rw [if_neg hz] at h
        split
        · rename_i h2; rw [if_pos h2] at h; omega
        · rename_i h2
          rw [if_neg h2] at h
          have := szF_len g z hg l _ h
          have := hg (by cases z <;> simp_all) t.l (n + (1 + t.s.length / 1000)) (by omega)
          omega
    · rename_i h1
      rw [if_neg h1] at h
      omega
theorem szT_len : ∀ (d : Nat) (l : List Tm) (n : Nat), szT d l n < 100 → n + l.length ≤ szT d l n
  | 0, l, n, h => szF_len _ _ (fun h => by cases h) l n h
  | d + 1, l, n, h => szF_len _ _ (fun _ l' n' h' => by have := szT_len d l' n' h'; omega) l n h
theorem badT_of {x : Tm} {k : Int} (h1 : fixT x = true) (h2 : x.k ≠ 7) (h3 : x.k = k) : badT k x = false := by
  unfold badT
  rw [h1, decide_eq_false h2, decide_eq_false (by simp [h3])]
  rfl
theorem badL_sub {l s : List Tm} (h : badL l = false) (hs : ∀ x ∈ s, x ∈ l) : badL s = false := by
  cases s with
  | nil => rfl
  | cons y r =>
    refine List.any_eq_false.2 fun x hx => ?_
    obtain ⟨h1, h2, _, h3⟩ := good_flat h x (hs x hx)
    rw [badT_of h1 h2 (h3 y (hs y (List.mem_cons_self ..)))]
    exact Bool.false_ne_true
theorem mem_rot (l : List Tm) (k : Nat) (x : Tm) : x ∈ l.drop k ++ l.take k ↔ x ∈ l := by
  conv => rhs; rw [← List.take_append_drop k l]
  rw [List.mem_append, List.mem_append, or_comm]
theorem len_rot (l : List Tm) (k : Nat) : (l.drop k ++ l.take k).length = l.length := by
  rw [List.length_append, List.length_drop, List.length_take]
  omega
theorem refT_rot (l : List Tm) (k : Nat) : refT (l.drop k ++ l.take k) = refT l := by
  unfold refT
  rw [len_rot]
  congr 1
  cases h : badL l with
  | false => exact badL_sub h fun x hx => (mem_rot l k x).1 hx
  | true =>
    cases h' : badL (l.drop k ++ l.take k) with
    | true => rfl
    | false => rw [badL_sub h' fun x hx => (mem_rot l k x).2 hx] at h; cases h
theorem refT_set {l : List Tm} (h : refT l = false) : refT (setL l) = false := by
  unfold refT at h ⊢
  obtain ⟨h1, h2⟩ := Bool.or_eq_false_iff.1 h
  have := of_decide_eq_false h1
  have := setL_len l
  rw [decide_eq_false (by omega), badL_sub h2 (setL_law l).2.1]
  rfl
theorem set_idem (l : List Tm) : EqT (setL (setL l)) (setL l) := by
  obtain ⟨p1, _, _⟩ := setL_law l
  obtain ⟨q1, q2, q3⟩ := setL_law (setL l)
  exact ris_eq _ _ q1 p1 (fun x hx => ⟨x, q2 x hx, cmpA_ord.self x⟩) (fun y hy => q3 y hy)
theorem ris_up : ∀ (l : List Tm), Ris l → ∀ (i : Nat) (x y : Tm), l[i]? = some x → l[i + 1]? = some y → cmpA x y < 0
  | [], _, i, x, y, h, _ => by simp at h
  | a :: l, hr, 0, x, y, h, h' => by
    simp only [List.getElem?_cons_zero, Option.some.injEq] at h
    rw [← h]
    exact hr.1 y (List.mem_of_getElem? (by simpa using h'))
  | a :: l, hr, i + 1, x, y, h, h' => ris_up l hr.2 i x y (by simpa using h) (by simpa using h')
theorem may_set {l : List Tm} (h : refT l = false) (B : Option Addr) (d : Nat) : mayT (tS B d (setL l)) = true := by
  unfold refT at h
  obtain ⟨h1, h2⟩ := Bool.or_eq_false_iff.1 h
  have h16 := of_decide_eq_false h1
  have hl := setL_len l
  obtain ⟨p1, p2, _⟩ := setL_law l
  have hr : risT (setL l) = true := (risT_iff _).2 ⟨by omega, fun x hx => by
      obtain ⟨k1, k2, _, _⟩ := good_flat h2 x (p2 x hx)
      have hn : x.k ≠ 1 := fun e => by rw [fixT_1 e] at k1; cases k1
      exact ⟨by rw [← fixT_e hn k2]; exact k1, hn, k2⟩,
    fun x hx y hy => (good_flat h2 x (p2 x hx)).2.2.2 y (p2 y hy), ris_up _ p1⟩
  unfold mayT
  have e1 : (tS B d (setL l)).k = 7 := rfl
  have e2 : (tS B d (setL l)).n = 0 := rfl
  have e3 : (tS B d (setL l)).s = [] := rfl
  have e4 : (tS B d (setL l)).l = setL l := rfl
  rw [if_pos e1, e2, e3, e4, hr]
  rfl
theorem has_mem {l : List Tm} {x : Tm} (hx : x ∈ l) : (setL l).any (fun y => samT y x) = true := by
  obtain ⟨y, hy, e⟩ := (setL_law l).2.2 x hx
  exact List.any_eq_true.2 ⟨y, hy, decide_eq_true e⟩
theorem St.row0 {w0 w : World} {M : Nat → Prop} {H : List Chunk} (hS : St w0 M w H) (e : TypeId) (size : Nat) : St w0 M (w.alloc (.cells #[] e)) (.row (.slice (some ⟨w.heap.size, 0, none⟩) 0 0) e size 0 [] :: H) :=
  hS.row ((Below.refl w.heap.size w).alloc (Nat.le_refl _) _) ⟨by simp, .inr ⟨w.heap.size, 0, #[], rfl, Nat.le_refl _, by show (w.heap.push _)[w.heap.size]? = _; simp, Nat.le_refl _, by decide, by simp, by simp⟩⟩
set_option maxRecDepth 100000 in
set_option maxHeartbeats 1600000 in
theorem termTurned_ref (l : List Tm) (turn : Int) (v : Value) (w : World) (hv : TmsAt w v l) (hm : l.length ≤ 140737488351232) (hrf : szT 6 l 0 < 100 → refT l = true) :
    Calls Try.prog 8 #[v, .int .i64 turn] w fun e w' => e = .returned (.bool true) ∧ Below w.heap.size w w' := by
  obtain ⟨A, c, rfl, hr⟩ := Rd.isSlice hv.1
  have HS := hide (St.init w NoB)
  have HSZ := hide (size_any 6 (by omega) (.slice A l.length c) l 0 w (by decide) hv hm)
  rw [show ((0 : Nat) : Int) = 0 from rfl, show ((6 : Nat) : Int) = 6 from rfl] at HSZ
  have s1 : szT 6 l 0 ≤ 100 := szT_le 6 l 0 (by omega)
  have HAW := hide (fun W => awake7_any W)
  have HZS := hide (fun W => sameR_any t0S t0S W (t0S_ok W) (t0S_ok W))
  rw [t0S_val, t0S_same] at HZS
  by_cases h1 : 100 ≤ szT 6 l 0
  · have d1 : decide ((100 : Int) ≤ (szT 6 l 0 : Int)) = true := by simp; omega
    have d1' : decide (100 ≤ szT 6 l 0) = true := by simp; omega
    generalize szT 6 l 0 = za at *
    obtain ⟨n, hn⟩ : ∃ n, n = l.length := ⟨_, rfl⟩
    rw [← hn] at HSZ hm ⊢
    clear hn hv hr hrf h1 HZS
    go_enter Try.func8, Try.ntmps8
    go_wp2_with (first | (go_at_call 23; (with_reducible refine HSZ.out.mono ?_); rintro e w1 ⟨rfl, hb⟩; have HS := hide (HS.out.call hb)) | (go_at_call 10; (with_reducible refine (HAW.out _).mono ?_); rintro e w' ⟨rfl, hb⟩; have HB := hide (HS.out.below.trans (hb.mono HS.out.below.size))))
    go_ret
    exact ⟨rfl, HB.out⟩
  have d1 : decide ((100 : Int) ≤ (szT 6 l 0 : Int)) = false := by simp; omega
  have d1' : decide (100 ≤ szT 6 l 0) = false := by simp; omega
  have hrf := hrf (by omega)
  have HSA2 := hide (fun W (h : Below w.heap.size w W) => (set_any (.slice A l.length c) l (hv.on h) hm).mono fun e w' h => (show SetE W e w' by
      rcases h with ⟨_, h⟩ | ⟨h, _⟩
      · exact h
      · rw [hrf] at h; cases h))
  have hn6 : l.length ≤ 4294967296 := by have := szT_len 6 l 0 (by omega); omega
  have hn0 : 0 < l.length := by
    cases l with
    | nil => unfold refT at hrf; cases hrf
    | cons y r => simp
  obtain ⟨n, hn⟩ : ∃ n, n = l.length := ⟨_, rfl⟩
  rw [← hn] at hn0 hn6
  obtain ⟨k, eK⟩ : ∃ Y : Nat, IntKind.u64.wrap turn % (n : Int) = (Y : Int) := ⟨(IntKind.u64.wrap turn % (n : Int)).toNat, by
    have := Int.emod_nonneg (IntKind.u64.wrap turn) (show (n : Int) ≠ 0 by omega)
    omega⟩
  have hK : k < n := by
    have := Int.emod_lt_of_pos (IntKind.u64.wrap turn) (show (0 : Int) < (n : Int) by omega)
    omega
  have tK : (IntKind.u64.wrap turn).tmod (n : Int) = (k : Int) := by rw [Int.tmod_eq_emod_of_nonneg (by rw [IntKind.wrap_u64]; omega)]; exact eK
  have hcap := rd_nilcap hr
  rw [← hn] at hcap
  have tk := fun W => run_takeG (t := 22) (P := Try.prog) Try.underlying22 szTm4 A n c k (by omega) hcap.2 W
  have dr := fun W => run_dropG (t := 22) (P := Try.prog) Try.underlying22 szTm4 A n c k (by omega) W
  obtain ⟨sv, hsv⟩ : ∃ v, v = sliced A k n c 4 := ⟨_, rfl⟩
  rw [← hsv] at dr
  have HR1 := hide (fun W (h : Below w.heap.size w W) => rd_dropT (hr.below h) k (by omega))
  rw [← hn, ← hsv] at HR1
  clear hsv
  have HR2 := hide (fun W (h : Below w.heap.size w W) => rd_takeT (hr.below h) k (by omega))
  have HSB2 := hide (fun W B d (h : Below w.heap.size w W) (hR : Rd W (.slice B (l.drop k ++ l.take k).length d) 4 (l.drop k ++ l.take k).length (tmCells (l.drop k ++ l.take k))) => (set_any (.slice B (l.drop k ++ l.take k).length d) (l.drop k ++ l.take k) ⟨hR, fun x hx => (hv.2 x ((mem_rot l k x).1 hx)).on h⟩ (by rw [len_rot]; exact hm)).mono fun e w' h => (show SetE W e w' by
      rcases h with ⟨_, h⟩ | ⟨h, _⟩
      · exact h
      · rw [refT_rot, hrf] at h; cases h))
  have HRW : Hid (tmCells (l.drop k) ++ tmCells (l.take k) = tmCells (l.drop k ++ l.take k)) := hide (by unfold tmCells; rw [List.flatMap_append])
  have hnk : n - k + k = n := by omega
  have n0 : (0 : Int) < (n : Int) := by omega
  have dn0 : decide ((0 : Int) < (n : Int)) = true := by simp; omega
  have dn0' : decide (0 < n) = true := by simp; omega
  rw [len_rot] at HSB2
  rw [← hn] at HSZ hm HSA2 HSB2 ⊢
  generalize szT 6 l 0 = za at *
  unfold SetE at HSA2 HSB2
  clear hv hr hrf h1 hn eK hcap
  go_enter Try.func8, Try.ntmps8
  go_wp2_with (first
    | (go_at_call 23; (with_reducible refine HSZ.out.mono ?_); rintro e w1 ⟨rfl, hb⟩; have HS := hide (HS.out.call hb))
    | (go_at_call 24; (with_reducible refine (HSA2.out _ HS.out.below).mono ?_); rintro e w1 ⟨rfl, hb⟩; have HS := hide ((HS.out.call hb).alloc #[.int .i64 0, .int .i64 0, .string ⟨#[]⟩, .slice none 0 0] 24)))
  refine wp_region_T [(1, 1), (2, 1), (3, 1), (5, 1), (6, 1), (7, 1), (0, 2), (4, 3), (8, 4), (9, 1)] (by kernel_rfl) (by kernel_rfl) (fun _ _ _ _ h => h) ?_
  have HS := hide HS.out.drew
  generalize (w1.alloc (.cells #[.int .i64 0, .int .i64 0, .string ⟨#[]⟩, .slice none 0 0] 24)).drew = wm at HS ⊢
  have HS0 := hide ((St.init wm NoB).row0 24 4)
  have hb0 : Below wm.heap.size wm (wm.alloc (.cells #[] 24)) := (Below.refl _ _).al _
  go_wp2_with (first
      | (refine wpT_late rfl rfl ?_; intro K hK; refine wp_append (n := 0) rfl rowTm HS0.out 0 rfl rfl rfl (HR1.out _ (HS.out.call HS0.out.below).below) (tmCells_one _) (by omega) (by decide) ?_; intro A1 c1 w8 hS8; rw [Nat.zero_add, List.nil_append] at hS8; have HS8 := hide hS8; clear hS8; rw [Nat.zero_add])
      | (refine wpT_any rfl rfl ?_; intro K hK; refine wp_append (n := n - k) rfl rowTm HS8.out 0 rfl rfl rfl (HR2.out _ (HS.out.call HS8.out.below).below) (tmCells_one _) (by omega) (by decide) ?_; intro A2 c2 w9 hS9; rw [hnk, HRW.out] at hS9; have HRM := hide (hS9.rd 0 rfl); have HS9 := hide hS9.below; have HS := hide (HS.out.call hS9.below); clear hS9; rw [hnk])
      | (refine wpT_nil ?_)   | ((with_reducible refine fromT_refl ?_); (try simp only [Act.put, List.setIfInBounds_toArray, List.set_cons_zero, List.set_cons_succ, List.getElem_toArray, List.getElem_cons_succ, List.getElem_cons_zero]))   | ((with_reducible refine fromT_mk (by assumption) ?_); (try simp only [Act.put, List.setIfInBounds_toArray, List.set_cons_zero, List.set_cons_succ, List.getElem_toArray, List.getElem_cons_succ, List.getElem_cons_zero]))   | (refine wpT_pure (v := ?_) rfl rfl ?_ ?_; rotate_left; (intro wx; go_simp; try go_bits) <;> (with_reducible rfl); (try simp only [Act.put, List.setIfInBounds_toArray, List.set_cons_zero, List.set_cons_succ, List.getElem_toArray, List.getElem_cons_succ, List.getElem_cons_zero]))   | (refine wpT_load (v := ?_) rfl rfl rfl ?_ ?_; rotate_left; (go_simp; try go_bits) <;> (with_reducible rfl); (try simp only [Act.put, List.setIfInBounds_toArray, List.set_cons_zero, List.set_cons_succ, List.getElem_toArray, List.getElem_cons_succ, List.getElem_cons_zero]))   | (refine wpT_read (v := ?_) rfl rfl ?_ ?_; rotate_left; (intro wx hx; go_simp; try go_bits) <;> (with_reducible rfl); (try simp only [Act.put, List.setIfInBounds_toArray, List.set_cons_zero, List.set_cons_succ, List.getElem_toArray, List.getElem_cons_succ, List.getElem_cons_zero]))   | (refine wpT_call rfl rfl ?_; intro K hK)   | (refine wpT_late rfl rfl ?_; intro K hK)   | (refine wpT_any rfl rfl ?_; intro K hK)   | (refine wpT_skip rfl rfl ?_; (try simp only [Act.put, List.setIfInBounds_toArray, List.set_cons_zero, List.set_cons_succ, List.getElem_toArray, List.getElem_cons_succ, List.getElem_cons_zero])))
  go_wp2_with (first
    | (go_at_call 24; (with_reducible refine (HSB2.out _ A2 c2 HS.out.below HRM.out).mono ?_); rintro e w10 ⟨rfl, hb⟩; have HS := hide ((HS.out.call hb).alloc #[.int .i64 0, .int .i64 0, .string ⟨#[]⟩, .slice none 0 0] 24); have a0 := HS.out.cell 1 rfl 0; have a1 := HS.out.cell 1 rfl 1; have a2 := HS.out.cell 1 rfl 2; have a3 := HS.out.cell 1 rfl 3; have b0 := HS.out.cell 0 rfl 0; have b1 := HS.out.cell 0 rfl 1; have b2 := HS.out.cell 0 rfl 2; have b3 := HS.out.cell 0 rfl 3)
    | (go_at_call 17; (with_reducible refine (HZS.out _).mono ?_); rintro e w11 ⟨rfl, hb⟩; have HS := hide (HS.out.call hb); have a0 := HS.out.cell 1 rfl 0; have a1 := HS.out.cell 1 rfl 1; have a2 := HS.out.cell 1 rfl 2; have a3 := HS.out.cell 1 rfl 3)
    | (go_at_call 10; (with_reducible refine (HAW.out _).mono ?_); rintro e w' ⟨rfl, hb⟩; have HB := hide (HS.out.below.trans (hb.mono HS.out.below.size))))
  go_ret
  exact ⟨rfl, HB.out⟩
set_option maxRecDepth 100000 in
set_option maxHeartbeats 1600000 in
theorem termTurned_nil (turn : Int) (v : Value) (w : World) (hv : TmsAt w v []) (hm : ([] : List Tm).length ≤ 140737488351232) (hrf : refT [] = false) (h1 : szT 6 [] 0 < 100) :
    Calls Try.prog 8 #[v, .int .i64 turn] w fun e w' => e = .returned (.bool true) ∧ Below w.heap.size w w' := by
  obtain ⟨l, hl⟩ : ∃ l : List Tm, l = [] := ⟨_, rfl⟩
  rw [← hl] at hv hm hrf h1
  obtain ⟨A, c, rfl, hr⟩ := Rd.isSlice hv.1
  have HS := hide (St.init w NoB)
  have HA := hide hr
  have HSZ := hide (size_any 6 (by omega) (.slice A l.length c) l 0 w (by decide) hv hm)
  rw [show ((0 : Nat) : Int) = 0 from rfl, show ((6 : Nat) : Int) = 6 from rfl] at HSZ
  have HAW := hide (fun W => awake7_any W)
  have d1 : decide ((100 : Int) ≤ (szT 6 l 0 : Int)) = false := by simp; omega
  have d1' : decide (100 ≤ szT 6 l 0) = false := by simp; omega
  have s1 : szT 6 l 0 ≤ 100 := szT_le 6 l 0 (by omega)
  have hrf2 := hrf
  unfold refT at hrf2
  obtain ⟨h16, hbl⟩ := Bool.or_eq_false_iff.1 hrf2
  have h16 := of_decide_eq_false h16
  have hpl := setL_len l
  have hfl := good_flat hbl
  have hfa : ∀ x ∈ setL l, x.l = [] := fun x hx => (hfl x ((setL_law l).2.1 x hx)).2.2.1
  have hfc : ∀ x ∈ setL (setL l), x.l = [] := fun x hx => hfa x ((setL_law (setL l)).2.1 x hx)
  have hec := set_idem l
  have HSA2 := hide (fun W (h : Below w.heap.size w W) => (set_any (.slice A l.length c) l (hv.on h) hm).mono fun e w' h => (show SetRp W (setL l) e w' by
      rcases h with ⟨h, _⟩ | ⟨_, h⟩
      · rw [hrf] at h; cases h
      · exact h))
  have HSC2 := hide (fun W B d (h : TmsAt W (.slice B (setL l).length d) (setL l)) => (set_any (.slice B (setL l).length d) (setL l) h (by omega)).mono fun e w' h => (show SetRp W (setL (setL l)) e w' by
      rcases h with ⟨h, _⟩ | ⟨_, h⟩
      · rw [refT_set hrf] at h; cases h
      · exact h))
  have HHA := hide (fun W B d x (h : TmsAt W (.slice B (setL l).length d) (setL l)) (hx : x ∈ l) (hb : Below w.heap.size w W) => has_any (tS B d (setL l)) x W (tS_ok h (by omega)) ((hv.2 x hx).on hb))
  simp only [tS_val, hasT_set] at HHA
  have HHA := hide (fun W B d x (h : TmsAt W (.slice B (setL l).length d) (setL l)) (hx : x ∈ l) (hb : Below w.heap.size w W) => (HHA.out W B d x h hx hb).mono fun e w' h => (show e = .returned (.bool true) ∧ Below W.heap.size W w' by rw [has_mem hx] at h; exact h))
  have HMY := hide (fun W B d (h : TmsAt W (.slice B (setL l).length d) (setL l)) => may_any (tS_ok h (by omega)) W (Below.refl _ _))
  have HSN := hide (fun W B d B' d' (h : TmsAt W (.slice B (setL (setL l)).length d) (setL (setL l))) (h' : TmsAt W (.slice B' (setL l).length d') (setL l)) => sameR_any (tS B d (setL (setL l))) (tS B' d' (setL l)) W (tS_ok h (by rw [eqT_len hec]; omega)) (tS_ok h' (by omega)))
  simp only [tS_val, may_set hrf] at HMY
  simp only [tS_val, tS_same hec hfc hfa] at HSN
  unfold SetRp at HSA2 HSC2
  rw [eqT_len hec] at HSC2 HSN
  obtain ⟨n, hn⟩ : ∃ n, n = l.length := ⟨_, rfl⟩
  have hn0 : n = 0 := by rw [hn, hl]; rfl
  have HN := hide hn
  rw [← hn] at HSZ HSA2 HA hm hpl ⊢
  obtain ⟨p, hp⟩ : ∃ p, p = (setL l).length := ⟨_, rfl⟩
  rw [← hp] at HSA2 HSC2 HHA HMY HSN hpl
  generalize szT 6 l 0 = za at *
  generalize setL l = sa at *
  generalize setL sa = sc at *
  have dn0 : decide ((0 : Int) < (n : Int)) = false := by simp; omega
  have dn0' : decide (0 < n) = false := by simp; omega
  have dpn : decide ((p : Int) ≤ (n : Int)) = true := by simp; omega
  have dpn' : decide (p ≤ n) = true := by simp; omega
  clear hv hr hrf h1 hn hec hfa hfc hfl hbl hrf2 hp hl hn0
  go_enter Try.func8, Try.ntmps8
  go_wp2_with (first | (go_at_call 23; (with_reducible refine HSZ.out.mono ?_); rintro e w1 ⟨rfl, hb⟩; have HS := hide (HS.out.call hb)) | (go_at_call 24; (with_reducible refine (HSA2.out _ HS.out.below).mono ?_); rintro e w1 ⟨B, d, rfl, hb, hT⟩; have HS := hide ((HS.out.call hb).alloc #[.int .i64 7, .int .i64 0, .string ⟨#[]⟩, .slice B p d] 24); have HTA := hide (hT.on ((Below.refl _ _).al (.cells #[.int .i64 7, .int .i64 0, .string ⟨#[]⟩, .slice B p d] 24))); clear hT hb; have a0 := HS.out.cell 0 rfl 0; have a1 := HS.out.cell 0 rfl 1; have a2 := HS.out.cell 0 rfl 2; have a3 := HS.out.cell 0 rfl 3))
  obtain ⟨pa, hpa⟩ : ∃ g, g = w1.heap.size := ⟨_, rfl⟩
  rw [← hpa] at HS ⊢
  clear hpa a0 a1 a2 a3
  go_loopw [70] (fun i wr => ∃ k : Nat, k ≤ n ∧ i = .int .i64 (k : Int) ∧ Hid (St w NoB wr [.cells pa #[.int .i64 7, .int .i64 0, .string ⟨#[]⟩, .slice B p d] 24]) ∧ Hid (TmsAt wr (.slice B p d) sa)) (fun i _ => (n - intOf i).toNat)
  case atStart => exact ⟨0, by omega, rfl, HS, HTA⟩
  case round =>
    clear HS HTA
    obtain ⟨k, hk, rfl, HS, HTA⟩ := hrel
    have a0 := HS.out.cell 0 rfl 0
    have a1 := HS.out.cell 0 rfl 1
    have a2 := HS.out.cell 0 rfl 2
    have a3 := HS.out.cell 0 rfl 3
    by_cases hlt : k < n
    · have hd : decide ((k : Int) < (n : Int)) = true := by simp; omega
      have hkl : k < l.length := by have := HN.out; omega
      obtain ⟨b, o, rfl, hb8, hc⟩ := tm_at HA.out (List.getElem?_eq_getElem hkl)
      obtain ⟨c0, c1, c2, c3⟩ := hc _ HS.out.below
      have HC := hide hc
      have HHX := hide (fun W B d (h : TmsAt W (.slice B p d) sa) (hb : Below w.heap.size w W) => HHA.out W B d l[k] h (List.getElem_mem hkl) hb)
      generalize l[k] = x at c0 c1 c2 c3 HC HHX
      have kn : (k : Int) < (n : Int) := by omega
      have hbr : b < wr.heap.size := by have := HS.out.below.size; omega
      unfold Tm.val Tm.row at HHX
      unfold Tm.row at c3
      have HL := hide hlt
      clear hc hkl hlt
      have HS1 := hide (HS.out.alloc #[.int .i64 x.k, .int .i64 x.n, .string (strOf x.s), .slice x.A x.l.length x.c] 24)
      have HTA1 := hide (HTA.out.on ((Below.refl _ _).al (.cells #[.int .i64 x.k, .int .i64 x.n, .string (strOf x.s), .slice x.A x.l.length x.c] 24)))
      have e0 := HS1.out.cell 1 rfl 0
      have e1 := HS1.out.cell 1 rfl 1
      have e2 := HS1.out.cell 1 rfl 2
      have e3 := HS1.out.cell 1 rfl 3
      have hpa : pa < wr.heap.size := World.block_lt_of_cell? _ _ a0
      go_wp2_with (go_at_call 20; (with_reducible refine (HHX.out _ B d HTA1.out HS1.out.below).mono ?_); rintro e w4 ⟨rfl, hb⟩; have HS2 := hide (HS1.out.call hb).tail; have HTA2 := hide (HTA1.out.on hb))
      go_roundw
      case rel => exact ⟨k + 1, by have := HL.out; omega, by go_num, HS2, HTA2⟩
      case measure => (have := HL.out); (simp [intOf]) <;> omega
    · obtain rfl : k = n := by omega
      have hd : decide ((k : Int) < (k : Int)) = false := by simp
      go_wp2_with (first
        | (go_at_call 24; (with_reducible refine (HSC2.out _ B d HTA.out).mono ?_); rintro e w5 ⟨B5, d5, rfl, hb, hT⟩; have HS := hide ((HS.out.call hb).alloc #[.int .i64 7, .int .i64 0, .string ⟨#[]⟩, .slice B5 p d5] 24); have HTA := hide ((HTA.out.on hb).on ((Below.refl _ _).al (.cells #[.int .i64 7, .int .i64 0, .string ⟨#[]⟩, .slice B5 p d5] 24))); have HTC := hide (hT.on ((Below.refl _ _).al (.cells #[.int .i64 7, .int .i64 0, .string ⟨#[]⟩, .slice B5 p d5] 24))); clear hT hb; have a0 := HS.out.cell 1 rfl 0; have a1 := HS.out.cell 1 rfl 1; have a2 := HS.out.cell 1 rfl 2; have a3 := HS.out.cell 1 rfl 3; have c0 := HS.out.cell 0 rfl 0; have c1 := HS.out.cell 0 rfl 1; have c2 := HS.out.cell 0 rfl 2; have c3 := HS.out.cell 0 rfl 3)
        | (go_at_call 14; (with_reducible refine (HMY.out _ B d HTA.out).mono ?_); rintro e w6 ⟨rfl, hb⟩; have HS := hide (HS.out.call hb); have HTA := hide (HTA.out.on hb); have HTC := hide (HTC.out.on hb); have a0 := HS.out.cell 1 rfl 0; have a1 := HS.out.cell 1 rfl 1; have a2 := HS.out.cell 1 rfl 2; have a3 := HS.out.cell 1 rfl 3; have c0 := HS.out.cell 0 rfl 0; have c1 := HS.out.cell 0 rfl 1; have c2 := HS.out.cell 0 rfl 2; have c3 := HS.out.cell 0 rfl 3)
        | (go_at_call 17; (with_reducible refine (HSN.out _ B5 d5 B d HTC.out HTA.out).mono ?_); rintro e w7 ⟨rfl, hb⟩; have HS := hide (HS.out.call hb))
        | (go_at_call 10; (with_reducible refine (HAW.out _).mono ?_); rintro e w' ⟨rfl, hb⟩; have HB := hide (HS.out.below.trans (hb.mono HS.out.below.size))))
      go_ret
      exact ⟨rfl, HB.out⟩
set_option maxRecDepth 100000 in
set_option maxHeartbeats 1600000 in
theorem termTurned_ok (l : List Tm) (turn : Int) (v : Value) (w : World) (hv : TmsAt w v l) (hm : l.length ≤ 140737488351232) (hn1 : 0 < l.length) (hrf : refT l = false) (h1 : szT 6 l 0 < 100) :
    Calls Try.prog 8 #[v, .int .i64 turn] w fun e w' => e = .returned (.bool true) ∧ Below w.heap.size w w' := by
  obtain ⟨A, c, rfl, hr⟩ := Rd.isSlice hv.1
  have HS := hide (St.init w NoB)
  have HA := hide hr
  have HSZ := hide (size_any 6 (by omega) (.slice A l.length c) l 0 w (by decide) hv hm)
  rw [show ((0 : Nat) : Int) = 0 from rfl, show ((6 : Nat) : Int) = 6 from rfl] at HSZ
  have HAW := hide (fun W => awake7_any W)
  have d1 : decide ((100 : Int) ≤ (szT 6 l 0 : Int)) = false := by simp; omega
  have d1' : decide (100 ≤ szT 6 l 0) = false := by simp; omega
  have s1 : szT 6 l 0 ≤ 100 := szT_le 6 l 0 (by omega)
  have hrf2 := hrf
  unfold refT at hrf2
  obtain ⟨h16, hbl⟩ := Bool.or_eq_false_iff.1 hrf2
  have h16 := of_decide_eq_false h16
  have hpl := setL_len l
  have hfl := good_flat hbl
  have hfa : ∀ x ∈ setL l, x.l = [] := fun x hx => (hfl x ((setL_law l).2.1 x hx)).2.2.1
  have hfc : ∀ x ∈ setL (setL l), x.l = [] := fun x hx => hfa x ((setL_law (setL l)).2.1 x hx)
  have hec := set_idem l
  have HSA2 := hide (fun W (h : Below w.heap.size w W) => (set_any (.slice A l.length c) l (hv.on h) hm).mono fun e w' h => (show SetRp W (setL l) e w' by
      rcases h with ⟨h, _⟩ | ⟨_, h⟩
      · rw [hrf] at h; cases h
      · exact h))
  have HSC2 := hide (fun W B d (h : TmsAt W (.slice B (setL l).length d) (setL l)) => (set_any (.slice B (setL l).length d) (setL l) h (by omega)).mono fun e w' h => (show SetRp W (setL (setL l)) e w' by
      rcases h with ⟨h, _⟩ | ⟨_, h⟩
      · rw [refT_set hrf] at h; cases h
      · exact h))
  have HHA := hide (fun W B d x (h : TmsAt W (.slice B (setL l).length d) (setL l)) (hx : x ∈ l) (hb : Below w.heap.size w W) => has_any (tS B d (setL l)) x W (tS_ok h (by omega)) ((hv.2 x hx).on hb))
  simp only [tS_val, hasT_set] at HHA
  have HHA := hide (fun W B d x (h : TmsAt W (.slice B (setL l).length d) (setL l)) (hx : x ∈ l) (hb : Below w.heap.size w W) => (HHA.out W B d x h hx hb).mono fun e w' h => (show e = .returned (.bool true) ∧ Below W.heap.size W w' by rw [has_mem hx] at h; exact h))
  have HMY := hide (fun W B d (h : TmsAt W (.slice B (setL l).length d) (setL l)) => may_any (tS_ok h (by omega)) W (Below.refl _ _))
  have HSN := hide (fun W B d B' d' (h : TmsAt W (.slice B (setL (setL l)).length d) (setL (setL l))) (h' : TmsAt W (.slice B' (setL l).length d') (setL l)) => sameR_any (tS B d (setL (setL l))) (tS B' d' (setL l)) W (tS_ok h (by rw [eqT_len hec]; omega)) (tS_ok h' (by omega)))
  simp only [tS_val, may_set hrf] at HMY
  simp only [tS_val, tS_same hec hfc hfa] at HSN
  unfold SetRp at HSA2 HSC2
  rw [eqT_len hec] at HSC2 HSN
  obtain ⟨n, hn⟩ : ∃ n, n = l.length := ⟨_, rfl⟩
  have hn0 : 0 < n := by rw [hn]; exact hn1
  have HN := hide hn
  obtain ⟨k, eK⟩ : ∃ Y : Nat, IntKind.u64.wrap turn % (n : Int) = (Y : Int) := ⟨(IntKind.u64.wrap turn % (n : Int)).toNat, by
    have := Int.emod_nonneg (IntKind.u64.wrap turn) (show (n : Int) ≠ 0 by omega)
    omega⟩
  have hK : k < n := by
    have := Int.emod_lt_of_pos (IntKind.u64.wrap turn) (show (0 : Int) < (n : Int) by omega)
    omega
  have tK : (IntKind.u64.wrap turn).tmod (n : Int) = (k : Int) := by rw [Int.tmod_eq_emod_of_nonneg (by rw [IntKind.wrap_u64]; omega)]; exact eK
  have hcap := rd_nilcap hr
  rw [← hn] at hcap
  have tk := fun W => run_takeG (t := 22) (P := Try.prog) Try.underlying22 szTm4 A n c k (by omega) hcap.2 W
  have dr := fun W => run_dropG (t := 22) (P := Try.prog) Try.underlying22 szTm4 A n c k (by omega) W
  obtain ⟨sv, hsv⟩ : ∃ v, v = sliced A k n c 4 := ⟨_, rfl⟩
  rw [← hsv] at dr
  have HR1 := hide (fun W (h : Below w.heap.size w W) => rd_dropT (hr.below h) k (by omega))
  rw [← hn, ← hsv] at HR1
  clear hsv
  have HR2 := hide (fun W (h : Below w.heap.size w W) => rd_takeT (hr.below h) k (by omega))
  have heb : EqT (setL l) (setL (l.drop k ++ l.take k)) := setL_same fun x => (mem_rot l k x).symm
  have hfb : ∀ x ∈ setL (l.drop k ++ l.take k), x.l = [] := fun x hx => (hfl x ((mem_rot l k x).1 ((setL_law _).2.1 x hx))).2.2.1
  have HSB2 := hide (fun W B d (h : Below w.heap.size w W) (hR : Rd W (.slice B (l.drop k ++ l.take k).length d) 4 (l.drop k ++ l.take k).length (tmCells (l.drop k ++ l.take k))) => (set_any (.slice B (l.drop k ++ l.take k).length d) (l.drop k ++ l.take k) ⟨hR, fun x hx => (hv.2 x ((mem_rot l k x).1 hx)).on h⟩ (by rw [len_rot]; exact hm)).mono fun e w' h => (show SetRp W (setL (l.drop k ++ l.take k)) e w' by
      rcases h with ⟨h, _⟩ | ⟨_, h⟩
      · rw [refT_rot, hrf] at h; cases h
      · exact h))
  have HSM := hide (fun W B d B' d' (h : TmsAt W (.slice B (setL l).length d) (setL l)) (h' : TmsAt W (.slice B' (setL (l.drop k ++ l.take k)).length d') (setL (l.drop k ++ l.take k))) => sameR_any (tS B d (setL l)) (tS B' d' (setL (l.drop k ++ l.take k))) W (tS_ok h (by omega)) (tS_ok h' (by rw [← eqT_len heb]; omega)))
  simp only [tS_val, tS_same heb hfa hfb] at HSM
  unfold SetRp at HSB2
  rw [← eqT_len heb] at HSB2 HSM
  have HRW : Hid (tmCells (l.drop k) ++ tmCells (l.take k) = tmCells (l.drop k ++ l.take k)) := hide (by unfold tmCells; rw [List.flatMap_append])
  have hnk : n - k + k = n := by omega
  have n0 : (0 : Int) < (n : Int) := by omega
  have dn0 : decide ((0 : Int) < (n : Int)) = true := by simp; omega
  have dn0' : decide (0 < n) = true := by simp; omega
  rw [len_rot] at HSB2
  rw [← hn] at HSZ HSA2 HSB2 HA hm hpl h16 ⊢
  have hn6 : n ≤ 4294967296 := by omega
  obtain ⟨p, hp⟩ : ∃ p, p = (setL l).length := ⟨_, rfl⟩
  rw [← hp] at HSA2 HSB2 HSC2 HHA HMY HSN HSM hpl
  generalize szT 6 l 0 = za at *
  generalize setL (l.drop k ++ l.take k) = sb at *
  generalize hsa : setL l = sa at *
  generalize setL sa = sc at *
  have dpn : decide ((p : Int) ≤ (n : Int)) = true := by simp; omega
  have dpn' : decide (p ≤ n) = true := by simp; omega
  clear hv hr hrf h1 hn hec heb hfa hfb hfc hfl hbl hrf2 hp eK hcap hsa h16 hn1
  go_enter Try.func8, Try.ntmps8
  go_wp2_with (first | (go_at_call 23; (with_reducible refine HSZ.out.mono ?_); rintro e w1 ⟨rfl, hb⟩; have HS := hide (HS.out.call hb)) | (go_at_call 24; (with_reducible refine (HSA2.out _ HS.out.below).mono ?_); rintro e w1 ⟨B, d, rfl, hb, hT⟩; have HS := hide ((HS.out.call hb).alloc #[.int .i64 7, .int .i64 0, .string ⟨#[]⟩, .slice B p d] 24); have HTA := hide (hT.on ((Below.refl _ _).al (.cells #[.int .i64 7, .int .i64 0, .string ⟨#[]⟩, .slice B p d] 24))); clear hT hb; have a0 := HS.out.cell 0 rfl 0; have a1 := HS.out.cell 0 rfl 1; have a2 := HS.out.cell 0 rfl 2; have a3 := HS.out.cell 0 rfl 3))
  obtain ⟨pa, hpa⟩ : ∃ g, g = w1.heap.size := ⟨_, rfl⟩
  clear a0 a1 a2 a3
  rw [← hpa] at HS ⊢
  clear hpa
  refine wp_region_T [(1, 1), (2, 1), (3, 1), (5, 1), (6, 1), (7, 1), (0, 2), (4, 3), (8, 4), (9, 1)] (by kernel_rfl) (by kernel_rfl) (fun _ _ _ _ h => h) ?_
  have HS := hide HS.out.drew
  have HTA := hide (HTA.out.on (Below.refl _ _).drew)
  generalize (w1.alloc (.cells #[.int .i64 7, .int .i64 0, .string ⟨#[]⟩, .slice B p d] 24)).drew = wm at HS HTA ⊢
  have HS0 := hide ((St.init wm NoB).row0 24 4)
  have hb0 : Below wm.heap.size wm (wm.alloc (.cells #[] 24)) := (Below.refl _ _).al _
  go_wp2_with (first
      | (refine wpT_late rfl rfl ?_; intro K hK; refine wp_append (n := 0) rfl rowTm HS0.out 0 rfl rfl rfl (HR1.out _ (HS.out.call HS0.out.below).below) (tmCells_one _) (by omega) (by decide) ?_; intro A1 c1 w8 hS8; rw [Nat.zero_add, List.nil_append] at hS8; have HS8 := hide hS8; clear hS8; rw [Nat.zero_add])
      | (refine wpT_any rfl rfl ?_; intro K hK; refine wp_append (n := n - k) rfl rowTm HS8.out 0 rfl rfl rfl (HR2.out _ (HS.out.call HS8.out.below).below) (tmCells_one _) (by omega) (by decide) ?_; intro A2 c2 w9 hS9; rw [hnk, HRW.out] at hS9; have HRM := hide (hS9.rd 0 rfl); have HS9 := hide hS9.below; have HS := hide (HS.out.call hS9.below); clear hS9; rw [hnk])
      | (refine wpT_nil ?_)   | ((with_reducible refine fromT_refl ?_); (try simp only [Act.put, List.setIfInBounds_toArray, List.set_cons_zero, List.set_cons_succ, List.getElem_toArray, List.getElem_cons_succ, List.getElem_cons_zero]))   | ((with_reducible refine fromT_mk (by assumption) ?_); (try simp only [Act.put, List.setIfInBounds_toArray, List.set_cons_zero, List.set_cons_succ, List.getElem_toArray, List.getElem_cons_succ, List.getElem_cons_zero]))   | (refine wpT_pure (v := ?_) rfl rfl ?_ ?_; rotate_left; (intro wx; go_simp; try go_bits) <;> (with_reducible rfl); (try simp only [Act.put, List.setIfInBounds_toArray, List.set_cons_zero, List.set_cons_succ, List.getElem_toArray, List.getElem_cons_succ, List.getElem_cons_zero]))   | (refine wpT_load (v := ?_) rfl rfl rfl ?_ ?_; rotate_left; (go_simp; try go_bits) <;> (with_reducible rfl); (try simp only [Act.put, List.setIfInBounds_toArray, List.set_cons_zero, List.set_cons_succ, List.getElem_toArray, List.getElem_cons_succ, List.getElem_cons_zero]))   | (refine wpT_read (v := ?_) rfl rfl ?_ ?_; rotate_left; (intro wx hx; go_simp; try go_bits) <;> (with_reducible rfl); (try simp only [Act.put, List.setIfInBounds_toArray, List.set_cons_zero, List.set_cons_succ, List.getElem_toArray, List.getElem_cons_succ, List.getElem_cons_zero]))   | (refine wpT_call rfl rfl ?_; intro K hK)   | (refine wpT_late rfl rfl ?_; intro K hK)   | (refine wpT_any rfl rfl ?_; intro K hK)   | (refine wpT_skip rfl rfl ?_; (try simp only [Act.put, List.setIfInBounds_toArray, List.set_cons_zero, List.set_cons_succ, List.getElem_toArray, List.getElem_cons_succ, List.getElem_cons_zero])))
  have HTA := hide (HTA.out.on HS9.out)
  go_wp2_with (first
    | (go_at_call 24; (with_reducible refine (HSB2.out _ A2 c2 HS.out.below HRM.out).mono ?_); rintro e w10 ⟨B3, d3, rfl, hb, hT⟩; have HS := hide ((HS.out.call hb).alloc #[.int .i64 7, .int .i64 0, .string ⟨#[]⟩, .slice B3 p d3] 24); have HTA := hide ((HTA.out.on hb).on ((Below.refl _ _).al (.cells #[.int .i64 7, .int .i64 0, .string ⟨#[]⟩, .slice B3 p d3] 24))); have HTB := hide (hT.on ((Below.refl _ _).al (.cells #[.int .i64 7, .int .i64 0, .string ⟨#[]⟩, .slice B3 p d3] 24))); clear hT hb; have a0 := HS.out.cell 1 rfl 0; have a1 := HS.out.cell 1 rfl 1; have a2 := HS.out.cell 1 rfl 2; have a3 := HS.out.cell 1 rfl 3; have b0 := HS.out.cell 0 rfl 0; have b1 := HS.out.cell 0 rfl 1; have b2 := HS.out.cell 0 rfl 2; have b3 := HS.out.cell 0 rfl 3)
    | (go_at_call 17; (with_reducible refine (HSM.out _ B d B3 d3 HTA.out HTB.out).mono ?_); rintro e w11 ⟨rfl, hb⟩; have HS := hide (HS.out.call hb); have HTA := hide (HTA.out.on hb)))
  go_loopw [70] (fun i wr => ∃ k : Nat, k ≤ n ∧ i = .int .i64 (k : Int) ∧ Hid (St w NoB wr [.cells pa #[.int .i64 7, .int .i64 0, .string ⟨#[]⟩, .slice B p d] 24]) ∧ Hid (TmsAt wr (.slice B p d) sa)) (fun i _ => (n - intOf i).toNat)
  case atStart => exact ⟨0, by omega, rfl, hide (HS.out.pickL [1] (by decide) rfl), HTA⟩
  case round =>
    clear HS HTA
    obtain ⟨k, hk, rfl, HS, HTA⟩ := hrel
    have a0 := HS.out.cell 0 rfl 0
    have a1 := HS.out.cell 0 rfl 1
    have a2 := HS.out.cell 0 rfl 2
    have a3 := HS.out.cell 0 rfl 3
    by_cases hlt : k < n
    · have hd : decide ((k : Int) < (n : Int)) = true := by simp; omega
      have hkl : k < l.length := by have := HN.out; omega
      obtain ⟨b, o, rfl, hb8, hc⟩ := tm_at HA.out (List.getElem?_eq_getElem hkl)
      obtain ⟨c0, c1, c2, c3⟩ := hc _ HS.out.below
      have HC := hide hc
      have HHX := hide (fun W B d (h : TmsAt W (.slice B p d) sa) (hb : Below w.heap.size w W) => HHA.out W B d l[k] h (List.getElem_mem hkl) hb)
      generalize l[k] = x at c0 c1 c2 c3 HC HHX
      have kn : (k : Int) < (n : Int) := by omega
      have hbr : b < wr.heap.size := by have := HS.out.below.size; omega
      unfold Tm.val Tm.row at HHX
      unfold Tm.row at c3
      have HL := hide hlt
      clear hc hkl hlt
      have HS1 := hide (HS.out.alloc #[.int .i64 x.k, .int .i64 x.n, .string (strOf x.s), .slice x.A x.l.length x.c] 24)
      have HTA1 := hide (HTA.out.on ((Below.refl _ _).al (.cells #[.int .i64 x.k, .int .i64 x.n, .string (strOf x.s), .slice x.A x.l.length x.c] 24)))
      have e0 := HS1.out.cell 1 rfl 0
      have e1 := HS1.out.cell 1 rfl 1
      have e2 := HS1.out.cell 1 rfl 2
      have e3 := HS1.out.cell 1 rfl 3
      have hpa : pa < wr.heap.size := World.block_lt_of_cell? _ _ a0
      go_wp2_with (go_at_call 20; (with_reducible refine (HHX.out _ B d HTA1.out HS1.out.below).mono ?_); rintro e w4 ⟨rfl, hb⟩; have HS2 := hide (HS1.out.call hb).tail; have HTA2 := hide (HTA1.out.on hb))
      go_roundw
      case rel => exact ⟨k + 1, by have := HL.out; omega, by go_num, HS2, HTA2⟩
      case measure => (have := HL.out); (simp [intOf]) <;> omega
    · obtain rfl : k = n := by omega
      have hd : decide ((k : Int) < (k : Int)) = false := by simp
      go_wp2_with (first
        | (go_at_call 24; (with_reducible refine (HSC2.out _ B d HTA.out).mono ?_); rintro e w5 ⟨B5, d5, rfl, hb, hT⟩; have HS := hide ((HS.out.call hb).alloc #[.int .i64 7, .int .i64 0, .string ⟨#[]⟩, .slice B5 p d5] 24); have HTA := hide ((HTA.out.on hb).on ((Below.refl _ _).al (.cells #[.int .i64 7, .int .i64 0, .string ⟨#[]⟩, .slice B5 p d5] 24))); have HTC := hide (hT.on ((Below.refl _ _).al (.cells #[.int .i64 7, .int .i64 0, .string ⟨#[]⟩, .slice B5 p d5] 24))); clear hT hb; have a0 := HS.out.cell 1 rfl 0; have a1 := HS.out.cell 1 rfl 1; have a2 := HS.out.cell 1 rfl 2; have a3 := HS.out.cell 1 rfl 3; have c0 := HS.out.cell 0 rfl 0; have c1 := HS.out.cell 0 rfl 1; have c2 := HS.out.cell 0 rfl 2; have c3 := HS.out.cell 0 rfl 3)
        | (go_at_call 14; (with_reducible refine (HMY.out _ B d HTA.out).mono ?_); rintro e w6 ⟨rfl, hb⟩; have HS := hide (HS.out.call hb); have HTA := hide (HTA.out.on hb); have HTC := hide (HTC.out.on hb); have a0 := HS.out.cell 1 rfl 0; have a1 := HS.out.cell 1 rfl 1; have a2 := HS.out.cell 1 rfl 2; have a3 := HS.out.cell 1 rfl 3; have c0 := HS.out.cell 0 rfl 0; have c1 := HS.out.cell 0 rfl 1; have c2 := HS.out.cell 0 rfl 2; have c3 := HS.out.cell 0 rfl 3)
        | (go_at_call 17; (with_reducible refine (HSN.out _ B5 d5 B d HTC.out HTA.out).mono ?_); rintro e w7 ⟨rfl, hb⟩; have HS := hide (HS.out.call hb))
        | (go_at_call 10; (with_reducible refine (HAW.out _).mono ?_); rintro e w' ⟨rfl, hb⟩; have HB := hide (HS.out.below.trans (hb.mono HS.out.below.size))))
      go_ret
      exact ⟨rfl, HB.out⟩
theorem termTurned_walk (l : List Tm) (turn : Int) (v : Value) (w : World) (hv : TmsAt w v l) (hm : l.length ≤ 140737488351232) :
    Calls Try.prog 8 #[v, .int .i64 turn] w fun e w' => e = .returned (.bool true) ∧ Below w.heap.size w w' := by
  by_cases h1 : szT 6 l 0 < 100
  · cases hrf : refT l with
    | true => exact termTurned_ref l turn v w hv hm fun _ => hrf
    | false =>
      cases l with
      | nil => exact termTurned_nil turn v w hv hm hrf h1
      | cons y r => exact termTurned_ok (y :: r) turn v w hv hm (by simp) hrf h1
  · exact termTurned_ref l turn v w hv hm fun h => absurd h h1
end Go.Proofs.Ytjamoifenkdneaa
