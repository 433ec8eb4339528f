/-
  Layer 7: Set, walked.
-/
import Derived.Test.YtjamoifenkdneaaTt
import Derived.Deep.LoopGhost
namespace Go.Proofs.Ytjamoifenkdneaa
open Go.RowKit
set_option linter.unusedSimpArgs false

theorem wl_storeC {P : Program} {w0 w : World} {M : Nat → Prop} {H : List Chunk} {ops : Array Oper} {more : List Oper} {o : Oper} {a : Act} {Q : Exit → Act → World → Prop} (hgd : o.guard = none) {t : TypeId} {x y : Operand} (ho : o.op = .store t x y) (hS : St w0 M w H) (j : Nat) {g k : Nat} {c : Array Value} {e : TypeId} (hj : H[j]? = some (.cells g c e))
    {vs : List Value} (ht : (P.info? t).map (·.size) = some vs.length) (hk : k + vs.length ≤ c.size) (hp : a.eval x = .pointer (some ⟨g, k, none⟩)) (hy : a.eval y = .agg vs.toArray) (hv : ∀ v ∈ vs, v.oneCell' = true)
    (h : ∀ w', St w0 M w' (H.set j (.cells g (putC c k vs) e)) → wpList P ops Q more (a.put o.dst undef) w') : wpList P ops Q (o :: more) a w :=
  wpList_plain hgd fun _ hK => wp_storeC ho hS j hj ht hk hp hy hv fun w' h2 => hK _ _ (h w' h2)
def d0T : Tm := .mk 0 0 [] none 0 []
/-- What comes off the heap, one behind the other. -/
def popA : Nat → List Tm → List Tm
  | 0, _ => []
  | n + 1, l => (popL n l).getD n d0T :: popA n (popL n l)
/-- Each once. -/
def ddL : List Tm → List Tm → List Tm
  | out, [] => out
  | out, x :: r => match out.getLast? with
    | none => ddL [x] r
    | some y => if samT y x = true then ddL out r else ddL (out ++ [x]) r
@[irreducible] def setL (l : List Tm) : List Tm := ddL [] (popA l.length (hpI (l.length / 2) l l.length))
/-- A set of terms has come back. -/
def SetR (w : World) (l : List Tm) (e : Ending) (w' : World) : Prop := ∃ B d, e = .returned (.tuple #[.agg #[.int .i64 7, .int .i64 0, .string ⟨#[]⟩, .slice B (setL l).length d], .int .i64 0]) ∧ Below w.heap.size w w' ∧ TmsAt w' (.slice B (setL l).length d) (setL l)
theorem ta_term (v : Value) (W : World) : (Instr.typeAssert (.iface 24 v) 20 24 true).run Try.prog W = .ok (.tuple #[v, .bool true]) W := by kernel_rfl
theorem tm_snoc (out : List Tm) (x : Tm) : tmCells out ++ x.cells = tmCells (out ++ [x]) := by
  unfold tmCells
  rw [List.flatMap_append]
  simp
theorem popL_some {n : Nat} {l : List Tm} (h : n < l.length) : (popL n l)[n]? = some ((popL n l).getD n d0T) := by
  have h' : n < (popL n l).length := by rw [popL_length]; exact h
  rw [List.getElem?_eq_getElem h', List.getD_eq_getElem?_getD, List.getElem?_eq_getElem h']
  rfl
set_option maxRecDepth 100000 in
set_option maxHeartbeats 1600000 in
theorem set_ok {w : World} (v : Value) (l : List Tm) (hv : TmsAt w v l) (h16 : l.length ≤ 16) (hn0 : 0 < l.length) (hgood : ∀ y, l[0]? = some y → l.any (badT y.k) = false) :
    Calls Try.prog 24 #[v] w fun e w' => SetR w l e w' := by
  obtain ⟨A, c, rfl, hr⟩ := Rd.isSlice hv.1
  have HOK := hide hv.2
  obtain ⟨n, hn⟩ : ∃ n, n = l.length := ⟨_, rfl⟩
  rw [← hn] at hr h16 hn0 ⊢
  have hS0 := ((St.init w NoB).alloc #[.slice A n c] 22).alloc #[.int .i64 0, .int .i64 0, .string ⟨#[]⟩, .slice none 0 0] 24
  rw [size_alloc1] at hS0
  have HS0 := hide hS0
  have HRD := hide (fun W (h : Below w.heap.size w W) => hr.below h)
  have hy0 : l[0]? = some l[0] := List.getElem?_eq_getElem (by omega)
  have HCF := hide (fun W (h : St w NoB W [.cells (w.heap.size + 1) #[.int .i64 0, .int .i64 0, .string ⟨#[]⟩, .slice none 0 0] 24, .cells w.heap.size #[.slice A n c] 22]) => contF_any 36 enSet #[.pointer (some ⟨w.heap.size, 0, none⟩)] (badT l[0].k) (.slice A n c) l W (by rw [← hn]; exact HRD.out W h.below) (by omega) (fun W2 hW2 x hx => setC_any (n := n) ((HOK.out x hx).on (h.below.trans (hW2.mono h.below.size))) (HRD.out W2 (h.below.trans (hW2.mono h.below.size))) hy0 hn0 (h.call hW2).swap))
  rw [hgood _ hy0] at HCF
  have HCL := hide (fun W (h : St w NoB W [.cells (w.heap.size + 1) #[.int .i64 0, .int .i64 0, .string ⟨#[]⟩, .slice none 0 0] 24, .cells w.heap.size #[.slice A n c] 22]) => clone_any (.slice A n c) l (by rw [← hn]; exact HRD.out W h.below) (by omega) h)
  rw [← hn] at HCL
  have HIN := hide (fun (W : World) (g b c' : Nat) (rest : List Value) (h1 : n ≤ c') (h2 : c' ≤ maxLen) (h : St w NoB W (PC g b n c' l rest [.cells (w.heap.size + 1) #[.int .i64 0, .int .i64 0, .string ⟨#[]⟩, .slice none 0 0] 24, .cells w.heap.size #[.slice A n c] 22])) => init_any g b n c' l rest HOK.out (by omega) h1 h2 (by omega) h)
  unfold hpV at HIN
  have HSET : Hid (setL l = ddL [] (popA n (hpI (n / 2) l n))) := hide (by unfold setL; rw [← hn])
  have HN := hide hn
  have HN0 := hide hn0
  have d16 : decide (16 < (n : Int)) = false := by simp; omega
  have d16' : decide (16 < n) = false := by simp; omega
  clear hv hr hS0 hy0 hgood hn
  go_enter Try.func24, Try.ntmps24
  go_wp2_with (first
    | (go_at_call 32; (with_reducible refine (HCF.out _ HS0.out).mono ?_); rintro e w1 ⟨rfl, hb1⟩; have HS1 := hide (HS0.out.call hb1); have c1 := HS1.out.cell 1 rfl 0; clear hb1)
    | (go_at_call 37; (with_reducible refine (HCL.out _ HS1.out).mono ?_); rintro e w2 ⟨A', c', rfl, hS2⟩; obtain ⟨b, rest, rfl, hnc, hcm, hS2⟩ := St.cells_of hS2 HN0.out; have HS2 := hide (hS2.alloc #[.slice (some ⟨b, 0, none⟩) n c'] 47); clear hS2)
    | (go_at_call 38; (with_reducible refine (HIN.out _ _ _ _ _ hnc hcm HS2.out).mono ?_); rintro e w3 ⟨rfl, hS3⟩; have HS3 := hide hS3; clear hS3))
  go_loopg [8] (n) (fun left s wr => ∃ (l' out : List Tm) (B : Option Addr) (d : Nat), left ≤ n ∧ Hid (l'.length = l.length ∧ (∀ x ∈ l', TmOK w x) ∧ (∀ x ∈ out, TmOK w x) ∧ out.length + left ≤ n ∧ ddL out (popA left l') = setL l) ∧
    Hid (St w NoB wr (PC w2.heap.size b left c' l' rest (.cells w3.heap.size #[.int .i64 7, .int .i64 0, .string ⟨#[]⟩, .slice B out.length d] 24 :: .row (.slice B out.length d) 24 4 out.length (tmCells out) :: [.cells (w.heap.size + 1) #[.int .i64 0, .int .i64 0, .string ⟨#[]⟩, .slice none 0 0] 24, .cells w.heap.size #[.slice A n c] 22]))))
  case atStart => exact ⟨hpI (n / 2) l n, [], none, 0, Nat.le_refl _, hide ⟨hpI_length _ _ _, fun x hx => HOK.out x (hpI_mem _ _ _ hx), (fun x hx => by cases hx), by simp, HSET.out.symm⟩,
    hide (((HS3.out.alloc #[.int .i64 7, .int .i64 0, .string ⟨#[]⟩, .slice none 0 0] 24).row (Below.refl _ _) (World.ownsRow_nil _ _ 24 4)).pickL [2, 3, 1, 0, 4, 5] (by decide) rfl)⟩
  case round =>
    obtain ⟨l', out, B, d, hle, HX, HS⟩ := hrel
    have p0 : wr.cell? ⟨w2.heap.size, 0, none⟩ = some (.slice (some ⟨b, 0, none⟩) gk c') := HS.out.cell 0 rfl 0
    have q0 := HS.out.cell 2 rfl 0
    have q1 := HS.out.cell 2 rfl 1
    have q2 := HS.out.cell 2 rfl 2
    have q3 := HS.out.cell 2 rfl 3
    have HPL := hide (fun W => pLen_any (some ⟨b, 0, none⟩) gk c' W)
    cases gk with
    | zero =>
      have HE : Hid (out = setL l) := hide HX.out.2.2.2.2
      go_wp2_with (first
        | (go_at_call 39; (with_reducible refine (HPL.out _).mono ?_); rintro e w4 ⟨rfl, rfl⟩)
        | (refine wl_storeC rfl rfl HS.out 4 rfl (vs := [.int .i64 7, .int .i64 0, .string ⟨#[]⟩, .slice B out.length d]) szTerm (Nat.le_refl _) rfl rfl (by intro u hu; simp only [List.mem_cons, List.not_mem_nil, or_false] at hu; rcases hu with rfl | rfl | rfl | rfl <;> rfl) ?_; intro w5 hS5; have HS5 := hide hS5; clear hS5))
      refine bodyPost_ret (results_cell_tmp_row rfl _ _ (w.heap.size + 1) _ #[.int .i64 7, .int .i64 0, .string ⟨#[]⟩, .slice B out.length d] _ _ rfl (HS5.out.heap 4 rfl) Try.underlying24 rfl (by kernel_rfl)) rfl ?_
      unfold SetR
      rw [← HE.out]
      exact ⟨B, d, rfl, HS5.out.below, HS5.out.rd 3 rfl, fun x hx => (HX.out.2.2.1 x hx).on HS5.out.below⟩
    | succ k =>
      have hx : (popL k l')[k]? = some ((popL k l').getD k d0T) := popL_some (by have := HX.out.1; have := HN.out; omega)
      have hok' := HX.out.2.1
      have hxm : (popL k l').getD k d0T ∈ l' := popL_mem (List.mem_of_getElem? hx)
      have HDD : Hid (ddL out ((popL k l').getD k d0T :: popA k (popL k l')) = setL l) := hide HX.out.2.2.2.2
      have HLN := hide (show (popL k l').length = l.length by rw [popL_length]; exact HX.out.1)
      have HOK2 := hide (fun y (hy : y ∈ popL k l') => hok' y (popL_mem hy))
      have HOX := hide (hok' _ hxm)
      have HOO := hide HX.out.2.2.1
      have hlen := HX.out.2.2.2.1
      have HHP := hide (fun (h1 : n ≤ c') => hPop_any w2.heap.size b k c' l' rest _ hx hok' (by omega) HS.out (by omega) hcm)
      clear hok' hxm hx HX
      generalize (popL k l').getD k d0T = x at HDD HOX HHP
      generalize popL k l' = l2 at HDD HLN HOK2 HHP
      have HHP2 := hide (HHP.out hnc)
      clear HHP
      unfold hpV at HHP2
      have kb : k ≤ 16 := by omega
      have kz : decide ((0 : Int) < ((k + 1 : Nat) : Int)) = true := decide_eq_true (by omega)
      unfold Tm.val Tm.row at HHP2
      have hta := fun v W => ta_term v W
      by_cases h0 : out = []
      · subst h0
        have HD2 : Hid (ddL [x] (popA k l2) = setL l) := HDD
        go_wp2_with (first
          | (go_at_call 39; (with_reducible refine (HPL.out _).mono ?_); rintro e w4 ⟨rfl, rfl⟩)
          | (go_at_call 40; (with_reducible refine HHP2.out.mono ?_); rintro e w4 ⟨rfl, hS4⟩; have hS5 := hS4.alloc #[.int .i64 x.k, .int .i64 x.n, .string (strOf x.s), .slice x.A x.l.length x.c] 24; have r3 : (w4.alloc (.cells #[.int .i64 x.k, .int .i64 x.n, .string (strOf x.s), .slice x.A x.l.length x.c] 24)).cell? ⟨w3.heap.size, 3, none⟩ = some (.slice B 0 d) := hS5.cell 3 rfl 3; have rd3 : (w4.alloc (.cells #[.int .i64 x.k, .int .i64 x.n, .string (strOf x.s), .slice x.A x.l.length x.c] 24)).drew.cell? ⟨w3.heap.size, 3, none⟩ = some (.slice B 0 d) := hS5.drew.cell 3 rfl 3; have HS5 := hide hS5; clear hS4 hS5))
        refine wp_region_T [(0, 1), (1, 1), (2, 1), (3, 1), (4, 0), (5, 1), (6, 1), (7, 1), (8, 0), (9, 0), (10, 2), (11, 1), (12, 1)] (by kernel_rfl) (by kernel_rfl) (fun _ _ _ _ h => h) ?_
        have HS5d := hide HS5.out.drew
        go_wp2_with (first
          | (refine wpT_nil ?_)   | ((with_reducible refine fromT_refl ?_); (try simp only [Act.put, List.setIfInBounds_toArray, List.set_cons_zero, List.set_cons_succ, List.getElem_toArray, List.getElem_cons_succ, List.getElem_cons_zero]))   | ((with_reducible refine fromT_mk (by assumption) ?_); (try simp only [Act.put, List.setIfInBounds_toArray, List.set_cons_zero, List.set_cons_succ, List.getElem_toArray, List.getElem_cons_succ, List.getElem_cons_zero]))   | (refine wpT_pure (v := ?_) rfl rfl ?_ ?_; rotate_left; (intro wx; go_simp; try go_bits) <;> (with_reducible rfl); (try simp only [Act.put, List.setIfInBounds_toArray, List.set_cons_zero, List.set_cons_succ, List.getElem_toArray, List.getElem_cons_succ, List.getElem_cons_zero]))   | (refine wpT_load (v := ?_) rfl rfl rfl ?_ ?_; rotate_left; (go_simp; try go_bits) <;> (with_reducible rfl); (try simp only [Act.put, List.setIfInBounds_toArray, List.set_cons_zero, List.set_cons_succ, List.getElem_toArray, List.getElem_cons_succ, List.getElem_cons_zero]))   | (refine wpT_read (v := ?_) rfl rfl ?_ ?_; rotate_left; (intro wx hx; go_simp; try go_bits) <;> (with_reducible rfl); (try simp only [Act.put, List.setIfInBounds_toArray, List.set_cons_zero, List.set_cons_succ, List.getElem_toArray, List.getElem_cons_succ, List.getElem_cons_zero]))   | (refine wpT_call rfl rfl ?_; intro K hK)   | (refine wpT_late rfl rfl ?_; intro K hK)   | (refine wpT_any rfl rfl ?_; intro K hK)   | (refine wpT_skip rfl rfl ?_; (try simp only [Act.put, List.setIfInBounds_toArray, List.set_cons_zero, List.set_cons_succ, List.getElem_toArray, List.getElem_cons_succ, List.getElem_cons_zero]))
          | (at_builtin; refine wl_append rfl rfl rowTm (HS5.out.skip _).drew 4 rfl rfl rfl (by have h := (rd_new (w4.alloc (.cells #[.int .i64 x.k, .int .i64 x.n, .string (strOf x.s), .slice x.A x.l.length x.c] 24)) x.cells 24 4 1 rfl (by decide)).below (Below.refl _ _).drew; rw [size_alloc1] at h; exact h) x.one (by omega) (by decide) ?_; intro B7 d7 w7 hS7; have t3 := hS7.cell 3 rfl 3; have fr3 := hS7.free 3 rfl 3; have HS7 := hide hS7; clear hS7))
        go_roundg (k)
        case rel =>
          have h8 := (HS7.out.setCell 3 rfl 3 (.slice B7 (0 + 1) d7)).tail
          have e8 : ([] : List Value) ++ x.cells = tmCells [x] := tm_snoc [] x
          exact ⟨l2, [x], B7, d7, by omega, hide ⟨HLN.out, HOK2.out, (fun y hy => by rw [List.mem_singleton.1 hy]; exact HOX.out), by simp at hlen ⊢; omega, HD2.out⟩, hide (by rw [← e8]; exact h8)⟩
        case measure => omega
      · obtain ⟨m, hm⟩ : ∃ m, m = out.length := ⟨_, rfl⟩
        have hm1 : 1 ≤ m := by rw [hm]; exact List.length_pos_iff.2 h0
        obtain ⟨y, hy⟩ : ∃ y, out[m - 1]? = some y := ⟨out[m - 1]'(by omega), List.getElem?_eq_getElem _⟩
        have hgl : out.getLast? = some y := by rw [List.getLast?_eq_getElem?, ← hm]; exact hy
        have hdd := HDD.out
        rw [ddL, hgl] at hdd
        have HD2 : Hid ((if samT y x = true then ddL out (popA k l2) else ddL (out ++ [x]) (popA k l2)) = setL l) := hide hdd
        have HSM := hide (fun W (hW : Below w.heap.size w W) => same_any y x W ((HOO.out y (List.mem_of_getElem? hy)).on hW) (HOX.out.on hW))
        have HY := hide hy
        have HM := hide hm
        rw [← hm] at hlen HS
        have em : (m : Int) - 1 = ((m - 1 : Nat) : Int) := by omega
        have mm : ((m - 1 : Nat) : Int) < (m : Int) := by omega
        have mm' : m - 1 < m := by omega
        have mz : ((m : Int) == 0) = false := by simp; omega
        have mb : m ≤ 16 := by omega
        clear hdd hgl hy HDD h0
        generalize hz : samT y x = z at HD2 HSM
        clear hz
        unfold Tm.val at HSM
        cases z
        · have HD3 : Hid (ddL (out ++ [x]) (popA k l2) = setL l) := hide (by have := HD2.out; rw [if_neg Bool.false_ne_true] at this; exact this)
          rw [← hm] at q3 HHP2
          clear hm
          go_wp2_with (first
          | (go_at_call 39; (with_reducible refine (HPL.out _).mono ?_); rintro e w4 ⟨rfl, rfl⟩)
          | (go_at_call 40; (with_reducible refine HHP2.out.mono ?_); rintro e w4 ⟨rfl, hS4⟩; have hS5 := hS4.alloc #[.int .i64 x.k, .int .i64 x.n, .string (strOf x.s), .slice x.A x.l.length x.c] 24; have r3 : (w4.alloc (.cells #[.int .i64 x.k, .int .i64 x.n, .string (strOf x.s), .slice x.A x.l.length x.c] 24)).cell? ⟨w3.heap.size, 3, none⟩ = some (.slice B m d) := hS5.cell 3 rfl 3; have rd3 : (w4.alloc (.cells #[.int .i64 x.k, .int .i64 x.n, .string (strOf x.s), .slice x.A x.l.length x.c] 24)).drew.cell? ⟨w3.heap.size, 3, none⟩ = some (.slice B m d) := hS5.drew.cell 3 rfl 3; have hrd := hS5.drew.rd 4 rfl; obtain ⟨b9, o9, rfl, hb9, hy9⟩ := tm_at hrd HY.out; obtain ⟨y0, y1, y2, y3⟩ := hy9 _ (Below.refl _ _); unfold Tm.row at y3; clear hrd hy9; have HS5 := hide hS5; clear hS4 hS5))
          refine wp_region_T [(0, 1), (1, 1), (2, 1), (3, 1), (4, 0), (5, 1), (6, 1), (7, 1), (8, 0), (9, 0), (10, 2), (11, 1), (12, 1)] (by kernel_rfl) (by kernel_rfl) (fun _ _ _ _ h => h) ?_
          have HS5d := hide HS5.out.drew
          unfold Tm.row at HSM
          go_wp2_with (first
            | (refine wpT_nil ?_)   | ((with_reducible refine fromT_refl ?_); (try simp only [Act.put, List.setIfInBounds_toArray, List.set_cons_zero, List.set_cons_succ, List.getElem_toArray, List.getElem_cons_succ, List.getElem_cons_zero]))   | ((with_reducible refine fromT_mk (by assumption) ?_); (try simp only [Act.put, List.setIfInBounds_toArray, List.set_cons_zero, List.set_cons_succ, List.getElem_toArray, List.getElem_cons_succ, List.getElem_cons_zero]))   | (refine wpT_pure (v := ?_) rfl rfl ?_ ?_; rotate_left; (intro wx; go_simp; try go_bits) <;> (with_reducible rfl); (try simp only [Act.put, List.setIfInBounds_toArray, List.set_cons_zero, List.set_cons_succ, List.getElem_toArray, List.getElem_cons_succ, List.getElem_cons_zero]))   | (refine wpT_load (v := ?_) rfl rfl rfl ?_ ?_; rotate_left; (go_simp; try go_bits) <;> (with_reducible rfl); (try simp only [Act.put, List.setIfInBounds_toArray, List.set_cons_zero, List.set_cons_succ, List.getElem_toArray, List.getElem_cons_succ, List.getElem_cons_zero]))   | (refine wpT_read (v := ?_) rfl rfl ?_ ?_; rotate_left; (intro wx hx; go_simp; try go_bits) <;> (with_reducible rfl); (try simp only [Act.put, List.setIfInBounds_toArray, List.set_cons_zero, List.set_cons_succ, List.getElem_toArray, List.getElem_cons_succ, List.getElem_cons_zero]))   | (refine wpT_call rfl rfl ?_; intro K hK)   | (refine wpT_late rfl rfl ?_; intro K hK)   | (refine wpT_any rfl rfl ?_; intro K hK)   | (refine wpT_skip rfl rfl ?_; (try simp only [Act.put, List.setIfInBounds_toArray, List.set_cons_zero, List.set_cons_succ, List.getElem_toArray, List.getElem_cons_succ, List.getElem_cons_zero]))
            | (go_at_call 12; (with_reducible refine (HSM.out _ HS5d.out.below).mono ?_); rintro e w6 ⟨rfl, hb⟩; have hS6 := HS5d.out.call hb; have k0 := hS6.cell 0 rfl 0; have k1 := hS6.cell 0 rfl 1; have k2 := hS6.cell 0 rfl 2; have k3 := hS6.cell 0 rfl 3; have s3 := hS6.cell 3 rfl 3; have HS6 := hide hS6; clear hS6)
            | (at_builtin; refine wl_appendN rfl rfl rowTm HS6.out 4 rfl rfl (us := x.cells) rfl rfl x.one (by omega) (by decide) ?_; intro B7 d7 w7 hS7; have t3 := hS7.cell 3 rfl 3; have fr3 := hS7.free 3 rfl 3; have HS7 := hide hS7; clear hS7))
          go_roundg (k)
          case rel =>
            have h8 := (HS7.out.setCell 3 rfl 3 (.slice B7 (m + 1) d7)).tail
            rw [tm_snoc] at h8
            have e9 : (out ++ [x]).length = m + 1 := by rw [List.length_append, List.length_singleton, HM.out]
            exact ⟨l2, out ++ [x], B7, d7, by omega, hide ⟨HLN.out, HOK2.out, (fun u hu => by rcases List.mem_append.1 hu with h | h; exact HOO.out u h; rw [List.mem_singleton.1 h]; exact HOX.out), by rw [e9]; omega, HD3.out⟩, hide (by rw [e9]; exact h8)⟩
          case measure => omega
        · have HD3 : Hid (ddL out (popA k l2) = setL l) := hide (by have := HD2.out; rw [if_pos rfl] at this; exact this)
          rw [← hm] at q3 HHP2
          clear hm
          go_wp2_with (first
          | (go_at_call 39; (with_reducible refine (HPL.out _).mono ?_); rintro e w4 ⟨rfl, rfl⟩)
          | (go_at_call 40; (with_reducible refine HHP2.out.mono ?_); rintro e w4 ⟨rfl, hS4⟩; have hS5 := hS4.alloc #[.int .i64 x.k, .int .i64 x.n, .string (strOf x.s), .slice x.A x.l.length x.c] 24; have r3 : (w4.alloc (.cells #[.int .i64 x.k, .int .i64 x.n, .string (strOf x.s), .slice x.A x.l.length x.c] 24)).cell? ⟨w3.heap.size, 3, none⟩ = some (.slice B m d) := hS5.cell 3 rfl 3; have rd3 : (w4.alloc (.cells #[.int .i64 x.k, .int .i64 x.n, .string (strOf x.s), .slice x.A x.l.length x.c] 24)).drew.cell? ⟨w3.heap.size, 3, none⟩ = some (.slice B m d) := hS5.drew.cell 3 rfl 3; have hrd := hS5.drew.rd 4 rfl; obtain ⟨b9, o9, rfl, hb9, hy9⟩ := tm_at hrd HY.out; obtain ⟨y0, y1, y2, y3⟩ := hy9 _ (Below.refl _ _); unfold Tm.row at y3; clear hrd hy9; have HS5 := hide hS5; clear hS4 hS5))
          refine wp_region_T [(0, 1), (1, 1), (2, 1), (3, 1), (4, 0), (5, 1), (6, 1), (7, 1), (8, 0), (9, 0), (10, 2), (11, 1), (12, 1)] (by kernel_rfl) (by kernel_rfl) (fun _ _ _ _ h => h) ?_
          have HS5d := hide HS5.out.drew
          unfold Tm.row at HSM
          go_wp2_with (first
            | (refine wpT_nil ?_)   | ((with_reducible refine fromT_refl ?_); (try simp only [Act.put, List.setIfInBounds_toArray, List.set_cons_zero, List.set_cons_succ, List.getElem_toArray, List.getElem_cons_succ, List.getElem_cons_zero]))   | ((with_reducible refine fromT_mk (by assumption) ?_); (try simp only [Act.put, List.setIfInBounds_toArray, List.set_cons_zero, List.set_cons_succ, List.getElem_toArray, List.getElem_cons_succ, List.getElem_cons_zero]))   | (refine wpT_pure (v := ?_) rfl rfl ?_ ?_; rotate_left; (intro wx; go_simp; try go_bits) <;> (with_reducible rfl); (try simp only [Act.put, List.setIfInBounds_toArray, List.set_cons_zero, List.set_cons_succ, List.getElem_toArray, List.getElem_cons_succ, List.getElem_cons_zero]))   | (refine wpT_load (v := ?_) rfl rfl rfl ?_ ?_; rotate_left; (go_simp; try go_bits) <;> (with_reducible rfl); (try simp only [Act.put, List.setIfInBounds_toArray, List.set_cons_zero, List.set_cons_succ, List.getElem_toArray, List.getElem_cons_succ, List.getElem_cons_zero]))   | (refine wpT_read (v := ?_) rfl rfl ?_ ?_; rotate_left; (intro wx hx; go_simp; try go_bits) <;> (with_reducible rfl); (try simp only [Act.put, List.setIfInBounds_toArray, List.set_cons_zero, List.set_cons_succ, List.getElem_toArray, List.getElem_cons_succ, List.getElem_cons_zero]))   | (refine wpT_call rfl rfl ?_; intro K hK)   | (refine wpT_late rfl rfl ?_; intro K hK)   | (refine wpT_any rfl rfl ?_; intro K hK)   | (refine wpT_skip rfl rfl ?_; (try simp only [Act.put, List.setIfInBounds_toArray, List.set_cons_zero, List.set_cons_succ, List.getElem_toArray, List.getElem_cons_succ, List.getElem_cons_zero]))
            | (go_at_call 12; (with_reducible refine (HSM.out _ HS5d.out.below).mono ?_); rintro e w6 ⟨rfl, hb⟩; have HS6 := hide (HS5d.out.call hb)))
          go_roundg (k)
          case rel => exact ⟨l2, out, _, d, by omega, hide ⟨HLN.out, HOK2.out, HOO.out, by have := HM.out; omega, HD3.out⟩, hide (by rw [← HM.out]; exact HS6.out.tail)⟩
          case measure => omega
end Go.Proofs.Ytjamoifenkdneaa
