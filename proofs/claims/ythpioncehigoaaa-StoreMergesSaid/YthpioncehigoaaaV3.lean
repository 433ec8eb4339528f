/-
  Joined of texts of mine: Xf,Xg,Xh,YF.
-/
import Derived.Test.YthpioncehigoaaaV2
import Derived.Test.YthpioncehigoaaaYp
import Derived.Test.YthpioncehigoaaaYq
import Derived.Deep.LoopGhost
set_option linter.unusedSimpArgs false
set_option linter.unusedVariables false
/-
  Layer 18: Merge, walked.
-/
namespace Go.Proofs.Ythpioncehigoaaa
open Go.RowKit
set_option linter.unusedSimpArgs false
set_option linter.unusedVariables false
theorem St.lit {w0 w : World} {M : Nat → Prop} {H : List Chunk} (h : St w0 M w H) (us : List Value) (e : TypeId) (size n : Nat) (hl : us.length = n * size) (hn : n ≤ maxLen) :
    St w0 M (w.alloc (.cells us.toArray e)) (.row (.slice (some ⟨w.heap.size, 0, none⟩) n n) e size n us :: H) :=
  h.row ((Below.refl _ _).alloc (Nat.le_refl _) _) ⟨hl, .inr ⟨w.heap.size, n, us.toArray, rfl, Nat.le_refl _, heap_alloc_new w _, Nat.le_refl _, hn, by rw [List.size_toArray]; exact hl, by rw [← hl]; exact List.take_length⟩⟩
theorem rw_cell {w : World} {A : Option Addr} {n c : Nat} {rs : List Rw} {k : Nat} {x : Rw} (h : Rd w (.slice A n c) 1 n (rwCells rs)) (hk : rs[k]? = some x) : ∃ b o, A = some ⟨b, o, none⟩ ∧ w.cell? ⟨b, o + k, none⟩ = some (.slice x.A x.l.length x.c) := by
  obtain ⟨b, o, h1, _, h2⟩ := rd_at (k := k) (u := x.val) h (by unfold rwCells; rw [List.getElem?_map, hk]; rfl)
  exact ⟨b, o, h1, h2⟩
theorem tl_row {W : World} {x : Rw} (h : RwOK W x) (hne : x.l ≠ []) : ∃ y : Rw, y.l = x.l.tail ∧ RwOK W y ∧ sliced x.A 1 x.l.length x.c 3 = .slice y.A y.l.length y.c := by
  obtain ⟨A, c, l⟩ := x
  cases l with
  | nil => exact absurd rfl hne
  | cons f fs =>
    obtain ⟨h1, h2⟩ := h
    have hd : Rd W (sliced A 1 (f :: fs).length c 3) 3 ((f :: fs).length - 1) ((fcCells (f :: fs)).drop (1 * 3)) := rd_dropG (show Rd W (.slice A (f :: fs).length c) 3 (f :: fs).length (fcCells (f :: fs)) from h1) 1 (by simp) (by decide)
    have e : (fcCells (f :: fs)).drop (1 * 3) = fcCells fs := by rw [fcCells_cons]; rfl
    rw [e] at hd
    obtain ⟨A', c', e', hr⟩ := Rd.isSlice hd
    refine ⟨⟨A', c', fs⟩, rfl, ⟨?_, fun g hg => h2 g (List.mem_cons_of_mem _ hg)⟩, e'⟩
    exact hr
/-- Rows have been merged: what is out rises, and is the same as what was there. -/
def Mrg (R out : List Fc) : Prop := RisF out ∧ (∀ x ∈ out, ∃ z ∈ R, cmpF x z = 0) ∧ ∀ z ∈ R, ∃ x ∈ out, cmpF x z = 0
def MrgR (w : World) (R : List Fc) (e : Ending) (w' : World) : Prop := ∃ B d l', e = .returned (.slice B l'.length d) ∧ Mrg R l' ∧ FcsAt w' (.slice B l'.length d) l' ∧ Below w.heap.size w w'
set_option maxRecDepth 100000 in
set_option maxHeartbeats 1600000 in
theorem merge_any (A : Option Addr) (c n : Nat) (rs : List Rw) (R : List Fc) (hRR : R = rs.flatMap Rw.l) (w : World) (hl : rs.length = n) (hr : Rd w (.slice A n c) 1 n (rwCells rs)) (hok : ∀ x ∈ rs, RwOK w x ∧ RisF x.l ∧ ∀ f ∈ x.l, FcSm f) (hn : n ≤ 1000) (htot : left rs ≤ 1000000) :
    Calls Try.prog 25 #[.slice A n c] w fun e w' => MrgR w R e w' := by
  have HRR := hide hRR
  clear hRR
  have hS0 := (((St.init w NoB).lit [] 29 1 0 rfl (by decide)).alloc #[.slice (some ⟨w.heap.size, 0, none⟩) 0 0] 82)
  rw [size_alloc1] at hS0
  have HS0 := hide hS0
  have HR := hide hr
  have HOK := hide hok
  have HL := hide hl
  have HT := hide htot
  clear hS0 hr hok hl htot
  go_enter Try.func25, Try.ntmps25
  go_wp2_with fail
  go_loopw [13] (fun i wr => ∃ (k m : Nat) (l' : List Rw) (B : Option Addr) (d : Nat), k ≤ n ∧ m ≤ k ∧ i = .int .i64 (k : Int) ∧ Hid (l' = full (rs.take k) ∧ l'.length = m ∧ B ≠ none) ∧
    Hid (St w NoB wr [.cells (w.heap.size + 1) #[.slice B m d] 82, .row (.slice B m d) 29 1 m (rwCells l')])) (fun i _ => (n - intOf i).toNat)
  case atStart => exact ⟨0, 0, [], some ⟨w.heap.size, 0, none⟩, 0, by omega, by omega, rfl, hide ⟨rfl, rfl, fun h => by cases h⟩, HS0⟩
  case round =>
    clear HS0
    obtain ⟨k, m, l', B, d, hk, hmk, rfl, HX, HS⟩ := hrel
    have q0 : wr.cell? ⟨w.heap.size + 1, 0, none⟩ = some (.slice B m d) := HS.out.cell 0 rfl 0
    have fr0 := HS.out.free 0 rfl 0
    by_cases hlt : k < n
    · have d1 : decide ((k : Int) < (n : Int)) = true := by simp; omega
      have d1' : decide (k < n) = true := by simp; omega
      have kn : (k : Int) < (n : Int) := by omega
      have kl : k < rs.length := by have := HL.out; omega
      have hrk : rs[k]? = some rs[k] := List.getElem?_eq_getElem kl
      obtain ⟨b, o, rfl, c0⟩ := rw_cell (HR.out.st HS.out) hrk
      have hfs := full_snoc hrk
      have HFS := hide hfs
      clear hfs hrk
      generalize rs[k] = x at c0 HFS
      obtain ⟨Ax, cx, lx⟩ := x
      obtain ⟨p, hp⟩ : ∃ p, p = lx.length := ⟨_, rfl⟩
      have HP := hide hp
      replace c0 : wr.cell? ⟨b, o + k, none⟩ = some (.slice Ax lx.length cx) := c0
      rw [← hp] at c0
      by_cases hp0 : 0 < p
      · have e1 : decide ((0 : Int) < (p : Int)) = true := by simp; omega
        have e1' : decide (0 < p) = true := by simp; omega
        clear hp kl
        go_wp2_with (at_builtin; refine wl_append1 rfl rfl rowRw HS.out 1 rfl rfl (us := [_]) rfl rfl ?_ ?_ (by decide) ?_; (intro u hu; simp only [List.mem_singleton] at hu; subst hu; rfl); (show m + 1 ≤ 4294967296; omega); intro B7 d7 w7 hS7; have q7 := hS7.cell 0 rfl 0; have fr7 := hS7.free 0 rfl 0; have HS7 := hide hS7; clear hS7)
        go_roundw
        case rel =>
          have h8 := HS7.out.setCell 0 rfl 0 (.slice B7 (m + 1) d7)
          have hB := row_some (h8.sat 1 _ rfl) (show 0 < m + 1 from Nat.succ_pos m)
          have hf := HFS.out
          rw [if_pos (show 0 < lx.length by rw [← HP.out]; exact hp0), ← HX.out.1] at hf
          refine ⟨k + 1, m + 1, l' ++ [⟨Ax, cx, lx⟩], B7, d7, by omega, by omega, by go_num, hide ⟨hf.symm, by rw [List.length_append, HX.out.2.1]; rfl, hB⟩, hide ?_⟩
          have e9 : rwCells (l' ++ [⟨Ax, cx, lx⟩]) = rwCells l' ++ [.slice Ax p cx] := by
            unfold rwCells
            rw [List.map_append, HP.out]
            rfl
          rw [e9]
          exact h8
        case measure => (simp [intOf]) <;> omega
      · have e1 : decide ((0 : Int) < (p : Int)) = false := by simp; omega
        have e1' : decide (0 < p) = false := by simp; omega
        clear hp kl
        go_wp2_with fail
        go_roundw
        case rel =>
          have hf := HFS.out
          rw [if_neg (show ¬ 0 < lx.length by rw [← HP.out]; exact hp0), List.append_nil, ← HX.out.1] at hf
          exact ⟨k + 1, m, l', B, d, by omega, by omega, by go_num, hide ⟨hf.symm, HX.out.2⟩, HS⟩
        case measure => (simp [intOf]) <;> omega
    · obtain rfl : k = n := by omega
      have d1 : decide ((k : Int) < (k : Int)) = false := by simp
      have d1' : decide (k < k) = false := by simp
      have hrs : l' = full rs := by rw [HX.out.1, List.take_of_length_le (by have := HL.out; omega)]
      obtain ⟨hx1, hx2, hx3⟩ := HX.out
      have HR0 := HR
      have hS1 : St w NoB wr [.row (.slice B m d) 29 1 m (rwCells l'), .cells (w.heap.size + 1) #[.slice B m d] 82] := HS.out.pickL [1, 0] (by decide) rfl
      obtain ⟨b, rest, rfl, hmd, hdm, _, _, hS1⟩ := hS1.cells_ofS hx3
      have hS2 : St w NoB wr (WC (w.heap.size + 1) b m d l' rest []) := hS1.pickL [1, 0] (by decide) rfl
      have hokn : OKn w l'.length l' := ⟨fun x hx => (HOK.out x (full_mem (by rw [← hrs]; exact hx)).1).1, Nat.le_refl _, fun i hi => (full_mem (by rw [← hrs]; exact List.mem_of_getElem? (G_some hi))).2⟩
      rw [hx2] at hokn
      have HIN := hide (initW_any (w.heap.size + 1) b m d l' rest hokn (by omega) hmd hdm (by omega) hS2)
      unfold wvV at HIN
      have HM0 := hide hokn
      have HLE := hide (show left l' ≤ 1000000 by rw [hrs, full_left]; exact HT.out)
      have HMI := hide (minv_init l' fun r hr => ⟨(full_mem (by rw [← hrs]; exact hr)).2, (HOK.out r (full_mem (by rw [← hrs]; exact hr)).1).2.1⟩)
      have HRE := hide (show l'.flatMap Rw.l = R by rw [hrs, full_fm, HRR.out])
      rw [HRE.out, hx2] at HMI
      have HSM := hide (fun x (hx : x ∈ l') => (show RwOK w x ∧ ∀ f ∈ x.l, FcSm f from ⟨(HOK.out x (full_mem (by rw [← hrs]; exact hx)).1).1, (HOK.out x (full_mem (by rw [← hrs]; exact hx)).1).2.2⟩))
      generalize w.heap.size + 1 = g at *
      clear HRR HRE hrs hx1 hx3 hS1 hS2 HX HR HR0 HL HOK HT HS fr0 d1 d1'
      have hlen := HLE.out
      have HX2 := hide hx2
      clear hx2 hokn
      go_wp2_with (go_at_call 48; (with_reducible refine HIN.out.mono ?_); rintro e w3 ⟨rfl, hS3⟩; have HS3 := hide hS3; clear hS3)
      clear q0
      go_loopg [6] (left l') (fun gk s w4 => ∃ (k q : Nat) (l2 : List Rw) (out : List Fc) (B : Option Addr) (c' : Nat), s = .slice B q c' ∧ k ≤ m ∧ q + gk ≤ 1000000 ∧ Hid (out.length = q ∧ left l2 = gk ∧ MInv R k l2 out ∧ ∀ x ∈ l2, RwOK w x ∧ ∀ f ∈ x.l, FcSm f) ∧
        Hid (∀ f ∈ out, FcOK (mask (Hm (WC g b k d l2 rest [.row (.slice B q c') 27 3 q (fcCells out)])) w4) f) ∧ Hid (St w NoB w4 (WC g b k d l2 rest [.row (.slice B q c') 27 3 q (fcCells out)])))
      case atStart =>
        exact ⟨m, 0, hpI (m / 2) l' m, [], none, 0, rfl, Nat.le_refl _, by omega, hide ⟨rfl, left_hpI _ _ _, HMI.out, fun x hx => HSM.out x (hpI_mem _ _ _ hx)⟩, hide (fun f hf => by cases hf),
          hide ((HS3.out.row (Below.refl _ _) (World.ownsRow_nil _ _ 27 3)).pickL [1, 2, 0] (by decide) rfl)⟩
      case round =>
        clear HS3 HIN HSM HMI HM0
        obtain ⟨k, q, l2, out, B, c', rfl, hkm, hq, HY, HF, HS⟩ := hrel
        have p0 : wr.cell? ⟨g, 0, none⟩ = some (.slice (some ⟨b, 0, none⟩) k d) := HS.out.cell 0 rfl 0
        have HPL := hide (fun W => wLen_any (some ⟨b, 0, none⟩) k d W)
        cases k with
        | zero =>
          go_wp2_with (go_at_call 49; (with_reducible refine (HPL.out _).mono ?_); rintro e w4 ⟨rfl, rfl⟩)
          go_ret
          obtain ⟨h1, _, h3, _⟩ := HY.out
          subst h1
          exact ⟨B, c', out, rfl, minv_end h3, ⟨HS.out.rd 2 rfl, fun f hf => (HF.out f hf).csub (csub_mask _ _)⟩, HS.out.below⟩
        | succ k =>
          have hlr : k + 1 ≤ l2.length := HY.out.2.2.1.len
          have hx : l2[0]? = some (gR l2 0) := G_some (by omega)
          have hrow := HY.out.2.2.1.row _ ⟨0, by omega, rfl⟩
          obtain ⟨hrok, hrsm⟩ := HY.out.2.2.2 _ (List.mem_of_getElem? hx)
          obtain ⟨b1, o1, f, hA, hf, hfok, hcells⟩ := rw_at hrok hrow.1
          obtain ⟨f0, f1, f2⟩ := hcells _ HS.out.below
          have hfsm : FcSm f := by rw [← hf]; exact hrsm _ (hd_mem hrow.1)
          have c0 : wr.cell? ⟨b, 0, none⟩ = some (.slice (gR l2 0).A (gR l2 0).l.length (gR l2 0).c) := by
            have hg := HS.out.cell 1 rfl 0
            rw [hg, List.getElem?_toArray, List.getElem?_append_left (by rw [rwCells_length]; omega)]
            unfold rwCells
            rw [List.getElem?_map, hx]
            rfl
          obtain ⟨y, hy1, hy2, hy3⟩ := tl_row hrok hrow.1
          have hp1 := List.length_pos_iff.2 hrow.1
          have hpc : (gR l2 0).l.length ≤ (gR l2 0).c := (rd_nilcap hrok.1).1
          have HFL := hide hf
          have HY1 := hide hy1
          have HY2 := hide hy2
          have HFO := hide hfok
          have HFS := hide hfsm
          rw [hA] at c0 hy3
          generalize (gR l2 0).l.length = p at c0 hy3 hp1 hpc
          generalize (gR l2 0).c = cx at c0 hy3 hpc
          have HY3 := hide hy3
          clear hf hy1 hy2 hfok hfsm hy3 hA hcells hrok hrsm hrow hx
          have kz : decide ((0 : Int) < ((k + 1 : Nat) : Int)) = true := decide_eq_true (by omega)
          have pz : (0 : Int) < (p : Int) := by omega
          have k0 : (0 : Int) < ((k + 1 : Nat) : Int) := by omega
          have HS1 := hide (HS.out.alloc #[.string (strOf f.name), .slice f.A f.ts.length f.c, .int .u32 f.o] 27)
          have HA : (rwCells l2 ++ rest).toArray[0]? = some (.slice (some ⟨b1, o1, none⟩) p cx) := by
            have hg := HS.out.cell 1 rfl 0
            rw [c0] at hg
            exact hg.symm
          have z1 : 0 < (rwCells l2 ++ rest).toArray.size := (Array.getElem?_eq_some_iff.1 HA).1
          have HAH := hide HA
          have HZ := hide z1
          have sl : ∀ W, (Instr.sliceAt 29 (.slice (some ⟨b1, o1, none⟩) p cx) (some (.int .i64 1)) none none).run Try.prog W = .ok (.slice y.A y.l.length y.c) W := fun W => by
            have h := run_dropG (t := 29) (P := Try.prog) Try.underlying29 szFc (some ⟨b1, o1, none⟩) p cx 1 hp1 W
            rw [HY3.out] at h
            exact h
          have HW1 := hide (show ∀ j, j < wr.heap.size → (wr.alloc (.cells #[.string (strOf f.name), .slice f.A f.ts.length f.c, .int .u32 f.o] 27)).drew.heap[j]? = wr.heap[j]? from fun j hj => (((Below.refl wr.heap.size wr).al _).drew).block j hj)
          have HPW : Hid ((rwCells l2 ++ rest).toArray.setIfInBounds 0 (.slice y.A y.l.length y.c) = (rwCells (l2.set 0 y) ++ rest).toArray) := hide (put_rw y rest (by omega))
          have HE8 : Hid ((rwCells (l2.set 0 y) ++ rest).toArray[0]? = some (.slice y.A y.l.length y.c)) := hide (by
            rw [← HPW.out, Array.getElem?_setIfInBounds_self_of_lt z1])
          have HXX : Hid (∀ x ∈ l2.set 0 y, RwOK w x ∧ ∀ f ∈ x.l, FcSm f) := hide (fun x hx => by
            rcases List.mem_or_eq_of_mem_set hx with h | h
            · exact HY.out.2.2.2 x h
            · rw [h]
              exact ⟨HY2.out, fun f hf => (HY.out.2.2.2 _ (List.mem_of_getElem? (G_some (l := l2) (i := 0) (by omega)))).2 f (by rw [HY1.out] at hf; exact List.mem_of_mem_tail hf)⟩)
          have HLT : Hid (left (l2.set 0 y) + 1 = gk) := hide (by rw [← HY.out.2.1]; exact left_tl (by omega) (HY.out.2.2.1.row _ ⟨0, by omega, rfl⟩).1 HY1.out)
          clear HA z1
          by_cases h0 : q = 0
          · subst h0
            go_upto_region 13 with (go_at_call 49; (with_reducible refine (HPL.out _).mono ?_); rintro e w4 ⟨rfl, rfl⟩)
            refine wp_region_T [(0, 1), (1, 1), (2, 1), (3, 1), (4, 1), (5, 1), (6, 1), (7, 0), (8, 0), (9, 2), (10, 1), (11, 1)] (by kernel_rfl) (by kernel_rfl) (fun _ _ _ _ h => h) ?_
            have HS1d := hide HS1.out.drew
            have k0 := HS1d.out.cell 0 rfl 0
            have k1 := HS1d.out.cell 0 rfl 1
            have k2 := HS1d.out.cell 0 rfl 2
            have HCP := hide (copied_any (Hm (.cells wr.heap.size #[.string (strOf f.name), .slice f.A f.ts.length f.c, .int .u32 f.o] 27 :: WC g b (k + 1) d l2 rest [.row (.slice B 0 c') 27 3 0 (fcCells out)])) f _ (fun j hj => (HS1d.out.hm j hj).2) (HFO.out.csub HS1d.out.oldM) HFS.out)
            unfold Fc.val Fc.row at HCP
            go_upto_region 15 with (first
              | (refine wpT_nil ?_)   | ((with_reducible refine fromT_refl ?_); (try simp only [Act.put, nq1, nq2, nq3, nq4, nq5, nq6]))   | ((with_reducible refine fromT_mk (by assumption) ?_); (try simp only [Act.put, nq1, nq2, nq3, nq4, nq5, nq6]))   | (refine wpT_pure (v := ?_) rfl rfl ?_ ?_; rotate_left; (intro wx; go_simp; try go_bits) <;> (with_reducible rfl); (try simp only [Act.put, nq1, nq2, nq3, nq4, nq5, nq6]))   | (refine wpT_load (v := ?_) rfl rfl rfl ?_ ?_; rotate_left; (go_simp; try go_bits) <;> (with_reducible rfl); (try simp only [Act.put, nq1, nq2, nq3, nq4, nq5, nq6]))   | (refine wpT_read (v := ?_) rfl rfl ?_ ?_; rotate_left; (intro wx hx; go_simp; try go_bits) <;> (with_reducible rfl); (try simp only [Act.put, nq1, nq2, nq3, nq4, nq5, nq6]))   | (refine wpT_call rfl rfl ?_; intro K hK)   | (refine wpT_late rfl rfl ?_; intro K hK)   | (refine wpT_any rfl rfl ?_; intro K hK)   | (refine wpT_skip rfl rfl ?_; (try simp only [Act.put, nq1, nq2, nq3, nq4, nq5, nq6]))
              | (go_at_call 43; (with_reducible refine HCP.out.mono ?_); rintro e w2 ⟨f', he, hsh, hok, hb⟩; unfold Fc.val Fc.row at he; subst he; have HB2 := hide hb; have HSH := hide hsh; have HNF := hide hok; obtain ⟨F, hF, hfz⟩ := freeze (HS1d.out.call hb).tail; have HS2 : Hid (St w NoB w2 (.cells g #[.slice (some ⟨b, 0, none⟩) (k + 1) d] 82 :: .cells b (rwCells l2 ++ rest).toArray 29 :: .row (.slice B 0 c') 27 3 0 (fcCells out) :: F)) := hF; have HFZ := hide hfz; clear hsh hok hb hF hfz)
              | (at_builtin; refine wl_appendN rfl rfl rowFc HS2.out 2 rfl rfl (us := f'.cells) rfl rfl f'.one (by omega) (by decide) ?_; intro B7 d7 w7 hS7; have HS7 : Hid (St w NoB w7 (.cells g #[.slice (some ⟨b, 0, none⟩) (k + 1) d] 82 :: .cells b (rwCells l2 ++ rest).toArray 29 :: .row (.slice B7 (0 + 1) d7) 27 3 (0 + 1) (fcCells out ++ f'.cells) :: F)) := hS7; clear hS7))
            have HMQ := hide (minv_push (f := f') HY.out.2.2.1 (fun z hz => by rw [List.eq_nil_of_length_eq_zero HY.out.1] at hz; cases hz) (by rw [HFL.out]; exact HSH.out))
            have HM7 : Hid (MInv R (k + 1) l2 (out ++ [f'])) := HMQ
            have HO7 : Hid (Out (out ++ [f']) (hdR (gR l2 0))) := hide (out_push (by rw [HFL.out]; exact HSH.out))
            have HL7 : Hid ((out ++ [f']).length = 0 + 1) := hide (by rw [List.length_append, HY.out.1]; rfl)
            have HF7 : Hid (∀ (W : World) (H' : List Chunk), St w NoB W (H' ++ F) → ∀ z ∈ out ++ [f'], FcOK (mask (Hm H') W) z) := hide (fun W H' hW z hz => by
              rcases List.mem_append.1 hz with h | h
              · exact (((HF.out z h).csub (mask_ext fun j hj hm => ⟨hm, by rw [HB2.out.block j (Nat.lt_of_lt_of_le hj (((Below.refl wr.heap.size wr).al _).drew).size), HW1.out j hj]⟩)).csub (HFZ.out W H' hW))
              · rw [List.mem_singleton.1 h]
                exact (HNF.out.csub (mask_less fun c hc => List.mem_cons_of_mem _ hc)).csub (HFZ.out W H' hW))
            have e7 : fcCells out ++ f'.cells = fcCells (out ++ [f']) := by rw [fcCells_append, fcCells_cons]; simp [fcCells]
            rw [e7] at HS7
            clear e7 HMQ
            refine wp_region_T [(0, 1), (1, 1), (2, 0), (3, 1), (4, 1), (5, 0), (6, 1), (7, 0), (8, 1), (9, 1), (10, 3)] (by kernel_rfl) (by kernel_rfl) (fun _ _ _ _ h => h) ?_
            have HS7d := hide HS7.out.drew
            have g7 := HS7d.out.cell 0 rfl 0
            have b7 := (HS7d.out.cell 1 rfl 0).trans HAH.out
            go_upto_region 16 with (first
              | (refine wpT_any rfl rfl ?_; intro K hK; refine wp_storeSl rfl HS7d.out 1 rfl szFacts HZ.out rfl rfl ?_; intro w8 hS8; have h8 : St w NoB w8 (.cells g #[.slice (some ⟨b, 0, none⟩) (k + 1) d] 82 :: .cells b ((rwCells l2 ++ rest).toArray.setIfInBounds 0 (.slice y.A y.l.length y.c)) 29 :: .row (.slice B7 (0 + 1) d7) 27 3 (0 + 1) (fcCells (out ++ [f'])) :: F) := hS8; rw [HPW.out] at h8; have HS8 := hide h8; clear h8 hS8)
              | (refine wpT_nil ?_)   | ((with_reducible refine fromT_refl ?_); (try simp only [Act.put, nq1, nq2, nq3, nq4, nq5, nq6]))   | ((with_reducible refine fromT_mk (by assumption) ?_); (try simp only [Act.put, nq1, nq2, nq3, nq4, nq5, nq6]))   | (refine wpT_pure (v := ?_) rfl rfl ?_ ?_; rotate_left; (intro wx; go_simp; try go_bits) <;> (with_reducible rfl); (try simp only [Act.put, nq1, nq2, nq3, nq4, nq5, nq6]))   | (refine wpT_load (v := ?_) rfl rfl rfl ?_ ?_; rotate_left; (go_simp; try go_bits) <;> (with_reducible rfl); (try simp only [Act.put, nq1, nq2, nq3, nq4, nq5, nq6]))   | (refine wpT_read (v := ?_) rfl rfl ?_ ?_; rotate_left; (intro wx hx; go_simp; try go_bits) <;> (with_reducible rfl); (try simp only [Act.put, nq1, nq2, nq3, nq4, nq5, nq6]))   | (refine wpT_call rfl rfl ?_; intro K hK)   | (refine wpT_late rfl rfl ?_; intro K hK)   | (refine wpT_any rfl rfl ?_; intro K hK)   | (refine wpT_skip rfl rfl ?_; (try simp only [Act.put, nq1, nq2, nq3, nq4, nq5, nq6])))
            have g8 : w8.cell? ⟨g, 0, none⟩ = some (.slice (some ⟨b, 0, none⟩) (k + 1) d) := HS8.out.cell 0 rfl 0
            have b8 := (HS8.out.cell 1 rfl 0).trans HE8.out
            by_cases hy0 : 0 < y.l.length
            · have hyn : y.l ≠ [] := List.length_pos_iff.1 hy0
              have y1 : decide ((0 : Int) < (y.l.length : Int)) = true := by simp; omega
              have HFX := hide (fixW_any g b (k + 1) d (l2.set 0 y) rest ⟨fun x hx => (HXX.out x hx).1, by rw [List.length_set]; exact hlr, fun i hi => by
                rw [G_set y (by omega)]
                split
                · exact hyn
                · exact (HM7.out.row _ ⟨i, hi, rfl⟩).1⟩ (by rw [List.length_set]; exact hlr) (by omega) hdm (by omega) HS8.out)
              unfold wvV at HFX
              go_wp2_with (go_at_call 50; (with_reducible refine HFX.out.mono ?_); rintro e w9 ⟨rfl, hS9⟩; have HS9 := hide hS9; clear hS9)
              go_roundg (gk - 1)
              case rel =>
                have hS9 : St w NoB w9 (WC g b (k + 1) d (dn (k + 1) (l2.set 0 y) 0 (k + 1)) rest [.row (.slice B7 (0 + 1) d7) 27 3 (0 + 1) (fcCells (out ++ [f']))] ++ F) := HS9.out
                exact ⟨k + 1, 0 + 1, dn (k + 1) (l2.set 0 y) 0 (k + 1), out ++ [f'], B7, d7, rfl, by omega, by have := HLT.out; omega, hide ⟨HL7.out, by rw [left_dn]; have := HLT.out; omega, minv_fix HM7.out HO7.out HY1.out hyn, fun x hx => HXX.out x (dn_mem _ _ _ _ hx)⟩, hide (HF7.out _ _ hS9), hide hS9.pre⟩
              case measure => (have := HLT.out); omega
            · have hyn : y.l = [] := List.eq_nil_of_length_eq_zero (by omega)
              have y1 : decide ((0 : Int) < (y.l.length : Int)) = false := by simp; omega
              have hxk : (l2.set 0 y)[k]? = some (gR (l2.set 0 y) k) := G_some (by rw [List.length_set]; omega)
              have hps : (popL k (l2.set 0 y))[k]? = some (gR (popL k (l2.set 0 y)) k) := G_some (by rw [popL_length, List.length_set]; omega)
              have HPP := hide (hPopW_any g b k d (l2.set 0 y) rest _ hps ⟨fun x hx => (HXX.out x (swp_mem hx)).1, by rw [swp_length, List.length_set]; omega, fun i hi => by
                rw [swp_G (by rw [List.length_set]; omega) (by rw [List.length_set]; omega)]
                split
                · omega
                · split
                  · rw [G_set y (by omega), if_neg (by omega)]
                    exact (HM7.out.row _ ⟨k, by omega, rfl⟩).1
                  · rename_i hi0
                    rw [G_set y (by omega), if_neg hi0]
                    exact (HM7.out.row _ ⟨i, by omega, rfl⟩).1⟩ (by omega) HS8.out (by omega) hdm)
              unfold wvV at HPP
              go_wp2_with (go_at_call 51; (with_reducible refine HPP.out.mono ?_); rintro e w9 ⟨rfl, hS9⟩; have HS9 := hide hS9; clear hS9)
              go_roundg (gk - 1)
              case rel =>
                have hS9 : St w NoB w9 (WC g b k d (popL k (l2.set 0 y)) rest [.row (.slice B7 (0 + 1) d7) 27 3 (0 + 1) (fcCells (out ++ [f']))] ++ F) := HS9.out
                exact ⟨k, 0 + 1, popL k (l2.set 0 y), out ++ [f'], B7, d7, rfl, by omega, by have := HLT.out; omega, hide ⟨HL7.out, by rw [left_popL]; have := HLT.out; omega, minv_pop HM7.out HO7.out HY1.out hyn, fun x hx => HXX.out x (popL_mem hx)⟩, hide (HF7.out _ _ hS9), hide hS9.pre⟩
              case measure => (have := HLT.out); omega
          · obtain ⟨z, hz⟩ : ∃ z, out[q - 1]? = some z := ⟨out[q - 1]'(by have := HY.out.1; omega), List.getElem?_eq_getElem _⟩
            have HGL := hide (show out.getLast? = some z by rw [List.getLast?_eq_getElem?, HY.out.1]; exact hz)
            obtain ⟨b9, o9, rfl, hb9, z0, z1, z2⟩ := fc_at (show Rd wr (.slice B q c') 3 q (fcCells out) from HS.out.rd 2 rfl) hz
            have HCM := hide (fun W (hW : Below wr.heap.size wr W) => cmpFc_any z f W (((HF.out z (List.mem_of_getElem? hz)).csub (csub_mask _ _)).on hW) (HFO.out.on (HS.out.below.trans (hW.mono HS.out.below.size))))
            unfold Fc.val Fc.row at HCM
            unfold Fc.row at z1
            have hbw := (((Below.refl wr.heap.size wr).al (.cells #[.string (strOf f.name), .slice f.A f.ts.length f.c, .int .u32 f.o] 27)).drew)
            have zz0 := (hbw.cell (p := ⟨b9, o9 + (q - 1) * 3, none⟩) hb9).trans z0
            have zz1 := (hbw.cell (p := ⟨b9, o9 + (q - 1) * 3 + 1, none⟩) hb9).trans z1
            have zz2 := (hbw.cell (p := ⟨b9, o9 + (q - 1) * 3 + 2, none⟩) hb9).trans z2
            have HBW := hide hbw
            have em : (q : Int) - 1 = ((q - 1 : Nat) : Int) := by omega
            have mm : ((q - 1 : Nat) : Int) < (q : Int) := by omega
            have mz : ((q : Int) == 0) = false := by simp; omega
            clear hbw z0 z1 z2 hz
            by_cases hr0 : cmpF z f = 0
            · have HR0 := hide hr0
              rw [hr0] at HCM
              clear hr0
              go_upto_region 13 with (go_at_call 49; (with_reducible refine (HPL.out _).mono ?_); rintro e w4 ⟨rfl, rfl⟩)
              refine wp_region_T [(0, 1), (1, 1), (2, 1), (3, 1), (4, 1), (5, 1), (6, 1), (7, 0), (8, 0), (9, 2), (10, 1), (11, 1)] (by kernel_rfl) (by kernel_rfl) (fun _ _ _ _ h => h) ?_
              have HS1d := hide HS1.out.drew
              have k0 := HS1d.out.cell 0 rfl 0
              have k1 := HS1d.out.cell 0 rfl 1
              have k2 := HS1d.out.cell 0 rfl 2
              go_upto_region 15 with (first
                | (refine wpT_nil ?_)   | ((with_reducible refine fromT_refl ?_); (try simp only [Act.put, nq1, nq2, nq3, nq4, nq5, nq6]))   | ((with_reducible refine fromT_mk (by assumption) ?_); (try simp only [Act.put, nq1, nq2, nq3, nq4, nq5, nq6]))   | (refine wpT_pure (v := ?_) rfl rfl ?_ ?_; rotate_left; (intro wx; go_simp; try go_bits) <;> (with_reducible rfl); (try simp only [Act.put, nq1, nq2, nq3, nq4, nq5, nq6]))   | (refine wpT_load (v := ?_) rfl rfl rfl ?_ ?_; rotate_left; (go_simp; try go_bits) <;> (with_reducible rfl); (try simp only [Act.put, nq1, nq2, nq3, nq4, nq5, nq6]))   | (refine wpT_read (v := ?_) rfl rfl ?_ ?_; rotate_left; (intro wx hx; go_simp; try go_bits) <;> (with_reducible rfl); (try simp only [Act.put, nq1, nq2, nq3, nq4, nq5, nq6]))   | (refine wpT_call rfl rfl ?_; intro K hK)   | (refine wpT_late rfl rfl ?_; intro K hK)   | (refine wpT_any rfl rfl ?_; intro K hK)   | (refine wpT_skip rfl rfl ?_; (try simp only [Act.put, nq1, nq2, nq3, nq4, nq5, nq6]))
                | (go_at_call 11; (with_reducible refine (HCM.out _ HBW.out).mono ?_); rintro e w5 ⟨rfl, hb⟩; have hS5 := HS1d.out.call hb; have HB5 := hide (HBW.out.trans (hb.mono HBW.out.size)); have m0 := hS5.cell 0 rfl 0; have m1 := hS5.cell 0 rfl 1; have m2 := hS5.cell 0 rfl 2; have HS5 := hide hS5; clear hS5))
              obtain ⟨F, hF, hfz⟩ := freeze HS5.out.tail
              have HS7 : Hid (St w NoB w5 (.cells g #[.slice (some ⟨b, 0, none⟩) (k + 1) d] 82 :: .cells b (rwCells l2 ++ rest).toArray 29 :: .row (.slice (some ⟨b9, o9, none⟩) q c') 27 3 q (fcCells out) :: F)) := hF
              have HM7 : Hid (MInv R (k + 1) l2 out) := hide HY.out.2.2.1
              have HO7 : Hid (Out out (hdR (gR l2 0))) := hide (out_last HGL.out (by rw [HFL.out]; exact HR0.out))
              have HL7 : Hid (out.length = q) := hide HY.out.1
              have HF7 : Hid (∀ (W : World) (H' : List Chunk), St w NoB W (H' ++ F) → ∀ z ∈ out, FcOK (mask (Hm H') W) z) := hide (fun W H' hW z hz => ((HF.out z hz).csub (mask_ext fun j hj hm => ⟨hm, HB5.out.block j hj⟩)).csub (hfz W H' hW))
              clear hF hfz
              refine wp_region_T [(0, 1), (1, 1), (2, 0), (3, 1), (4, 1), (5, 0), (6, 1), (7, 0), (8, 1), (9, 1), (10, 3)] (by kernel_rfl) (by kernel_rfl) (fun _ _ _ _ h => h) ?_
              have HS7d := hide HS7.out.drew
              have g7 := HS7d.out.cell 0 rfl 0
              have b7 := (HS7d.out.cell 1 rfl 0).trans HAH.out
              go_upto_region 16 with (first
                | (refine wpT_any rfl rfl ?_; intro K hK; refine wp_storeSl rfl HS7d.out 1 rfl szFacts HZ.out rfl rfl ?_; intro w8 hS8; have h8 : St w NoB w8 (.cells g #[.slice (some ⟨b, 0, none⟩) (k + 1) d] 82 :: .cells b ((rwCells l2 ++ rest).toArray.setIfInBounds 0 (.slice y.A y.l.length y.c)) 29 :: .row (.slice (some ⟨b9, o9, none⟩) (q) c') 27 3 (q) (fcCells (out)) :: F) := hS8; rw [HPW.out] at h8; have HS8 := hide h8; clear h8 hS8)
                | (refine wpT_nil ?_)   | ((with_reducible refine fromT_refl ?_); (try simp only [Act.put, nq1, nq2, nq3, nq4, nq5, nq6]))   | ((with_reducible refine fromT_mk (by assumption) ?_); (try simp only [Act.put, nq1, nq2, nq3, nq4, nq5, nq6]))   | (refine wpT_pure (v := ?_) rfl rfl ?_ ?_; rotate_left; (intro wx; go_simp; try go_bits) <;> (with_reducible rfl); (try simp only [Act.put, nq1, nq2, nq3, nq4, nq5, nq6]))   | (refine wpT_load (v := ?_) rfl rfl rfl ?_ ?_; rotate_left; (go_simp; try go_bits) <;> (with_reducible rfl); (try simp only [Act.put, nq1, nq2, nq3, nq4, nq5, nq6]))   | (refine wpT_read (v := ?_) rfl rfl ?_ ?_; rotate_left; (intro wx hx; go_simp; try go_bits) <;> (with_reducible rfl); (try simp only [Act.put, nq1, nq2, nq3, nq4, nq5, nq6]))   | (refine wpT_call rfl rfl ?_; intro K hK)   | (refine wpT_late rfl rfl ?_; intro K hK)   | (refine wpT_any rfl rfl ?_; intro K hK)   | (refine wpT_skip rfl rfl ?_; (try simp only [Act.put, nq1, nq2, nq3, nq4, nq5, nq6])))
              have g8 : w8.cell? ⟨g, 0, none⟩ = some (.slice (some ⟨b, 0, none⟩) (k + 1) d) := HS8.out.cell 0 rfl 0
              have b8 := (HS8.out.cell 1 rfl 0).trans HE8.out
              by_cases hy0 : 0 < y.l.length
              · have hyn : y.l ≠ [] := List.length_pos_iff.1 hy0
                have y1 : decide ((0 : Int) < (y.l.length : Int)) = true := by simp; omega
                have HFX := hide (fixW_any g b (k + 1) d (l2.set 0 y) rest ⟨fun x hx => (HXX.out x hx).1, by rw [List.length_set]; exact hlr, fun i hi => by
                  rw [G_set y (by omega)]
                  split
                  · exact hyn
                  · exact (HM7.out.row _ ⟨i, hi, rfl⟩).1⟩ (by rw [List.length_set]; exact hlr) (by omega) hdm (by omega) HS8.out)
                unfold wvV at HFX
                go_wp2_with (go_at_call 50; (with_reducible refine HFX.out.mono ?_); rintro e w9 ⟨rfl, hS9⟩; have HS9 := hide hS9; clear hS9)
                go_roundg (gk - 1)
                case rel =>
                  have hS9 : St w NoB w9 (WC g b (k + 1) d (dn (k + 1) (l2.set 0 y) 0 (k + 1)) rest [.row (.slice (some ⟨b9, o9, none⟩) (q) c') 27 3 (q) (fcCells (out))] ++ F) := HS9.out
                  exact ⟨k + 1, q, dn (k + 1) (l2.set 0 y) 0 (k + 1), out, (some ⟨b9, o9, none⟩), c', rfl, by omega, by have := HLT.out; omega, hide ⟨HL7.out, by rw [left_dn]; have := HLT.out; omega, minv_fix HM7.out HO7.out HY1.out hyn, fun x hx => HXX.out x (dn_mem _ _ _ _ hx)⟩, hide (HF7.out _ _ hS9), hide hS9.pre⟩
                case measure => (have := HLT.out); omega
              · have hyn : y.l = [] := List.eq_nil_of_length_eq_zero (by omega)
                have y1 : decide ((0 : Int) < (y.l.length : Int)) = false := by simp; omega
                have hxk : (l2.set 0 y)[k]? = some (gR (l2.set 0 y) k) := G_some (by rw [List.length_set]; omega)
                have hps : (popL k (l2.set 0 y))[k]? = some (gR (popL k (l2.set 0 y)) k) := G_some (by rw [popL_length, List.length_set]; omega)
                have HPP := hide (hPopW_any g b k d (l2.set 0 y) rest _ hps ⟨fun x hx => (HXX.out x (swp_mem hx)).1, by rw [swp_length, List.length_set]; omega, fun i hi => by
                  rw [swp_G (by rw [List.length_set]; omega) (by rw [List.length_set]; omega)]
                  split
                  · omega
                  · split
                    · rw [G_set y (by omega), if_neg (by omega)]
                      exact (HM7.out.row _ ⟨k, by omega, rfl⟩).1
                    · rename_i hi0
                      rw [G_set y (by omega), if_neg hi0]
                      exact (HM7.out.row _ ⟨i, by omega, rfl⟩).1⟩ (by omega) HS8.out (by omega) hdm)
                unfold wvV at HPP
                go_wp2_with (go_at_call 51; (with_reducible refine HPP.out.mono ?_); rintro e w9 ⟨rfl, hS9⟩; have HS9 := hide hS9; clear hS9)
                go_roundg (gk - 1)
                case rel =>
                  have hS9 : St w NoB w9 (WC g b k d (popL k (l2.set 0 y)) rest [.row (.slice (some ⟨b9, o9, none⟩) (q) c') 27 3 (q) (fcCells (out))] ++ F) := HS9.out
                  exact ⟨k, q, popL k (l2.set 0 y), out, (some ⟨b9, o9, none⟩), c', rfl, by omega, by have := HLT.out; omega, hide ⟨HL7.out, by rw [left_popL]; have := HLT.out; omega, minv_pop HM7.out HO7.out HY1.out hyn, fun x hx => HXX.out x (popL_mem hx)⟩, hide (HF7.out _ _ hS9), hide hS9.pre⟩
                case measure => (have := HLT.out); omega
            · have HR0 := hide hr0
              have rz : (cmpF z f == 0) = false := by simp [hr0]
              generalize cmpF z f = r at HCM rz
              clear hr0
              go_upto_region 13 with (go_at_call 49; (with_reducible refine (HPL.out _).mono ?_); rintro e w4 ⟨rfl, rfl⟩)
              refine wp_region_T [(0, 1), (1, 1), (2, 1), (3, 1), (4, 1), (5, 1), (6, 1), (7, 0), (8, 0), (9, 2), (10, 1), (11, 1)] (by kernel_rfl) (by kernel_rfl) (fun _ _ _ _ h => h) ?_
              have HS1d := hide HS1.out.drew
              have k0 := HS1d.out.cell 0 rfl 0
              have k1 := HS1d.out.cell 0 rfl 1
              have k2 := HS1d.out.cell 0 rfl 2
              go_upto_region 14 with (first
                | (refine wpT_nil ?_)   | ((with_reducible refine fromT_refl ?_); (try simp only [Act.put, nq1, nq2, nq3, nq4, nq5, nq6]))   | ((with_reducible refine fromT_mk (by assumption) ?_); (try simp only [Act.put, nq1, nq2, nq3, nq4, nq5, nq6]))   | (refine wpT_pure (v := ?_) rfl rfl ?_ ?_; rotate_left; (intro wx; go_simp; try go_bits) <;> (with_reducible rfl); (try simp only [Act.put, nq1, nq2, nq3, nq4, nq5, nq6]))   | (refine wpT_load (v := ?_) rfl rfl rfl ?_ ?_; rotate_left; (go_simp; try go_bits) <;> (with_reducible rfl); (try simp only [Act.put, nq1, nq2, nq3, nq4, nq5, nq6]))   | (refine wpT_read (v := ?_) rfl rfl ?_ ?_; rotate_left; (intro wx hx; go_simp; try go_bits) <;> (with_reducible rfl); (try simp only [Act.put, nq1, nq2, nq3, nq4, nq5, nq6]))   | (refine wpT_call rfl rfl ?_; intro K hK)   | (refine wpT_late rfl rfl ?_; intro K hK)   | (refine wpT_any rfl rfl ?_; intro K hK)   | (refine wpT_skip rfl rfl ?_; (try simp only [Act.put, nq1, nq2, nq3, nq4, nq5, nq6]))
                | (go_at_call 11; (with_reducible refine (HCM.out _ HBW.out).mono ?_); rintro e w5 ⟨rfl, hb⟩; have hS5 := HS1d.out.call hb; have HB5 := hide (HBW.out.trans (hb.mono HBW.out.size)); have m0 := hS5.cell 0 rfl 0; have m1 := hS5.cell 0 rfl 1; have m2 := hS5.cell 0 rfl 2; have HS5 := hide hS5; clear hS5))
              have HCP := hide (copied_any (Hm (.cells wr.heap.size #[.string (strOf f.name), .slice f.A f.ts.length f.c, .int .u32 f.o] 27 :: WC g b (k + 1) d l2 rest [.row (.slice (some ⟨b9, o9, none⟩) q c') 27 3 q (fcCells out)])) f _ (fun j hj => (HS5.out.hm j hj).2) (HFO.out.csub HS5.out.oldM) HFS.out)
              unfold Fc.val Fc.row at HCP
              go_upto_region 15 with (first
                | (go_at_call 43; (with_reducible refine HCP.out.mono ?_); rintro e w2 ⟨f', he, hsh, hok, hb⟩; unfold Fc.val Fc.row at he; subst he; have HB2 := hide hb; have HSH := hide hsh; have HNF := hide hok; obtain ⟨F, hF, hfz⟩ := freeze (HS5.out.call hb).tail; have HS2 : Hid (St w NoB w2 (.cells g #[.slice (some ⟨b, 0, none⟩) (k + 1) d] 82 :: .cells b (rwCells l2 ++ rest).toArray 29 :: .row (.slice (some ⟨b9, o9, none⟩) q c') 27 3 q (fcCells out) :: F)) := hF; have HFZ := hide hfz; clear hsh hok hb hF hfz)
                | (at_builtin; refine wl_appendN rfl rfl rowFc HS2.out 2 rfl rfl (us := f'.cells) rfl rfl f'.one (by omega) (by decide) ?_; intro B7 d7 w7 hS7; have HS7 : Hid (St w NoB w7 (.cells g #[.slice (some ⟨b, 0, none⟩) (k + 1) d] 82 :: .cells b (rwCells l2 ++ rest).toArray 29 :: .row (.slice B7 (q + 1) d7) 27 3 (q + 1) (fcCells out ++ f'.cells) :: F)) := hS7; clear hS7))
              have HMQ := hide (minv_push (f := f') HY.out.2.2.1 (fun z' hz' => by rw [HGL.out] at hz'; injection hz' with hz'; rw [← hz', HFL.out]; exact HR0.out) (by rw [HFL.out]; exact HSH.out))
              have HM7 : Hid (MInv R (k + 1) l2 (out ++ [f'])) := HMQ
              have HO7 : Hid (Out (out ++ [f']) (hdR (gR l2 0))) := hide (out_push (by rw [HFL.out]; exact HSH.out))
              have HL7 : Hid ((out ++ [f']).length = q + 1) := hide (by rw [List.length_append, HY.out.1]; rfl)
              have HF7 : Hid (∀ (W : World) (H' : List Chunk), St w NoB W (H' ++ F) → ∀ z ∈ out ++ [f'], FcOK (mask (Hm H') W) z) := hide (fun W H' hW z hz => by
                rcases List.mem_append.1 hz with h | h
                · exact (((HF.out z h).csub (mask_ext fun j hj hm => ⟨hm, by rw [HB2.out.block j (Nat.lt_of_lt_of_le hj HB5.out.size), HB5.out.block j hj]⟩)).csub (HFZ.out W H' hW))
                · rw [List.mem_singleton.1 h]
                  exact (HNF.out.csub (mask_less fun c hc => List.mem_cons_of_mem _ hc)).csub (HFZ.out W H' hW))
              have e7 : fcCells out ++ f'.cells = fcCells (out ++ [f']) := by rw [fcCells_append, fcCells_cons]; simp [fcCells]
              rw [e7] at HS7
              clear e7 HMQ
              refine wp_region_T [(0, 1), (1, 1), (2, 0), (3, 1), (4, 1), (5, 0), (6, 1), (7, 0), (8, 1), (9, 1), (10, 3)] (by kernel_rfl) (by kernel_rfl) (fun _ _ _ _ h => h) ?_
              have HS7d := hide HS7.out.drew
              have g7 := HS7d.out.cell 0 rfl 0
              have b7 := (HS7d.out.cell 1 rfl 0).trans HAH.out
              go_upto_region 16 with (first
                | (refine wpT_any rfl rfl ?_; intro K hK; refine wp_storeSl rfl HS7d.out 1 rfl szFacts HZ.out rfl rfl ?_; intro w8 hS8; have h8 : St w NoB w8 (.cells g #[.slice (some ⟨b, 0, none⟩) (k + 1) d] 82 :: .cells b ((rwCells l2 ++ rest).toArray.setIfInBounds 0 (.slice y.A y.l.length y.c)) 29 :: .row (.slice B7 (q + 1) d7) 27 3 (q + 1) (fcCells (out ++ [f'])) :: F) := hS8; rw [HPW.out] at h8; have HS8 := hide h8; clear h8 hS8)
                | (refine wpT_nil ?_)   | ((with_reducible refine fromT_refl ?_); (try simp only [Act.put, nq1, nq2, nq3, nq4, nq5, nq6]))   | ((with_reducible refine fromT_mk (by assumption) ?_); (try simp only [Act.put, nq1, nq2, nq3, nq4, nq5, nq6]))   | (refine wpT_pure (v := ?_) rfl rfl ?_ ?_; rotate_left; (intro wx; go_simp; try go_bits) <;> (with_reducible rfl); (try simp only [Act.put, nq1, nq2, nq3, nq4, nq5, nq6]))   | (refine wpT_load (v := ?_) rfl rfl rfl ?_ ?_; rotate_left; (go_simp; try go_bits) <;> (with_reducible rfl); (try simp only [Act.put, nq1, nq2, nq3, nq4, nq5, nq6]))   | (refine wpT_read (v := ?_) rfl rfl ?_ ?_; rotate_left; (intro wx hx; go_simp; try go_bits) <;> (with_reducible rfl); (try simp only [Act.put, nq1, nq2, nq3, nq4, nq5, nq6]))   | (refine wpT_call rfl rfl ?_; intro K hK)   | (refine wpT_late rfl rfl ?_; intro K hK)   | (refine wpT_any rfl rfl ?_; intro K hK)   | (refine wpT_skip rfl rfl ?_; (try simp only [Act.put, nq1, nq2, nq3, nq4, nq5, nq6])))
              have g8 : w8.cell? ⟨g, 0, none⟩ = some (.slice (some ⟨b, 0, none⟩) (k + 1) d) := HS8.out.cell 0 rfl 0
              have b8 := (HS8.out.cell 1 rfl 0).trans HE8.out
              by_cases hy0 : 0 < y.l.length
              · have hyn : y.l ≠ [] := List.length_pos_iff.1 hy0
                have y1 : decide ((0 : Int) < (y.l.length : Int)) = true := by simp; omega
                have HFX := hide (fixW_any g b (k + 1) d (l2.set 0 y) rest ⟨fun x hx => (HXX.out x hx).1, by rw [List.length_set]; exact hlr, fun i hi => by
                  rw [G_set y (by omega)]
                  split
                  · exact hyn
                  · exact (HM7.out.row _ ⟨i, hi, rfl⟩).1⟩ (by rw [List.length_set]; exact hlr) (by omega) hdm (by omega) HS8.out)
                unfold wvV at HFX
                go_wp2_with (go_at_call 50; (with_reducible refine HFX.out.mono ?_); rintro e w9 ⟨rfl, hS9⟩; have HS9 := hide hS9; clear hS9)
                go_roundg (gk - 1)
                case rel =>
                  have hS9 : St w NoB w9 (WC g b (k + 1) d (dn (k + 1) (l2.set 0 y) 0 (k + 1)) rest [.row (.slice B7 (q + 1) d7) 27 3 (q + 1) (fcCells (out ++ [f']))] ++ F) := HS9.out
                  exact ⟨k + 1, q + 1, dn (k + 1) (l2.set 0 y) 0 (k + 1), out ++ [f'], B7, d7, rfl, by omega, by have := HLT.out; omega, hide ⟨HL7.out, by rw [left_dn]; have := HLT.out; omega, minv_fix HM7.out HO7.out HY1.out hyn, fun x hx => HXX.out x (dn_mem _ _ _ _ hx)⟩, hide (HF7.out _ _ hS9), hide hS9.pre⟩
                case measure => (have := HLT.out); omega
              · have hyn : y.l = [] := List.eq_nil_of_length_eq_zero (by omega)
                have y1 : decide ((0 : Int) < (y.l.length : Int)) = false := by simp; omega
                have hxk : (l2.set 0 y)[k]? = some (gR (l2.set 0 y) k) := G_some (by rw [List.length_set]; omega)
                have hps : (popL k (l2.set 0 y))[k]? = some (gR (popL k (l2.set 0 y)) k) := G_some (by rw [popL_length, List.length_set]; omega)
                have HPP := hide (hPopW_any g b k d (l2.set 0 y) rest _ hps ⟨fun x hx => (HXX.out x (swp_mem hx)).1, by rw [swp_length, List.length_set]; omega, fun i hi => by
                  rw [swp_G (by rw [List.length_set]; omega) (by rw [List.length_set]; omega)]
                  split
                  · omega
                  · split
                    · rw [G_set y (by omega), if_neg (by omega)]
                      exact (HM7.out.row _ ⟨k, by omega, rfl⟩).1
                    · rename_i hi0
                      rw [G_set y (by omega), if_neg hi0]
                      exact (HM7.out.row _ ⟨i, by omega, rfl⟩).1⟩ (by omega) HS8.out (by omega) hdm)
                unfold wvV at HPP
                go_wp2_with (go_at_call 51; (with_reducible refine HPP.out.mono ?_); rintro e w9 ⟨rfl, hS9⟩; have HS9 := hide hS9; clear hS9)
                go_roundg (gk - 1)
                case rel =>
                  have hS9 : St w NoB w9 (WC g b k d (popL k (l2.set 0 y)) rest [.row (.slice B7 (q + 1) d7) 27 3 (q + 1) (fcCells (out ++ [f']))] ++ F) := HS9.out
                  exact ⟨k, q + 1, popL k (l2.set 0 y), out ++ [f'], B7, d7, rfl, by omega, by have := HLT.out; omega, hide ⟨HL7.out, by rw [left_popL]; have := HLT.out; omega, minv_pop HM7.out HO7.out HY1.out hyn, fun x hx => HXX.out x (popL_mem hx)⟩, hide (HF7.out _ _ hS9), hide hS9.pre⟩
                case measure => (have := HLT.out); omega
end Go.Proofs.Ythpioncehigoaaa
/-
  Layer 18: StoreMerges: the plain law, the walk.
-/
namespace Go.Proofs.Ythpioncehigoaaa
open Go.RowKit
set_option linter.unusedSimpArgs false
set_option linter.unusedVariables false
theorem mk_a {S L : List Fc} (h : S.map shF = made L) : ∀ z ∈ S, ∃ f ∈ L, okF f = true ∧ cmpF z f = 0 := fun z hz => by
  have hm : shF z ∈ made L := by rw [← h]; exact List.mem_map_of_mem hz
  obtain ⟨f, hf, hok, e⟩ := made_mem L hm
  exact ⟨f, hf, hok, by rw [cmpF_like (g := f) (g' := f) e rfl]; exact cmpF_ord.self _⟩
theorem mk_b {S L : List Fc} (h : S.map shF = made L) : ∀ f ∈ L, okF f = true → ∃ z ∈ S, cmpF z f = 0 := fun f hf hok => by
  obtain ⟨x, hx, e⟩ := (fold_law L [] trivial).2.2.1 f hf hok
  have hx : x ∈ made L := hx
  rw [← h] at hx
  obtain ⟨z, hz, rfl⟩ := List.mem_map.1 hx
  exact ⟨z, hz, by rw [← cmpF_like (f := shF z) (f' := z) (g := f) (g' := f) (shF_shF z) rfl]; exact e⟩
theorem mk_sm {S L : List Fc} (h : S.map shF = made L) : ∀ z ∈ S, FcSm z := fun z hz => by
  obtain ⟨f, _, hok, e⟩ := mk_a h z hz
  exact ok_sm (ok_cong (cmpF_flip e) hok)
theorem mrg_same {R x y L : List Fc} (hm : Mrg R x) (h1 : ∀ z ∈ R, ∃ f ∈ L, okF f = true ∧ cmpF z f = 0) (h2 : ∀ f ∈ L, okF f = true → ∃ z ∈ R, cmpF z f = 0) (hy : y.map shF = made L) : sameF x y = true := by
  refine sameF_eq (risF_eq x y hm.1 (ris_made hy rfl) (fun u hu => ?_) (fun v hv => ?_))
  · obtain ⟨z, hz, e⟩ := hm.2.1 u hu
    obtain ⟨f, hf, hok, e2⟩ := h1 z hz
    obtain ⟨v, hv, e3⟩ := mk_b hy f hf hok
    exact ⟨v, hv, cmpF_tr e (cmpF_tr e2 (cmpF_flip e3))⟩
  · obtain ⟨f, hf, hok, e⟩ := mk_a hy v hv
    obtain ⟨z, hz, e2⟩ := h2 f hf hok
    obtain ⟨u, hu, e3⟩ := hm.2.2 z hz
    exact ⟨u, hu, cmpF_tr e3 (cmpF_tr e2 (cmpF_flip e))⟩
theorem mrg3 {a b c l m n x y : List Fc} (ha : a.map shF = made l) (hb : b.map shF = made m) (hc : c.map shF = made n) (hm : Mrg (a ++ (b ++ (c ++ []))) x) (hy : y.map shF = made (l ++ m ++ n)) : sameF x y = true := by
  refine mrg_same hm (fun z hz => ?_) (fun f hf hok => ?_) hy
  · rcases List.mem_append.1 hz with h | h
    · obtain ⟨f, hf, q⟩ := mk_a ha z h
      exact ⟨f, List.mem_append_left _ (List.mem_append_left _ hf), q⟩
    · rcases List.mem_append.1 h with h | h
      · obtain ⟨f, hf, q⟩ := mk_a hb z h
        exact ⟨f, List.mem_append_left _ (List.mem_append_right _ hf), q⟩
      · rw [List.append_nil] at h
        obtain ⟨f, hf, q⟩ := mk_a hc z h
        exact ⟨f, List.mem_append_right _ hf, q⟩
  · rcases List.mem_append.1 hf with h | h
    · rcases List.mem_append.1 h with h | h
      · obtain ⟨z, hz, q⟩ := mk_b ha f h hok
        exact ⟨z, List.mem_append_left _ hz, q⟩
      · obtain ⟨z, hz, q⟩ := mk_b hb f h hok
        exact ⟨z, List.mem_append_right _ (List.mem_append_left _ hz), q⟩
    · obtain ⟨z, hz, q⟩ := mk_b hc f h hok
      exact ⟨z, List.mem_append_right _ (List.mem_append_right _ (List.mem_append_left _ hz)), q⟩
theorem mrg1 {a l x y : List Fc} (ha : a.map shF = made l) (hm : Mrg (a ++ []) x) (hy : y.map shF = made l) : sameF x y = true :=
  mrg_same hm (fun z hz => mk_a ha z (by rw [List.append_nil] at hz; exact hz)) (fun f hf hok => by obtain ⟨z, hz, q⟩ := mk_b ha f hf hok; exact ⟨z, List.mem_append_left _ hz, q⟩) hy
theorem mrg_len {R x : List Fc} (hm : Mrg R x) (h0 : R = []) : x = [] := by
  cases x with
  | nil => rfl
  | cons u x =>
    obtain ⟨z, hz, _⟩ := hm.2.1 u (List.mem_cons_self ..)
    rw [h0] at hz
    cases hz
/-- A rising row has no more members than what it is the same as. -/
theorem mrg_le : ∀ {x R : List Fc}, RisF x → (∀ u ∈ x, ∃ z ∈ R, cmpF u z = 0) → x.length ≤ R.length
  | [], _, _, _ => Nat.zero_le _
  | u :: x, R, h, hm => by
    obtain ⟨z, hz, e⟩ := hm u (List.mem_cons_self ..)
    obtain ⟨s, t, rfl⟩ := List.append_of_mem hz
    have := mrg_le (x := x) (R := s ++ t) h.2 (fun v hv => by
      obtain ⟨z', hz', e'⟩ := hm v (List.mem_cons_of_mem _ hv)
      rcases List.mem_append.1 hz' with q | q
      · exact ⟨z', List.mem_append_left _ q, e'⟩
      · rcases List.mem_cons.1 q with q | q
        · have h1 := h.1 v hv
          rw [q] at e'
          have := cmpF_tr e (cmpF_flip e')
          omega
        · exact ⟨z', List.mem_append_right _ q, e'⟩)
    simp only [List.length_append, List.length_cons] at this ⊢
    omega
/-- A row that All has given. -/
def rwA (B : Option Addr) (l : List Fc) : Rw := ⟨B, l.length, l⟩
theorem rwA_ok {W : World} {B : Option Addr} {l L : List Fc} (h : FcsAt W (.slice B l.length l.length) l) (hl : l.map shF = made L) : RwOK W (rwA B l) ∧ RisF (rwA B l).l ∧ ∀ f ∈ (rwA B l).l, FcSm f :=
  ⟨h, ris_made hl rfl, mk_sm hl⟩
end Go.Proofs.Ythpioncehigoaaa
/-
  Layer 18: the walk of StoreMerges.
-/
namespace Go.Proofs.Ythpioncehigoaaa
open Go.RowKit
set_option linter.unusedSimpArgs false
set_option linter.unusedVariables false
theorem mapLen {a b : List Fc} (h : a.map shF = b.map shF) : a.length = b.length := by have := congrArg List.length h; rwa [List.length_map, List.length_map] at this
theorem merge3 {W : World} {Ba Bb Bc : Option Addr} {a b c l m n : List Fc} (ha : a.map shF = made l) (hb : b.map shF = made m) (hc : c.map shF = made n) (va : FcsAt W (.slice Ba a.length a.length) a) (vb : FcsAt W (.slice Bb b.length b.length) b) (vc : FcsAt W (.slice Bc c.length c.length) c) (la : a.length ≤ 600) (lb : b.length ≤ 600) (lc : c.length ≤ 600) :
    Calls Try.prog 25 #[.slice (some ⟨W.heap.size, 0, none⟩) 3 3] (W.alloc (.cells #[.slice Ba a.length a.length, .slice Bb b.length b.length, .slice Bc c.length c.length] 29)) fun e w' => ∃ B d x, e = .returned (.slice B x.length d) ∧ x.length ≤ 1800 ∧ (∀ y, y.map shF = made (l ++ m ++ n) → sameF x y = true) ∧ FcsAt w' (.slice B x.length d) x ∧ Below W.heap.size W w' := by
  have hal : Below W.heap.size W (W.alloc (.cells #[.slice Ba a.length a.length, .slice Bb b.length b.length, .slice Bc c.length c.length] 29)) := (Below.refl _ _).al _
  refine (merge_any (some ⟨W.heap.size, 0, none⟩) 3 3 [rwA Ba a, rwA Bb b, rwA Bc c] (a ++ (b ++ (c ++ []))) rfl _ rfl (rd_new W (rwCells [rwA Ba a, rwA Bb b, rwA Bc c]) 29 1 3 rfl (by decide)) (fun x hx => ?_) (by decide) (show a.length + (b.length + (c.length + 0)) ≤ 1000000 by omega)).mono ?_
  · simp only [List.mem_cons, List.not_mem_nil, or_false] at hx
    rcases hx with rfl | rfl | rfl
    · exact rwA_ok (va.on hal) ha
    · exact rwA_ok (vb.on hal) hb
    · exact rwA_ok (vc.on hal) hc
  · rintro e w' ⟨B, d, x, rfl, hm, hv, hbl⟩
    refine ⟨B, d, x, rfl, ?_, fun y hy => mrg3 ha hb hc hm hy, hv, hal.trans (hbl.mono hal.size)⟩
    have := mrg_le hm.1 hm.2.1
    simp only [List.length_append, List.length_nil] at this
    omega
theorem merge1 {W : World} {Ba : Option Addr} {a l : List Fc} (ha : a.map shF = made l) (va : FcsAt W (.slice Ba a.length a.length) a) (la : a.length ≤ 600) :
    Calls Try.prog 25 #[.slice (some ⟨W.heap.size, 0, none⟩) 1 1] (W.alloc (.cells #[.slice Ba a.length a.length] 29)) fun e w' => ∃ B d x, e = .returned (.slice B x.length d) ∧ x.length ≤ 1800 ∧ (∀ y, y.map shF = made l → sameF x y = true) ∧ FcsAt w' (.slice B x.length d) x ∧ Below W.heap.size W w' := by
  have hal : Below W.heap.size W (W.alloc (.cells #[.slice Ba a.length a.length] 29)) := (Below.refl _ _).al _
  refine (merge_any (some ⟨W.heap.size, 0, none⟩) 1 1 [rwA Ba a] (a ++ []) rfl _ rfl (rd_new W (rwCells [rwA Ba a]) 29 1 1 rfl (by decide)) (fun x hx => ?_) (by decide) (show a.length + 0 ≤ 1000000 by omega)).mono ?_
  · rw [List.mem_singleton.1 hx]
    exact rwA_ok (va.on hal) ha
  · rintro e w' ⟨B, d, x, rfl, hm, hv, hbl⟩
    refine ⟨B, d, x, rfl, ?_, fun y hy => mrg1 ha hm hy, hv, hal.trans (hbl.mono hal.size)⟩
    have := mrg_le hm.1 hm.2.1
    simp only [List.length_append, List.length_nil] at this
    omega
theorem merge0 (W : World) : Calls Try.prog 25 #[.slice none 0 0] W fun e w' => (∃ B d, e = .returned (.slice B 0 d)) ∧ Below W.heap.size W w' := by
  refine (merge_any none 0 0 [] [] rfl W rfl (rd_nil W 1) (fun x hx => by cases hx) (by decide) (by decide)).mono ?_
  rintro e w' ⟨B, d, x, rfl, hm, hv, hbl⟩
  rw [mrg_len hm rfl]
  exact ⟨⟨B, d, rfl⟩, hbl⟩
theorem sameT {W : World} {va vb : Value} {xs ys : List Fc} (h : sameF xs ys = true) (ha : FcsAt W va xs) (hb : FcsAt W vb ys) (h1 : xs.length ≤ 1800) (h2 : ys.length ≤ 1800) :
    Calls Try.prog 14 #[va, vb] W fun e w' => e = .returned (.bool true) ∧ Below W.heap.size W w' := by
  have := sameFacts_any va vb xs ys W ha hb (by omega) (by omega)
  rw [h] at this
  exact this
set_option maxRecDepth 100000 in
set_option maxHeartbeats 1600000 in
theorem storeMerges_walk (l0 l1 l2 : List Fc) (v0 v1 v2 : Value) (w : World) (hv0 : FcsAt w v0 l0) (hm0 : l0.length ≤ 140737488351232) (hv1 : FcsAt w v1 l1) (hm1 : l1.length ≤ 140737488351232) (hv2 : FcsAt w v2 l2) (hm2 : l2.length ≤ 140737488351232) :
    Calls Try.prog 8 #[v0, v1, v2] w fun e w' => e = .returned (.bool true) ∧ Below w.heap.size w w' := by
  obtain ⟨A0, c0, rfl, hr0⟩ := Rd.isSlice hv0.1
  obtain ⟨A1, c1, rfl, hr1⟩ := Rd.isSlice hv1.1
  obtain ⟨A2, c2, rfl, hr2⟩ := Rd.isSlice hv2.1
  have HF0 := hide (fun W (h : Below w.heap.size w W) => few18_any (.slice A0 l0.length c0) l0 W (hv0.on h) hm0)
  have HF1 := hide (fun W (h : Below w.heap.size w W) => few18_any (.slice A1 l1.length c1) l1 W (hv1.on h) hm1)
  have HF2 := hide (fun W (h : Below w.heap.size w W) => few18_any (.slice A2 l2.length c2) l2 W (hv2.on h) hm2)
  have HAW := hide (fun W => awake18_any W)
  have HB := hide (Below.refl w.heap.size w)
  have HV0 := hide hv0
  have HV1 := hide hv1
  have HV2 := hide hv2
  have HR0 := hide hr0
  have HR1 := hide hr1
  have HR2 := hide hr2
  clear hv0 hv1 hv2 hr0 hr1 hr2
  have M0 := True.intro
  cases hf0 : fewF 0 l0 with
  | false =>
    rw [hf0] at HF0
    go_enter Try.func8, Try.ntmps8
    go_wp2_with (first
      | (clear M0; go_at_call 9; (with_reducible refine (HF0.out _ HB.out).mono ?_); rintro e w1 ⟨rfl, hb⟩; have HB := hide (HB.out.trans (hb.mono HB.out.size)); have M1 := True.intro)
      | (go_at_call 10; (with_reducible refine (HAW.out _).mono ?_); rintro e wz ⟨rfl, hb⟩; have HB := hide (HB.out.trans (hb.mono HB.out.size))))
    go_ret
    exact ⟨rfl, HB.out⟩
  | true =>
    cases hf1 : fewF 0 l1 with
    | false =>
      rw [hf0] at HF0
      rw [hf1] at HF1
      go_enter Try.func8, Try.ntmps8
      go_wp2_with (first
        | (clear M0; go_at_call 9; (with_reducible refine (HF0.out _ HB.out).mono ?_); rintro e w1 ⟨rfl, hb⟩; have HB := hide (HB.out.trans (hb.mono HB.out.size)); have M1 := True.intro)
        | (clear M1; go_at_call 9; (with_reducible refine (HF1.out _ HB.out).mono ?_); rintro e w2 ⟨rfl, hb⟩; have HB := hide (HB.out.trans (hb.mono HB.out.size)); have M2 := True.intro)
        | (go_at_call 10; (with_reducible refine (HAW.out _).mono ?_); rintro e wz ⟨rfl, hb⟩; have HB := hide (HB.out.trans (hb.mono HB.out.size))))
      go_ret
      exact ⟨rfl, HB.out⟩
    | true =>
      cases hf2 : fewF 0 l2 with
      | false =>
        rw [hf0] at HF0
        rw [hf1] at HF1
        rw [hf2] at HF2
        go_enter Try.func8, Try.ntmps8
        go_wp2_with (first
          | (clear M0; go_at_call 9; (with_reducible refine (HF0.out _ HB.out).mono ?_); rintro e w1 ⟨rfl, hb⟩; have HB := hide (HB.out.trans (hb.mono HB.out.size)); have M1 := True.intro)
          | (clear M1; go_at_call 9; (with_reducible refine (HF1.out _ HB.out).mono ?_); rintro e w2 ⟨rfl, hb⟩; have HB := hide (HB.out.trans (hb.mono HB.out.size)); have M2 := True.intro)
          | (clear M2; go_at_call 9; (with_reducible refine (HF2.out _ HB.out).mono ?_); rintro e w3 ⟨rfl, hb⟩; have HB := hide (HB.out.trans (hb.mono HB.out.size)); have M3 := True.intro)
          | (go_at_call 10; (with_reducible refine (HAW.out _).mono ?_); rintro e wz ⟨rfl, hb⟩; have HB := hide (HB.out.trans (hb.mono HB.out.size))))
        go_ret
        exact ⟨rfl, HB.out⟩
      | true =>
        have h0 : l0.length ≤ 600 := by have := few_len l0 0 (by decide) hf0; omega
        have h1 : l1.length ≤ 600 := by have := few_len l1 0 (by decide) hf1; omega
        have h2 : l2.length ≤ 600 := by have := few_len l2 0 (by decide) hf2; omega
        rw [hf0] at HF0
        rw [hf1] at HF1
        rw [hf2] at HF2
        clear hf0 hf1 hf2 hm0 hm1 hm2
        have HM0 := hide (fun W (h : Below w.heap.size w W) => made_any (.slice A0 l0.length c0) l0 W (HV0.out.on h) (by omega))
        have HM1 := hide (fun W (h : Below w.heap.size w W) => made_any (.slice A1 l1.length c1) l1 W (HV1.out.on h) (by omega))
        have HM2 := hide (fun W (h : Below w.heap.size w W) => made_any (.slice A2 l2.length c2) l2 W (HV2.out.on h) (by omega))
        have HMD := hide (fun W A c (h : Below w.heap.size w W) (hR : Rd W (.slice A (l0.length + l1.length + l2.length) c) 3 (l0.length + l1.length + l2.length) (fcCells l0 ++ fcCells l1 ++ fcCells l2)) => made_any (.slice A (l0.length + l1.length + l2.length) c) (l0 ++ l1 ++ l2) W ⟨by rw [fcCells_append, fcCells_append, List.length_append, List.length_append]; exact hR, fun x hx => by
          rcases List.mem_append.1 hx with q | q
          · rcases List.mem_append.1 q with q | q
            · exact (HV0.out.2 x q).on h
            · exact (HV1.out.2 x q).on h
          · exact (HV2.out.2 x q).on h⟩ (by rw [List.length_append, List.length_append]; omega))
        have HALL := hide (fun W p (S : List Fc) (h : Sto W p S) (h6 : S.length ≤ 1800) => allS h (by omega))
        have HRF := hide (fun W => (St.init W NoB).rowF0 27 3)
        have HO0 := hide (fcCells_one l0)
        have HO1 := hide (fcCells_one l1)
        have HO2 := hide (fcCells_one l2)
        have HL0 := hide h0
        have HL1 := hide h1
        have HL2 := hide h2
        clear HV0 HV1 HV2
        go_enter Try.func8, Try.ntmps8
        go_wp2_with (first
          | (clear M21; go_at_call 10; (with_reducible refine (HAW.out _).mono ?_); rintro e w22 ⟨rfl, hb⟩; have HBo := hide hb; have HB := hide (HB.out.trans (hb.mono HB.out.size)); have HPa := hide (HPa.out.on hb); have HPb := hide (HPb.out.on hb); have HPc := hide (HPc.out.on hb); have HPd := hide (HPd.out.on hb); have HWya := hide (HWya.out.on hb); have HWyb := hide (HWyb.out.on hb); have HWyc := hide (HWyc.out.on hb); have HWm := hide (HWm.out.on hb); have HWyd := hide (HWyd.out.on hb); have HWye := hide (HWye.out.on hb); have HWn := hide (HWn.out.on hb); have HWyf := hide (HWyf.out.on hb); have M22 := True.intro)
          | (clear M20; go_at_call 14; (with_reducible refine (sameT (HSn.out _ HXyf.out) HWn.out HWyf.out HLn.out (by have := HNyf.out; omega)).mono ?_); rintro e w21 ⟨rfl, hb⟩; have HBo := hide hb; have HB := hide (HB.out.trans (hb.mono HB.out.size)); have HPa := hide (HPa.out.on hb); have HPb := hide (HPb.out.on hb); have HPc := hide (HPc.out.on hb); have HPd := hide (HPd.out.on hb); have HWya := hide (HWya.out.on hb); have HWyb := hide (HWyb.out.on hb); have HWyc := hide (HWyc.out.on hb); have HWm := hide (HWm.out.on hb); have HWyd := hide (HWyd.out.on hb); have HWye := hide (HWye.out.on hb); have HWn := hide (HWn.out.on hb); have HWyf := hide (HWyf.out.on hb); have M21 := True.intro)
          | (clear M19; go_at_call 13; (with_reducible refine (HALL.out _ pa Sa HPa.out (by have := HEa.out; omega)).mono ?_); rintro e w20 ⟨Byf, yf, rfl, hsh, hvx, hb⟩; have HBo := hide hb; have HB := hide (HB.out.trans (hb.mono HB.out.size)); have HPa := hide (HPa.out.on hb); have HPb := hide (HPb.out.on hb); have HPc := hide (HPc.out.on hb); have HPd := hide (HPd.out.on hb); have HWya := hide (HWya.out.on hb); have HWyb := hide (HWyb.out.on hb); have HWyc := hide (HWyc.out.on hb); have HWm := hide (HWm.out.on hb); have HWyd := hide (HWyd.out.on hb); have HWye := hide (HWye.out.on hb); have HWn := hide (HWn.out.on hb); have HXyf := hide (hsh.trans HSa.out); have HNyf := hide (show yf.length ≤ 600 by rw [mapLen hsh]; exact HEa.out); have HWyf := hide hvx; clear hsh hvx; have M20 := True.intro)
          | (clear M18; go_at_call 25; (with_reducible refine (merge1 HXye.out HWye.out HNye.out).mono ?_); rintro e w19 ⟨Bn, dn, yn, rfl, hlm, hsm, hvm, hb⟩; have HBo := hide hb; have HB := hide (HB.out.trans (hb.mono HB.out.size)); have HPa := hide (HPa.out.on hb); have HPb := hide (HPb.out.on hb); have HPc := hide (HPc.out.on hb); have HPd := hide (HPd.out.on hb); have HWya := hide (HWya.out.on hb); have HWyb := hide (HWyb.out.on hb); have HWyc := hide (HWyc.out.on hb); have HWm := hide (HWm.out.on hb); have HWyd := hide (HWyd.out.on hb); have HWye := hide (HWye.out.on hb); have HLn := hide hlm; have HSn := hide hsm; have HWn := hide hvm; clear hlm hsm hvm; have M19 := True.intro)
          | (clear M17; go_at_call 13; (with_reducible refine (HALL.out _ pa Sa HPa.out (by have := HEa.out; omega)).mono ?_); rintro e w18 ⟨Bye, ye, rfl, hsh, hvx, hb⟩; have HBo := hide hb; have HB := hide (HB.out.trans (hb.mono HB.out.size)); have HPa := hide (HPa.out.on hb); have HPb := hide (HPb.out.on hb); have HPc := hide (HPc.out.on hb); have HPd := hide (HPd.out.on hb); have HWya := hide (HWya.out.on hb); have HWyb := hide (HWyb.out.on hb); have HWyc := hide (HWyc.out.on hb); have HWm := hide (HWm.out.on hb); have HWyd := hide (HWyd.out.on hb); have HXye := hide (hsh.trans HSa.out); have HNye := hide (show ye.length ≤ 600 by rw [mapLen hsh]; exact HEa.out); have HWye := hide hvx; clear hsh hvx; have M18 := True.intro)
          | (clear M16; go_at_call 25; (with_reducible refine (merge0 _).mono ?_); rintro e w17 ⟨⟨Bz, dz, rfl⟩, hb⟩; have HBo := hide hb; have HB := hide (HB.out.trans (hb.mono HB.out.size)); have HPa := hide (HPa.out.on hb); have HPb := hide (HPb.out.on hb); have HPc := hide (HPc.out.on hb); have HPd := hide (HPd.out.on hb); have HWya := hide (HWya.out.on hb); have HWyb := hide (HWyb.out.on hb); have HWyc := hide (HWyc.out.on hb); have HWm := hide (HWm.out.on hb); have HWyd := hide (HWyd.out.on hb); have M17 := True.intro)
          | (clear M15; go_at_call 14; (with_reducible refine (sameT (HSm.out _ HXyd.out) HWm.out HWyd.out HLm.out HNyd.out).mono ?_); rintro e w16 ⟨rfl, hb⟩; have HBo := hide hb; have HB := hide (HB.out.trans (hb.mono HB.out.size)); have HPa := hide (HPa.out.on hb); have HPb := hide (HPb.out.on hb); have HPc := hide (HPc.out.on hb); have HPd := hide (HPd.out.on hb); have HWya := hide (HWya.out.on hb); have HWyb := hide (HWyb.out.on hb); have HWyc := hide (HWyc.out.on hb); have HWm := hide (HWm.out.on hb); have HWyd := hide (HWyd.out.on hb); have M16 := True.intro)
          | (clear M14; go_at_call 13; (with_reducible refine (HALL.out _ pd Sd HPd.out (by have := HEd.out; omega)).mono ?_); rintro e w15 ⟨Byd, yd, rfl, hsh, hvx, hb⟩; have HBo := hide hb; have HB := hide (HB.out.trans (hb.mono HB.out.size)); have HPa := hide (HPa.out.on hb); have HPb := hide (HPb.out.on hb); have HPc := hide (HPc.out.on hb); have HPd := hide (HPd.out.on hb); have HWya := hide (HWya.out.on hb); have HWyb := hide (HWyb.out.on hb); have HWyc := hide (HWyc.out.on hb); have HWm := hide (HWm.out.on hb); have HXyd := hide (hsh.trans HSd.out); have HNyd := hide (show yd.length ≤ 1800 by rw [mapLen hsh]; exact HEd.out); have HWyd := hide hvx; clear hsh hvx; have M15 := True.intro)
          | (clear M13; go_at_call 25; (with_reducible refine (merge3 HXya.out HXyb.out HXyc.out HWya.out HWyb.out HWyc.out HNya.out HNyb.out HNyc.out).mono ?_); rintro e w14 ⟨Bm, dm, ym, rfl, hlm, hsm, hvm, hb⟩; have HBo := hide hb; have HB := hide (HB.out.trans (hb.mono HB.out.size)); have HPa := hide (HPa.out.on hb); have HPb := hide (HPb.out.on hb); have HPc := hide (HPc.out.on hb); have HPd := hide (HPd.out.on hb); have HWya := hide (HWya.out.on hb); have HWyb := hide (HWyb.out.on hb); have HWyc := hide (HWyc.out.on hb); have HLm := hide hlm; have HSm := hide hsm; have HWm := hide hvm; clear hlm hsm hvm; have M14 := True.intro)
          | (clear M12; go_at_call 13; (with_reducible refine (HALL.out _ pc Sc HPc.out (by have := HEc.out; omega)).mono ?_); rintro e w13 ⟨Byc, yc, rfl, hsh, hvx, hb⟩; have HBo := hide hb; have HB := hide (HB.out.trans (hb.mono HB.out.size)); have HPa := hide (HPa.out.on hb); have HPb := hide (HPb.out.on hb); have HPc := hide (HPc.out.on hb); have HPd := hide (HPd.out.on hb); have HWya := hide (HWya.out.on hb); have HWyb := hide (HWyb.out.on hb); have HXyc := hide (hsh.trans HSc.out); have HNyc := hide (show yc.length ≤ 600 by rw [mapLen hsh]; exact HEc.out); have HWyc := hide hvx; clear hsh hvx; have M13 := True.intro)
          | (clear M11; go_at_call 13; (with_reducible refine (HALL.out _ pb Sb HPb.out (by have := HEb.out; omega)).mono ?_); rintro e w12 ⟨Byb, yb, rfl, hsh, hvx, hb⟩; have HBo := hide hb; have HB := hide (HB.out.trans (hb.mono HB.out.size)); have HPa := hide (HPa.out.on hb); have HPb := hide (HPb.out.on hb); have HPc := hide (HPc.out.on hb); have HPd := hide (HPd.out.on hb); have HWya := hide (HWya.out.on hb); have HXyb := hide (hsh.trans HSb.out); have HNyb := hide (show yb.length ≤ 600 by rw [mapLen hsh]; exact HEb.out); have HWyb := hide hvx; clear hsh hvx; have M12 := True.intro)
          | (clear M10; go_at_call 13; (with_reducible refine (HALL.out _ pa Sa HPa.out (by have := HEa.out; omega)).mono ?_); rintro e w11 ⟨Bya, ya, rfl, hsh, hvx, hb⟩; have HBo := hide hb; have HB := hide (HB.out.trans (hb.mono HB.out.size)); have HPa := hide (HPa.out.on hb); have HPb := hide (HPb.out.on hb); have HPc := hide (HPc.out.on hb); have HPd := hide (HPd.out.on hb); have HXya := hide (hsh.trans HSa.out); have HNya := hide (show ya.length ≤ 600 by rw [mapLen hsh]; exact HEa.out); have HWya := hide hvx; clear hsh hvx; have M11 := True.intro)
          | (clear M9; go_at_call 12; (with_reducible refine (HMD.out _ X3 x3 HB.out HRD.out).mono ?_); rintro e w10 ⟨pd, qd, Sd, rfl, hst, hsh, hle, hb⟩; have HBo := hide hb; have HB := hide (HB.out.trans (hb.mono HB.out.size)); have HPa := hide (HPa.out.on hb); have HPb := hide (HPb.out.on hb); have HPc := hide (HPc.out.on hb); have HPd := hide hst; have HSd := hide hsh; have HEd := hide (show Sd.length ≤ 1800 by rw [List.length_append, List.length_append] at hle; have := HL0.out; have := HL1.out; have := HL2.out; omega); clear hst hsh hle; have M10 := True.intro)
          | (clear M8; at_builtin; refine wl_append (n := l0.length + l1.length) rfl rfl rowFc HS2.out 0 rfl rfl rfl (HR2.out.below (HB.out.trans (HS2.out.below.mono HB.out.size))) HO2.out (by omega) (by decide) ?_; intro X3 x3 u3 hS3; have hb := hS3.below; have HB := hide (HB.out.trans (hb.mono HB.out.size)); have HPa := hide (HPa.out.on hb); have HPb := hide (HPb.out.on hb); have HPc := hide (HPc.out.on hb); have HRD := hide (hS3.rd 0 rfl); clear hS3 hb; have M9 := True.intro)
          | (clear M7; at_builtin; refine wl_append (n := l0.length) rfl rfl rowFc HS1.out 0 rfl rfl rfl (HR1.out.below (HB.out.trans (HS1.out.below.mono HB.out.size))) HO1.out (by omega) (by decide) ?_; intro X2 x2 u2 hS2; have HS2 := hide hS2; clear hS2; have M8 := True.intro)
          | (clear M6; at_builtin; refine wl_append (n := 0) rfl rfl rowFc (HRF.out _) 0 rfl rfl rfl (HR0.out.below (HB.out.trans ((HRF.out _).below.mono HB.out.size))) HO0.out (by omega) (by decide) ?_; intro X1 x1 u1 hS1; rw [Nat.zero_add, List.nil_append] at hS1; have HS1 := hide hS1; clear hS1; rw [Nat.zero_add]; have M7 := True.intro)
          | (clear M5; go_at_call 12; (with_reducible refine (HM2.out _ HB.out).mono ?_); rintro e w6 ⟨pc, qc, Sc, rfl, hst, hsh, hle, hb⟩; have HBo := hide hb; have HB := hide (HB.out.trans (hb.mono HB.out.size)); have HPa := hide (HPa.out.on hb); have HPb := hide (HPb.out.on hb); have HPc := hide hst; have HSc := hide hsh; have HEc := hide (Nat.le_trans hle HL2.out); clear hst hsh hle; have M6 := True.intro)
          | (clear M4; go_at_call 12; (with_reducible refine (HM1.out _ HB.out).mono ?_); rintro e w5 ⟨pb, qb, Sb, rfl, hst, hsh, hle, hb⟩; have HBo := hide hb; have HB := hide (HB.out.trans (hb.mono HB.out.size)); have HPa := hide (HPa.out.on hb); have HPb := hide hst; have HSb := hide hsh; have HEb := hide (Nat.le_trans hle HL1.out); clear hst hsh hle; have M5 := True.intro)
          | (clear M3; go_at_call 12; (with_reducible refine (HM0.out _ HB.out).mono ?_); rintro e w4 ⟨pa, qa, Sa, rfl, hst, hsh, hle, hb⟩; have HBo := hide hb; have HB := hide (HB.out.trans (hb.mono HB.out.size)); have HPa := hide hst; have HSa := hide hsh; have HEa := hide (Nat.le_trans hle HL0.out); clear hst hsh hle; have M4 := True.intro)
          | (clear M2; go_at_call 9; (with_reducible refine (HF2.out _ HB.out).mono ?_); rintro e w3 ⟨rfl, hb⟩; have HBo := hide hb; have HB := hide (HB.out.trans (hb.mono HB.out.size)); have M3 := True.intro)
          | (clear M1; go_at_call 9; (with_reducible refine (HF1.out _ HB.out).mono ?_); rintro e w2 ⟨rfl, hb⟩; have HBo := hide hb; have HB := hide (HB.out.trans (hb.mono HB.out.size)); have M2 := True.intro)
          | (clear M0; go_at_call 9; (with_reducible refine (HF0.out _ HB.out).mono ?_); rintro e w1 ⟨rfl, hb⟩; have HBo := hide hb; have HB := hide (HB.out.trans (hb.mono HB.out.size)); have M1 := True.intro))
        go_ret
        exact ⟨rfl, HB.out⟩
end Go.Proofs.Ythpioncehigoaaa
/-
  The statement 'StoreMerges': its arguments opened; the row.
-/
set_option linter.unusedSimpArgs false
set_option linter.unusedVariables false
namespace Go.Proofs.Ythpioncehigoaaa
open Go.ChangeShapes Go.WideShapes Go.ChangeAt Go.RowKit

set_option maxRecDepth 100000 in
theorem storeMerges_lifted (os : Os) (started : os.Started) (H : Type) (enc : TypeId × Value → H) :
    ReturnsInHanded {} Try.checked os 8 .any (Rows.storeMergesSpec.pre6 enc Try.prog Try.f8 Rows.storeMergesRow.domain false) (Rows.storeMergesSpec.post enc Try.prog Try.f8 false true false false) := by
  refine lift_law (C := Try.checked) own started (by kernel_rfl) Try.func8 rfl rfl (tb := 4) (by kernel_rfl) Try.underlying4 laidOut (by kernel_rfl) ?_
    (ChangeSpec.witness6 (enc := enc) (C := Try.checked) false ⟨#[], #[.slice none 0 0, .slice none 0 0, .slice none 0 0], []⟩ 8 (by kernel_rfl) (by kernel_rfl) (by kernel_rfl) (by kernel_rfl)) ?_
  · intro ds hds
    rw [Try.params8] at hds
    match ds, hds with
    | [d0, d1, d2], _ => exact ⟨rfl, rfl, rfl⟩
  · intro W args ds p hT
    obtain ⟨hA, ⟨base, hok⟩, hsz⟩ := hT
    rw [Try.params8] at hA hok hsz
    obtain ⟨v0, v1, v2, d0, d1, d2, p0, p1, p2, rfl, rfl, rfl, h0, h1, h2⟩ := trodAll_three hA
    obtain ⟨a0, len0, cap0, rfl⟩ := okWide_slice Try.underlying29 (hok 0 29 v0 rfl rfl)
    obtain ⟨fuel0, hf0⟩ := h0
    obtain ⟨a1, len1, cap1, rfl⟩ := okWide_slice Try.underlying29 (hok 1 29 v1 rfl rfl)
    obtain ⟨fuel1, hf1⟩ := h1
    obtain ⟨a2, len2, cap2, rfl⟩ := okWide_slice Try.underlying29 (hok 2 29 v2 rfl rfl)
    obtain ⟨fuel2, hf2⟩ := h2
    obtain ⟨l0, rfl, r0, m0⟩ := open_facts (show DataW.trod enc Try.prog W 0 (fun _ => true) true fuel0 29 [.slice a0 len0 cap0] = some (d0, p0) from hf0) (fun n hn => by
      have := List.all_eq_true.1 hsz n (DataW.weights_mem_each (j := 0) rfl rfl n hn)
      simpa using this)
    obtain ⟨l1, rfl, r1, m1⟩ := open_facts (show DataW.trod enc Try.prog W 0 (fun _ => true) true fuel1 29 [.slice a1 len1 cap1] = some (d1, p1) from hf1) (fun n hn => by
      have := List.all_eq_true.1 hsz n (DataW.weights_mem_each (j := 1) rfl rfl n hn)
      simpa using this)
    obtain ⟨l2, rfl, r2, m2⟩ := open_facts (show DataW.trod enc Try.prog W 0 (fun _ => true) true fuel2 29 [.slice a2 len2 cap2] = some (d2, p2) from hf2) (fun n hn => by
      have := List.all_eq_true.1 hsz n (DataW.weights_mem_each (j := 2) rfl rfl n hn)
      simpa using this)
    exact storeMerges_walk l0 l1 l2 _ _ _ _ r0 m0 r1 m1 r2 m2

theorem storeMerges_over : Rows.storeMergesRow.holds Try.pinned (OpenSpec.ofChange Rows.storeMergesSpec) :=
  OpenClaim.holds_of_wide 8 Try.f8 rfl rfl rfl rfl rfl rfl rfl ⟨rfl, rfl, rfl, rfl, rfl⟩ rfl rfl rfl rfl rfl (by kernel_rfl) Try.func8 (by kernel_rfl)
    (of_decide_eq_true (by kernel_rfl)) (by unfold Func.isWrapper; first | (rw [if_pos (by decide +kernel)]; kernel_rfl) | (rw [if_neg (by decide +kernel)]; exact ⟨rfl, rfl⟩))
    (fun os started H enc _ => storeMerges_lifted os started H enc)

/-- The statement. -/
theorem storeMerges_proved : Rows.StoreMergesSaid := storeMerges_over
#print axioms storeMerges_proved
end Go.Proofs.Ythpioncehigoaaa
