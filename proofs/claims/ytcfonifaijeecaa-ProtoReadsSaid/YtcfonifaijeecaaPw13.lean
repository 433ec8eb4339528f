/-
  The walk of the page's Fields.
-/
import Derived.Test.YtcfonifaijeecaaPw11
import Derived.Test.YtcfonifaijeecaaPw12
namespace Go.Proofs.Ytcfonifaijeecaa
open Go.RowKit

theorem tyR : RowTy Try.prog 47 55 4 48 := rowTy_of (z := .agg #[.int .i64 0, .bool false, .int .u64 0, .slice none 0 0]) (by kernel_rfl) (by kernel_rfl) (by kernel_rfl) (by decide)

/-- May the tag be? -/
@[irreducible] def noTag (tag : Nat) : Bool := (decide (tag % 8 ≠ 0) && decide (tag % 8 ≠ 2)) || decide (tag / 8 < 1) || decide (100 < tag / 8)
theorem noTag_yes (tag : Nat) (h : noTag tag = true) : ¬ ((tag % 8 = 0 ∨ tag % 8 = 2) ∧ mayB (numF tag) = true) := by
  unfold noTag at h
  unfold mayB numF
  simp at h ⊢
  omega
theorem noTag_no (tag : Nat) (h : noTag tag = false) : (tag % 8 = 0 ∨ tag % 8 = 2) ∧ mayB (numF tag) = true ∧ numF tag = tag / 8 := by
  unfold noTag at h
  unfold mayB numF
  simp at h ⊢
  omega

theorem page_cut {A' : Option Addr} {c' : Nat} {r rest : List UInt8} {k : Nat} (hk : k ≤ r.length) (h : rest = r.drop k) (kd : IntKind) :
    ∃ A1 a1, (∀ W, (Instr.sliceAt 27 (.slice A' r.length c') (some (.int kd (k : Int))) none none).run Try.prog W = .ok (.slice A1 rest.length a1) W) ∧ CutR A' c' r A1 a1 rest := by
  refine ⟨cutA A' c' k, c' - k, fun W => ?_, ?_⟩
  · rw [h, List.length_drop]
    exact run_cut Try.underlying27 cellU8 infoU8 kd A' r.length c' k hk W
  · rw [h]
    exact cutR A' c' r k hk
theorem fd_bads2 (l : List UInt8) (tag k : Nat) (rest : List UInt8) (h : rv l = .ok tag rest) (h0 : tag % 8 = 0 ∨ tag % 8 = 2) (hm : mayB (numF tag) = true) (h2 : rv rest = .bad k) : fd l = .bad k := by
  rcases h0 with h0 | h0
  · exact fd_numBad l tag k rest h h0 hm h2
  · exact fd_rawBad l tag k rest h h0 hm (rw_bad rest k h2)

section
variable {P : Program} {w0 w : World} {M : Nat → Prop} {H : List Chunk}
/-- 'append(s, x)' behind the literal that holds x, a struct; the literal's block told. -/
theorem wl_appendB {ops : Array Oper} {rest : List Oper} {o : Oper} {a : Act} {Q : Exit → Act → World → Prop} (hgd : o.guard = none) {s x : Operand} {t e e' : TypeId} {size bytes b : Nat}
    (ho : o.op = .call { callee := .builtin .append, args := #[s, x], argTypes := #[t, t] }) (T : RowTy P t e size bytes)
    (hS : St w0 M w H) (hb : w.heap.size = b) (k : Nat) {v : Value} {n : Nat} {xs : List Value} (hk : H[k]? = some (.row v e size n xs)) (hs : a.eval s = v)
    {m : Nat} {us : List Value} (hx : a.eval x = .slice (some ⟨b, 0, none⟩) m m) (hm : us.length = m * size) (h1 : ∀ u ∈ us, u.oneCell' = true) (hlen : n + m ≤ 4294967296) (hby : bytes ≤ 32768)
    (h : ∀ A' c' w', St w0 M w' (H.set k (.row (.slice A' (n + m) c') e size (n + m) (xs ++ us))) → wpList P ops Q rest (a.put o.dst (.slice A' (n + m) c')) w') : wpList P ops Q (o :: rest) a (w.alloc (.cells us.toArray e')) := by
  subst hb
  exact wl_appendN hgd ho T hS k hk hs hx hm h1 hlen hby h
end
def PageRel (w : World) (A : Option Addr) (c : Nat) (l : List UInt8) (left : Nat) (b v : Value) (wr : World) : Prop :=
  ∃ (xs : List FdL) (r : List UInt8) (B : Option Addr) (d : Nat) (A' : Option Addr) (c' : Nat), v = .slice B xs.length d ∧ b = .slice A' r.length c' ∧ left = r.length ∧ xs.length + r.length ≤ l.length ∧
    St w NoB wr (.row (.slice B xs.length d) 55 4 xs.length (cellsF xs) :: chunksF xs) ∧ CutR A c l A' c' r ∧ fds l = (fds r).pre (xs.map FdL.f)

set_option maxRecDepth 100000 in
set_option maxHeartbeats 800000 in
theorem pfields_walk (w : World) (A : Option Addr) (c : Nat) (l : List UInt8) (hl : l.length ≤ 65536) (hr : Rd w (.slice A l.length c) 1 l.length (bvs l)) :
    Calls Try.prog 23 #[.slice A l.length c] w (ResF 55 w (fds l)) := by
  have hle : decide (65536 < (l.length : Int)) = false := by simp; omega
  have HR := hide hr
  have HS := hide ((St.init w NoB).row (Below.refl _ _) (World.ownsRow_nil w w.heap.size 55 4))
  clear hr
  go_enter Try.func23, Try.ntmps23
  go_wp2_with fail
  go_loopg [0, 4] (l.length) (fun left b v wr => PageRel w A c l left b v wr)
  case atStart => exact ⟨[], l, none, 0, A, c, rfl, rfl, rfl, by simp, HS.out, fun _ h => h, (FsR.pre_nil _).symm⟩
  case round =>
    obtain ⟨xs, r, B, d, A', c', rfl, rfl, rfl, hxl, hS, hcr, hfd⟩ := hrel
    by_cases hr0 : r = []
    · subst hr0
      rw [fds_nil] at hfd
      have hd0 : decide ((0 : Int) < (([] : List UInt8).length : Int)) = false := rfl
      have HF := hide hfd
      have HX := hide hxl
      clear hfd hxl
      go_wp2_with fail
      go_ret2
      rw [HF.out]
      exact ⟨xs, B, d, rfl, by simp [FsR.pre], hS⟩
    · have hpos : 0 < r.length := List.length_pos_iff.2 hr0
      have hd0 : decide ((0 : Int) < (r.length : Int)) = true := by simp; omega
      have V := pvarint_walk wr A' c' r (by omega) (hcr wr (HR.out.st hS))
      cases hv : rv r with
      | bad k =>
        have HF := hide (show fds l = .bad k by rw [hfd, fds_bad r k hr0 (fd_bad r k hv)]; rfl)
        have hk := rv_bads r k hv
        have hk2 : ((k : Int) != 0) = true := by rcases hk with rfl | rfl <;> rfl
        rw [hv] at V
        have VV := hide V
        clear V hfd hv hk hxl
        go_wp2_with (go_at_call 29; refine VV.out.mono ?_; rintro e w2 ⟨rfl, rfl⟩)
        go_ret2
        rw [HF.out]
        exact ⟨rfl, hS.below⟩
      | ok tag rest =>
        have hlr := rv_len r tag rest hv
        rw [hv] at V
        have VV := hide V
        have HX := hide hxl
        have HFD := hide hfd
        have HV := hide hv
        clear V hfd hv hxl
        go_upto_region 10 with (go_at_call 29; refine VV.out.mono ?_; rintro e w2 ⟨rfl, hw, kk, hkk, hrest, rfl⟩; obtain ⟨A1, a1, hct, hcr1⟩ := page_cut (A' := A') (c' := c') hkk hrest .i64; clear hrest)
        clear hct hkk VV
        obtain ⟨k8, hk8⟩ : ∃ k8, k8 = tag % 8 := ⟨_, rfl⟩
        have ha := and7 tag hw
        rw [← hk8] at ha
        have hcr2 := hcr.trans hcr1
        clear hcr hcr1
        go_cut [8, 46] (fun s t wx => s = .int .u64 (k8 : Int) ∧ t = .bool (noTag tag) ∧ wx = w2)
        case first =>
          have e0 : ((k8 : Int) == 0) = decide (k8 = 0) := by rw [Bool.eq_iff_iff]; simp
          have e0' : ((k8 : Int) != 0) = !decide (k8 = 0) := by rw [bne, e0]
          have e2 : ((k8 : Int) == 2) = decide (k8 = 2) := by rw [Bool.eq_iff_iff]; simp; omega
          have e2' : ((k8 : Int) != 2) = !decide (k8 = 2) := by rw [bne, e2]
          have l1 : decide ((tag : Int) / 8 < 1) = decide (tag / 8 < 1) := by rw [Bool.eq_iff_iff]; simp; omega
          have l2 : decide (100 < (tag : Int) / 8) = decide (100 < tag / 8) := by rw [Bool.eq_iff_iff]; simp; omega
          have ew : noTag tag = ((!decide (k8 = 0) && !decide (k8 = 2)) || decide (tag / 8 < 1) || decide (100 < tag / 8)) := by unfold noTag; rw [hk8, decide_not, decide_not]
          have HK := hide hk8
          have HW := hide hw
          clear hk8 hw
          cases h0 : decide (k8 = 0) <;> cases h2 : decide (k8 = 2) <;> cases h1 : decide (tag / 8 < 1) <;> cases h100 : decide (100 < tag / 8)
          all_goals (rw [h0] at e0 e0'; rw [h2] at e2 e2'; rw [h1] at l1; rw [h100] at l2; rw [h0, h2, h1, h100] at ew; have EW := hide ew; clear ew h0 h2 h1 h100)
          all_goals go_wp2_with fail
          all_goals (go_meet; refine ⟨congrArg (Value.int .u64) ha, ?_, rfl⟩; rw [EW.out]; rfl)
        case rest =>
          obtain ⟨rfl, rfl, rfl⟩ := hcut
          cases hno : noTag tag
          · obtain ⟨n1, n2, n3⟩ := noTag_no tag hno
            have V2 := fun wq (hq : Below w.heap.size w wq) => pvarint_walk wq A1 a1 rest (by have := HX.out; omega) (hcr2 wq (HR.out.below hq))
            have hnum : ((numF tag : Nat) : Int) = (tag : Int) / 8 := by rw [n3]; omega
            have hlo : 0 ≤ (tag : Int) / 8 := by omega
            have hhi : (tag : Int) / 8 ≤ 100 := by have := mayB_of _ n2; omega
            have HN := hide hnum
            have HS2 := hide hS
            have HK := hide hk8
            clear hnum n3 ha hS hno hk8
            cases h2 : decide (k8 = 2)
            · have e2 : ((k8 : Int) == 2) = false := by rw [← h2, Bool.eq_iff_iff]; simp; omega
              have hk0 : tag % 8 = 0 := by have := HK.out; simp at h2; omega
              clear h2
              cases hv2 : rv rest with
              | bad j =>
                have HF := hide (show fds l = .bad j by rw [HFD.out, fds_bad r j hr0 (fd_bads2 r tag j rest HV.out n1 n2 hv2)]; rfl)
                have hj := rv_bads rest j hv2
                have hj2 : ((j : Int) != 0) = true := by rcases hj with rfl | rfl <;> rfl
                rw [hv2] at V2
                have VV2 := hide V2
                clear V2 hv2 hj n1 n2 hk0
                go_wp2_with (go_at_call 29; refine (VV2.out _ (HS2.out.skip _).below).mono ?_; rintro e w3 ⟨rfl, rfl⟩)
                go_ret2
                rw [HF.out]
                exact ⟨rfl, (HS2.out.skip _).below⟩
              | ok n r2 =>
                have HF := hide (show fds l = (fds r2).pre ((xs.map FdL.f) ++ [⟨numF tag, false, n, []⟩]) by rw [HFD.out, fds_ok r _ r2 hr0 (fd_num r tag n rest r2 HV.out hk0 n2 hv2), FsR.pre_pre])
                have hlr2 := rv_len rest n r2 hv2
                rw [hv2] at V2
                have VV2 := hide V2
                clear V2 hv2 n1 n2 hk0
                go_wp2_with (first
                  | (go_at_call 29; refine (VV2.out _ (HS2.out.skip _).below).mono ?_; rintro e w3 ⟨he3, hw3, kk2, hkk2, hrest2, rfl⟩; subst he3; obtain ⟨A2, a2, hct, hcr3⟩ := page_cut (A' := A1) (c' := a1) hkk2 hrest2 .i64; clear hrest2)
                  | (at_builtin; refine wl_appendB rfl rfl tyR (HS2.out.skip _) (size_alloc1 _ _) 0 rfl rfl (us := [_, _, _, _]) rfl rfl ?_ ?_ (by decide) ?_; (intro u hu; simp only [List.mem_cons, List.not_mem_nil, or_false] at hu; rcases hu with rfl | rfl | rfl | rfl <;> rfl); (have := HX.out; omega); intro B3 d3 w3 hS3))
                go_roundg (r2.length)
                case rel =>
                  refine ⟨xs ++ [⟨⟨numF tag, false, n, []⟩, none, 0⟩], r2, B3, d3, A2, a2, by simp, rfl, rfl, ?_, ?_, hcr2.trans hcr3, ?_⟩
                  · have := HX.out
                    simp only [List.length_append, List.length_singleton]
                    omega
                  · rw [cellsF_snoc, chunksF_snoc, List.length_append, List.length_singleton]
                    have hS4 := (hS3.row (Below.refl _ _) (World.ownsRow_nil _ _ 5 1)).swap
                    unfold FdL.cells FdL.chunk
                    rw [HN.out]
                    exact hS4
                  · rw [HF.out, List.map_append]
                    rfl
                case measure => omega
            · have e2 : ((k8 : Int) == 2) = true := by rw [← h2, Bool.eq_iff_iff]; simp; omega
              have hk0 : tag % 8 = 2 := by have := HK.out; simp at h2; omega
              clear h2
              cases hv2 : rv rest with
              | bad j =>
                have HF := hide (show fds l = .bad j by rw [HFD.out, fds_bad r j hr0 (fd_bads2 r tag j rest HV.out n1 n2 hv2)]; rfl)
                have hj := rv_bads rest j hv2
                have hj2 : ((j : Int) != 0) = true := by rcases hj with rfl | rfl <;> rfl
                rw [hv2] at V2
                have VV2 := hide V2
                clear V2 hv2 hj n1 n2 hk0
                go_wp2_with (go_at_call 29; refine (VV2.out _ (HS2.out.skip _).below).mono ?_; rintro e w3 ⟨rfl, rfl⟩)
                go_ret2
                rw [HF.out]
                exact ⟨rfl, (HS2.out.skip _).below⟩
              | ok n r2 =>
                have hlr2 := rv_len rest n r2 hv2
                by_cases hn : n ≤ r2.length
                · have HF := hide (show fds l = (fds (r2.drop n)).pre ((xs.map FdL.f) ++ [⟨numF tag, true, 0, r2.take n⟩]) by rw [HFD.out, fds_ok r _ _ hr0 (fd_raw r tag rest _ _ HV.out hk0 n2 (rw_ok rest n r2 hv2 hn)), FsR.pre_pre])
                  rw [hv2] at V2
                  have VV2 := hide V2
                  have hn' : decide ((r2.length : Int) < (n : Int)) = false := by simp; omega
                  have hlr : n ≤ 4294967296 := by have := HX.out; omega
                  have hl64 : r2.length ≤ 1000000 := by have := HX.out; omega
                  clear V2 hv2 n1 n2 hk0
                  go_wp2_with (first
                    | (go_at_call 29; refine (VV2.out _ (HS2.out.skip _).below).mono ?_; rintro e w3 ⟨he3, hw3, kk2, hkk2, hrest2, rfl⟩; subst he3; obtain ⟨A2, a2, hct, hcr3⟩ := page_cut (A' := A1) (c' := a1) hkk2 hrest2 .i64; clear hrest2; have hq := (fun W (hW : Below w.heap.size w W) => (hcr2.trans hcr3) W (HR.out.below hW)); have hcap : r2.length ≤ a2 := (by obtain ⟨_, _, e, _, h, _⟩ := hq _ HS2.out.below; injection e with _ _ e; omega); obtain ⟨A3, a3, hct2, hcr4⟩ := page_cut (A' := A2) (c' := a2) hn rfl .u64)
                    | (at_builtin; refine wl_append0 rfl rfl tyB (HS2.out.alloc _ _) rfl rfl (rd_take (hq _ (HS2.out.alloc _ _).below) n hn) (one_bvs _) hlr (by decide) ?_; intro B2 d2 w4 hS4; have f3 := hS4.free 1 rfl 3; have q0 : w4.cell? ⟨wc.heap.size, 0, none⟩ = some (.int .i64 ((tag : Int) / 8)) := hS4.cell 1 rfl 0; have q1 : w4.cell? ⟨wc.heap.size, 1, none⟩ = some (.bool true) := hS4.cell 1 rfl 1; have q2 : w4.cell? ⟨wc.heap.size, 2, none⟩ = some (.int .u64 0) := hS4.cell 1 rfl 2; have q3 : w4.cell? ⟨wc.heap.size, 3, none⟩ = some (.slice none 0 0) := hS4.cell 1 rfl 3)
                    | (at_builtin; refine wl_appendB rfl rfl tyR (hS4.setCell 1 rfl 3 (.slice B2 n d2)) (b := w4.heap.size) (by simp) 2 rfl rfl (us := [_, _, _, _]) rfl rfl ?_ ?_ (by decide) ?_; (intro u hu; simp only [List.mem_cons, List.not_mem_nil, or_false] at hu; rcases hu with rfl | rfl | rfl | rfl <;> rfl); (have := HX.out; omega); intro B3 d3 w5 hS5))
                  go_roundg ((r2.drop n).length)
                  case rel =>
                    have hlt : (r2.take n).length = n := by rw [List.length_take]; omega
                    refine ⟨xs ++ [⟨⟨numF tag, true, 0, r2.take n⟩, B2, d2⟩], r2.drop n, B3, d3, A3, a3, by simp, by rw [List.length_drop], rfl, ?_, ?_, (hcr2.trans hcr3).trans hcr4, ?_⟩
                    · have := HX.out
                      simp only [List.length_append, List.length_singleton, List.length_drop]
                      omega
                    · rw [cellsF_snoc, chunksF_snoc, List.length_append, List.length_singleton]
                      have hS6 := hS5.rot3.swap12.mid2
                      unfold FdL.cells FdL.chunk
                      rw [HN.out, hlt]
                      exact hS6
                    · rw [HF.out, List.map_append]
                      rfl
                  case measure => rw [List.length_drop]; omega
                · have HF := hide (show fds l = .bad 2 by rw [HFD.out, fds_bad r 2 hr0 (fd_rawBad r tag 2 rest HV.out hk0 n2 (rw_short rest n r2 hv2 hn))]; rfl)
                  rw [hv2] at V2
                  have VV2 := hide V2
                  have hn' : decide ((r2.length : Int) < (n : Int)) = true := by simp; omega
                  have hl64 : r2.length ≤ 1000000 := by have := HX.out; omega
                  clear V2 hv2 n1 n2 hk0
                  go_wp2_with (go_at_call 29; refine (VV2.out _ (HS2.out.skip _).below).mono ?_; rintro e w3 ⟨he3, hw3, kk2, hkk2, hrest2, rfl⟩; subst he3; obtain ⟨A2, a2, hct, hcr3⟩ := page_cut (A' := A1) (c' := a1) hkk2 hrest2 .i64; clear hrest2)
                  go_ret2
                  rw [HF.out]
                  exact ⟨rfl, (HS2.out.skip _).below⟩
          · have HF := hide (show fds l = .bad 3 by rw [HFD.out, fds_bad r 3 hr0 (fd_no r tag rest HV.out (noTag_yes tag hno))]; rfl)
            go_wp2_with fail
            go_ret2
            rw [HF.out]
            exact ⟨rfl, hS.below⟩
end Go.Proofs.Ytcfonifaijeecaa
