/-
  The walk of 'ProtoReads'.
-/
import Derived.Test.YtcfonifaijeecaaLb
namespace Go.Proofs.Ytcfonifaijeecaa
open Go.RowKit

theorem idx_of (z : Int) (n : Nat) (h0 : 0 < n) (hn : n ≤ 1000000) : ∃ j : Nat, j < n ∧ wrap64 ((IntKind.u64.wrap z).tmod (n : Int)) = (j : Int) := by
  have h := IntKind.wrap_u64 z
  refine ⟨(z % 18446744073709551616 % n).toNat, ?_, ?_⟩
  · have := Int.emod_lt_of_pos (z % 18446744073709551616) (show (0 : Int) < n by omega)
    have := Int.emod_nonneg (z % 18446744073709551616) (show (n : Int) ≠ 0 by omega)
    omega
  · rw [h, Int.tmod_eq_emod_of_nonneg (by omega)]
    have h1 := Int.emod_lt_of_pos (z % 18446744073709551616) (show (0 : Int) < n by omega)
    have h2 := Int.emod_nonneg (z % 18446744073709551616) (show (n : Int) ≠ 0 by omega)
    rw [IntWalk.wrap64_in _ (by omega)]
    omega
theorem xor_of (a x : Nat) (ha : a < 256) (hx : x < 256) : ∃ m : Nat, m < 256 ∧ bits .xor .u8 (a : Int) (x : Int) = (m : Int) := by
  refine ⟨a ^^^ x, Nat.xor_lt_two_pow (n := 8) ha hx, ?_⟩
  exact u8_xor_nat a x ha hx
theorem bvs_set (l : List UInt8) (j m : Nat) (hm : m < 256) : (bvs l).set j (.int .u8 (m : Int)) = bvs (l.set j (UInt8.ofNat m)) := by
  unfold bvs
  rw [List.map_set, bv, ofNat_toNat m hm]

def ReadsRel (w : World) (ps : List PutV) (v i : Value) (wr : World) : Prop :=
  ∃ (k : Nat) (B : Option Addr) (d : Nat) (l : List UInt8), k ≤ ps.length ∧ i = .int .i64 (k : Int) ∧ v = .slice B l.length d ∧ l = putAll (ps.take k) ∧ St w NoB wr [.row (.slice B l.length d) 5 1 l.length (bvs l)]
def FlipRel (w : World) (B : Option Addr) (n d np : Nat) (i : Value) (wr : World) : Prop :=
  ∃ (k : Nat) (l : List UInt8), k ≤ np ∧ i = .int .i64 (k : Int) ∧ l.length = n ∧ St w NoB wr [.row (.slice B n d) 5 1 n (bvs l)]
/-- Bytes that are read, not many. -/
theorem ix0 (u v : Value) (W : World) : (Instr.index 42 (.agg #[u, v]) (.int .i64 0)).run Try.prog W = .ok u W := by kernel_rfl
theorem ix1 (u v : Value) (W : World) : (Instr.index 42 (.agg #[u, v]) (.int .i64 1)).run Try.prog W = .ok v W := by kernel_rfl
def SomeB (w : World) (v : Value) (wx : World) : Prop := ∃ (y : List UInt8) (B : Option Addr) (m d : Nat), v = .slice B m d ∧ y.length = m ∧ m ≤ 12000 ∧ Rd wx (.slice B m d) 1 m (bvs y) ∧ Below w.heap.size w wx

set_option maxRecDepth 100000 in
set_option maxHeartbeats 1600000 in
theorem reads_walk (v1 : Value) (ps : List PutV) (P : Option Addr) (np cp : Nat) (zs : List Int) (x : Nat) (cut : Int) (R : Option Addr) (rc : Nat) (raw : List UInt8) (w : World) (h : PutsAt w v1 ps)
    (hzs : zs.length = np) (hp : Rd w (.slice P np cp) 1 np (zs.map (Value.int .i64))) (hx : x < 256) (hr : Rd w (.slice R raw.length rc) 1 raw.length (bvs raw)) :
    Calls Try.prog 4 #[v1, .slice P np cp, .int .u8 x, .int .i64 cut, .slice R raw.length rc] w fun e w' => e = .returned (.bool true) ∧ Below w.heap.size w w' := by
  have FEW := few_any v1 ps w h
  cases hf : fewB ps
  · rw [hf] at FEW
    have F1 := hide FEW
    clear FEW h hr hf hp hzs
    go_enter Try.func4, Try.ntmps4
    go_wp2_with (first
      | (go_at_call 9; refine F1.out.mono ?_; rintro e w1 ⟨rfl, hb1⟩)
      | (go_at_call 10; refine (awake_any _).mono ?_; rintro e w2 ⟨rfl, hb2⟩))
    go_ret
    exact ⟨rfl, hb1.trans (hb2.mono hb1.size)⟩
  by_cases hraw : raw.length ≤ 500
  case neg =>
    have hd : decide (500 < (raw.length : Int)) = true := by simp; omega
    rw [hf] at FEW
    have F1 := hide FEW
    clear FEW h hr hf hp hzs
    go_enter Try.func4, Try.ntmps4
    go_wp2_with (first
      | (go_at_call 9; refine F1.out.mono ?_; rintro e w1 ⟨rfl, hb1⟩)
      | (go_at_call 10; refine (awake_any _).mono ?_; rintro e w2 ⟨rfl, hb2⟩))
    go_ret
    exact ⟨rfl, hb1.trans (hb2.mono hb1.size)⟩
  case pos =>
    have hd : decide (500 < (raw.length : Int)) = false := by simp; omega
    obtain ⟨l1, l2⟩ := few_len ps hf
    rw [hf] at FEW
    have F1 := hide FEW
    have OKS : ∀ p ∈ ps, PutOK' w p := by
      intro p hp
      obtain ⟨e1, e2, _⟩ := h.each p hp
      have := lens_mem ps p hp
      exact ⟨e1, e2, by omega⟩
    have OK := hide OKS
    have R1 := hide h.rd
    have RR := hide hr
    have RP := hide hp
    have RZ := hide hzs
    have hnp : np ≤ maxLen := hp.le
    obtain ⟨A1, c1, rfl, h1, h2, h3, h4, h5⟩ := h.rd
    clear FEW OKS h hr hf h1 h4 h5 hp hzs
    unfold maxLen at h3 hnp
    go_enter Try.func4, Try.ntmps4
    go_wp2_with (go_at_call 9; refine F1.out.mono ?_; rintro e w1 ⟨rfl, hb1⟩)
    have HS0 := hide (((St.init w NoB).call hb1).row (Below.refl _ _) (World.ownsRow_nil _ _ 5 1))
    go_loopw [11, 34] (fun v i wr => ReadsRel w ps v i wr) (fun _ i _ => ps.length - (intOf i).toNat)
    case atStart => exact ⟨0, none, 0, [], by omega, rfl, rfl, rfl, HS0.out⟩
    case round =>
      obtain ⟨k, B, d, l, hk, rfl, rfl, hl, hS⟩ := hrel
      have lp := rows_len ps k (by omega) (by omega)
      rw [← hl] at lp
      clear hb1 F1
      by_cases hlt : k < ps.length
      · obtain ⟨p, hp⟩ : ∃ p, ps[k]? = some p := ⟨ps[k], List.getElem?_eq_getElem hlt⟩
        obtain ⟨e1, e2, e3⟩ := OK.out p (List.mem_of_getElem? hp)
        have hP := putAll_take ps k p hp
        rw [← hl] at hP
        rcases R1.out.cases with ⟨h0, hn0, _⟩ | ⟨b, o, sp, c', hA, hb, _, _, _, hsp, hc⟩
        · omega
        injection hA with hA _ hc'
        subst hA hc'
        obtain rfl : sp = none := hsp (by omega)
        replace hb := hb (by omega)
        have hcell : ∀ j u, j < 4 → p.cells[j]? = some u → wr.cell? ⟨b, o + k * 4 + j, none⟩ = some u := fun j u hj hu => by
          rw [hS.below.cell (p := ⟨b, o + k * 4 + j, none⟩) hb, Nat.add_assoc]
          exact hc _ u (by rw [cellsP_get ps k j p hp hj]; exact hu)
        have c0 : wr.cell? ⟨b, o + k * 4, none⟩ = some (.int .i64 p.num) := hcell 0 _ (by omega) rfl
        have c1 : wr.cell? ⟨b, o + k * 4 + 1, none⟩ = some (.bool p.whole) := hcell 1 _ (by omega) rfl
        have c2 : wr.cell? ⟨b, o + k * 4 + 2, none⟩ = some (.int .u64 p.n) := hcell 2 _ (by omega) rfl
        have c3 : wr.cell? ⟨b, o + k * 4 + 3, none⟩ = some (.slice p.A p.b.length p.c) := hcell 3 _ (by omega) rfl
        have hPl := putP_len p
        have HSK := hide hS
        have HPP := hide hP
        have E1 := hide e1
        have E2 := hide e2
        clear hS hP hl hp hcell hc e1 e2 hsp
        cases hw : p.whole
        all_goals
          rw [hw] at c1
          first | rw [putP_num p hw] at HPP hPl | rw [putP_whole p hw] at HPP hPl
          clear hw
          go_wp2_with (first
            | (go_at_call 14; refine (rint_any p.num p.n _ E2.out).mono ?_; rintro e w3 ⟨B3, d3', rfl, hb3, ho3⟩; have hS3 := (HSK.out.skip _).row hb3 ho3)
            | (go_at_call 12; refine (rraw_any p.num p.A p.c p.b _ (by omega) (E1.out.st (HSK.out.skip _))).mono ?_; rintro e w3 ⟨B3, d3', rfl, hb3, ho3⟩; have hS3 := (HSK.out.skip _).row hb3 ho3)
            | (at_builtin; refine wl_append rfl rfl tyB hS3 1 rfl rfl rfl (hS3.rd 0 rfl) (one_bvs _) (by omega) (by decide) ?_; intro B4 d4 w4 hS4))
          go_roundw
          case rel =>
            refine ⟨k + 1, B4, d4, _, by omega, by go_num, by rw [← List.length_append], HPP.out.symm, ?_⟩
            simp only [List.length_append, bvs_append] at hS4 ⊢
            exact hS4.tail
          case measure => simp [intOf]; omega
      · have hke : ¬ ((k : Int) < (ps.length : Int)) := by omega
        obtain ⟨n, hn⟩ : ∃ n, n = l.length := ⟨_, rfl⟩
        have hn' : l.length = n := hn.symm
        rw [hn'] at hS lp ⊢
        have HNN := hide hn'
        have HSK := hide hS
        clear hS hl hn hn'
        go_upto_if 58 with fail
        go_cut [11, 14] (fun b _ wx => SomeB w b wx)
        case first =>
          by_cases h0 : n = 0
          · subst h0
            go_wp2_with fail
            go_meet
            exact ⟨l, B, 0, d, rfl, HNN.out, by omega, HSK.out.rd 0 rfl, HSK.out.below⟩
          · have hn0 : 0 < n := by omega
            obtain ⟨g, c', hv, hcap, hcm, _⟩ := HSK.out.rowOpen 0 rfl (by omega)
            injection hv with hB _ hd'
            subst hB hd'
            unfold maxLen at hcm
            go_wp2_with fail
            go_loopw [61] (fun i wr => FlipRel w (some ⟨g, 0, none⟩) n d np i wr) (fun i _ => np - (intOf i).toNat)
            case atStart => exact ⟨0, l, by omega, rfl, HNN.out, HSK.out⟩
            case round =>
              obtain ⟨k, l', hk, rfl, hl', hS⟩ := hrel
              clear HSK HNN
              by_cases hlt : k < np
              · rcases RP.out.cases with ⟨_, h0, _⟩ | ⟨b, o, sp, c'', hA, hb, hnc2, hcm2, _, hsp, hc⟩
                · omega
                injection hA with hA1 _ hA3
                subst hA1 hA3
                obtain rfl : sp = none := hsp (by omega)
                replace hb := hb (by omega)
                obtain ⟨z, hz⟩ : ∃ z, zs[k]? = some z := ⟨zs[k]'(by have := RZ.out; omega), List.getElem?_eq_getElem _⟩
                have hcz : wr.cell? ⟨b, o + k, none⟩ = some (.int .i64 z) := by
                  rw [hS.below.cell (p := ⟨b, o + k, none⟩) hb]
                  exact hc k _ (by rw [List.getElem?_map, hz]; rfl)
                obtain ⟨j, hj, hjv⟩ := idx_of z n hn0 (by omega)
                obtain ⟨g', c3, hv, _, _, hcs, hfr, hset⟩ := hS.rowOpen 0 rfl (by omega)
                injection hv with hB _ hd'
                injection hB with hB
                injection hB with hB
                subst hB hd'
                obtain ⟨a, ha, ha2⟩ : ∃ a : Nat, (bvs l')[j]? = some (.int .u8 (a : Int)) ∧ a < 256 := by
                  have hjl : j < l'.length := by omega
                  exact ⟨l'[j].toNat, by simp [bvs, bv, List.getElem?_eq_getElem hjl], UInt8.toNat_lt _⟩
                have hcj : wr.cell? ⟨g, j, none⟩ = some (.int .u8 (a : Int)) := hcs j _ ha
                obtain ⟨m, hm, hxor⟩ := xor_of a x ha2 hx
                have hfj := hfr j
                have HS' := hide (hset j (.int .u8 (m : Int)) (by omega))
                have HSK := hide hS
                have HL' := hide hl'
                clear hset hcs hfr hc hz ha hS hl' hsp
                by_cases h3 : k < 3
                all_goals
                  go_wp2_with fail
                  go_roundw
                  case rel =>
                    first
                    | exact ⟨k + 1, l', by omega, by go_num, HL'.out, HSK.out⟩
                    | (refine ⟨k + 1, l'.set j (UInt8.ofNat m), by omega, by go_num, by rw [List.length_set]; exact HL'.out, ?_⟩
                       rw [← bvs_set l' j m hm]
                       exact HS'.out)
                  case measure => simp [intOf]; omega
              · obtain ⟨j, hj, hjv⟩ := idx_of cut n hn0 (by omega)
                have hsub : (n : Int) - (j : Int) = ((n - j : Nat) : Int) := by omega
                have HSK := hide hS
                have HL' := hide hl'
                have hcap2 : n - j ≤ d := by omega
                clear hS hl'
                go_wp2_with fail
                go_meet
                refine ⟨l'.take (n - j), some ⟨g, 0, none⟩, n - j, d, rfl, ?_, by omega, rd_take (HSK.out.rd 0 rfl) (n - j) (by omega), HSK.out.below⟩
                rw [List.length_take, HL'.out]
                omega
        case rest =>
          obtain ⟨y, B', m, d', rfl, hy, hm, hry, hbw⟩ := hcut
          clear HSK
          have F1 : ∀ (yy : List UInt8) (A : Option Addr) (n c : Nat), yy.length = n → n ≤ 65536 → ∀ W, Rd W (.slice A n c) 1 n (bvs yy) → Calls Try.prog 22 #[.slice A n c] W (ResFA W (fds yy)) := fun yy A n c h1 h2 W hW => fields_any W A n c yy h1 (by omega) hW
          have F2 : ∀ (yy : List UInt8) (A : Option Addr) (n c : Nat), yy.length = n → n ≤ 65536 → ∀ W, Rd W (.slice A n c) 1 n (bvs yy) → Calls Try.prog 23 #[.slice A n c] W (ResFA W (fds yy)) := fun yy A n c h1 h2 W hW => pfields_any W A n c yy h1 (by omega) hW
          have G1 := hide (F1 y B' m d' hy (by omega))
          have G2 := hide (F2 y B' m d' hy (by omega))
          have K1 := hide (F1 raw R raw.length rc rfl (by omega))
          have K2 := hide (F2 raw R raw.length rc rfl (by omega))
          have RY := hide hry
          have RRW := hide (RR.out.below hbw)
          have HBW := hide hbw
          clear F1 F2 hry hbw hy
          have i0 := ix0 (.slice B' m d') (.slice R raw.length rc)
          have i1 := ix1 (.slice B' m d') (.slice R raw.length rc)
          go_wp2_with fail
          go_loopw [94] (fun i wr => ∃ k : Nat, k ≤ 2 ∧ i = .int .i64 k ∧ St wc NoB wr []) (fun i _ => 2 - (intOf i).toNat)
          case atStart => exact ⟨0, by omega, rfl, St.init wc NoB⟩
          case round =>
            obtain ⟨k, hk, rfl, hS⟩ := hrel
            match k, hk with
            | 0, _ =>
              go_wp2_with (first
                | (go_at_call 22; refine (G1.out _ (RY.out.st hS)).mono ?_; rintro e wa ⟨xs, B1, d1, rfl, hFx, hmx, hba⟩; have HMX := hide hmx; clear hmx; have hSa := hS.call hba)
                | (go_at_call 23; refine (G2.out _ (RY.out.st hSa)).mono ?_; rintro e wb ⟨ys, B2, d2, rfl, hFy, hmy, hbb⟩; have HMY := hide hmy; clear hmy; have hSb := hSa.call hbb)
                | (go_at_call 24; refine (same_yes _ _ xs ys _ (hFx.below hbb) hFy (HMX.out.trans HMY.out.symm)).mono ?_; rintro e we ⟨rfl, hbe⟩; have hSe := hSb.call hbe))
              go_roundw
              case rel => exact ⟨1, by omega, rfl, hSe⟩
              case measure => simp [intOf]
            | 1, _ =>
              go_wp2_with (first
                | (go_at_call 22; refine (K1.out _ (RRW.out.st hS)).mono ?_; rintro e wa ⟨xs, B1, d1, rfl, hFx, hmx, hba⟩; have HMX := hide hmx; clear hmx; have hSa := hS.call hba)
                | (go_at_call 23; refine (K2.out _ (RRW.out.st hSa)).mono ?_; rintro e wb ⟨ys, B2, d2, rfl, hFy, hmy, hbb⟩; have HMY := hide hmy; clear hmy; have hSb := hSa.call hbb)
                | (go_at_call 24; refine (same_yes _ _ xs ys _ (hFx.below hbb) hFy (HMX.out.trans HMY.out.symm)).mono ?_; rintro e we ⟨rfl, hbe⟩; have hSe := hSb.call hbe))
              go_roundw
              case rel => exact ⟨2, by omega, rfl, hSe⟩
              case measure => simp [intOf]
            | 2, _ =>
              go_wp2_with (go_at_call 10; refine (awake_any _).mono ?_; rintro e wf ⟨rfl, hbf⟩)
              go_ret
              exact ⟨rfl, HBW.out.trans ((hS.call hbf).below.mono HBW.out.size)⟩
end Go.Proofs.Ytcfonifaijeecaa
