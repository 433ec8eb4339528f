/-
  The walk of 'ProtoBack'.
-/
import Derived.Test.YtcfonifaijeecaaLw
namespace Go.Proofs.Ytcfonifaijeecaa
open Go.RowKit

set_option maxRecDepth 100000 in
set_option maxHeartbeats 400000 in
theorem int_nil (num : Int) (n : Nat) (w : World) : Calls Try.prog 13 #[.pointer none, .int .i64 num, .int .u64 n] w fun e w' => e = .returned (.tuple #[]) ∧ w = w' := by
  go_enter Try.func13, Try.ntmps13
  go_wp2
  refine bodyPost_ret (results_none rfl _ _ _) rfl ?_
  exact ⟨rfl, rfl⟩
set_option maxRecDepth 100000 in
set_option maxHeartbeats 400000 in
theorem raw_nil (num : Int) (v : Value) (w : World) : Calls Try.prog 11 #[.pointer none, .int .i64 num, v] w fun e w' => e = .returned (.tuple #[]) ∧ w = w' := by
  go_enter Try.func11, Try.ntmps11
  go_wp2
  refine bodyPost_ret (results_none rfl _ _ _) rfl ?_
  exact ⟨rfl, rfl⟩

/-- The field that the law wants for a Put. -/
def wantP (p : PutV) : List FdL := if mayB p.num then (if p.whole then [⟨⟨p.num.toNat, true, 0, p.b⟩, p.A, p.c⟩] else [⟨⟨p.num.toNat, false, p.n, []⟩, none, 0⟩]) else []
def wantAll (ps : List PutV) : List FdL := ps.flatMap wantP
theorem wantP_f (p : PutV) : (wantP p).map FdL.f = fldP p := by
  unfold wantP fldP
  split <;> (try split) <;> rfl
theorem wantAll_f (ps : List PutV) : (wantAll ps).map FdL.f = fldsP ps := by
  unfold wantAll fldsP
  rw [List.map_flatMap]
  congr 1
  funext p
  exact wantP_f p
theorem wantAll_take (ps : List PutV) (k : Nat) (p : PutV) (h : ps[k]? = some p) : wantAll (ps.take (k + 1)) = wantAll (ps.take k) ++ wantP p := by
  unfold wantAll
  rw [List.take_add_one, h]
  simp
theorem wantAll_len (ps : List PutV) (k : Nat) : (wantAll (ps.take k)).length ≤ ps.length := by
  have h : ∀ qs : List PutV, (wantAll qs).length ≤ qs.length := by
    intro qs
    induction qs with
    | nil => simp [wantAll]
    | cons p ps ih =>
      have h : (wantP p).length ≤ 1 := by unfold wantP; split <;> (try split) <;> simp
      have e : wantAll (p :: ps) = wantP p ++ wantAll ps := by simp [wantAll]
      rw [e, List.length_append, List.length_cons]
      omega
  have := h (ps.take k)
  rw [List.length_take] at this
  omega
theorem want_no (p : PutV) (h : mayB p.num = false) : wantP p = [] := by unfold wantP; rw [if_neg (by rw [h]; decide)]
theorem want_raw (p : PutV) (h : mayB p.num = true) (hw : p.whole = true) : wantP p = [⟨⟨p.num.toNat, true, 0, p.b⟩, p.A, p.c⟩] := by unfold wantP; rw [if_pos h, if_pos hw]
theorem want_num (p : PutV) (h : mayB p.num = true) (hw : p.whole = false) : wantP p = [⟨⟨p.num.toNat, false, p.n, []⟩, none, 0⟩] := by unfold wantP; rw [if_pos h, if_neg (by rw [hw]; decide)]
theorem want_mem (ps : List PutV) (x : FdL) (h : x ∈ wantAll ps) : x.f.b = [] ∧ x.A = none ∧ x.c = 0 ∨ ∃ p ∈ ps, x.f.b = p.b ∧ x.A = p.A ∧ x.c = p.c := by
  unfold wantAll at h
  obtain ⟨p, hp, hx⟩ := List.mem_flatMap.1 h
  unfold wantP at hx
  split at hx
  · split at hx
    · simp only [List.mem_singleton] at hx
      subst hx
      exact .inr ⟨p, hp, rfl, rfl, rfl⟩
    · simp only [List.mem_singleton] at hx
      subst hx
      exact .inl ⟨rfl, rfl, rfl⟩
  · cases hx

def BackRel (w : World) (gm : Nat) (ps : List PutV) (v i : Value) (wr : World) : Prop :=
  ∃ (k : Nat) (B : Option Addr) (d : Nat) (vm : Value), k ≤ ps.length ∧ i = .int .i64 (k : Int) ∧ v = .slice B (wantAll (ps.take k)).length d ∧
    St w NoB wr (MsgC gm vm (putAll (ps.take k)) [.row (.slice B (wantAll (ps.take k)).length d) 55 4 (wantAll (ps.take k)).length (cellsF (wantAll (ps.take k)))])

theorem fds_bads : ∀ (n : Nat) (l : List UInt8) (k : Nat), l.length ≤ n → fds l = .bad k → k = 2 ∨ k = 3
  | n, [], k, _, h => by rw [fds_nil] at h; cases h
  | 0, c :: l, k, hn, h => by simp at hn
  | n + 1, c :: l, k, hn, h => by
    cases hf : fd (c :: l) with
    | bad j =>
      rw [fds_bad _ j (by simp) hf] at h
      injection h with h
      subst h
      exact fd_bads _ _ hf
    | ok f r =>
      rw [fds_ok _ f r (by simp) hf] at h
      have hlr := fd_len _ f r hf
      cases hr : fds r with
      | bad j =>
        rw [hr] at h
        injection h with h
        subst h
        exact fds_bads n r _ (by omega) hr
      | ok gs => rw [hr] at h; cases h
def putFs (fs : List FdV) : List UInt8 := fs.flatMap putF
theorem putFs_take (xs : List FdL) (k : Nat) (x : FdL) (h : xs[k]? = some x) : putFs ((xs.map FdL.f).take (k + 1)) = putFs ((xs.map FdL.f).take k) ++ putF x.f := by
  unfold putFs
  rw [List.take_add_one, List.getElem?_map, h]
  simp
theorem putFs_len (fs : List FdV) (k : Nat) : (putFs (fs.take k)).length ≤ (putFs fs).length := by
  conv => rhs; rw [← List.take_append_drop k fs]
  unfold putFs
  rw [List.flatMap_append, List.length_append]
  omega
def BackRel2 (w : World) (gn : Nat) (xs : List FdL) (i : Value) (wr : World) : Prop :=
  ∃ (k : Nat) (v : Value), k ≤ xs.length ∧ i = .int .i64 (k : Int) ∧ St w NoB wr (MsgC gn v (putFs ((xs.map FdL.f).take k)) [])

set_option maxRecDepth 100000 in
set_option maxHeartbeats 1600000 in
theorem back_walk (v1 : Value) (ps : List PutV) (R : Option Addr) (rc : Nat) (raw : List UInt8) (w : World) (h : PutsAt w v1 ps) (hr : Rd w (.slice R raw.length rc) 1 raw.length (bvs raw)) :
    Calls Try.prog 6 #[v1, .slice R raw.length rc] w fun e w' => e = .returned (.bool true) ∧ Below w.heap.size w w' := by
  have FEW := few_any v1 ps w h
  cases hf : fewB ps
  · rw [hf] at FEW
    have F1 := hide FEW
    clear FEW h hr hf
    go_enter Try.func6, Try.ntmps6
    go_wp2_with (first
      | (go_at_call 9; refine F1.out.mono ?_; rintro e w1 ⟨rfl, hb1⟩)
      | (go_at_call 10; refine (awake_any _).mono ?_; rintro e w2 ⟨rfl, hb2⟩))
    go_ret
    exact ⟨rfl, hb1.trans (hb2.mono hb1.size)⟩
  by_cases hraw : raw.length ≤ 500
  case neg =>
    have hd : decide (500 < (raw.length : Int)) = true := by simp; omega
    rw [hf] at FEW
    have F1 := hide FEW
    clear FEW h hr hf
    go_enter Try.func6, Try.ntmps6
    go_wp2_with (first
      | (go_at_call 9; refine F1.out.mono ?_; rintro e w1 ⟨rfl, hb1⟩)
      | (go_at_call 10; refine (awake_any _).mono ?_; rintro e w2 ⟨rfl, hb2⟩))
    go_ret
    exact ⟨rfl, hb1.trans (hb2.mono hb1.size)⟩
  case pos =>
    have hd : decide (500 < (raw.length : Int)) = false := by simp; omega
    obtain ⟨l1, l2⟩ := few_len ps hf
    rw [hf] at FEW
    have F1 := hide FEW
    have OKS : ∀ p ∈ ps, PutOK' w p := by
      intro p hp
      obtain ⟨e1, e2, _⟩ := h.each p hp
      have := lens_mem ps p hp
      exact ⟨e1, e2, by omega⟩
    have OK := hide OKS
    have R1 := hide h.rd
    have RR := hide hr
    obtain ⟨A1, c1, rfl, h1, h2, h3, h4, h5⟩ := h.rd
    clear FEW OKS h hr hf h1 h4 h5
    unfold maxLen at h3
    go_enter Try.func6, Try.ntmps6
    go_upto_region 3 with (go_at_call 9; refine F1.out.mono ?_; rintro e w1 ⟨rfl, hb1⟩)
    go_cut [5] (fun a wx => ∃ gm, a = .pointer (some ⟨gm, 0, none⟩) ∧ St w NoB wx (MsgC gm (.slice none 0 0) [] [.row (.slice none 0 0) 55 4 0 []]))
    case first =>
      go_wp2_with fail
      go_meet
      have hS := ((((St.init w NoB).call hb1).alloc #[.slice none 0 0] 29).row (Below.refl _ _) (World.ownsRow_nil _ _ 5 1)).row (Below.refl _ _) (World.ownsRow_nil _ _ 55 4)
      exact ⟨_, rfl, hS.pickL [2, 1, 0] (by decide) rfl⟩
    case rest =>
      obtain ⟨gm, rfl, hS0⟩ := hcut
      have HS0 := hide hS0
      clear hb1 F1 hS0
      go_wp2_with fail
      go_loopw [6, 31] (fun v i wr => BackRel w gm ps v i wr) (fun _ i _ => ps.length - (intOf i).toNat)
      case atStart => exact ⟨0, none, 0, .slice none 0 0, by omega, rfl, rfl, HS0.out⟩
      case round =>
        obtain ⟨k, B, d, vm, hk, rfl, rfl, hS⟩ := hrel
        have lw := wantAll_len ps k
        have lp := rows_len ps k (by omega) (by omega)
        by_cases hlt : k < ps.length
        · obtain ⟨p, hp⟩ : ∃ p, ps[k]? = some p := ⟨ps[k], List.getElem?_eq_getElem hlt⟩
          obtain ⟨e1, e2, e3⟩ := OK.out p (List.mem_of_getElem? hp)
          have hP := putAll_take ps k p hp
          have hW := wantAll_take ps k p hp
          obtain ⟨la, hla⟩ : ∃ la, la = putAll (ps.take k) := ⟨_, rfl⟩
          obtain ⟨lq, hlq⟩ : ∃ lq, lq = wantAll (ps.take k) := ⟨_, rfl⟩
          rw [← hla] at hP hS lp
          rw [← hlq] at hW hS lw
          rw [← hlq]
          rcases R1.out.cases with ⟨h0, hn0, _⟩ | ⟨b, o, sp, c', hA, hb, _, _, _, hsp, hc⟩
          · omega
          injection hA with hA _ hc'
          subst hA hc'
          obtain rfl : sp = none := hsp (by omega)
          replace hb := hb (by omega)
          have hcell : ∀ j u, j < 4 → p.cells[j]? = some u → wr.cell? ⟨b, o + k * 4 + j, none⟩ = some u := fun j u hj hu => by
            rw [hS.below.cell (p := ⟨b, o + k * 4 + j, none⟩) hb, Nat.add_assoc]
            exact hc _ u (by rw [cellsP_get ps k j p hp hj]; exact hu)
          have c0 : wr.cell? ⟨b, o + k * 4, none⟩ = some (.int .i64 p.num) := hcell 0 _ (by omega) rfl
          have c1 : wr.cell? ⟨b, o + k * 4 + 1, none⟩ = some (.bool p.whole) := hcell 1 _ (by omega) rfl
          have c2 : wr.cell? ⟨b, o + k * 4 + 2, none⟩ = some (.int .u64 p.n) := hcell 2 _ (by omega) rfl
          have c3 : wr.cell? ⟨b, o + k * 4 + 3, none⟩ = some (.slice p.A p.b.length p.c) := hcell 3 _ (by omega) rfl
          have hSa := (hS.alloc #[.int .i64 p.num, .bool p.whole, .int .u64 p.n, .slice p.A p.b.length p.c] 31).pickL (H' := MsgC gm vm la (.cells wr.heap.size #[.int .i64 p.num, .bool p.whole, .int .u64 p.n, .slice p.A p.b.length p.c] 31 :: [.row (.slice B lq.length d) 55 4 lq.length (cellsF lq)])) [1, 2, 0, 3] (by decide) rfl
          have CI := int_any gm vm la p.num p.n e2 (by omega) hSa
          have CR := raw_any gm vm la p.num p.A p.c p.b (by omega) (by omega) e1.rdH hSa
          have HCI := hide CI
          have HCR := hide CR
          have HPP := hide hP
          have HWW := hide hW
          have HLA := hide hla
          have HLQ := hide hlq
          clear hS hSa CI CR hP hW hla hlq hp hcell hc e1 e2 hsp lp
          cases hm : mayB p.num
          · have hmm : (decide (1 ≤ p.num) = false) ∨ (decide (1 ≤ p.num) = true ∧ decide (p.num ≤ 100) = false) := by
              unfold mayB at hm
              cases h1 : decide (1 ≤ p.num) <;> cases h2 : decide (p.num ≤ 100) <;> simp_all
            rw [want_no p hm, List.append_nil] at HWW
            cases hw : p.whole
            · rw [hw] at c1 HCI HCR
              rw [putP_num p hw] at HPP
              clear hw hm
              rcases hmm with hm1 | ⟨hm1, hm2⟩
              all_goals
                go_wp2_with (go_at_call 13; refine HCI.out.mono ?_; rintro e w2 ⟨rfl, v2, hS2⟩; have hlt2 : wr.heap.size < w2.heap.size := Chunk.lt (hS2.sat 2 _ rfl) rfl; have d0 : w2.cell? ⟨wr.heap.size, 0, none⟩ = some (.int .i64 p.num) := hS2.cell 2 rfl 0; have d1 : w2.cell? ⟨wr.heap.size, 1, none⟩ = some (.bool false) := hS2.cell 2 rfl 1; have d2 : w2.cell? ⟨wr.heap.size, 2, none⟩ = some (.int .u64 p.n) := hS2.cell 2 rfl 2; have d3 : w2.cell? ⟨wr.heap.size, 3, none⟩ = some (.slice p.A p.b.length p.c) := hS2.cell 2 rfl 3)
                go_roundw
                case rel =>
                  refine ⟨k + 1, B, d, v2, by omega, by go_num, by rw [HWW.out], ?_⟩
                  rw [HWW.out, HPP.out]
                  exact hS2.pickL [0, 1, 3] (by decide) rfl
                case measure => simp [intOf]; omega
            · rw [hw] at c1 HCI HCR
              rw [putP_whole p hw] at HPP
              clear hw hm
              rcases hmm with hm1 | ⟨hm1, hm2⟩
              all_goals
                go_wp2_with (go_at_call 11; refine HCR.out.mono ?_; rintro e w2 ⟨rfl, v2, hS2⟩; have hlt2 : wr.heap.size < w2.heap.size := Chunk.lt (hS2.sat 2 _ rfl) rfl; have d0 : w2.cell? ⟨wr.heap.size, 0, none⟩ = some (.int .i64 p.num) := hS2.cell 2 rfl 0; have d1 : w2.cell? ⟨wr.heap.size, 1, none⟩ = some (.bool true) := hS2.cell 2 rfl 1; have d2 : w2.cell? ⟨wr.heap.size, 2, none⟩ = some (.int .u64 p.n) := hS2.cell 2 rfl 2; have d3 : w2.cell? ⟨wr.heap.size, 3, none⟩ = some (.slice p.A p.b.length p.c) := hS2.cell 2 rfl 3)
                go_roundw
                case rel =>
                  refine ⟨k + 1, B, d, v2, by omega, by go_num, by rw [HWW.out], ?_⟩
                  rw [HWW.out, HPP.out]
                  exact hS2.pickL [0, 1, 3] (by decide) rfl
                case measure => simp [intOf]; omega
          · obtain ⟨m1, m2⟩ := mayB_of p.num hm
            have hnn : ((p.num.toNat : Nat) : Int) = p.num := by omega
            have HNN := hide hnn
            clear hnn
            cases hw : p.whole
            · rw [hw] at c1 HCI HCR
              rw [want_num p hm hw] at HWW
              rw [putP_num p hw] at HPP
              clear hw hm
              go_wp2_with (first
                | (go_at_call 13; refine HCI.out.mono ?_; rintro e w2 ⟨rfl, v2, hS2⟩; have hlt2 : wr.heap.size < w2.heap.size := Chunk.lt (hS2.sat 2 _ rfl) rfl; have d0 : w2.cell? ⟨wr.heap.size, 0, none⟩ = some (.int .i64 p.num) := hS2.cell 2 rfl 0; have d1 : w2.cell? ⟨wr.heap.size, 1, none⟩ = some (.bool false) := hS2.cell 2 rfl 1; have d2 : w2.cell? ⟨wr.heap.size, 2, none⟩ = some (.int .u64 p.n) := hS2.cell 2 rfl 2; have d3 : w2.cell? ⟨wr.heap.size, 3, none⟩ = some (.slice p.A p.b.length p.c) := hS2.cell 2 rfl 3)
                | (at_builtin; refine wl_appendB rfl rfl tyR (hS2.skip _) (size_alloc1 _ _) 3 rfl rfl (us := [_, _, _, _]) rfl rfl ?_ ?_ (by decide) ?_; (intro u hu; simp only [List.mem_cons, List.not_mem_nil, or_false] at hu; rcases hu with rfl | rfl | rfl | rfl <;> rfl); (omega); intro B3 d3 w3 hS3))
              go_roundw
              case rel =>
                refine ⟨k + 1, B3, d3, v2, by omega, by go_num, by rw [HWW.out, List.length_append, List.length_singleton], ?_⟩
                rw [HWW.out, HPP.out, List.length_append, List.length_singleton, cellsF_snoc]
                unfold FdL.cells
                rw [HNN.out]
                exact hS3.pickL [0, 1, 3] (by decide) rfl
              case measure => simp [intOf]; omega
            · rw [hw] at c1 HCI HCR
              rw [want_raw p hm hw] at HWW
              rw [putP_whole p hw] at HPP
              clear hw hm
              go_wp2_with (first
                | (go_at_call 11; refine HCR.out.mono ?_; rintro e w2 ⟨rfl, v2, hS2⟩; have hlt2 : wr.heap.size < w2.heap.size := Chunk.lt (hS2.sat 2 _ rfl) rfl; have d0 : w2.cell? ⟨wr.heap.size, 0, none⟩ = some (.int .i64 p.num) := hS2.cell 2 rfl 0; have d1 : w2.cell? ⟨wr.heap.size, 1, none⟩ = some (.bool true) := hS2.cell 2 rfl 1; have d2 : w2.cell? ⟨wr.heap.size, 2, none⟩ = some (.int .u64 p.n) := hS2.cell 2 rfl 2; have d3 : w2.cell? ⟨wr.heap.size, 3, none⟩ = some (.slice p.A p.b.length p.c) := hS2.cell 2 rfl 3)
                | (at_builtin; refine wl_appendB rfl rfl tyR (hS2.skip _) (size_alloc1 _ _) 3 rfl rfl (us := [_, _, _, _]) rfl rfl ?_ ?_ (by decide) ?_; (intro u hu; simp only [List.mem_cons, List.not_mem_nil, or_false] at hu; rcases hu with rfl | rfl | rfl | rfl <;> rfl); (omega); intro B3 d3 w3 hS3))
              go_roundw
              case rel =>
                refine ⟨k + 1, B3, d3, v2, by omega, by go_num, by rw [HWW.out, List.length_append, List.length_singleton], ?_⟩
                rw [HWW.out, HPP.out, List.length_append, List.length_singleton, cellsF_snoc]
                unfold FdL.cells
                rw [HNN.out]
                exact hS3.pickL [0, 1, 3] (by decide) rfl
              case measure => simp [intOf]; omega
        · have hke : k = ps.length := by omega
          subst hke
          rw [List.take_length] at hS lp lw
          rw [List.take_length]
          have fS := fds_puts ps fun p hp => ⟨(OK.out p hp).2.1, by have := (OK.out p hp).2.2; omega⟩
          have FW : FAt wr (.slice B (wantAll ps).length d) (wantAll ps) := by
            refine ⟨hS.rd 2 rfl, fun x hx => ?_⟩
            rcases want_mem ps x hx with ⟨e1, e2, e3⟩ | ⟨p, hp, e1, e2, e3⟩
            · rw [e1, e2, e3]; exact rd_nil _ _
            · rw [e1, e2, e3]; exact (OK.out p hp).1.st hS
          have GF : ∀ (W : World) (A : Option Addr) (c : Nat), Rd W (.slice A (putAll ps).length c) 1 (putAll ps).length (bvs (putAll ps)) → Calls Try.prog 22 #[.slice A (putAll ps).length c] W fun e w' => ∃ (xs : List FdL) (B : Option Addr) (d : Nat),
              e = .returned (.tuple #[.slice B xs.length d, .int .i64 0]) ∧ FAt w' (.slice B xs.length d) xs ∧ xs.map FdL.f = (wantAll ps).map FdL.f ∧ Below W.heap.size W w' := by
            intro W A c hR
            have := fields_any W A _ c (putAll ps) rfl (by omega) hR
            rw [fS] at this
            refine this.mono ?_
            rintro e w' ⟨xs, B, d, rfl, h1, h2, h3⟩
            exact ⟨xs, B, d, rfl, h1, by rw [wantAll_f]; exact h2, h3⟩
          obtain ⟨la, hla⟩ : ∃ la, la = putAll ps := ⟨_, rfl⟩
          obtain ⟨lq, hlq⟩ : ∃ lq, lq = wantAll ps := ⟨_, rfl⟩
          rw [← hla] at GF hS lp
          rw [← hlq] at GF FW hS lw
          rw [← hlq]
          have HF := hide GF
          have HFW := hide FW
          have HS := hide hS
          have HMB := hide (msg_bytes 0 hS (by omega) rfl rfl)
          clear GF FW hS hla hlq fS OK R1 HS0
          cases hfr : fds raw with
          | bad j =>
            have hj := fds_bads _ raw j (Nat.le_refl _) hfr
            have hj1 : ((j : Int) == 0) = false := by rcases hj with rfl | rfl <;> rfl
            have hj2 : ((j : Int) != 0) = true := by rcases hj with rfl | rfl <;> rfl
            have GR : ∀ W, Below w.heap.size w W → Calls Try.prog 22 #[.slice R raw.length rc] W fun e w' => ∃ B d, e = .returned (.tuple #[.slice B 0 d, .int .i64 (j : Int)]) ∧ Below W.heap.size W w' := by
              intro W hW
              have := fields_any W R raw.length rc raw rfl (by omega) (RR.out.below hW)
              rw [hfr] at this
              exact this.mono fun _ _ h => resFA_bad h
            have HGR := hide GR
            clear GR hj hfr
            go_wp2_with (first
              | (go_at_call 15; ((with_reducible refine HMB.out.mono ?_); rintro e wa ⟨A3, c3, rfl, hSa, hba⟩))
              | (go_at_call 22; ((with_reducible refine (HF.out _ A3 c3 (hSa.rd 0 rfl)).mono ?_); rintro e wb ⟨xs, B4, d4, rfl, hF4, hm4, hbb⟩; have hSb := hSa.call hbb; have HM4 := hide hm4; clear hm4))
              | (go_at_call 24; refine (same_yes _ _ xs lq _ hF4 ((HFW.out.below hba).below hbb) HM4.out).mono ?_; rintro e wc' ⟨rfl, hbc⟩; have hSc := hSb.call hbc)
              | (go_at_call 13; refine (int_nil 1 1 _).mono ?_; rintro e wd ⟨rfl, rfl⟩)
              | (go_at_call 11; refine (raw_nil 1 _ _).mono ?_; rintro e wd ⟨rfl, rfl⟩)
              | (go_at_call 15; ((with_reducible refine (bytes_nil _).mono ?_); rintro e wd ⟨rfl, rfl⟩))
              | (go_at_call 22; ((with_reducible refine (HGR.out _ hSc.below).mono ?_); rintro e we ⟨B5, d5, rfl, hbe⟩; have hSe := hSc.call hbe))
              | (go_at_call 10; refine (awake_any _).mono ?_; rintro e wf ⟨rfl, hbf⟩))
            go_ret
            exact ⟨rfl, (hSe.call hbf).below⟩
          | ok fs =>
            obtain ⟨hrawe, hok⟩ := fds_inv _ raw fs (Nat.le_refl _) (by omega) hfr
            have hrawe' : putFs fs = raw := hrawe.symm
            have GR : ∀ W, Below w.heap.size w W → Calls Try.prog 22 #[.slice R raw.length rc] W fun e w' => ∃ (xs : List FdL) (B : Option Addr) (d : Nat),
                e = .returned (.tuple #[.slice B xs.length d, .int .i64 0]) ∧ FAt w' (.slice B xs.length d) xs ∧ xs.map FdL.f = fs ∧ Below W.heap.size W w' := by
              intro W hW
              have := fields_any W R raw.length rc raw rfl (by omega) (RR.out.below hW)
              rw [hfr] at this
              exact this
            have HGR := hide GR
            have HRAW := hide hrawe'
            have HOK := hide hok
            clear GR hfr hrawe hrawe' hok
            go_wp2_with (first
              | (go_at_call 15; ((with_reducible refine HMB.out.mono ?_); rintro e wa ⟨A3, c3, rfl, hSa, hba⟩))
              | (go_at_call 22; ((with_reducible refine (HF.out _ A3 c3 (hSa.rd 0 rfl)).mono ?_); rintro e wb ⟨xs, B4, d4, rfl, hF4, hm4, hbb⟩; have hSb := hSa.call hbb; have HM4 := hide hm4; clear hm4))
              | (go_at_call 24; refine (same_yes _ _ xs lq _ hF4 ((HFW.out.below hba).below hbb) HM4.out).mono ?_; rintro e wc' ⟨rfl, hbc⟩; have hSc := hSb.call hbc)
              | (go_at_call 13; refine (int_nil 1 1 _).mono ?_; rintro e wd ⟨rfl, rfl⟩)
              | (go_at_call 11; refine (raw_nil 1 _ _).mono ?_; rintro e wd ⟨rfl, rfl⟩)
              | (go_at_call 15; ((with_reducible refine (bytes_nil _).mono ?_); rintro e wd ⟨rfl, rfl⟩))
              | (go_at_call 22; ((with_reducible refine (HGR.out _ hSc.below).mono ?_); rintro e we ⟨ys, B5, d5, rfl, hF5, hm5, hbe⟩; have hSe := hSc.call hbe; have HM5 := hide hm5; have HSE := hide hSe; clear hm5 hSe)))
            have hT0 : St we NoB (we.alloc (.cells #[.slice none 0 0] 29)) (MsgC we.heap.size (.slice none 0 0) [] []) := (((St.init we NoB).alloc #[.slice none 0 0] 29).row (Below.refl _ _) (World.ownsRow_nil _ _ 5 1)).swap
            have HT0 := hide hT0
            have HF5 := hide hF5
            have hys : ys.length ≤ maxLen := hF5.rd.le
            unfold maxLen at hys
            clear hT0 hF5 hF4 hSa hSb hSc hba hbb hbc hbe HM4 HF HFW HMB HGR
            go_loopw [116] (fun i wr => BackRel2 we we.heap.size ys i wr) (fun i _ => ys.length - (intOf i).toNat)
            case atStart => exact ⟨0, .slice none 0 0, by omega, rfl, HT0.out⟩
            case round =>
              obtain ⟨k, v, hk, rfl, hS⟩ := hrel
              have hpl := putFs_len fs k
              rw [HRAW.out] at hpl
              rw [HM5.out] at hS
              by_cases hlt : k < ys.length
              · obtain ⟨x, hx⟩ : ∃ x, ys[k]? = some x := ⟨ys[k], List.getElem?_eq_getElem hlt⟩
                have hxm := List.mem_of_getElem? hx
                obtain ⟨hfo, hfl⟩ := HOK.out x.f (by rw [← HM5.out]; exact List.mem_map.2 ⟨x, hxm, rfl⟩)
                have hP := putFs_take ys k x hx
                rw [HM5.out] at hP
                obtain ⟨la', hla'⟩ : ∃ la', la' = putFs (fs.take k) := ⟨_, rfl⟩
                rw [← hla'] at hP hS hpl
                have hrx := HF5.out.each x hxm
                rcases HF5.out.rd.cases with ⟨h0, hn0, _⟩ | ⟨b, o, sp, c', hA, hb, _, _, _, hsp, hc⟩
                · omega
                injection hA with hA _ hc'
                subst hA hc'
                obtain rfl : sp = none := hsp (by omega)
                replace hb := hb (by omega)
                have hcell : ∀ j u, j < 4 → x.cells[j]? = some u → wr.cell? ⟨b, o + k * 4 + j, none⟩ = some u := fun j u hj hu => by
                  rw [hS.below.cell (p := ⟨b, o + k * 4 + j, none⟩) hb, Nat.add_assoc]
                  exact hc _ u (by rw [cellsF_get ys k j x hx hj]; exact hu)
                have c0 : wr.cell? ⟨b, o + k * 4, none⟩ = some (.int .i64 (x.f.num : Int)) := hcell 0 _ (by omega) rfl
                have c1 : wr.cell? ⟨b, o + k * 4 + 1, none⟩ = some (.bool x.f.whole) := hcell 1 _ (by omega) rfl
                have c2 : wr.cell? ⟨b, o + k * 4 + 2, none⟩ = some (.int .u64 (x.f.n : Int)) := hcell 2 _ (by omega) rfl
                have c3 : wr.cell? ⟨b, o + k * 4 + 3, none⟩ = some (.slice x.A x.f.b.length x.c) := hcell 3 _ (by omega) rfl
                have HSK := hide hS
                have HPP := hide hP
                have HFO := hide hfo
                have HRX := hide hrx
                clear hS hP hla' hx hxm hcell hc hfo hsp hrx
                cases hw : x.f.whole
                · rw [hw] at c1
                  unfold putF at HPP
                  rw [hw, if_neg (by decide)] at HPP
                  clear hw
                  go_wp2_with (go_at_call 13; refine (int_any we.heap.size v la' _ _ HFO.out.n (by omega) (HSK.out.skip _)).mono ?_; rintro e w2 ⟨rfl, v2, hS2⟩)
                  go_roundw
                  case rel => exact ⟨k + 1, v2, by omega, by go_num, by rw [HM5.out, HPP.out]; exact hS2⟩
                  case measure => simp [intOf]; omega
                · rw [hw] at c1
                  unfold putF at HPP
                  rw [hw, if_pos rfl] at HPP
                  clear hw
                  go_wp2_with (go_at_call 11; refine (raw_any we.heap.size v la' _ x.A x.c x.f.b (by omega) (by omega) HRX.out.rdH (HSK.out.skip _)).mono ?_; rintro e w2 ⟨rfl, v2, hS2⟩)
                  go_roundw
                  case rel => exact ⟨k + 1, v2, by omega, by go_num, by rw [HM5.out, HPP.out]; exact hS2⟩
                  case measure => simp [intOf]; omega
              · have hke : k = ys.length := by omega
                subst hke
                rw [← List.length_map (f := FdL.f), HM5.out, List.take_length, HRAW.out] at hS
                have hys2 : decide ((ys.length : Int) < (ys.length : Int)) = false := by simp
                go_upto_region 36 with fail
                have hS15 := hS.drew
                have hRR := hide ((RR.out.below HSE.out.below).st hS15)
                have cvw : ∀ x, From wr.drew x → (convert 27 9 (.slice R raw.length rc)).run Try.prog x = .ok (.string (strOf raw)) x := fun x hx => run_str Try.underlying27 Try.underlying5 Try.underlying9 (hRR.out.below hx)
                refine wp_region_G (From wr.drew) (by kernel_rfl) ?_
                (refine wpG_take (i := 0) (v := ?_) rfl (by kernel_rfl) (by kernel_rfl) (by kernel_rfl) (fun _ _ _ h => h) (From.refl _) (Or.inl ⟨by rfl, ?_⟩) ?_; rotate_left; (intro wx hx; go_simp) <;> (with_reducible rfl); (try simp only [Act.put, List.setIfInBounds_toArray, List.set_cons_zero, List.set_cons_succ, List.getElem_toArray, List.getElem_cons_succ, List.getElem_cons_zero])); (refine wpG_take (i := 3) (v := ?_) rfl (by kernel_rfl) (by kernel_rfl) (by kernel_rfl) (fun _ _ _ h => h) (From.refl _) (Or.inl ⟨by rfl, ?_⟩) ?_; rotate_left; (intro wx hx; go_simp) <;> (with_reducible rfl); (try simp only [Act.put, List.setIfInBounds_toArray, List.set_cons_zero, List.set_cons_succ, List.getElem_toArray, List.getElem_cons_succ, List.getElem_cons_zero])); (refine wpG_take (i := 4) (v := ?_) rfl (by kernel_rfl) (by kernel_rfl) (by kernel_rfl) (fun _ _ _ h => h) (From.refl _) (Or.inl ⟨by rfl, ?_⟩) ?_; rotate_left; (intro wx hx; go_simp) <;> (with_reducible rfl); (try simp only [Act.put, List.setIfInBounds_toArray, List.set_cons_zero, List.set_cons_succ, List.getElem_toArray, List.getElem_cons_succ, List.getElem_cons_zero]))
                (refine wpG_one (i := 1) (by kernel_rfl) rfl ?_; intro K hK; (try simp only [Act.put, List.setIfInBounds_toArray, List.set_cons_zero, List.set_cons_succ, List.getElem_toArray, List.getElem_cons_succ, List.getElem_cons_zero]))
                refine step_call rfl rfl enBytes rfl (msg_bytes 0 hS15 (by omega) rfl rfl) ?_
                rintro e w16 ⟨A16, c16, rfl, hS16, hb16⟩
                refine ⟨_, rfl, hK (From w16) _ _ (From.next hb16) (From.refl _) ?_⟩
                clear hK K
                (try simp only [Act.put, List.setIfInBounds_toArray, List.set_cons_zero, List.set_cons_succ, List.getElem_toArray, List.getElem_cons_succ, List.getElem_cons_zero])
                have hr16 := hide (hS16.rd 0 rfl)
                have cv16 : ∀ x, From w16 x → (convert 27 9 (.slice A16 raw.length c16)).run Try.prog x = .ok (.string (strOf raw)) x := fun x hx => run_str Try.underlying27 Try.underlying5 Try.underlying9 (hr16.out.below hx)
                (refine wpG_take (i := 2) (v := ?_) rfl (by kernel_rfl) (by kernel_rfl) (by kernel_rfl) (fun _ _ _ h => h) (From.refl _) (Or.inl ⟨by rfl, ?_⟩) ?_; rotate_left; (intro wx hx; go_simp) <;> (with_reducible rfl); (try simp only [Act.put, List.setIfInBounds_toArray, List.set_cons_zero, List.set_cons_succ, List.getElem_toArray, List.getElem_cons_succ, List.getElem_cons_zero])); (refine wpG_take (i := 5) (v := ?_) rfl (by kernel_rfl) (by kernel_rfl) (by kernel_rfl) (fun _ _ _ h => h) (From.refl _) (Or.inl ⟨by rfl, ?_⟩) ?_; rotate_left; (intro wx hx; go_simp) <;> (with_reducible rfl); (try simp only [Act.put, List.setIfInBounds_toArray, List.set_cons_zero, List.set_cons_succ, List.getElem_toArray, List.getElem_cons_succ, List.getElem_cons_zero])); (refine wpG_take (i := 6) (v := ?_) rfl (by kernel_rfl) (by kernel_rfl) (by kernel_rfl) (fun _ _ _ h => h) (From.refl _) (Or.inl ⟨by rfl, ?_⟩) ?_; rotate_left; (intro wx hx; go_simp) <;> (with_reducible rfl); (try simp only [Act.put, List.setIfInBounds_toArray, List.set_cons_zero, List.set_cons_succ, List.getElem_toArray, List.getElem_cons_succ, List.getElem_cons_zero]))
                (refine wpG_one (i := 7) (by kernel_rfl) rfl ?_; intro K hK; (try simp only [Act.put, List.setIfInBounds_toArray, List.set_cons_zero, List.set_cons_succ, List.getElem_toArray, List.getElem_cons_succ, List.getElem_cons_zero]))
                refine step_call rfl rfl enAwake rfl (awake_any _) ?_
                rintro e w17 ⟨rfl, hb17⟩
                refine ⟨_, rfl, hK (From w17) _ _ (From.next hb17) (From.refl _) ?_⟩
                clear hK K
                (try simp only [Act.put, List.setIfInBounds_toArray, List.set_cons_zero, List.set_cons_succ, List.getElem_toArray, List.getElem_cons_succ, List.getElem_cons_zero])
                (refine wpG_take (i := 8) (v := ?_) rfl (by kernel_rfl) (by kernel_rfl) (by kernel_rfl) (fun _ _ _ h => h) (From.refl _) (Or.inl ⟨by rfl, ?_⟩) ?_; rotate_left; (intro wx hx; go_simp) <;> (with_reducible rfl); (try simp only [Act.put, List.setIfInBounds_toArray, List.set_cons_zero, List.set_cons_succ, List.getElem_toArray, List.getElem_cons_succ, List.getElem_cons_zero])); (refine wpG_take (i := 9) (v := ?_) rfl (by kernel_rfl) (by kernel_rfl) (by kernel_rfl) (fun _ _ _ h => h) (From.refl _) (Or.inl ⟨by rfl, ?_⟩) ?_; rotate_left; (intro wx hx; go_simp) <;> (with_reducible rfl); (try simp only [Act.put, List.setIfInBounds_toArray, List.set_cons_zero, List.set_cons_succ, List.getElem_toArray, List.getElem_cons_succ, List.getElem_cons_zero]))
                refine wpG_done (by kernel_rfl) ?_ _
                go_wp2_with fail
                go_ret
                have hbl := HSE.out.below
                exact ⟨rfl, hbl.trans ((hS16.call hb17).below.mono hbl.size)⟩
end Go.Proofs.Ytcfonifaijeecaa
