/-
  The walk of 'ProtoRows'.
-/
import Derived.Test.YtcfonifaijeecaaLc
import Derived.Test.YtcfonifaijeecaaReg
import Derived.Deep.LoopGhost
namespace Go.Proofs.Ytcfonifaijeecaa
open Go.RowKit

theorem tyP : RowTy Try.prog 22 31 4 48 := rowTy_of (z := .agg #[.int .i64 0, .bool false, .int .u64 0, .slice none 0 0]) (by kernel_rfl) (by kernel_rfl) (by kernel_rfl) (by decide)
theorem enBytes (args : Array Value) (w : World) : (callFunc 15 args).run Try.prog w = .ok (.enter 15 args) w := by kernel_rfl
theorem enAwake (args : Array Value) (w : World) : (callFunc 10 args).run Try.prog w = .ok (.enter 10 args) w := by kernel_rfl

theorem cellsP_append (a b : List PutV) : cellsP a ++ cellsP b = cellsP (a ++ b) := by simp [cellsP]
theorem one_cellsP (ps : List PutV) : ∀ u ∈ cellsP ps, u.oneCell' = true := by
  intro u hu
  simp only [cellsP, List.mem_flatMap, PutV.cells, List.mem_cons, List.not_mem_nil, or_false] at hu
  obtain ⟨p, _, rfl | rfl | rfl | rfl⟩ := hu <;> rfl
/-- A Message's Bytes, of a Message that is held. -/
theorem msg_bytes {w0 w : World} {H : List Chunk} (i : Nat) {g : Nat} {v : Value} {l : List UInt8} (hS : St w0 NoB w H) (hl : l.length ≤ 1000000) (hi : H[i]? = some (.cells g #[v] 29)) (hj : H[i + 1]? = some (.row v 5 1 l.length (bvs l))) :
    Calls Try.prog 15 #[.pointer (some ⟨g, 0, none⟩)] w fun e w' => ∃ A c, e = .returned (.slice A l.length c) ∧ St w0 NoB w' (.row (.slice A l.length c) 5 1 l.length (bvs l) :: H) ∧ Below w.heap.size w w' := by
  refine (bytes_any g v l hl (hS.cell i hi 0) (hS.rd (i + 1) hj)).mono ?_
  rintro e w' ⟨A, c, rfl, hb, ho⟩
  exact ⟨A, c, rfl, hS.row hb ho, hb⟩
/-- What Fields says of a message's bytes. -/
def ResOk (w : World) (n : Nat) (e : Ending) (w' : World) : Prop := ∃ (B : Option Addr) (d : Nat), e = .returned (.tuple #[.slice B n d, .int .i64 0]) ∧ Below w.heap.size w w'
theorem fields_ok (w : World) (A : Option Addr) (n c : Nat) (l : List UInt8) (fs : List FdV) (hn : l.length = n) (hl : l.length ≤ 65536) (hr : Rd w (.slice A n c) 1 n (bvs l)) (hf : fds l = .ok fs) :
    Calls Try.prog 22 #[.slice A n c] w (ResOk w fs.length) := by
  have h := fields_any w A n c l hn hl hr
  rw [hf] at h
  refine h.mono ?_
  rintro e w' ⟨xs, B, d, rfl, _, hm, hb⟩
  have : xs.length = fs.length := by simpa [FsR.lst] using congrArg List.length hm
  rw [this]
  exact ⟨B, d, rfl, hb⟩

/-- What is held ahead of each round. -/
def RowsH (ga gb gc : Nat) (va vb vc : Value) (la lb lc : List UInt8) (B : Option Addr) (N d : Nat) (qs : List PutV) : List Chunk :=
  MsgC ga va la (MsgC gb vb lb (MsgC gc vc lc [.row (.slice B N d) 31 4 N (cellsP qs)]))
def RowsRel (w : World) (ga gb gc : Nat) (B : Option Addr) (d : Nat) (ps qs : List PutV) (i : Value) (wr : World) : Prop :=
  ∃ k : Nat, k ≤ (ps ++ qs).length ∧ i = .int .i64 (k : Int) ∧ ∃ va vb vc, St w NoB wr (RowsH ga gb gc va vb vc (putAll (ps.take k)) (putAll (qs.take (k - ps.length))) (putAll ((ps ++ qs).take k)) B (ps ++ qs).length d (ps ++ qs))
theorem rows_len (ps : List PutV) (k : Nat) (h1 : ps.length ≤ 120) (h2 : lens ps ≤ 8000) : (putAll (ps.take k)).length ≤ 12000 := by
  have a1 := putAll_len (ps.take k)
  have a2 := lens_le ps k
  rw [List.length_take] at a1
  omega
theorem few_len (ps : List PutV) (h : fewB ps = true) : ps.length ≤ 60 ∧ lens ps ≤ 4000 := by
  unfold fewB at h
  simpa using h
theorem lens_append (a b : List PutV) : lens (a ++ b) = lens a + lens b := by simp [lens]
theorem lens_mem (ps : List PutV) (p : PutV) (h : p ∈ ps) : p.b.length ≤ lens ps := by
  obtain ⟨k, hk⟩ := List.mem_iff_getElem?.1 h
  have := lens_take ps k p hk
  have := lens_le ps (k + 1)
  omega
/-- The step of each of the three. -/
theorem rows_left (ps qs : List PutV) (k : Nat) (p : PutV) (hp : (ps ++ qs)[k]? = some p) (h : k < ps.length) :
    putAll (ps.take (k + 1)) = putAll (ps.take k) ++ putP p ∧ putAll (qs.take (k + 1 - ps.length)) = putAll (qs.take (k - ps.length)) := by
  rw [List.getElem?_append_left h] at hp
  exact ⟨putAll_take ps k p hp, by rw [show k + 1 - ps.length = k - ps.length from by omega]⟩
theorem rows_right (ps qs : List PutV) (k : Nat) (p : PutV) (hp : (ps ++ qs)[k]? = some p) (h : ¬ k < ps.length) :
    putAll (ps.take (k + 1)) = putAll (ps.take k) ∧ putAll (qs.take (k + 1 - ps.length)) = putAll (qs.take (k - ps.length)) ++ putP p := by
  rw [List.getElem?_append_right (by omega)] at hp
  refine ⟨by rw [List.take_of_length_le (by omega), List.take_of_length_le (by omega)], ?_⟩
  rw [show k + 1 - ps.length = (k - ps.length) + 1 from by omega]
  exact putAll_take qs _ p hp

theorem fldsP_len (ps : List PutV) : (fldsP ps).length ≤ ps.length := by
  induction ps with
  | nil => simp [fldsP]
  | cons p ps ih =>
    have h : (fldP p).length ≤ 1 := by unfold fldP; split <;> (try split) <;> simp
    have e : fldsP (p :: ps) = fldP p ++ fldsP ps := by simp [fldsP]
    rw [e, List.length_append, List.length_cons]
    omega

def PutOK' (w : World) (p : PutV) : Prop := Rd w (.slice p.A p.b.length p.c) 1 p.b.length (bvs p.b) ∧ W64 p.n ∧ p.b.length ≤ 4000

set_option maxRecDepth 100000 in
set_option maxHeartbeats 1600000 in
theorem rows_walk (v1 v2 : Value) (ps qs : List PutV) (w : World) (h1 : PutsAt w v1 ps) (h2 : PutsAt w v2 qs) :
    Calls Try.prog 7 #[v1, v2] w fun e w' => e = .returned (.bool true) ∧ Below w.heap.size w w' := by
  have FEW1 := few_any v1 ps w h1
  have FEW2 := fun (W : World) (hW : Below w.heap.size w W) => few_any v2 qs W (h2.below hW)
  cases hf1 : fewB ps
  · rw [hf1] at FEW1
    have F1 := hide FEW1
    clear FEW1 FEW2 h1 h2 hf1
    go_enter Try.func7, Try.ntmps7
    go_wp2_with (first
      | (go_at_call 9; refine F1.out.mono ?_; rintro e w1 ⟨rfl, hb1⟩)
      | (go_at_call 10; refine (awake_any _).mono ?_; rintro e w2 ⟨rfl, hb2⟩))
    go_ret
    exact ⟨rfl, hb1.trans (hb2.mono hb1.size)⟩
  cases hf2 : fewB qs
  · rw [hf1] at FEW1
    rw [hf2] at FEW2
    have F1 := hide FEW1
    have F2 := hide FEW2
    clear FEW1 FEW2 h1 h2 hf1 hf2
    go_enter Try.func7, Try.ntmps7
    go_wp2_with (first
      | (go_at_call 9; ((with_reducible refine F1.out.mono ?_); rintro e w1 ⟨rfl, hb1⟩))
      | (go_at_call 9; refine (F2.out _ hb1).mono ?_; rintro e w2 ⟨rfl, hb2⟩)
      | (go_at_call 10; refine (awake_any _).mono ?_; rintro e w3 ⟨rfl, hb3⟩))
    go_ret
    have hb12 := hb1.trans (hb2.mono hb1.size)
    exact ⟨rfl, hb12.trans (hb3.mono hb12.size)⟩
  · obtain ⟨l1, l2⟩ := few_len ps hf1
    obtain ⟨l3, l4⟩ := few_len qs hf2
    rw [hf1] at FEW1
    rw [hf2] at FEW2
    have F1 := hide FEW1
    have F2 := hide FEW2
    have OKS : ∀ p ∈ ps ++ qs, PutOK' w p := by
      intro p hp
      have hl : p.b.length ≤ 4000 := by
        rcases List.mem_append.1 hp with h | h
        · have := lens_mem ps p h; omega
        · have := lens_mem qs p h; omega
      rcases List.mem_append.1 hp with h | h
      · obtain ⟨e1, e2, _⟩ := h1.each p h
        exact ⟨e1, e2, hl⟩
      · obtain ⟨e1, e2, _⟩ := h2.each p h
        exact ⟨e1, e2, hl⟩
    have OK := hide OKS
    have R1 := hide h1.rd
    have R2 := hide h2.rd
    obtain ⟨A1, c1, rfl, _⟩ := h1.rd
    obtain ⟨A2, c2, rfl, _⟩ := h2.rd
    clear FEW1 FEW2 OKS h1 h2 hf1 hf2
    go_enter Try.func7, Try.ntmps7
    go_upto_region 3 with (first
      | (go_at_call 9; ((with_reducible refine F1.out.mono ?_); rintro e w1 ⟨rfl, hb1⟩))
      | (go_at_call 9; refine (F2.out _ hb1).mono ?_; rintro e w2 ⟨rfl, hb2⟩))
    go_cut [5, 6, 7] (fun a b c wx => ∃ ga gb gc, a = .pointer (some ⟨ga, 0, none⟩) ∧ b = .pointer (some ⟨gb, 0, none⟩) ∧ c = .pointer (some ⟨gc, 0, none⟩) ∧ St w NoB wx (MsgC ga (.slice none 0 0) [] (MsgC gb (.slice none 0 0) [] (MsgC gc (.slice none 0 0) [] []))))
    case first =>
      go_wp2_with fail
      go_meet
      have hS0 := (St.init w NoB).call (hb1.trans (hb2.mono hb1.size))
      have hS := ((((((hS0.alloc #[.slice none 0 0] 29).alloc #[.slice none 0 0] 29).alloc #[.slice none 0 0] 29).row (Below.refl _ _) (World.ownsRow_nil _ _ 5 1)).row (Below.refl _ _) (World.ownsRow_nil _ _ 5 1)).row (Below.refl _ _) (World.ownsRow_nil _ _ 5 1))
      simp only [size_alloc1] at hS
      exact ⟨_, _, _, rfl, rfl, rfl, hS.pickL [5, 0, 4, 1, 3, 2] (by decide) rfl⟩
    case rest =>
      obtain ⟨ga, gb, gc, rfl, rfl, rfl, hS⟩ := hcut
      clear hb1 hb2 F1 F2
      go_wp2_with (first
        | (at_builtin; refine wl_append (x := .tmp 34) rfl rfl tyP (hS.lit [] 31 4 0 rfl (by decide)) 0 rfl rfl rfl (R1.out.st (hS.lit [] 31 4 0 rfl (by decide))) (one_cellsP _) (by omega) (by decide) ?_; intro A4 c4 w4 hS4; simp only [Nat.zero_add, List.nil_append, List.set_cons_zero] at hS4)
        | (at_builtin; refine wl_append (x := .tmp 36) rfl rfl tyP hS4 0 rfl rfl rfl (R2.out.st hS4) (one_cellsP _) (by omega) (by decide) ?_; intro B d w5 hS5; simp only [List.set_cons_zero, cellsP_append] at hS5))
      rw [← List.length_append] at hS5
      go_loopw [39] (fun i wr => RowsRel w ga gb gc B d ps qs i wr) (fun i _ => (ps ++ qs).length - (intOf i).toNat)
      case atStart =>
        refine ⟨0, by omega, rfl, .slice none 0 0, .slice none 0 0, .slice none 0 0, ?_⟩
        rw [Nat.zero_sub]
        exact hS5.pickL [1, 2, 3, 4, 5, 6, 0] (by decide) rfl
      case round =>
        obtain ⟨k, hk, rfl, va, vb', vc, hS⟩ := hrel
        clear hS4 hS5
        have hll : (ps ++ qs).length ≤ 120 := by rw [List.length_append]; omega
        have hlt2 : lens (ps ++ qs) ≤ 8000 := by rw [lens_append]; omega
        by_cases hlt : k < (ps ++ qs).length
        · obtain ⟨p, hp⟩ : ∃ p, (ps ++ qs)[k]? = some p := ⟨(ps ++ qs)[k], List.getElem?_eq_getElem hlt⟩
          obtain ⟨e1, e2, e3⟩ := OK.out p (List.mem_of_getElem? hp)
          have hC := putAll_take (ps ++ qs) k p hp
          have lA := rows_len ps k (by omega) (by omega)
          have lB := rows_len qs (k - ps.length) (by omega) (by omega)
          have lC := rows_len (ps ++ qs) k (by omega) (by omega)
          obtain ⟨la, hla⟩ : ∃ la, la = putAll (ps.take k) := ⟨_, rfl⟩
          obtain ⟨lb, hlb⟩ : ∃ lb, lb = putAll (qs.take (k - ps.length)) := ⟨_, rfl⟩
          obtain ⟨lc, hlc⟩ : ∃ lc, lc = putAll ((ps ++ qs).take k) := ⟨_, rfl⟩
          rw [← hla] at lA hS
          rw [← hlb] at lB hS
          rw [← hlc] at lC hC hS
          unfold RowsH at hS
          obtain ⟨N, hN⟩ : ∃ N, N = (ps ++ qs).length := ⟨_, rfl⟩
          have hN' : (ps ++ qs).length = N := hN.symm
          rw [hN'] at hS hlt hk
          have hNn : N = ps.length + qs.length := by rw [hN, List.length_append]
          rcases (hS.rd 6 rfl).cases with ⟨_, h0, _⟩ | ⟨b, o, sp, c', hB, hb, hnc, hcm, _, hsp, hc⟩
          · omega
          injection hB with hB1 _ hB3
          subst hB1 hB3
          obtain rfl : sp = none := hsp (by omega)
          replace hb := hb (by omega)
          have hcell : ∀ j u, j < 4 → p.cells[j]? = some u → wr.cell? ⟨b, o + k * 4 + j, none⟩ = some u := fun j u hj hu => by
            rw [Nat.add_assoc]
            exact hc _ u (by rw [cellsP_get (ps ++ qs) k j p hp hj]; exact hu)
          have c0 : wr.cell? ⟨b, o + k * 4, none⟩ = some (.int .i64 p.num) := hcell 0 _ (by omega) rfl
          have c1 : wr.cell? ⟨b, o + k * 4 + 1, none⟩ = some (.bool p.whole) := hcell 1 _ (by omega) rfl
          have c2 : wr.cell? ⟨b, o + k * 4 + 2, none⟩ = some (.int .u64 p.n) := hcell 2 _ (by omega) rfl
          have c3 : wr.cell? ⟨b, o + k * 4 + 3, none⟩ = some (.slice p.A p.b.length p.c) := hcell 3 _ (by omega) rfl
          have hSa := hS.alloc #[.int .i64 p.num, .bool p.whole, .int .u64 p.n, .slice p.A p.b.length p.c] 31
          have HA := hide hSa
          have E1 := hide e1
          have E2 := hide e2
          have HCC := hide hC
          have HLA := hide hla
          have HLB := hide hlb
          have HLC := hide hlc
          have HP := hide hp
          have HNN := hide hN
          have HN2 := hide hNn
          have hdec : decide ((k : Int) < (ps.length : Int) + (qs.length : Int)) = true := by simp; omega
          have hltN : k < ps.length + qs.length := by omega
          have hltI : (k : Int) < (ps.length : Int) + (qs.length : Int) := by omega
          clear hS hSa hC hp hcell hc e1 e2 hsp hla hlb hlc hN hN' hNn hll hlt2
          by_cases hkl : k < ps.length
          · have hge : decide ((ps.length : Int) ≤ (k : Int)) = false := by simp; omega
            obtain ⟨r1, r2⟩ := rows_left ps qs k p HP.out hkl
            rw [← HLA.out] at r1
            rw [← HLB.out] at r2
            have Q1 := hide r1
            have Q2 := hide r2
            clear r1 r2
            cases hw : p.whole
            · rw [hw] at c1 HA
              rw [putP_num p hw] at Q1 HCC
              clear hw
              go_wp2_with (first
                | (go_at_call 13; ((with_reducible refine (int_any ga va la p.num p.n E2.out (by omega) (HA.out.pickL (H' := MsgC ga va la (.cells wr.heap.size #[.int .i64 p.num, .bool false, .int .u64 p.n, .slice p.A p.b.length p.c] 31 :: MsgC gb vb' lb (MsgC gc vc lc [.row (.slice (some ⟨b, o, none⟩) N d) 31 4 N (cellsP (ps ++ qs))]))) [1, 2, 0, 3, 4, 5, 6, 7] (by decide) rfl)).mono ?_); rintro e w2 ⟨rfl, v2, hS2⟩; have d0 : w2.cell? ⟨wr.heap.size, 0, none⟩ = some (.int .i64 p.num) := hS2.cell 2 rfl 0; have d3 : w2.cell? ⟨wr.heap.size, 2, none⟩ = some (.int .u64 p.n) := hS2.cell 2 rfl 2))
                | (go_at_call 13; ((with_reducible refine (int_any gc vc lc p.num p.n E2.out (by omega) (hS2.pickL (H' := MsgC gc vc lc (.cells wr.heap.size #[.int .i64 p.num, .bool false, .int .u64 p.n, .slice p.A p.b.length p.c] 31 :: MsgC ga v2 (la ++ putI p.num p.n) (MsgC gb vb' lb [.row (.slice (some ⟨b, o, none⟩) N d) 31 4 N (cellsP (ps ++ qs))]))) [5, 6, 2, 0, 1, 3, 4, 7] (by decide) rfl)).mono ?_); rintro e w3 ⟨rfl, v3, hS3⟩)))
              go_roundw
              case rel =>
                refine ⟨k + 1, by rw [List.length_append]; omega, by go_num, v2, vb', v3, ?_⟩
                rw [Q1.out, Q2.out, HCC.out, ← HNN.out]
                exact hS3.pickL [3, 4, 5, 6, 0, 1, 7] (by decide) rfl
              case measure => simp [intOf]; omega
            · rw [hw] at c1 HA
              rw [putP_whole p hw] at Q1 HCC
              clear hw
              go_wp2_with (first
                | (go_at_call 11; ((with_reducible refine (raw_any ga va la p.num p.A p.c p.b (by omega) (by omega) E1.out.rdH (HA.out.pickL (H' := MsgC ga va la (.cells wr.heap.size #[.int .i64 p.num, .bool true, .int .u64 p.n, .slice p.A p.b.length p.c] 31 :: MsgC gb vb' lb (MsgC gc vc lc [.row (.slice (some ⟨b, o, none⟩) N d) 31 4 N (cellsP (ps ++ qs))]))) [1, 2, 0, 3, 4, 5, 6, 7] (by decide) rfl)).mono ?_); rintro e w2 ⟨rfl, v2, hS2⟩; have d0 : w2.cell? ⟨wr.heap.size, 0, none⟩ = some (.int .i64 p.num) := hS2.cell 2 rfl 0; have d3 : w2.cell? ⟨wr.heap.size, 3, none⟩ = some (.slice p.A p.b.length p.c) := hS2.cell 2 rfl 3))
                | (go_at_call 11; ((with_reducible refine (raw_any gc vc lc p.num p.A p.c p.b (by omega) (by omega) E1.out.rdH (hS2.pickL (H' := MsgC gc vc lc (.cells wr.heap.size #[.int .i64 p.num, .bool true, .int .u64 p.n, .slice p.A p.b.length p.c] 31 :: MsgC ga v2 (la ++ putR p.num p.b) (MsgC gb vb' lb [.row (.slice (some ⟨b, o, none⟩) N d) 31 4 N (cellsP (ps ++ qs))]))) [5, 6, 2, 0, 1, 3, 4, 7] (by decide) rfl)).mono ?_); rintro e w3 ⟨rfl, v3, hS3⟩)))
              go_roundw
              case rel =>
                refine ⟨k + 1, by rw [List.length_append]; omega, by go_num, v2, vb', v3, ?_⟩
                rw [Q1.out, Q2.out, HCC.out, ← HNN.out]
                exact hS3.pickL [3, 4, 5, 6, 0, 1, 7] (by decide) rfl
              case measure => simp [intOf]; omega
          · have hge : decide ((ps.length : Int) ≤ (k : Int)) = true := by simp; omega
            obtain ⟨r1, r2⟩ := rows_right ps qs k p HP.out hkl
            rw [← HLA.out] at r1
            rw [← HLB.out] at r2
            have Q1 := hide r1
            have Q2 := hide r2
            clear r1 r2
            cases hw : p.whole
            · rw [hw] at c1 HA
              rw [putP_num p hw] at Q2 HCC
              clear hw
              go_wp2_with (first
                | (go_at_call 13; ((with_reducible refine (int_any gb vb' lb p.num p.n E2.out (by omega) (HA.out.pickL (H' := MsgC gb vb' lb (.cells wr.heap.size #[.int .i64 p.num, .bool false, .int .u64 p.n, .slice p.A p.b.length p.c] 31 :: MsgC ga va la (MsgC gc vc lc [.row (.slice (some ⟨b, o, none⟩) N d) 31 4 N (cellsP (ps ++ qs))]))) [3, 4, 0, 1, 2, 5, 6, 7] (by decide) rfl)).mono ?_); rintro e w2 ⟨rfl, v2, hS2⟩; have d0 : w2.cell? ⟨wr.heap.size, 0, none⟩ = some (.int .i64 p.num) := hS2.cell 2 rfl 0; have d3 : w2.cell? ⟨wr.heap.size, 2, none⟩ = some (.int .u64 p.n) := hS2.cell 2 rfl 2))
                | (go_at_call 13; ((with_reducible refine (int_any gc vc lc p.num p.n E2.out (by omega) (hS2.pickL (H' := MsgC gc vc lc (.cells wr.heap.size #[.int .i64 p.num, .bool false, .int .u64 p.n, .slice p.A p.b.length p.c] 31 :: MsgC ga va la (MsgC gb v2 (lb ++ putI p.num p.n) [.row (.slice (some ⟨b, o, none⟩) N d) 31 4 N (cellsP (ps ++ qs))]))) [5, 6, 2, 3, 4, 0, 1, 7] (by decide) rfl)).mono ?_); rintro e w3 ⟨rfl, v3, hS3⟩)))
              go_roundw
              case rel =>
                refine ⟨k + 1, by rw [List.length_append]; omega, by go_num, va, v2, v3, ?_⟩
                rw [Q1.out, Q2.out, HCC.out, ← HNN.out]
                exact hS3.pickL [3, 4, 5, 6, 0, 1, 7] (by decide) rfl
              case measure => simp [intOf]; omega
            · rw [hw] at c1 HA
              rw [putP_whole p hw] at Q2 HCC
              clear hw
              go_wp2_with (first
                | (go_at_call 11; ((with_reducible refine (raw_any gb vb' lb p.num p.A p.c p.b (by omega) (by omega) E1.out.rdH (HA.out.pickL (H' := MsgC gb vb' lb (.cells wr.heap.size #[.int .i64 p.num, .bool true, .int .u64 p.n, .slice p.A p.b.length p.c] 31 :: MsgC ga va la (MsgC gc vc lc [.row (.slice (some ⟨b, o, none⟩) N d) 31 4 N (cellsP (ps ++ qs))]))) [3, 4, 0, 1, 2, 5, 6, 7] (by decide) rfl)).mono ?_); rintro e w2 ⟨rfl, v2, hS2⟩; have d0 : w2.cell? ⟨wr.heap.size, 0, none⟩ = some (.int .i64 p.num) := hS2.cell 2 rfl 0; have d3 : w2.cell? ⟨wr.heap.size, 3, none⟩ = some (.slice p.A p.b.length p.c) := hS2.cell 2 rfl 3))
                | (go_at_call 11; ((with_reducible refine (raw_any gc vc lc p.num p.A p.c p.b (by omega) (by omega) E1.out.rdH (hS2.pickL (H' := MsgC gc vc lc (.cells wr.heap.size #[.int .i64 p.num, .bool true, .int .u64 p.n, .slice p.A p.b.length p.c] 31 :: MsgC ga va la (MsgC gb v2 (lb ++ putR p.num p.b) [.row (.slice (some ⟨b, o, none⟩) N d) 31 4 N (cellsP (ps ++ qs))]))) [5, 6, 2, 3, 4, 0, 1, 7] (by decide) rfl)).mono ?_); rintro e w3 ⟨rfl, v3, hS3⟩)))
              go_roundw
              case rel =>
                refine ⟨k + 1, by rw [List.length_append]; omega, by go_num, va, v2, v3, ?_⟩
                rw [Q1.out, Q2.out, HCC.out, ← HNN.out]
                exact hS3.pickL [3, 4, 5, 6, 0, 1, 7] (by decide) rfl
              case measure => simp [intOf]; omega
        · have hlen : (ps ++ qs).length = ps.length + qs.length := List.length_append
          have hke : k = (ps ++ qs).length := by omega
          have hk2 : k - ps.length = qs.length := by rw [hke, List.length_append]; omega
          have hk3 : ps.take k = ps := List.take_of_length_le (by omega)
          rw [hk2, hk3, hke, List.take_length, List.take_length] at hS
          have hdec : decide ((k : Int) < (ps.length : Int) + (qs.length : Int)) = false := by simp; omega
          have lA := rows_len ps ps.length (by omega) (by omega)
          have lB := rows_len qs qs.length (by omega) (by omega)
          have lC := rows_len (ps ++ qs) (ps ++ qs).length (by omega) (by omega)
          rw [List.take_length] at lA lB lC
          have fA := fds_puts ps fun p hp => ⟨(OK.out p (List.mem_append_left _ hp)).2.1, by have := (OK.out p (List.mem_append_left _ hp)).2.2; omega⟩
          have fB := fds_puts qs fun p hp => ⟨(OK.out p (List.mem_append_right _ hp)).2.1, by have := (OK.out p (List.mem_append_right _ hp)).2.2; omega⟩
          have fC := fds_puts (ps ++ qs) fun p hp => ⟨(OK.out p hp).2.1, by have := (OK.out p hp).2.2; omega⟩
          rw [fldsP_append] at fC
          rw [putAll_append] at fC hS lC
          obtain ⟨la, hla⟩ : ∃ la, la = putAll ps := ⟨_, rfl⟩
          obtain ⟨lb, hlb⟩ : ∃ lb, lb = putAll qs := ⟨_, rfl⟩
          rw [← hla] at lA fA fC hS lC
          rw [← hlb] at lB fB fC hS lC
          obtain ⟨fa, hfa⟩ : ∃ fa, fa = fldsP ps := ⟨_, rfl⟩
          obtain ⟨fb, hfb⟩ : ∃ fb, fb = fldsP qs := ⟨_, rfl⟩
          have lfa := fldsP_len ps
          have lfb := fldsP_len qs
          rw [← hfa] at fA fC lfa
          rw [← hfb] at fB fC lfb
          have FA := hide fA
          have FB := hide fB
          have FC := hide fC
          clear fA fB fC hla hlb hfa hfb hk2 hk3 hke hk R1 R2 OK
          unfold RowsH at hS
          have hfab : (fa ++ fb).length = fa.length + fb.length := List.length_append
          obtain ⟨na, hna⟩ : ∃ na, na = fa.length := ⟨_, rfl⟩
          obtain ⟨nb, hnb⟩ : ∃ nb, nb = fb.length := ⟨_, rfl⟩
          have hna2 : na ≤ 60 := by omega
          have hnb2 : nb ≤ 60 := by omega
          have GA := hide (fun (W : World) (A : Option Addr) (c : Nat) (hr : Rd W (.slice A la.length c) 1 la.length (bvs la)) => fields_ok W A la.length c la fa rfl (by omega) hr FA.out)
          have GB := hide (fun (W : World) (A : Option Addr) (c : Nat) (hr : Rd W (.slice A lb.length c) 1 lb.length (bvs lb)) => fields_ok W A lb.length c lb fb rfl (by omega) hr FB.out)
          have GC := hide (fun (W : World) (A : Option Addr) (c : Nat) (hr : Rd W (.slice A (la.length + lb.length) c) 1 (la.length + lb.length) (bvs (la ++ lb))) => fields_ok W A (la.length + lb.length) c (la ++ lb) (fa ++ fb) List.length_append (by omega) hr FC.out)
          rw [hfab, ← hna, ← hnb] at GC
          rw [← hna] at GA
          rw [← hnb] at GB
          clear hfab hna hnb lfa lfb
          go_upto_region 20 with (first
            | (go_at_call 15; ((with_reducible refine (msg_bytes 1 (hS.lit [] 5 1 0 rfl (by decide)) (by omega) rfl rfl).mono ?_); rintro e w6 ⟨A6, c6, rfl, hS6, _⟩))
            | (at_builtin; refine wl_append (x := .tmp 79) rfl rfl tyB hS6 1 rfl rfl rfl (hS6.rd 0 rfl) (one_bvs _) (by omega) (by decide) ?_; intro A7 c7 w7 hS7; simp only [Nat.zero_add, List.nil_append, List.set_cons_zero, List.set_cons_succ] at hS7)
            | (go_at_call 15; ((with_reducible refine (msg_bytes 4 hS7 (by omega) rfl rfl).mono ?_); rintro e w8 ⟨A8, c8, rfl, hS8, _⟩))
            | (at_builtin; refine wl_append (x := .tmp 82) rfl rfl tyB hS8 2 rfl rfl rfl (hS8.rd 0 rfl) (one_bvs _) (by omega) (by decide) ?_; intro A9 c9 w9 hS9; simp only [List.set_cons_zero, List.set_cons_succ, ← bvs_append] at hS9)
            | (go_at_call 15; ((with_reducible refine (msg_bytes 3 hS9 (by omega) rfl rfl).mono ?_); rintro e w10 ⟨A10, c10, rfl, hS10, _⟩))
            | (go_at_call 22; ((with_reducible refine (GA.out _ A10 c10 (hS10.rd 0 rfl)).mono ?_); rintro e w11 ⟨B11, d11, rfl, hb11⟩; have hS11 := hS10.call hb11))
            | (go_at_call 15; ((with_reducible refine (msg_bytes 6 hS11 (by omega) rfl rfl).mono ?_); rintro e w12 ⟨A12, c12, rfl, hS12, _⟩))
            | (go_at_call 22; ((with_reducible refine (GB.out _ A12 c12 (hS12.rd 0 rfl)).mono ?_); rintro e w13 ⟨B13, d13, rfl, hb13⟩; have hS13 := hS12.call hb13))
            | (go_at_call 22; ((with_reducible refine (GC.out _ A9 c9 (hS13.rd 4 rfl)).mono ?_); rintro e w14 ⟨B14, d14, rfl, hb14⟩; have hS14 := hS13.call hb14)))
          have hS15 := hS14.drew
          have hrm := hide (hS15.rd 4 rfl)
          have cvw : ∀ x, From w14.drew x → (convert 27 9 (.slice A9 (la.length + lb.length) c9)).run Try.prog x = .ok (.string (strOf (la ++ lb))) x := fun x hx => run_str Try.underlying27 Try.underlying5 Try.underlying9 (hrm.out.below hx)
          have hl12 : (la ++ lb).length ≤ 1000000 := by omega
          have hwr : IntKind.i64.wrap ((na : Int) + (nb : Int)) = (na : Int) + (nb : Int) := by rw [IntKind.wrap_i64]; omega
          refine wp_region_G (From w14.drew) (by kernel_rfl) ?_
          (refine wpG_take (i := 0) (v := ?_) rfl (by kernel_rfl) (by kernel_rfl) (by kernel_rfl) (fun _ _ _ h => h) (From.refl _) (Or.inl ⟨by rfl, ?_⟩) ?_; rotate_left; (intro wx hx; go_simp) <;> (with_reducible rfl); (try simp only [Act.put, List.setIfInBounds_toArray, List.set_cons_zero, List.set_cons_succ, List.getElem_toArray, List.getElem_cons_succ, List.getElem_cons_zero])); (refine wpG_take (i := 1) (v := ?_) rfl (by kernel_rfl) (by kernel_rfl) (by kernel_rfl) (fun _ _ _ h => h) (From.refl _) (Or.inl ⟨by rfl, ?_⟩) ?_; rotate_left; (intro wx hx; go_simp) <;> (with_reducible rfl); (try simp only [Act.put, List.setIfInBounds_toArray, List.set_cons_zero, List.set_cons_succ, List.getElem_toArray, List.getElem_cons_succ, List.getElem_cons_zero])); (refine wpG_take (i := 2) (v := ?_) rfl (by kernel_rfl) (by kernel_rfl) (by kernel_rfl) (fun _ _ _ h => h) (From.refl _) (Or.inl ⟨by rfl, ?_⟩) ?_; rotate_left; (intro wx hx; go_simp) <;> (with_reducible rfl); (try simp only [Act.put, List.setIfInBounds_toArray, List.set_cons_zero, List.set_cons_succ, List.getElem_toArray, List.getElem_cons_succ, List.getElem_cons_zero]))
          (refine wpG_one (i := 3) (by kernel_rfl) rfl ?_; intro K hK; (try simp only [Act.put, List.setIfInBounds_toArray, List.set_cons_zero, List.set_cons_succ, List.getElem_toArray, List.getElem_cons_succ, List.getElem_cons_zero]))
          refine step_call rfl rfl enBytes rfl (msg_bytes 9 hS15 hl12 rfl rfl) ?_
          rintro e w16 ⟨A16, c16, rfl, hS16, hb16⟩
          refine ⟨_, rfl, hK (From w16) _ _ (From.next hb16) (From.refl _) ?_⟩
          clear hK K
          (try simp only [Act.put, List.setIfInBounds_toArray, List.set_cons_zero, List.set_cons_succ, List.getElem_toArray, List.getElem_cons_succ, List.getElem_cons_zero])
          have hr16 := hide (hS16.rd 0 rfl)
          have cv16 : ∀ x, From w16 x → (convert 27 9 (.slice A16 (la ++ lb).length c16)).run Try.prog x = .ok (.string (strOf (la ++ lb))) x := fun x hx => run_str Try.underlying27 Try.underlying5 Try.underlying9 (hr16.out.below hx)
          have cv17 : ∀ x, From w16 x → (convert 27 9 (.slice A16 (la.length + lb.length) c16)).run Try.prog x = .ok (.string (strOf (la ++ lb))) x := fun x hx => by rw [← List.length_append]; exact cv16 x hx
          (refine wpG_take (i := 4) (v := ?_) rfl (by kernel_rfl) (by kernel_rfl) (by kernel_rfl) (fun _ _ _ h => h) (From.refl _) (Or.inl ⟨by rfl, ?_⟩) ?_; rotate_left; (intro wx hx; go_simp) <;> (with_reducible rfl); (try simp only [Act.put, List.setIfInBounds_toArray, List.set_cons_zero, List.set_cons_succ, List.getElem_toArray, List.getElem_cons_succ, List.getElem_cons_zero])); (refine wpG_take (i := 5) (v := ?_) rfl (by kernel_rfl) (by kernel_rfl) (by kernel_rfl) (fun _ _ _ h => h) (From.refl _) (Or.inl ⟨by rfl, ?_⟩) ?_; rotate_left; (intro wx hx; go_simp) <;> (with_reducible rfl); (try simp only [Act.put, List.setIfInBounds_toArray, List.set_cons_zero, List.set_cons_succ, List.getElem_toArray, List.getElem_cons_succ, List.getElem_cons_zero])); (refine wpG_take (i := 6) (v := ?_) rfl (by kernel_rfl) (by kernel_rfl) (by kernel_rfl) (fun _ _ _ h => h) (From.refl _) (Or.inl ⟨by rfl, ?_⟩) ?_; rotate_left; (intro wx hx; go_simp) <;> (with_reducible rfl); (try simp only [Act.put, List.setIfInBounds_toArray, List.set_cons_zero, List.set_cons_succ, List.getElem_toArray, List.getElem_cons_succ, List.getElem_cons_zero])); (refine wpG_take (i := 7) (v := ?_) rfl (by kernel_rfl) (by kernel_rfl) (by kernel_rfl) (fun _ _ _ h => h) (From.refl _) (Or.inl ⟨by rfl, ?_⟩) ?_; rotate_left; (intro wx hx; go_simp) <;> (with_reducible rfl); (try simp only [Act.put, List.setIfInBounds_toArray, List.set_cons_zero, List.set_cons_succ, List.getElem_toArray, List.getElem_cons_succ, List.getElem_cons_zero])); (refine wpG_take (i := 8) (v := ?_) rfl (by kernel_rfl) (by kernel_rfl) (by kernel_rfl) (fun _ _ _ h => h) (From.refl _) (Or.inl ⟨by rfl, ?_⟩) ?_; rotate_left; (intro wx hx; go_simp) <;> (with_reducible rfl); (try simp only [Act.put, List.setIfInBounds_toArray, List.set_cons_zero, List.set_cons_succ, List.getElem_toArray, List.getElem_cons_succ, List.getElem_cons_zero])); (refine wpG_take (i := 9) (v := ?_) rfl (by kernel_rfl) (by kernel_rfl) (by kernel_rfl) (fun _ _ _ h => h) (From.refl _) (Or.inl ⟨by rfl, ?_⟩) ?_; rotate_left; (intro wx hx; go_simp) <;> (with_reducible rfl); (try simp only [Act.put, List.setIfInBounds_toArray, List.set_cons_zero, List.set_cons_succ, List.getElem_toArray, List.getElem_cons_succ, List.getElem_cons_zero])); (refine wpG_take (i := 10) (v := ?_) rfl (by kernel_rfl) (by kernel_rfl) (by kernel_rfl) (fun _ _ _ h => h) (From.refl _) (Or.inl ⟨by rfl, ?_⟩) ?_; rotate_left; (intro wx hx; go_simp) <;> (with_reducible rfl); (try simp only [Act.put, List.setIfInBounds_toArray, List.set_cons_zero, List.set_cons_succ, List.getElem_toArray, List.getElem_cons_succ, List.getElem_cons_zero])); (refine wpG_take (i := 11) (v := ?_) rfl (by kernel_rfl) (by kernel_rfl) (by kernel_rfl) (fun _ _ _ h => h) (From.refl _) (Or.inl ⟨by rfl, ?_⟩) ?_; rotate_left; (intro wx hx; go_simp) <;> (with_reducible rfl); (try simp only [Act.put, List.setIfInBounds_toArray, List.set_cons_zero, List.set_cons_succ, List.getElem_toArray, List.getElem_cons_succ, List.getElem_cons_zero])); (refine wpG_take (i := 12) (v := ?_) rfl (by kernel_rfl) (by kernel_rfl) (by kernel_rfl) (fun _ _ _ h => h) (From.refl _) (Or.inl ⟨by rfl, ?_⟩) ?_; rotate_left; (intro wx hx; go_simp) <;> (with_reducible rfl); (try simp only [Act.put, List.setIfInBounds_toArray, List.set_cons_zero, List.set_cons_succ, List.getElem_toArray, List.getElem_cons_succ, List.getElem_cons_zero])); (refine wpG_take (i := 13) (v := ?_) rfl (by kernel_rfl) (by kernel_rfl) (by kernel_rfl) (fun _ _ _ h => h) (From.refl _) (Or.inl ⟨by rfl, ?_⟩) ?_; rotate_left; (intro wx hx; go_simp) <;> (with_reducible rfl); (try simp only [Act.put, List.setIfInBounds_toArray, List.set_cons_zero, List.set_cons_succ, List.getElem_toArray, List.getElem_cons_succ, List.getElem_cons_zero])); (refine wpG_take (i := 14) (v := ?_) rfl (by kernel_rfl) (by kernel_rfl) (by kernel_rfl) (fun _ _ _ h => h) (From.refl _) (Or.inl ⟨by rfl, ?_⟩) ?_; rotate_left; (intro wx hx; go_simp) <;> (with_reducible rfl); (try simp only [Act.put, List.setIfInBounds_toArray, List.set_cons_zero, List.set_cons_succ, List.getElem_toArray, List.getElem_cons_succ, List.getElem_cons_zero])); (refine wpG_take (i := 15) (v := ?_) rfl (by kernel_rfl) (by kernel_rfl) (by kernel_rfl) (fun _ _ _ h => h) (From.refl _) (Or.inl ⟨by rfl, ?_⟩) ?_; rotate_left; (intro wx hx; go_simp) <;> (with_reducible rfl); (try simp only [Act.put, List.setIfInBounds_toArray, List.set_cons_zero, List.set_cons_succ, List.getElem_toArray, List.getElem_cons_succ, List.getElem_cons_zero])); (refine wpG_take (i := 16) (v := ?_) rfl (by kernel_rfl) (by kernel_rfl) (by kernel_rfl) (fun _ _ _ h => h) (From.refl _) (Or.inl ⟨by rfl, ?_⟩) ?_; rotate_left; (intro wx hx; go_simp) <;> (with_reducible rfl); (try simp only [Act.put, List.setIfInBounds_toArray, List.set_cons_zero, List.set_cons_succ, List.getElem_toArray, List.getElem_cons_succ, List.getElem_cons_zero])); (refine wpG_take (i := 17) (v := ?_) rfl (by kernel_rfl) (by kernel_rfl) (by kernel_rfl) (fun _ _ _ h => h) (From.refl _) (Or.inl ⟨by rfl, ?_⟩) ?_; rotate_left; (intro wx hx; go_simp) <;> (with_reducible rfl); (try simp only [Act.put, List.setIfInBounds_toArray, List.set_cons_zero, List.set_cons_succ, List.getElem_toArray, List.getElem_cons_succ, List.getElem_cons_zero])); (refine wpG_take (i := 18) (v := ?_) rfl (by kernel_rfl) (by kernel_rfl) (by kernel_rfl) (fun _ _ _ h => h) (From.refl _) (Or.inl ⟨by rfl, ?_⟩) ?_; rotate_left; (intro wx hx; go_simp) <;> (with_reducible rfl); (try simp only [Act.put, List.setIfInBounds_toArray, List.set_cons_zero, List.set_cons_succ, List.getElem_toArray, List.getElem_cons_succ, List.getElem_cons_zero])); (refine wpG_take (i := 19) (v := ?_) rfl (by kernel_rfl) (by kernel_rfl) (by kernel_rfl) (fun _ _ _ h => h) (From.refl _) (Or.inl ⟨by rfl, ?_⟩) ?_; rotate_left; (intro wx hx; go_simp) <;> (with_reducible rfl); (try simp only [Act.put, List.setIfInBounds_toArray, List.set_cons_zero, List.set_cons_succ, List.getElem_toArray, List.getElem_cons_succ, List.getElem_cons_zero])); (refine wpG_take (i := 20) (v := ?_) rfl (by kernel_rfl) (by kernel_rfl) (by kernel_rfl) (fun _ _ _ h => h) (From.refl _) (Or.inl ⟨by rfl, ?_⟩) ?_; rotate_left; (intro wx hx; go_simp) <;> (with_reducible rfl); (try simp only [Act.put, List.setIfInBounds_toArray, List.set_cons_zero, List.set_cons_succ, List.getElem_toArray, List.getElem_cons_succ, List.getElem_cons_zero])); (refine wpG_take (i := 21) (v := ?_) rfl (by kernel_rfl) (by kernel_rfl) (by kernel_rfl) (fun _ _ _ h => h) (From.refl _) (Or.inl ⟨by rfl, ?_⟩) ?_; rotate_left; (intro wx hx; go_simp) <;> (with_reducible rfl); (try simp only [Act.put, List.setIfInBounds_toArray, List.set_cons_zero, List.set_cons_succ, List.getElem_toArray, List.getElem_cons_succ, List.getElem_cons_zero])); (refine wpG_take (i := 22) (v := ?_) rfl (by kernel_rfl) (by kernel_rfl) (by kernel_rfl) (fun _ _ _ h => h) (From.refl _) (Or.inl ⟨by rfl, ?_⟩) ?_; rotate_left; (intro wx hx; go_simp) <;> (with_reducible rfl); (try simp only [Act.put, List.setIfInBounds_toArray, List.set_cons_zero, List.set_cons_succ, List.getElem_toArray, List.getElem_cons_succ, List.getElem_cons_zero])); (refine wpG_take (i := 23) (v := ?_) rfl (by kernel_rfl) (by kernel_rfl) (by kernel_rfl) (fun _ _ _ h => h) (From.refl _) (Or.inl ⟨by rfl, ?_⟩) ?_; rotate_left; (intro wx hx; go_simp) <;> (with_reducible rfl); (try simp only [Act.put, List.setIfInBounds_toArray, List.set_cons_zero, List.set_cons_succ, List.getElem_toArray, List.getElem_cons_succ, List.getElem_cons_zero])); (refine wpG_take (i := 24) (v := ?_) rfl (by kernel_rfl) (by kernel_rfl) (by kernel_rfl) (fun _ _ _ h => h) (From.refl _) (Or.inl ⟨by rfl, ?_⟩) ?_; rotate_left; (intro wx hx; go_simp) <;> (with_reducible rfl); (try simp only [Act.put, List.setIfInBounds_toArray, List.set_cons_zero, List.set_cons_succ, List.getElem_toArray, List.getElem_cons_succ, List.getElem_cons_zero])); (refine wpG_take (i := 25) (v := ?_) rfl (by kernel_rfl) (by kernel_rfl) (by kernel_rfl) (fun _ _ _ h => h) (From.refl _) (Or.inl ⟨by rfl, ?_⟩) ?_; rotate_left; (intro wx hx; go_simp) <;> (with_reducible rfl); (try simp only [Act.put, List.setIfInBounds_toArray, List.set_cons_zero, List.set_cons_succ, List.getElem_toArray, List.getElem_cons_succ, List.getElem_cons_zero])); (refine wpG_take (i := 26) (v := ?_) rfl (by kernel_rfl) (by kernel_rfl) (by kernel_rfl) (fun _ _ _ h => h) (From.refl _) (Or.inl ⟨by rfl, ?_⟩) ?_; rotate_left; (intro wx hx; go_simp) <;> (with_reducible rfl); (try simp only [Act.put, List.setIfInBounds_toArray, List.set_cons_zero, List.set_cons_succ, List.getElem_toArray, List.getElem_cons_succ, List.getElem_cons_zero])); (refine wpG_take (i := 27) (v := ?_) rfl (by kernel_rfl) (by kernel_rfl) (by kernel_rfl) (fun _ _ _ h => h) (From.refl _) (Or.inl ⟨by rfl, ?_⟩) ?_; rotate_left; (intro wx hx; go_simp) <;> (with_reducible rfl); (try simp only [Act.put, List.setIfInBounds_toArray, List.set_cons_zero, List.set_cons_succ, List.getElem_toArray, List.getElem_cons_succ, List.getElem_cons_zero])); (refine wpG_take (i := 28) (v := ?_) rfl (by kernel_rfl) (by kernel_rfl) (by kernel_rfl) (fun _ _ _ h => h) (From.refl _) (Or.inl ⟨by rfl, ?_⟩) ?_; rotate_left; (intro wx hx; go_simp) <;> (with_reducible rfl); (try simp only [Act.put, List.setIfInBounds_toArray, List.set_cons_zero, List.set_cons_succ, List.getElem_toArray, List.getElem_cons_succ, List.getElem_cons_zero]))
          (refine wpG_one (i := 29) (by kernel_rfl) rfl ?_; intro K hK; (try simp only [Act.put, List.setIfInBounds_toArray, List.set_cons_zero, List.set_cons_succ, List.getElem_toArray, List.getElem_cons_succ, List.getElem_cons_zero]))
          refine step_call rfl rfl enAwake rfl (awake_any _) ?_
          rintro e w17 ⟨rfl, hb17⟩
          refine ⟨_, rfl, hK (From w17) _ _ (From.next hb17) (From.refl _) ?_⟩
          clear hK K
          (try simp only [Act.put, List.setIfInBounds_toArray, List.set_cons_zero, List.set_cons_succ, List.getElem_toArray, List.getElem_cons_succ, List.getElem_cons_zero])
          (refine wpG_take (i := 30) (v := ?_) rfl (by kernel_rfl) (by kernel_rfl) (by kernel_rfl) (fun _ _ _ h => h) (From.refl _) (Or.inl ⟨by rfl, ?_⟩) ?_; rotate_left; (intro wx hx; go_simp) <;> (with_reducible rfl); (try simp only [Act.put, List.setIfInBounds_toArray, List.set_cons_zero, List.set_cons_succ, List.getElem_toArray, List.getElem_cons_succ, List.getElem_cons_zero])); (refine wpG_take (i := 31) (v := ?_) rfl (by kernel_rfl) (by kernel_rfl) (by kernel_rfl) (fun _ _ _ h => h) (From.refl _) (Or.inl ⟨by rfl, ?_⟩) ?_; rotate_left; (intro wx hx; go_simp) <;> (with_reducible rfl); (try simp only [Act.put, List.setIfInBounds_toArray, List.set_cons_zero, List.set_cons_succ, List.getElem_toArray, List.getElem_cons_succ, List.getElem_cons_zero]))
          refine wpG_done (by kernel_rfl) ?_ _
          go_wp2_with fail
          go_ret
          exact ⟨rfl, (hS16.call hb17).below⟩
end Go.Proofs.Ytcfonifaijeecaa
