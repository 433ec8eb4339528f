/-
  Layer 1: the walk of Write.
-/
import Derived.Test.YtabdbddmmbccjaaHd
import Derived.IntWalk
namespace Go.Proofs.Ytabdbddmmbccjaa
open Go.RowKit
set_option linter.unusedSimpArgs false

/-- The state behind k blocks. -/
def runN : List Nat → Nat → List UInt8 → List Nat
  | h, 0, _ => h
  | h, k + 1, l => runN (comp h (l.take 128)) k (l.drop 128)
theorem runN_ok : ∀ (k : Nat) (h : List Nat) (l : List UInt8), h.length = 8 → Words h → (runN h k l).length = 8 ∧ Words (runN h k l)
  | 0, h, l, h1, h2 => ⟨h1, h2⟩
  | k + 1, h, l, h1, h2 => by
    obtain ⟨a, b⟩ := comp_ok h1 h2 (l.take 128)
    exact runN_ok k _ _ a b
theorem runN_snoc : ∀ (k : Nat) (h : List Nat) (l : List UInt8), runN h (k + 1) l = comp (runN h k l) ((l.drop (128 * k)).take 128)
  | 0, h, l => by simp [runN]
  | k + 1, h, l => by
    have := runN_snoc k (comp h (l.take 128)) (l.drop 128)
    rw [runN, this, runN, List.drop_drop, show 128 + 128 * k = 128 * (k + 1) from by omega]
theorem runN_append : ∀ (k : Nat) (h : List Nat) (l m : List UInt8), 128 * k ≤ l.length → runN h k (l ++ m) = runN h k l
  | 0, _, _, _, _ => rfl
  | k + 1, h, l, m, hk => by
    rw [runN, runN, List.take_append_of_le_length (by omega), List.drop_append_of_le_length (by omega), runN_append k _ _ _ (by rw [List.length_drop]; omega)]
theorem runN_add : ∀ (j k : Nat) (h : List Nat) (l : List UInt8), runN (runN h j l) k (l.drop (128 * j)) = runN h (j + k) l
  | 0, k, h, l => by simp [runN]
  | j + 1, k, h, l => by
    have := runN_add j k (comp h (l.take 128)) (l.drop 128)
    rw [List.drop_drop, show 128 + 128 * j = 128 * (j + 1) from by omega] at this
    rw [runN, this, show j + 1 + k = (j + k) + 1 from by omega, runN]
/-- What a hash holds of a message: the state, the bytes of a block that is not full. -/
def stO (l : List UInt8) : List Nat := runN h0L (l.length / 128) l
def rsO (l : List UInt8) : List UInt8 := l.drop (128 * (l.length / 128))
theorem stO_ok (l : List UInt8) : (stO l).length = 8 ∧ Words (stO l) := runN_ok _ _ _ h0_ok.1 h0_ok.2
theorem rsO_len (l : List UInt8) : (rsO l).length = l.length % 128 := by unfold rsO; rw [List.length_drop]; omega
theorem stO_append (l m : List UInt8) : runN (stO l) (((rsO l) ++ m).length / 128) (rsO l ++ m) = stO (l ++ m) := by
  have h1 : rsO l ++ m = (l ++ m).drop (128 * (l.length / 128)) := by unfold rsO; rw [List.drop_append_of_le_length (by omega)]
  have h2 : stO l = runN h0L (l.length / 128) (l ++ m) := by unfold stO; rw [runN_append _ _ _ _ (by omega)]
  rw [h2, h1, runN_add]
  unfold stO
  rw [List.length_drop]
  congr 1
  rw [List.length_append]
  omega
theorem rsO_append (l m : List UInt8) : (rsO l ++ m).drop (128 * ((rsO l ++ m).length / 128)) = rsO (l ++ m) := by
  have h1 : rsO l ++ m = (l ++ m).drop (128 * (l.length / 128)) := by unfold rsO; rw [List.drop_append_of_le_length (by omega)]
  rw [h1, List.drop_drop, List.length_drop]
  unfold rsO
  congr 1
  rw [List.length_append]
  omega
theorem rd_setCell {w : World} {g o m : Nat} {y v : Value} {xs : List Value} (h : Rd w y 1 m xs) (hne : 0 < m → y.ownBlock ≠ some g) : Rd (w.setCell ⟨g, o, none⟩ v) y 1 m xs := by
  by_cases hm : 0 < m
  · exact h.keep (by simp) (fun b _ e => (ext_setCell w ⟨g, o, none⟩ v).block b (by assumption) (fun x => hne hm (e.trans x.symm)))
  · obtain ⟨A, c, rfl, h1, h2, h3, h4, h5⟩ := h
    have hx : xs = [] := List.eq_nil_of_length_eq_zero (by omega)
    subst hx
    exact ⟨A, c, rfl, h1, h2, h3, h4, fun b o sp hA => ⟨fun h => by omega, fun j u hu => by simp at hu⟩⟩
theorem wl_append0z {P : Program} {w0 w : World} {M : Nat → Prop} {H : List Chunk} {ops : Array Oper} {rest : List Oper} {o : Oper} {a : Act} {Q : Exit → Act → World → Prop} (hgd : o.guard = none) {s x : Operand} {t e : TypeId} {bytes : Nat}
    (ho : o.op = .call { callee := .builtin .append, args := #[s, x], argTypes := #[t, t] }) (T : RowTy P t e 1 bytes)
    (hS : St w0 M w H) (hs : a.eval s = .slice none 0 0) {A : Addr} {n c : Nat} (hx : a.eval x = .slice (some A) n c) (hn : n = 0) (hc : n ≤ c) (hm : c ≤ maxLen) (hby : bytes ≤ 32768)
    (h : ∀ A' c' w', St w0 M w' (.row (.slice A' 0 c') e 1 0 [] :: H) → wpList P ops Q rest (a.put o.dst (.slice A' 0 c')) w') : wpList P ops Q (o :: rest) a w := by
  subst hn
  exact wl_append0 hgd ho T hS hs hx ⟨_, _, rfl, rfl, hc, hm, (fun h => by cases h), fun b' o' sp' h => ⟨fun h => by omega, fun j u hu => by simp at hu⟩⟩ (fun u hu => by cases hu) (by omega) hby h
def WrRel (w0 : World) (M : Nat → Prop) (H : List Chunk) (g : Nat) (hs : List Nat) (A : Option Addr) (c N n k : Nat) (all : List UInt8) (iv : Value) (wr : World) : Prop :=
  ∃ i : Nat, i ≤ k ∧ iv = .int .i64 (i : Int) ∧ St w0 M wr (.cells g (hashC (runN hs i all) (.slice A N c) n) 42 :: .row (.slice A N c) 5 1 N (bvs all) :: H)
theorem hashC_eight {hs : List Nat} {r : Value} {n : Nat} (h : hs.length = 8) : (hashC hs r n)[8]? = some r := by
  obtain ⟨a0, a1, a2, a3, a4, a5, a6, a7, rfl⟩ := list8 h
  rfl
theorem hashC_nine {hs : List Nat} {r : Value} {n : Nat} (h : hs.length = 8) : (hashC hs r n)[9]? = some (.int .u64 (n : Int)) := by
  obtain ⟨a0, a1, a2, a3, a4, a5, a6, a7, rfl⟩ := list8 h
  rfl
theorem hashC_set9 {hs : List Nat} {r : Value} {n m : Nat} (h : hs.length = 8) : (hashC hs r n).setIfInBounds 9 (.int .u64 (m : Int)) = hashC hs r m := by
  obtain ⟨a0, a1, a2, a3, a4, a5, a6, a7, rfl⟩ := list8 h
  rfl
theorem hashC_set8 {hs : List Nat} {r r' : Value} {n : Nat} (h : hs.length = 8) : (hashC hs r n).setIfInBounds 8 r' = hashC hs r' n := by
  obtain ⟨a0, a1, a2, a3, a4, a5, a6, a7, rfl⟩ := list8 h
  rfl
theorem St.consec {w0 w : World} {M : Nat → Prop} {H : List Chunk} {a b : Chunk} (h : St w0 M w (a :: b :: H)) : St w0 M w (a :: H) := h.swap.tail
set_option maxRecDepth 100000 in
set_option maxHeartbeats 1600000 in
theorem write_any {w0 : World} {M : Nat → Prop} {H : List Chunk} (g : Nat) (hs : List Nat) (A : Option Addr) (c r n : Nat) (rest : List UInt8) (B : Option Addr) (cb m : Nat) (l : List UInt8) (w : World) (all : List UInt8) (k t : Nat)
    (hl8 : hs.length = 8) (hw8 : Words hs) (hrl : rest.length = r) (hl : l.length = m) (hn : n + m ≤ 1000000) (hr0 : r ≤ 127) (hall : rest ++ l = all) (hk : all.length / 128 = k) (ht : all.length % 128 = t)
    (hS : St w0 M w (.cells g (hashC hs (.slice A r c) n) 42 :: .row (.slice A r c) 5 1 r (bvs rest) :: H)) (hr : Rd w (.slice B m cb) 1 m (bvs l)) (hne : 0 < m → (Value.slice B m cb).ownBlock ≠ some g) :
    Calls Try.prog 12 #[.pointer (some ⟨g, 0, none⟩), .slice B m cb] w fun e w' => e = .returned (.tuple #[]) ∧ ∃ A' c', St w0 M w' (.cells g (hashC (runN hs k all) (.slice A' t c') (n + m)) 42 :: .row (.slice A' t c') 5 1 t (bvs (all.drop (128 * k))) :: H) := by
  have c9 : w.cell? ⟨g, 9, none⟩ = some (.int .u64 (n : Int)) := by rw [hS.cell 0 rfl 9]; exact hashC_nine hl8
  have c8 : w.cell? ⟨g, 8, none⟩ = some (.slice A r c) := by rw [hS.cell 0 rfl 8]; exact hashC_eight hl8
  have f9 := hS.free 0 rfl 9
  have f8 := hS.free 0 rfl 8
  have hwm : IntKind.u64.wrap (m : Int) = (m : Int) := by rw [IntKind.wrap_u64]; omega
  have hwn : IntKind.u64.wrap ((n : Int) + (m : Int)) = ((n + m : Nat) : Int) := by rw [IntKind.wrap_u64]; omega
  have hS1 := hS.setCell 0 rfl 9 (.int .u64 ((n + m : Nat) : Int))
  rw [hashC_set9 hl8] at hS1
  have HS1 := hide hS1
  have HR1 := hide (rd_setCell (o := 9) (v := .int .u64 ((n + m : Nat) : Int)) hr hne)
  have hal : all.length = r + m := by rw [← hall, List.length_append, hrl, hl]
  have hq : wrap64 (((r : Int) + (m : Int)).tdiv 128) = (k : Int) := by
    rw [Int.tdiv_eq_ediv_of_nonneg (by omega)]
    exact IntWalk.wrap64_in _ ⟨by omega, by omega⟩ |>.trans (by omega)
  have HL8 := hide hl8
  have HW8 := hide hw8
  have HAL := hide hal
  have HALL := hide hall
  have HK := hide hk
  have HT := hide ht
  have HN := hide hn
  have hm64 : m ≤ 9223372036854775807 := by omega
  clear hS hr hne hl8 hw8 hrl hl hn hal hall hk ht hS1
  go_enter Try.func12, Try.ntmps12
  go_upto_region 4 with (at_builtin; refine wl_append rfl rfl tyB HS1.out 1 rfl rfl rfl HR1.out (one_bvs _) (by have := HN.out; omega) (by decide) ?_; intro A1 c1 w1 hS1; have z8 : w1.cell? ⟨g, 8, none⟩ = some (.slice A r c) := (hS1.cell 0 rfl 8).trans (hashC_eight HL8.out); have q8 := hS1.free 0 rfl 8; have HS2 := hide (hS1.setCell 0 rfl 8 (.slice A1 (r + m) c1)))
  clear c9 c8 f9 f8 hwm hwn z8 q8 hS1
  rw [← bvs_append, HALL.out, hashC_set8 HL8.out] at HS2
  have hN : r + m ≤ 1000127 := by have := HN.out; omega
  generalize w1.setCell ⟨g, 8, none⟩ (.slice A1 (r + m) c1) = w2 at HS2 ⊢
  rw [hq]
  obtain ⟨N, hNN⟩ : ∃ N, N = r + m := ⟨_, rfl⟩
  rw [← hNN] at HS2 hN HAL ⊢
  obtain ⟨n', hn'⟩ : ∃ n', n' = n + m := ⟨_, rfl⟩
  rw [← hn'] at HS2
  have HN' := hide hn'
  have hkN : 128 * k ≤ N := by have := HK.out; have := HAL.out; omega
  have hkt : N = 128 * k + t := by have := HK.out; have := HT.out; have := HAL.out; omega
  have HKT := hide hkt
  clear hNN hq hn' hkt
  go_wp2_with fail
  go_loopw [34] (fun i wr => WrRel w0 M H g hs A1 c1 N n' k all i wr) (fun i _ => k - (intOf i).toNat)
  case atStart => exact ⟨0, by omega, rfl, HS2.out⟩
  case round =>
    clear HS2
    obtain ⟨i, hi, rfl, hS⟩ := hrel
    have ⟨g1, g2⟩ := runN_ok i hs all HL8.out HW8.out
    have c8 : wr.cell? ⟨g, 8, none⟩ = some (.slice A1 N c1) := (hS.cell 0 rfl 8).trans (hashC_eight g1)
    have hrd := hS.rd 1 rfl
    have hcap := rd_cap hrd
    by_cases hlt : i < k
    · obtain ⟨b, o, rfl⟩ : ∃ b o, A1 = some ⟨b, o, none⟩ := by
        rcases hrd.cases with ⟨_, h0, _⟩ | ⟨b, o, sp, c', hv, _, _, _, _, h4, _⟩
        · omega
        · injection hv with hv1 _ _
          have := h4 (by omega)
          subst this hv1
          exact ⟨b, o, rfl⟩
      have hmid := rd_mid0 hrd (i * 128) ((i + 1) * 128) (by omega) (by omega)
      rw [show (i + 1) * 128 - i * 128 = 128 from by omega, show all.drop (i * 128) = all.drop (128 * i) from by rw [Nat.mul_comm]] at hmid
      have HT2 := hide (takes_any (H := .row (.slice (some ⟨b, o, none⟩) N c1) 5 1 N (bvs all) :: H) g (runN hs i all) (.slice (some ⟨b, o, none⟩) N c1) n' (some ⟨b, o + i * 128, none⟩) (c1 - i * 128) ((all.drop (128 * i)).take 128) wr g1 g2 (by rw [List.length_take, List.length_drop, HAL.out]; omega) hS hmid)
      rw [← runN_snoc] at HT2
      have h128 : (i + 1) * 128 - i * 128 = 128 := by omega
      have d1 : decide ((i : Int) < (k : Int)) = true := by simp; omega
      have i1 : (i : Int) < (k : Int) := by omega
      clear hrd hmid hS g1 g2
      go_wp2_with (go_at_call 17; refine HT2.out.mono ?_; rintro e w3 ⟨rfl, hS3⟩; have HS3 := hide hS3; clear hS3)
      go_roundw
      case rel => exact ⟨i + 1, by omega, by go_num, HS3.out⟩
      case measure => (simp [intOf]) <;> omega
    · obtain rfl : i = k := by omega
      have HS := hide hS
      have hcpos : c1 ≤ 9223372036854775807 := by
        obtain ⟨_, _, e, _, _, h3, _⟩ := hrd
        injection e with _ _ e3
        subst e3
        unfold maxLen at h3
        omega
      have ht2 : t ≤ 127 := by have := HT.out; omega
      have hkt := HKT.out
      by_cases hN0 : N = 0
      · have hi0 : i = 0 := by omega
        have ht0 : t = 0 := by omega
        have hnil : all = [] := List.eq_nil_of_length_eq_zero (by rw [HAL.out]; exact hN0)
        subst hN0 hi0 ht0 hnil
        cases A1 with
        | none =>
          have hc0 : c1 = 0 := by
            obtain ⟨A', c', e, _, _, _, h4, _⟩ := hrd
            injection e with e1 _ e3
            rw [e3]
            exact h4 e1.symm
          subst hc0
          have HRV := hide (show Rd wr (.slice none 0 0) 1 0 (bvs []) from rd_nil wr 1)
          clear hS hrd hkt
          go_wp2_with (at_builtin; refine wl_append0 rfl rfl tyB HS.out rfl rfl HRV.out (one_bvs _) (by omega) (by decide) ?_; intro A3 c3 w3 hS3; have q8 := hS3.free 1 rfl 8; have z8 : w3.cell? ⟨g, 8, none⟩ = some (.slice none 0 0) := (hS3.cell 1 rfl 8).trans (hashC_eight g1); have HS3 := hide (hS3.setCell 1 rfl 8 (.slice A3 0 c3)))
          go_end0
          have h4 := HS3.out
          rw [hashC_set8 g1] at h4
          have h5 := St.mid2 (St.swap h4)
          rw [HN'.out] at h5
          exact ⟨rfl, A3, c3, h5⟩
        | some ad =>
          have HRV := hide (show Rd wr (.slice (some ad) 0 c1) 1 0 (bvs []) from hrd)
          obtain ⟨b, o, sp⟩ := ad
          by_cases hcc : c1 = 0
          · subst hcc
            clear hS hrd hkt
            go_wp2_with (at_builtin; refine wl_append0 rfl rfl tyB HS.out rfl rfl HRV.out (one_bvs _) (by omega) (by decide) ?_; intro A3 c3 w3 hS3; have q8 := hS3.free 1 rfl 8; have z8 : w3.cell? ⟨g, 8, none⟩ = some (.slice (some ⟨b, o, sp⟩) 0 _) := (hS3.cell 1 rfl 8).trans (hashC_eight g1); have HS3 := hide (hS3.setCell 1 rfl 8 (.slice A3 0 c3)))
            go_end0
            have h4 := HS3.out
            rw [hashC_set8 g1] at h4
            have h5 := St.mid2 (St.swap h4)
            rw [HN'.out] at h5
            exact ⟨rfl, A3, c3, h5⟩
          · have hcl : 0 < c1 := by omega
            clear hS hrd hkt
            go_wp2_with (at_builtin; refine wl_append0 rfl rfl tyB HS.out rfl rfl HRV.out (one_bvs _) (by omega) (by decide) ?_; intro A3 c3 w3 hS3; have q8 := hS3.free 1 rfl 8; have z8 : w3.cell? ⟨g, 8, none⟩ = some (.slice (some ⟨b, o, sp⟩) 0 _) := (hS3.cell 1 rfl 8).trans (hashC_eight g1); have HS3 := hide (hS3.setCell 1 rfl 8 (.slice A3 0 c3)))
            go_end0
            have h4 := HS3.out
            rw [hashC_set8 g1] at h4
            have h5 := St.mid2 (St.swap h4)
            rw [HN'.out] at h5
            exact ⟨rfl, A3, c3, h5⟩
      · obtain ⟨b, o, rfl⟩ : ∃ b o, A1 = some ⟨b, o, none⟩ := by
          rcases hrd.cases with ⟨_, h0, _⟩ | ⟨b, o, sp, c', hv, _, _, _, _, h4, _⟩
          · omega
          · injection hv with hv1 _ _
            have := h4 (by omega)
            subst this hv1
            exact ⟨b, o, rfl⟩
        by_cases hcc : c1 = i * 128
        · have hNi : N = i * 128 := by omega
          have ht0 : t = 0 := by omega
          have hdr : all.drop (128 * i) = [] := List.drop_eq_nil_of_le (by rw [HAL.out]; omega)
          subst hcc hNi ht0
          have HDR := hide hdr
          have hmx : i * 128 ≤ maxLen := by unfold maxLen; omega
          clear hS hrd hkt hdr
          go_wp2_with (at_builtin; refine wl_append0z rfl rfl tyB HS.out rfl rfl (by omega) (by omega) (by omega) (by decide) ?_; intro A3 c3 w3 hS3; have q8 := hS3.free 1 rfl 8; have z8 : w3.cell? ⟨g, 8, none⟩ = some (.slice (some ⟨b, o, none⟩) (i * 128) (i * 128)) := (hS3.cell 1 rfl 8).trans (hashC_eight g1); have HS3 := hide (hS3.setCell 1 rfl 8 (.slice A3 0 c3)))
          go_end0
          have h4 := HS3.out
          rw [hashC_set8 g1] at h4
          have h5 := St.mid2 (St.swap h4)
          rw [HN'.out] at h5
          refine ⟨rfl, A3, c3, ?_⟩
          rw [HDR.out]
          exact h5
        · have hcl : i * 128 < c1 := by omega
          have hmid := rd_mid0 hrd (i * 128) N (by omega) (Nat.le_refl _)
          rw [List.take_of_length_le (by rw [List.length_drop, HAL.out]; exact Nat.le_refl _), show i * 128 = 128 * i from by omega] at hmid
          have hti2 : N - i * 128 = t := by omega
          rw [show N - 128 * i = N - i * 128 from by omega, show o + 128 * i = o + i * 128 from by omega, show c1 - 128 * i = c1 - i * 128 from by omega] at hmid
          have HRV := hide hmid
          have HTI := hide hti2
          clear hS hrd hkt hmid hti2
          go_wp2_with (at_builtin; refine wl_append0 rfl rfl tyB HS.out rfl rfl HRV.out (one_bvs _) (by omega) (by decide) ?_; intro A3 c3 w3 hS3; have q8 := hS3.free 1 rfl 8; have z8 : w3.cell? ⟨g, 8, none⟩ = some (.slice (some ⟨b, o, none⟩) N c1) := (hS3.cell 1 rfl 8).trans (hashC_eight g1); have HS3 := hide (hS3.setCell 1 rfl 8 (.slice A3 (N - i * 128) c3)))
          go_end0
          have h4 := HS3.out
          rw [hashC_set8 g1] at h4
          have h5 := St.mid2 (St.swap h4)
          rw [HN'.out] at h5
          refine ⟨rfl, A3, c3, ?_⟩
          rw [← HTI.out]
          exact h5
end Go.Proofs.Ytabdbddmmbccjaa
