/-
  The walk of the program's reader: varint.
-/
import Derived.Test.YtcfonifaijeecaaPw6
import Derived.Test.YtcfonifaijeecaaVr
import Derived.Deep.DeepCutAuto
namespace Go.Proofs.Ytcfonifaijeecaa
open Go.RowKit

/-- The address behind a cut. -/
@[irreducible] def cutA (A : Option Addr) (c k : Nat) : Option Addr := if c = k then A else A.map (·.add k)
theorem rd_cut {w : World} {A : Option Addr} {n c : Nat} {l : List UInt8} (h : Rd w (.slice A n c) 1 n (bvs l)) (k : Nat) (hk : k ≤ n) : Rd w (.slice (cutA A c k) (n - k) (c - k)) 1 (n - k) (bvs (l.drop k)) := by
  obtain ⟨A', c', e, h1, h2, h3, h4, h5⟩ := h
  injection e with e1 _ e3
  subst e1 e3
  rw [length_bvs] at h1
  refine ⟨_, _, rfl, by rw [length_bvs, List.length_drop]; omega, by omega, by omega, ?_, ?_⟩
  · intro hA
    unfold cutA at hA
    split at hA
    · have := h4 hA; omega
    · have : A = none := by simpa using hA
      have := h4 this; omega
  · intro b o sp hA
    unfold cutA at hA
    split at hA
    · rename_i hck
      have hl : l.drop k = [] := List.drop_eq_nil_of_le (by omega)
      exact ⟨fun hn => by omega, fun j u hu => by rw [hl] at hu; simp [bvs] at hu⟩
    · obtain ⟨ad, rfl, had⟩ : ∃ ad, A = some ad ∧ ad.add k = ⟨b, o, sp⟩ := by
        cases A with
        | none => simp at hA
        | some ad => exact ⟨ad, rfl, by simpa using hA⟩
      obtain ⟨b', o', sp'⟩ := ad
      obtain ⟨k1, k2⟩ := h5 b' o' sp' rfl
      by_cases hk0 : k = 0
      · subst hk0
        simp only [Addr.add_zero', Addr.mk.injEq] at had
        obtain ⟨rfl, rfl, rfl⟩ := had
        exact ⟨fun hn => k1 (by omega), fun j u hu => k2 j u (by simpa using hu)⟩
      · have hz : (⟨b', o', sp'⟩ : Addr).add k = ⟨b', o' + k, none⟩ := by unfold Addr.add; rw [if_neg hk0]
        rw [hz, Addr.mk.injEq] at had
        obtain ⟨rfl, rfl, rfl⟩ := had
        refine ⟨fun _ => rfl, fun j u hu => ?_⟩
        rw [Nat.add_assoc]
        refine k2 (k + j) u ?_
        rw [← hu]
        simp [bvs, List.getElem?_drop]
theorem RdH.cut {w0 : World} {M : Nat → Prop} {H : List Chunk} {A : Option Addr} {n c : Nat} {l : List UInt8} (h : RdH w0 M H (.slice A n c) 1 n (bvs l)) (k : Nat) (hk : k ≤ n) : RdH w0 M H (.slice (cutA A c k) (n - k) (c - k)) 1 (n - k) (bvs (l.drop k)) :=
  fun w hS => rd_cut (h w hS) k hk

/-- The reader's block: what is left; the error. -/
def RdrC (g : Nat) (A : Option Addr) (n c : Nat) (e : Nat) (H : List Chunk) : List Chunk := .cells g #[.slice A n c, .int .i64 (e : Nat)] 63 :: H

@[irreducible] def badB (k x : Nat) : Bool := (decide (k = 9) && decide (1 < x)) || (decide (0 < k) && decide (x = 0))
theorem run_cut {P : Program} {t e : TypeId} (ht : P.underlying t = some (.slice e)) (hs : P.cellsOf e = 1) (hz : ∃ i, P.info? e = some i) (kd : IntKind) (A : Option Addr) (n c k : Nat) (hk : k ≤ n) (W : World) :
    (Instr.sliceAt t (.slice A n c) (some (.int kd (k : Int))) none none).run P W = .ok (.slice (cutA A c k) (n - k) (c - k)) W := by
  obtain ⟨i, hi⟩ := hz
  have hsz : i.size = 1 := by simpa [Program.cellsOf, hi] using hs
  have hb : (Instr.sliceBound (.int kd (k : Int)) n .sliceB).run P W = .ok k W := by
    simp [Instr.sliceBound, asIntOf, hk]
  unfold Instr.sliceAt Instr.slice Instr.sliceBounds cutA
  simp only [Sem.run_bind, run_underlying ht, Result.andThen_ok, Sem.run_pure, hb, sizeOf, typeInfo, run_program, hi, hsz, Nat.mul_one, Option.isSome_none]
  simp only [Bool.false_eq_true, if_false, hb, Result.andThen_ok, Sem.run_pure, Sem.run_bind, hsz, Nat.mul_one]
theorem infoU8 : ∃ i, Try.prog.info? 5 = some i := by
  cases h : Try.prog.info? 5 with
  | some i => exact ⟨i, rfl⟩
  | none =>
    have : (Try.prog.info? 5).isSome = true := by kernel_rfl
    rw [h] at this
    cases this
theorem cellU8 : Try.prog.cellsOf 5 = 1 := by kernel_rfl

/-- Who reads the one bytes reads the others, too. -/
def CutR (A : Option Addr) (c : Nat) (l : List UInt8) (A' : Option Addr) (c' : Nat) (l' : List UInt8) : Prop :=
  ∀ w, Rd w (.slice A l.length c) 1 l.length (bvs l) → Rd w (.slice A' l'.length c') 1 l'.length (bvs l')
theorem CutR.trans {A A' A'' : Option Addr} {c c' c'' : Nat} {l l' l'' : List UInt8} (h : CutR A c l A' c' l') (k : CutR A' c' l' A'' c'' l'') : CutR A c l A'' c'' l'' := fun w x => k w (h w x)
theorem CutR.rdH {w0 : World} {M : Nat → Prop} {H : List Chunk} {A A' : Option Addr} {c c' : Nat} {l l' : List UInt8} (h : CutR A c l A' c' l') (hr : RdH w0 M H (.slice A l.length c) 1 l.length (bvs l)) : RdH w0 M H (.slice A' l'.length c') 1 l'.length (bvs l') := fun w x => h w (hr w x)
theorem cutR (A : Option Addr) (c : Nat) (l : List UInt8) (k : Nat) (hk : k ≤ l.length) : CutR A c l (cutA A c k) (c - k) (l.drop k) := fun w h => by
  rw [List.length_drop]
  exact rd_cut h k hk
/-- What the reader's varint leaves. -/
def RvPost (w0 : World) (M : Nat → Prop) (H : List Chunk) (g : Nat) (A : Option Addr) (c : Nat) (l : List UInt8) : VR → Ending → World → Prop
  | .ok v rest, e, w' => e = .returned (.int .u64 (v : Int)) ∧ W64 v ∧ ∃ A' c', St w0 M w' (RdrC g A' rest.length c' 0 H) ∧ CutR A c l A' c' rest
  | .bad k, e, w' => e = .returned (.int .u64 0) ∧ St w0 M w' (RdrC g A l.length c k H)

theorem rv_bad (l : List UInt8) (k acc x : Nat) (h : k < l.length) (hx : x = l[k].toNat) (hb : badB k x = true) (hv : rvF (l.drop k) k acc = rv l) : rv l = .bad 3 := by
  rw [← hv, List.drop_eq_getElem_cons h, rvF, if_pos]
  unfold badB at hb
  subst hx
  simpa using hb
theorem rv_ok (l : List UInt8) (k acc x : Nat) (h : k < l.length) (hx : x = l[k].toNat) (hb : badB k x = false) (h1 : x < 128) (hv : rvF (l.drop k) k acc = rv l) : rv l = .ok (acc + x * 2 ^ (7 * k)) (l.drop (k + 1)) := by
  rw [← hv, List.drop_eq_getElem_cons h, rvF, if_neg, if_pos (by omega), hx]
  unfold badB at hb
  subst hx
  simpa using hb
theorem rv_on (l : List UInt8) (k acc x : Nat) (h : k < l.length) (hx : x = l[k].toNat) (hb : badB k x = false) (h1 : ¬ x < 128) (hv : rvF (l.drop k) k acc = rv l) : rvF (l.drop (k + 1)) (k + 1) (acc + (x - 128) * 2 ^ (7 * k)) = rv l := by
  rw [← hv, List.drop_eq_getElem_cons h, rvF, if_neg, if_neg (by omega), hx]
  unfold badB at hb
  subst hx
  simpa using hb
theorem rv_end (l : List UInt8) (k acc : Nat) (h : ¬ k < l.length) (hv : rvF (l.drop k) k acc = rv l) : rv l = .bad 2 := by
  rw [← hv, List.drop_eq_nil_of_le (by omega), rvF]
theorem bad_nine (k x : Nat) (hk : k ≤ 9) (hb : badB k x = false) : k = 9 → x ≤ 1 := by
  unfold badB at hb
  simp at hb
  omega
theorem or_step (k acc x : Nat) (hk : k ≤ 9) (hx : x < 256) (h9 : k = 9 → x ≤ 1) (ha : acc < 2 ^ (7 * k)) :
    bits .or .u64 (acc : Int) (IntKind.u64.wrap (IntKind.u64.wrap (bits .andNot .u8 (x : Int) 128) * 2 ^ (7 * k))) = ((acc + x % 128 * 2 ^ (7 * k) : Nat) : Int) ∧ W64 (acc + x % 128 * 2 ^ (7 * k)) ∧ acc + x % 128 * 2 ^ (7 * k) < 2 ^ (7 * (k + 1)) := by
  have e1 : bits .andNot .u8 (x : Int) 128 = ((x % 128 : Nat) : Int) := by
    have := u8_andNot_nat x 128 hx (by omega)
    rw [show 255 - 128 = 127 from rfl, nat_mask7] at this
    exact this
  have hp : 0 < 2 ^ (7 * k) := Nat.two_pow_pos _
  have hm : x % 128 * 2 ^ (7 * k) ≤ 127 * 2 ^ (7 * k) := Nat.mul_le_mul_right _ (by omega)
  have hlt : x % 128 * 2 ^ (7 * k) + 2 ^ (7 * k) ≤ 18446744073709551616 := by
    by_cases h : k = 9
    · have h1 := h9 h
      have h2 : 2 ^ (7 * k) = 9223372036854775808 := by rw [h]
      rw [h2]
      omega
    · have h2 : 2 ^ (7 * k) ≤ 2 ^ 56 := Nat.pow_le_pow_right (by omega) (by omega)
      have h3 : (2 : Nat) ^ 56 = 72057594037927936 := rfl
      rw [h3] at h2
      omega
  have e2 : (IntKind.u64.wrap ((x % 128 : Nat) : Int)) = ((x % 128 : Nat) : Int) := by rw [IntKind.wrap_u64]; omega
  have e3 : IntKind.u64.wrap (((x % 128 : Nat) : Int) * 2 ^ (7 * k)) = ((x % 128 * 2 ^ (7 * k) : Nat) : Int) := by
    rw [show (((x % 128 : Nat) : Int) * 2 ^ (7 * k)) = ((x % 128 * 2 ^ (7 * k) : Nat) : Int) from by simp, IntKind.wrap_u64]
    omega
  rw [e1, e2, e3, u64_or_nat _ _ (by omega) (by omega), Nat.or_comm, nat_join (7 * k) _ _ (Nat.mul_mod_left _ _) ha]
  refine ⟨by rw [Nat.add_comm], by unfold W64; omega, ?_⟩
  rw [show 7 * (k + 1) = 7 * k + 7 from by omega, Nat.pow_add]
  omega
set_option maxRecDepth 100000 in
set_option maxHeartbeats 800000 in
theorem rvarint_walk {w0 w : World} {M : Nat → Prop} {H : List Chunk} (g : Nat) (A : Option Addr) (c : Nat) (l : List UInt8) (hl : l.length ≤ 1000000) (hr : RdH w0 M H (.slice A l.length c) 1 l.length (bvs l))
    (hS : St w0 M w (RdrC g A l.length c 0 H)) :
    Calls Try.prog 30 #[.pointer (some ⟨g, 0, none⟩)] w (RvPost w0 M H g A c l (rv l)) := by
  have hS0 := hide hS
  unfold RdrC at hS
  have hc0 : w.cell? ⟨g, 0, none⟩ = some (.slice A l.length c) := hS.cell 0 rfl 0
  have hc1 : w.cell? ⟨g, 1, none⟩ = some (.int .i64 0) := hS.cell 0 rfl 1
  have hf0 := hS.free 0 rfl 0
  have hf1 := hS.free 0 rfl 1
  have hrd := hr w hS.tail
  go_enter Try.func30, Try.ntmps30
  go_wp2_with fail
  go_loop [3, 6] (fun n i => ∃ k acc : Nat, i = .int .i64 k ∧ n = .int .u64 acc ∧ k ≤ 9 ∧ k ≤ l.length ∧ acc < 2 ^ (7 * k) ∧ rvF (l.drop k) k acc = rv l) (fun _ i => 10 - (intOf i).toNat)
  case atStart => exact ⟨0, 0, rfl, rfl, by omega, by omega, by simp, by rw [rv_eq]; rfl⟩
  case round =>
    obtain ⟨k, acc, rfl, rfl, hk, hkl, hacc, hrv⟩ := hrel
    have HA := hide hacc
    have HV := hide hrv
    clear hacc hrv
    by_cases hlt : k < l.length
    · rcases hrd.cases with ⟨_, h0, _⟩ | ⟨b, o, sp, c', hA, hb, _, _, _, hsp, hcl⟩
      · omega
      injection hA with hA _ hc'
      subst hA hc'
      obtain rfl : sp = none := hsp (by omega)
      have hcx : w.cell? ⟨b, o + k, none⟩ = some (.int .u8 (l[k].toNat : Int)) := hcl k _ (by simp [bvs, bv, List.getElem?_eq_getElem hlt])
      have hxl : l[k].toNat < 256 := UInt8.toNat_lt _
      obtain ⟨x, hx⟩ : ∃ x, x = l[k].toNat := ⟨_, rfl⟩
      rw [← hx] at hcx hxl
      have HX := hide hx
      clear hx hcl hsp
      have hge : decide (l.length ≤ k) = false := by simp; omega
      go_upto_region 11 with fail
      go_cut [46] (fun s wx => s = .bool (badB k x) ∧ wx = w)
      case first =>
        have e9 : ((k : Int) == 9) = decide (k = 9) := by rw [Bool.eq_iff_iff]; simp; omega
        have e1 : decide (1 < (x : Int)) = decide (1 < x) := by rw [Bool.eq_iff_iff]; simp; omega
        have e0 : decide (0 < (k : Int)) = decide (0 < k) := by rw [Bool.eq_iff_iff]; simp
        have ez : ((x : Int) == 0) = decide (x = 0) := by rw [Bool.eq_iff_iff]; simp
        have ez' : (x == 0) = decide (x = 0) := by rw [Bool.eq_iff_iff]; simp
        have ew : badB k x = ((decide (k = 9) && decide (1 < x)) || (decide (0 < k) && decide (x = 0))) := by unfold badB; rfl
        cases h9 : decide (k = 9) <;> cases h1 : decide (1 < x) <;> cases h0 : decide (0 < k) <;> cases hx0 : decide (x = 0)
        all_goals (rw [h9] at e9; rw [h1] at e1; rw [h0] at e0; rw [hx0] at ez ez'; rw [h9, h1, h0, hx0] at ew; have EW := hide ew; clear ew h9)
        all_goals go_wp2_with fail
        all_goals (go_meet; refine ⟨?_, rfl⟩; rw [EW.out]; rfl)
      case rest =>
        obtain ⟨rfl, rfl⟩ := hcut
        have hct := fun W => run_cut Try.underlying27 cellU8 infoU8 .i64 (some ⟨b, o, none⟩) l.length c (k + 1) (by omega) (P := Try.prog) W
        rw [show (((k + 1 : Nat)) : Int) = (k : Int) + 1 from by omega] at hct
        cases hbad : badB k x
        · obtain ⟨o1, o2, o3⟩ := or_step k acc x hk hxl (bad_nine k x hk hbad) HA.out
          have O2 := hide o2
          have O3 := hide o3
          clear o2 o3
          by_cases h128 : x < 128
          · have HR := hide (rv_ok l k acc x hlt HX.out hbad h128 HV.out)
            have hv : (acc : Int) + (x : Int) % 128 * 2 ^ (7 * k) = ((acc + x * 2 ^ (7 * k) : Nat) : Int) := by
              have : (x : Int) % 128 = x := by omega
              rw [this]
              simp
            have O := O2.out
            rw [show x % 128 = x from by omega] at O
            have HV' := hide hv
            have HO := hide O
            clear hv O
            go_wp2_with fail
            go_ret
            rw [HR.out]
            refine ⟨congrArg (fun z => Ending.returned (Value.int .u64 z)) HV'.out, HO.out, cutA (some ⟨b, o, none⟩) c (k + 1), c - (k + 1), ?_, ?_⟩
            · rw [List.length_drop]
              exact hS.setCell 0 rfl 0 (.slice (cutA (some ⟨b, o, none⟩) c (k + 1)) (l.length - (k + 1)) (c - (k + 1)))
            · exact cutR _ _ l (k + 1) (by omega)
          · have HR := hide (rv_on l k acc x hlt HX.out hbad h128 HV.out)
            have h9 := bad_nine k x hk hbad
            have hv : (acc : Int) + (x : Int) % 128 * 2 ^ (7 * k) = ((acc + (x - 128) * 2 ^ (7 * k) : Nat) : Int) := by
              have : (x : Int) % 128 = ((x - 128 : Nat) : Int) := by omega
              rw [this]
              simp
            have O := O3.out
            rw [show x % 128 = x - 128 from by omega] at O
            have HV' := hide hv
            have HO := hide O
            have H9 := hide h9
            clear hv O h9
            go_wp2_with fail
            go_round
            case rel => exact ⟨k + 1, acc + (x - 128) * 2 ^ (7 * k), by go_num, congrArg (Value.int .u64) HV'.out, by have := H9.out; omega, by omega, HO.out, HR.out⟩
            case measure => simp [intOf]; omega
        · have HR := hide (rv_bad l k acc x hlt HX.out hbad HV.out)
          go_wp2_with fail
          go_ret
          rw [HR.out]
          exact ⟨rfl, hS.setCell 0 rfl 1 (.int .i64 3)⟩
    · have hge : decide (l.length ≤ k) = true := by simp; omega
      have HR := hide (rv_end l k acc hlt HV.out)
      go_wp2_with fail
      go_ret
      rw [HR.out]
      exact ⟨rfl, hS.setCell 0 rfl 1 (.int .i64 2)⟩
end Go.Proofs.Ytcfonifaijeecaa
