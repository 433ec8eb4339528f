/-
 Joined of texts of mine, in build order: Oh, Lift, Opg, Oq, Lm. Each says what it proves at its own head.
-/
import Derived.ProofKit
import Derived.OpenShut
import Derived.SizedLaws
import Derived.Carry
import Derived.Deep.Fields
import Derived.Deep.Slices
import Derived.ShutString
import Derived.Test.YtnohmgpmmhlloaaGreatDoorRows
import Derived.LaidMore
import Derived.Stop.Joined
import Derived.Test.YtnohmgpmmhlloaaGreatDoorPj
set_option linter.unusedSimpArgs false
set_option linter.unusedVariables false
set_option maxRecDepth 100000
set_option maxHeartbeats 25600000

namespace Go.Proofs.YtnohmgpmmhlloaaGreatDoor
open Go.RowKit
set_option linter.unusedSimpArgs false
theorem row_rd {w0 w : World} {M : Nat → Prop} {H : List Chunk} {v : Value} {e : TypeId} {size n : Nat} {xs : List Value} (h : St w0 M w H) (hm : Chunk.row v e size n xs ∈ H) : Rd w v size n xs := by
 obtain ⟨i, hi⟩ := List.getElem?_of_mem hm
 exact h.rd i hi
def VoS (w : World) (kk vv : Nat) (k v : List UInt8) (e : Ending) (w' : World) : Prop := ∃ B d D f, e = .returned (.tuple #[.slice B kk d, .slice D vv f]) ∧ St w NoB w' [.row (.slice B kk d) 5 1 kk (bvs k), .row (.slice D vv f) 5 1 vv (bvs v)]
theorem voS_of {w : World} {k v : List UInt8} {kk vv : Nat} {e : Ending} {w' : World} (h : VoR w k v e w') (hk : k.length = kk) (hv : v.length = vv) : VoS w kk vv k v e w' := by
 subst hk hv
 exact h
theorem vou_len (y p b : List UInt8) : ((vouK y p b).length = 32 ∧ (vouV y p b).length = 64) ∨ ((vouK y p b).length = 0 ∧ (vouV y p b).length = 0) := by
 unfold vouK vouV
 split
 ·exact .inr ⟨rfl, rfl⟩
 ·split
  ·exact .inr ⟨rfl, rfl⟩
  ·split
   ·exact .inr ⟨rfl, rfl⟩
   ·exact .inl ⟨pubL_len _, sigL_len _ _⟩
theorem av_32 {p : Tp} {nx b k v : List UInt8} (hk : k.length = 32) (hv : v.length = 64) : avRz p nx b k v = addRz p nx ⟨b, [], [], k, v⟩ := by
 unfold avRz
 rw [if_neg (by omega), if_neg (by omega)]
theorem av_0 {p : Tp} {nx b k v : List UInt8} (hk : k.length = 0) : avRz p nx b k v = ⟨1, tp0⟩ := by
 unfold avRz
 rw [if_pos (by omega)]
theorem add_bad {p : Tp} {nx : List UInt8} {x : Sp} (h : nx.length ≠ 32 ∨ (x.b.length ≤ 65536 ∧ p.l.length = 0)) : addRz p nx x = ⟨1, tp0⟩ := by
 unfold addRz
 rcases h with h | ⟨h, h2⟩
 ·exact if_pos h
 ·by_cases hn : nx.length ≠ 32
  ·exact if_pos hn
  ·exact (if_neg hn).trans ((if_neg (by omega)).trans (if_pos h2))
theorem grow2 {w0 w w' : World} {M : Nat → Prop} {a b : Chunk} {G G2 : List Chunk} (h : St w0 M w (a :: b :: G)) (h2 : St w NoB w' G2) : ∃ G', St w0 M w' (a :: b :: G') ∧ (∀ c ∈ G, c ∈ G') ∧ (∀ c ∈ G2, c ∈ G') :=
 ⟨G ++ G2, rot2 (h.join h2), fun _ hc => List.mem_append_left _ hc, fun _ hc => List.mem_append_right _ hc⟩
theorem nil_laid {w0 w : World} {M : Nat → Prop} {a b : Chunk} {G : List Chunk} (h : St w0 M w (a :: b :: G)) : ∃ G', St w0 M w (a :: b :: G') ∧ (∀ c ∈ G, c ∈ G') ∧ Laid G' tp0 none 0 0 none 0 0 none 0 0 none 0 0 := by
 obtain ⟨G', h1, h2, h3⟩ := grow2 h (((St.init w NoB).row (Below.refl _ _) (World.ownsRow_nil _ _ _ _)).row (Below.refl _ _) (World.ownsRow_nil _ _ _ _) : St w NoB w (pc0.ch :: .row (.slice none 0 0) 32 5 0 [] :: []))
 exact ⟨G', h1, h2, [], [], [], [], rfl, rfl, rfl, rfl, rfl, (tk0_in []).mono h3⟩
theorem z01 : (Rz.mk 1 tp0).p.r.length = 0 := rfl
theorem z02 : (Rz.mk 1 tp0).p.l.length = 0 := rfl
theorem z03 : (Rz.mk 1 tp0).p.e.length = 0 := rfl
theorem z04 : (Rz.mk 1 tp0).p.z.length = 0 := rfl
theorem vouch_inS {A1 A2 A3 : Option Addr} {m1 m2 n c1 c2 c3 kk vv : Nat} {y p b K V : List UInt8} (w : World) (hy : y.length = m1) (hp : p.length = m2) (hb : b.length = n) (hn : n ≤ 2000) (hry : Rd w (.slice A1 m1 c1) 1 m1 (bvs y)) (hrp : Rd w (.slice A2 m2 c2) 1 m2 (bvs p)) (hrb : Rd w (.slice A3 n c3) 1 n (bvs b)) (hK : vouK y p b = K) (hV : vouV y p b = V) (hkl : K.length = kk) (hvl : V.length = vv) :
  Calls Tryz.prog 15 #[.slice A1 m1 c1, .slice A2 m2 c2, .slice A3 n c3] w (VoS w kk vv K V) := by
 subst hK hV
 exact (vouch_any A1 A2 A3 m1 m2 n c1 c2 c3 y p b w hy hp hb (by omega) hry hrp hrb).mono fun _ _ h => voS_of h hkl hvl
theorem vouchR_inS {A1 A2 A3 : Option Addr} {m1 m2 n c1 c2 c3 kk vv : Nat} {y p b K V : List UInt8} (w : World) (hy : y.length = m1) (hp : p.length = m2) (hb : b.length = n) (hn : n ≤ 2000) (hry : Rd w (.slice A1 m1 c1) 1 m1 (bvs y)) (hrp : Rd w (.slice A2 m2 c2) 1 m2 (bvs p)) (hrb : Rd w (.slice A3 n c3) 1 n (bvs b)) (hK : vouK y p b = K) (hV : vouV y p b = V) (hkl : K.length = kk) (hvl : V.length = vv) :
  Calls Tryz.prog 16 #[.slice A1 m1 c1, .slice A2 m2 c2, .slice A3 n c3] w (VoS w kk vv K V) := by
 subst hK hV
 exact (vouch23_any A1 A2 A3 m1 m2 n c1 c2 c3 y p b w hy hp hb hn hry hrp hrb).mono fun _ _ h => voS_of h hkl hvl
theorem chainIssues_walk (A1 A2 A3 A4 : Option Addr) (n1 n2 n3 n4 c1 c2 c3 c4 : Nat) (l1 l2 l3 l4 : List UInt8) (vo se : Bool) (w : World) (hl1 : l1.length = n1) (hl2 : l2.length = n2) (hl3 : l3.length = n3) (hl4 : l4.length = n4) (hr1 : Rd w (.slice A1 n1 c1) 1 n1 (bvs l1)) (hr2 : Rd w (.slice A2 n2 c2) 1 n2 (bvs l2)) (hr3 : Rd w (.slice A3 n3 c3) 1 n3 (bvs l3)) (hr4 : Rd w (.slice A4 n4 c4) 1 n4 (bvs l4)) :
  Calls Tryz.prog 4 #[.slice A1 n1 c1, .slice A2 n2 c2, .slice A3 n3 c3, .slice A4 n4 c4, .bool vo, .bool se] w (fun e w' => e = .returned (.bool true) ∧ Below w.heap.size w w') := by
 have HS := hide (St.init w NoB)
 have HR1 := hide hr1
 have HL1 := hide hl1
 have HR2 := hide hr2
 have HL2 := hide hl2
 have HR3 := hide hr3
 have HL3 := hide hl3
 have HR4 := hide hr4
 have HL4 := hide hl4
 clear hr1 hr2 hr3 hr4 hl1 hl2 hl3 hl4
 by_cases h1 : 100 < n1
 ·have q1 : decide ((100 : Int) < (n1 : Int)) = true := by simp; omega
  clear h1
  go_enter Tryz.func4, Tryz.ntmps4
  go_wp2_with (go_at_call 8; (with_reducible refine (awake24_any _).mono ?_); rintro e wy ⟨rfl, hb⟩; have HS := hide (HS.out.call hb))
  go_ret
  exact ⟨rfl, HS.out.below⟩
 have q1 : decide ((100 : Int) < (n1 : Int)) = false := by simp; omega
 by_cases h2 : 100 < n2
 ·have q2 : decide ((100 : Int) < (n2 : Int)) = true := by simp; omega
  clear h2
  go_enter Tryz.func4, Tryz.ntmps4
  go_wp2_with (go_at_call 8; (with_reducible refine (awake24_any _).mono ?_); rintro e wy ⟨rfl, hb⟩; have HS := hide (HS.out.call hb))
  go_ret
  exact ⟨rfl, HS.out.below⟩
 have q2 : decide ((100 : Int) < (n2 : Int)) = false := by simp; omega
 by_cases h3 : 100 < n3
 ·have q3 : decide ((100 : Int) < (n3 : Int)) = true := by simp; omega
  clear h3
  go_enter Tryz.func4, Tryz.ntmps4
  go_wp2_with (go_at_call 8; (with_reducible refine (awake24_any _).mono ?_); rintro e wy ⟨rfl, hb⟩; have HS := hide (HS.out.call hb))
  go_ret
  exact ⟨rfl, HS.out.below⟩
 have q3 : decide ((100 : Int) < (n3 : Int)) = false := by simp; omega
 by_cases h4 : 200 < n4
 ·have q4 : decide ((200 : Int) < (n4 : Int)) = true := by simp; omega
  clear h4
  go_enter Tryz.func4, Tryz.ntmps4
  go_wp2_with (go_at_call 8; (with_reducible refine (awake24_any _).mono ?_); rintro e wy ⟨rfl, hb⟩; have HS := hide (HS.out.call hb))
  go_ret
  exact ⟨rfl, HS.out.below⟩
 have q4 : decide ((200 : Int) < (n4 : Int)) = false := by simp; omega
 have b4 : l4.length ≤ 200 := by rw [HL4.out]; omega
 obtain ⟨⟨rc, p0⟩, hz⟩ : ∃ r : Rz, issueRz l1 l2 l4 = r := ⟨_, rfl⟩
 have hfew := issueRz_few (y := l1) (nx := l2) b4
 rw [hz] at hfew
 obtain ⟨hf1, hf2⟩ := hfew
 have HF := hide (show p0.few from hf1)
 have HF2 := hide (show p0.l.length ≤ 1 from hf2)
 have HZ := hide hz
 obtain ⟨M1, hM1⟩ : ∃ m, p0.r.length = m := ⟨_, rfl⟩
 obtain ⟨N, hN⟩ : ∃ m, p0.l.length = m := ⟨_, rfl⟩
 obtain ⟨M2, hM2⟩ : ∃ m, p0.e.length = m := ⟨_, rfl⟩
 obtain ⟨M3, hM3⟩ : ∃ m, p0.z.length = m := ⟨_, rfl⟩
 have HM1 := hide hM1
 have HN := hide hN
 have HM2 := hide hM2
 have HM3 := hide hM3
 clear hz hf1 hf2 hM1 hN hM2 hM3 b4
 go_enter Tryz.func4, Tryz.ntmps4
 have M0 := True.intro
 go_upto_region 5 with (first
  | (clear M3; refine wl_storeC rfl rfl (HS.out.alloc _ _) 0 rfl (vs := [.slice V1 M1 e1, .slice Y N y, .slice V2 M2 e2, .slice V3 M3 e3]) szToken (Nat.le_refl _) rfl rfl one4 ?_; intro w9 hS7; have HS := hide hS7; clear hS7; have M4 := True.intro)
  | (clear M2; go_at_call 13; (with_reducible refine (issueR_inS _ HL1.out HL2.out HL4.out (by omega) (HR1.out.below HS.out.below) (HR2.out.below HS.out.below) (HR4.out.below HS.out.below) HZ.out HM1.out HN.out HM2.out HM3.out).mono ?_); rintro e w8 ⟨V1, e1, Y, y, V2, e2, V3, e3, G2, rfl, hL, hS2⟩; have HS := hide (rot1 (HS.out.join hS2)); have HLt := hide (HLt.out.mono (fun c hc => List.mem_append_left G2 hc)); have HLu := hide (hL.mono (G' := G1 ++ G2) (fun c hc => List.mem_append_right _ hc)); clear hL hS2; have M3 := True.intro)
  | (clear M1; refine wl_storeC rfl rfl (HS.out.alloc _ _) 0 rfl (vs := [.slice B1 M1 d1, .slice X N x, .slice B2 M2 d2, .slice B3 M3 d3]) szToken (Nat.le_refl _) rfl rfl one4 ?_; intro w7 hS7; have HS : Hid (St w NoB w7 (.cells w6.heap.size #[.slice B1 M1 d1, .slice X N x, .slice B2 M2 d2, .slice B3 M3 d3] 26 :: G1)) := hide hS7; clear hS7; have M2 := True.intro)
  | (clear M0; go_at_call 9; (with_reducible refine (issue_inS _ HL1.out HL2.out HL4.out (by omega) (HR1.out.below HS.out.below) (HR2.out.below HS.out.below) (HR4.out.below HS.out.below) HZ.out HM1.out HN.out HM2.out HM3.out).mono ?_); rintro e w6 ⟨B1, d1, X, x, B2, d2, B3, d3, G1, rfl, hL, hS2⟩; have HS := hide hS2; have HLt := hide hL; clear hL hS2; have M1 := True.intro))
 have HS : Hid (St w NoB w9 (.cells w8.heap.size #[.slice V1 M1 e1, .slice Y N y, .slice V2 M2 e2, .slice V3 M3 e3] 26 :: .cells w6.heap.size #[.slice B1 M1 d1, .slice X N x, .slice B2 M2 d2, .slice B3 M3 d3] 26 :: (G1 ++ G2))) := HS
 generalize w8.heap.size = ub at HS ⊢
 generalize w6.heap.size = tb at HS ⊢
 generalize G1 ++ G2 = G at HS HLt HLu
 clear HZ
 have t0 : _ = some (Value.slice B1 M1 d1) := HS.out.cell 1 rfl 0
 have t1 : _ = some (Value.slice X N x) := HS.out.cell 1 rfl 1
 have t2 : _ = some (Value.slice B2 M2 d2) := HS.out.cell 1 rfl 2
 have t3 : _ = some (Value.slice B3 M3 d3) := HS.out.cell 1 rfl 3
 have u0 : _ = some (Value.slice V1 M1 e1) := HS.out.cell 0 rfl 0
 have u1 : _ = some (Value.slice Y N y) := HS.out.cell 0 rfl 1
 have u2 : _ = some (Value.slice V2 M2 e2) := HS.out.cell 0 rfl 2
 have u3 : _ = some (Value.slice V3 M3 e3) := HS.out.cell 0 rfl 3
 go_upto_region 8 with (go_at_call 14; (with_reducible refine (sameR_in HS.out.tail.tail HLt.out HLu.out HF.out).mono ?_); rintro e wq ⟨rfl, hb⟩; have HS := hide (HS.out.call hb))
 clear t0 t1 t2 t3 u0 u1 u2 u3
 have hf4 : l4.length ≤ 200 := by rw [HL4.out]; omega
 cases vo with
 | false =>
  cases se with
  | true =>
   obtain ⟨⟨c2, p2⟩, hrz⟩ : ∃ r : Rz, sealRz p0 = r := ⟨_, rfl⟩
   have hfw : p2.few := by
    have h := sealRz_few HF.out
    rw [hrz] at h
    exact h
   have HF2P := hide hfw
   have HRZ := hide hrz
   obtain ⟨P1, hP1⟩ : ∃ m, p2.r.length = m := ⟨_, rfl⟩
   obtain ⟨Q, hQ⟩ : ∃ m, p2.l.length = m := ⟨_, rfl⟩
   obtain ⟨P2, hP2⟩ : ∃ m, p2.e.length = m := ⟨_, rfl⟩
   obtain ⟨P3, hP3⟩ : ∃ m, p2.z.length = m := ⟨_, rfl⟩
   have HP1 := hide hP1
   have HQ := hide hQ
   have HP2 := hide hP2
   have HP3 := hide hP3
   clear hrz hfw hP1 hQ hP2 hP3
   have t0 : _ = some (Value.slice B1 M1 d1) := HS.out.cell 1 rfl 0
   have t1 : _ = some (Value.slice X N x) := HS.out.cell 1 rfl 1
   have t2 : _ = some (Value.slice B2 M2 d2) := HS.out.cell 1 rfl 2
   have t3 : _ = some (Value.slice B3 M3 d3) := HS.out.cell 1 rfl 3
   have M0 := True.intro
   go_upto_region 23 with (first
    | (clear M3; refine wl_storeC rfl rfl HS.out 0 rfl (vs := [.slice W1 P1 h1, .slice S Q s, .slice W2 P2 h2, .slice W3 P3 h3]) szToken (Nat.le_refl _) rfl rfl one4 ?_; intro wu hS7; have HS : Hid (St w NoB wu (.cells ub #[.slice W1 P1 h1, .slice S Q s, .slice W2 P2 h2, .slice W3 P3 h3] 26 :: .cells tb #[.slice C1 P1 g1, .slice Z Q z, .slice C2 P2 g2, .slice C3 P3 g3] 26 :: Gu)) := hide hS7; clear hS7 u0 u1 u2 u3; have M4 := True.intro)
    | (clear M2; go_at_call 20; (with_reducible refine (sealR_in HS.out.tail.tail HLu.out HF.out HRZ.out HP1.out HQ.out HP2.out HP3.out).mono ?_); rintro e wd ⟨W1, h1, S, s, W2, h2, W3, h3, G4, rfl, hL, hS2⟩; obtain ⟨Gu, hSa, m1, m2⟩ := grow2 HS.out hS2; have HS := hide hSa; have HLu := hide (hL.mono (fun c hc => (List.mem_append.1 hc).elim (m2 c) (m1 c))); have HLt := hide (HLt.out.mono m1); clear hL hS2 hSa; have M3 := True.intro)
    | (clear M1; refine wl_storeC rfl rfl HS.out 1 rfl (vs := [.slice C1 P1 g1, .slice Z Q z, .slice C2 P2 g2, .slice C3 P3 g3]) szToken (Nat.le_refl _) rfl rfl one4 ?_; intro wt hS7; have HS : Hid (St w NoB wt (.cells ub #[.slice V1 M1 e1, .slice Y N y, .slice V2 M2 e2, .slice V3 M3 e3] 26 :: .cells tb #[.slice C1 P1 g1, .slice Z Q z, .slice C2 P2 g2, .slice C3 P3 g3] 26 :: Gt)) := hide hS7; clear hS7 t0 t1 t2 t3; have u0 : _ = some (Value.slice V1 M1 e1) := HS.out.cell 0 rfl 0; have u1 : _ = some (Value.slice Y N y) := HS.out.cell 0 rfl 1; have u2 : _ = some (Value.slice V2 M2 e2) := HS.out.cell 0 rfl 2; have u3 : _ = some (Value.slice V3 M3 e3) := HS.out.cell 0 rfl 3; have M2 := True.intro)
    | (clear M0; go_at_call 19; (with_reducible refine (seal_in HS.out.tail.tail HLt.out HF.out HRZ.out HP1.out HQ.out HP2.out HP3.out).mono ?_); rintro e wc ⟨C1, g1, Z, z, C2, g2, C3, g3, G3, rfl, hL, hS2⟩; obtain ⟨Gt, hSa, m1, m2⟩ := grow2 HS.out hS2; have HS := hide hSa; have HLt := hide (hL.mono m2); have HLu := hide (HLu.out.mono m1); clear hL hS2 hSa; have M1 := True.intro))
   have t0 : _ = some (Value.slice C1 P1 g1) := HS.out.cell 1 rfl 0
   have t1 : _ = some (Value.slice Z Q z) := HS.out.cell 1 rfl 1
   have t2 : _ = some (Value.slice C2 P2 g2) := HS.out.cell 1 rfl 2
   have t3 : _ = some (Value.slice C3 P3 g3) := HS.out.cell 1 rfl 3
   have u0 : _ = some (Value.slice W1 P1 h1) := HS.out.cell 0 rfl 0
   have u1 : _ = some (Value.slice S Q s) := HS.out.cell 0 rfl 1
   have u2 : _ = some (Value.slice W2 P2 h2) := HS.out.cell 0 rfl 2
   have u3 : _ = some (Value.slice W3 P3 h3) := HS.out.cell 0 rfl 3
   have M0 := True.intro
   go_wp2_with (first
    | (clear M1; go_at_call 22; (with_reducible refine (same_in HS.out.tail.tail HLt.out HLu.out HF2P.out).mono ?_); rintro e wq ⟨rfl, hb⟩; have HS := hide (HS.out.call hb); have t0 : _ = some (Value.slice C1 P1 g1) := HS.out.cell 1 rfl 0; have t1 : _ = some (Value.slice Z Q z) := HS.out.cell 1 rfl 1; have t2 : _ = some (Value.slice C2 P2 g2) := HS.out.cell 1 rfl 2; have t3 : _ = some (Value.slice C3 P3 g3) := HS.out.cell 1 rfl 3; have u0 : _ = some (Value.slice W1 P1 h1) := HS.out.cell 0 rfl 0; have u1 : _ = some (Value.slice S Q s) := HS.out.cell 0 rfl 1; have u2 : _ = some (Value.slice W2 P2 h2) := HS.out.cell 0 rfl 2; have u3 : _ = some (Value.slice W3 P3 h3) := HS.out.cell 0 rfl 3; have M2 := True.intro)
    | (clear M0; go_at_call 14; (with_reducible refine (sameR_in HS.out.tail.tail HLt.out HLu.out HF2P.out).mono ?_); rintro e wq ⟨rfl, hb⟩; have HS := hide (HS.out.call hb); have t0 : _ = some (Value.slice C1 P1 g1) := HS.out.cell 1 rfl 0; have t1 : _ = some (Value.slice Z Q z) := HS.out.cell 1 rfl 1; have t2 : _ = some (Value.slice C2 P2 g2) := HS.out.cell 1 rfl 2; have t3 : _ = some (Value.slice C3 P3 g3) := HS.out.cell 1 rfl 3; have u0 : _ = some (Value.slice W1 P1 h1) := HS.out.cell 0 rfl 0; have u1 : _ = some (Value.slice S Q s) := HS.out.cell 0 rfl 1; have u2 : _ = some (Value.slice W2 P2 h2) := HS.out.cell 0 rfl 2; have u3 : _ = some (Value.slice W3 P3 h3) := HS.out.cell 0 rfl 3; have M1 := True.intro)
    | (go_at_call 8; (with_reducible refine (awake24_any _).mono ?_); rintro e wy ⟨rfl, hb⟩; have HS := hide (HS.out.call hb)))
   go_ret
   exact ⟨rfl, HS.out.below⟩
  | false =>
   obtain ⟨⟨c2, p2⟩, hrz⟩ : ∃ r : Rz, addRz p0 l3 ⟨l4, [], [], [], []⟩ = r := ⟨_, rfl⟩
   have hfw : p2.few := by
    have h := addRz_few (nx := l3) (x := ⟨l4, [], [], [], []⟩) HF.out (by have := HF2.out; omega) ⟨by show l4.length ≤ _; omega, by show 0 ≤ _; decide, by show 0 ≤ _; decide⟩
    rw [hrz] at h
    exact h
   have HF2P := hide hfw
   have HRZ := hide hrz
   obtain ⟨P1, hP1⟩ : ∃ m, p2.r.length = m := ⟨_, rfl⟩
   obtain ⟨Q, hQ⟩ : ∃ m, p2.l.length = m := ⟨_, rfl⟩
   obtain ⟨P2, hP2⟩ : ∃ m, p2.e.length = m := ⟨_, rfl⟩
   obtain ⟨P3, hP3⟩ : ∃ m, p2.z.length = m := ⟨_, rfl⟩
   have HP1 := hide hP1
   have HQ := hide hQ
   have HP2 := hide hP2
   have HP3 := hide hP3
   clear hrz hfw hP1 hQ hP2 hP3
   have t0 : _ = some (Value.slice B1 M1 d1) := HS.out.cell 1 rfl 0
   have t1 : _ = some (Value.slice X N x) := HS.out.cell 1 rfl 1
   have t2 : _ = some (Value.slice B2 M2 d2) := HS.out.cell 1 rfl 2
   have t3 : _ = some (Value.slice B3 M3 d3) := HS.out.cell 1 rfl 3
   have M0 := True.intro
   go_upto_region 23 with (first
    | (clear M3; refine wl_storeC rfl rfl HS.out 0 rfl (vs := [.slice W1 P1 h1, .slice S Q s, .slice W2 P2 h2, .slice W3 P3 h3]) szToken (Nat.le_refl _) rfl rfl one4 ?_; intro wu hS7; have HS : Hid (St w NoB wu (.cells ub #[.slice W1 P1 h1, .slice S Q s, .slice W2 P2 h2, .slice W3 P3 h3] 26 :: .cells tb #[.slice C1 P1 g1, .slice Z Q z, .slice C2 P2 g2, .slice C3 P3 g3] 26 :: Gu)) := hide hS7; clear hS7 u0 u1 u2 u3; have M4 := True.intro)
    | (clear M2; go_at_call 18; (with_reducible refine (appR_in HS.out.tail.tail HLu.out HL3.out HL4.out nil_len8 nil_len8 (by omega) (by omega) (by omega) (HR3.out.below HS.out.below) (HR4.out.below HS.out.below) (rd_nil _ 1) (rd_nil _ 1) HRZ.out HP1.out HQ.out HP2.out HP3.out).mono ?_); rintro e wd ⟨W1, h1, S, s, W2, h2, W3, h3, G4, rfl, hL, hS2⟩; obtain ⟨Gu, hSa, m1, m2⟩ := grow2 HS.out hS2; have HS := hide hSa; have HLu := hide (hL.mono (fun c hc => (List.mem_append.1 hc).elim (m2 c) (m1 c))); have HLt := hide (HLt.out.mono m1); clear hL hS2 hSa; have M3 := True.intro)
    | (clear M1; refine wl_storeC rfl rfl HS.out 1 rfl (vs := [.slice C1 P1 g1, .slice Z Q z, .slice C2 P2 g2, .slice C3 P3 g3]) szToken (Nat.le_refl _) rfl rfl one4 ?_; intro wt hS7; have HS : Hid (St w NoB wt (.cells ub #[.slice V1 M1 e1, .slice Y N y, .slice V2 M2 e2, .slice V3 M3 e3] 26 :: .cells tb #[.slice C1 P1 g1, .slice Z Q z, .slice C2 P2 g2, .slice C3 P3 g3] 26 :: Gt)) := hide hS7; clear hS7 t0 t1 t2 t3; have u0 : _ = some (Value.slice V1 M1 e1) := HS.out.cell 0 rfl 0; have u1 : _ = some (Value.slice Y N y) := HS.out.cell 0 rfl 1; have u2 : _ = some (Value.slice V2 M2 e2) := HS.out.cell 0 rfl 2; have u3 : _ = some (Value.slice V3 M3 e3) := HS.out.cell 0 rfl 3; have M2 := True.intro)
    | (clear M0; go_at_call 21; (with_reducible refine (append_in HS.out.tail.tail HLt.out HF.out.sm HL3.out HL4.out (HR3.out.below HS.out.below) (HR4.out.below HS.out.below) HRZ.out HP1.out HQ.out HP2.out HP3.out).mono ?_); rintro e wc ⟨C1, g1, Z, z, C2, g2, C3, g3, G3, rfl, hL, hS2⟩; obtain ⟨Gt, hSa, m1, m2⟩ := grow2 HS.out hS2; have HS := hide hSa; have HLt := hide (hL.mono m2); have HLu := hide (HLu.out.mono m1); clear hL hS2 hSa; have M1 := True.intro))
   have t0 : _ = some (Value.slice C1 P1 g1) := HS.out.cell 1 rfl 0
   have t1 : _ = some (Value.slice Z Q z) := HS.out.cell 1 rfl 1
   have t2 : _ = some (Value.slice C2 P2 g2) := HS.out.cell 1 rfl 2
   have t3 : _ = some (Value.slice C3 P3 g3) := HS.out.cell 1 rfl 3
   have u0 : _ = some (Value.slice W1 P1 h1) := HS.out.cell 0 rfl 0
   have u1 : _ = some (Value.slice S Q s) := HS.out.cell 0 rfl 1
   have u2 : _ = some (Value.slice W2 P2 h2) := HS.out.cell 0 rfl 2
   have u3 : _ = some (Value.slice W3 P3 h3) := HS.out.cell 0 rfl 3
   have M0 := True.intro
   go_wp2_with (first
    | (clear M1; go_at_call 22; (with_reducible refine (same_in HS.out.tail.tail HLt.out HLu.out HF2P.out).mono ?_); rintro e wq ⟨rfl, hb⟩; have HS := hide (HS.out.call hb); have t0 : _ = some (Value.slice C1 P1 g1) := HS.out.cell 1 rfl 0; have t1 : _ = some (Value.slice Z Q z) := HS.out.cell 1 rfl 1; have t2 : _ = some (Value.slice C2 P2 g2) := HS.out.cell 1 rfl 2; have t3 : _ = some (Value.slice C3 P3 g3) := HS.out.cell 1 rfl 3; have u0 : _ = some (Value.slice W1 P1 h1) := HS.out.cell 0 rfl 0; have u1 : _ = some (Value.slice S Q s) := HS.out.cell 0 rfl 1; have u2 : _ = some (Value.slice W2 P2 h2) := HS.out.cell 0 rfl 2; have u3 : _ = some (Value.slice W3 P3 h3) := HS.out.cell 0 rfl 3; have M2 := True.intro)
    | (clear M0; go_at_call 14; (with_reducible refine (sameR_in HS.out.tail.tail HLt.out HLu.out HF2P.out).mono ?_); rintro e wq ⟨rfl, hb⟩; have HS := hide (HS.out.call hb); have t0 : _ = some (Value.slice C1 P1 g1) := HS.out.cell 1 rfl 0; have t1 : _ = some (Value.slice Z Q z) := HS.out.cell 1 rfl 1; have t2 : _ = some (Value.slice C2 P2 g2) := HS.out.cell 1 rfl 2; have t3 : _ = some (Value.slice C3 P3 g3) := HS.out.cell 1 rfl 3; have u0 : _ = some (Value.slice W1 P1 h1) := HS.out.cell 0 rfl 0; have u1 : _ = some (Value.slice S Q s) := HS.out.cell 0 rfl 1; have u2 : _ = some (Value.slice W2 P2 h2) := HS.out.cell 0 rfl 2; have u3 : _ = some (Value.slice W3 P3 h3) := HS.out.cell 0 rfl 3; have M1 := True.intro)
    | (go_at_call 8; (with_reducible refine (awake24_any _).mono ?_); rintro e wy ⟨rfl, hb⟩; have HS := hide (HS.out.call hb)))
   go_ret
   exact ⟨rfl, HS.out.below⟩
 | true =>
  obtain ⟨K, hK⟩ : ∃ K, vouK l3 l2 l4 = K := ⟨_, rfl⟩
  obtain ⟨V, hV⟩ : ∃ V, vouV l3 l2 l4 = V := ⟨_, rfl⟩
  have hlen := vou_len l3 l2 l4
  rw [hK, hV] at hlen
  have HK := hide hK
  have HV := hide hV
  clear hK hV
  rcases hlen with ⟨hkl, hvl⟩ | ⟨hkl, hvl⟩
  ·have HKL := hide hkl
   have HVL := hide hvl
   obtain ⟨⟨c2, p2⟩, hrz⟩ : ∃ r : Rz, avRz p0 l3 l4 K V = r := ⟨_, rfl⟩
   have hfw : p2.few := by
    have h := addRz_few (nx := l3) (x := ⟨l4, [], [], K, V⟩) HF.out (by have := HF2.out; omega) ⟨by show l4.length ≤ _; omega, by show K.length ≤ _; omega, by show V.length ≤ _; omega⟩
    rw [← av_32 hkl hvl, hrz] at h
    exact h
   have HF2P := hide hfw
   have HRZ := hide hrz
   obtain ⟨P1, hP1⟩ : ∃ m, p2.r.length = m := ⟨_, rfl⟩
   obtain ⟨Q, hQ⟩ : ∃ m, p2.l.length = m := ⟨_, rfl⟩
   obtain ⟨P2, hP2⟩ : ∃ m, p2.e.length = m := ⟨_, rfl⟩
   obtain ⟨P3, hP3⟩ : ∃ m, p2.z.length = m := ⟨_, rfl⟩
   have HP1 := hide hP1
   have HQ := hide hQ
   have HP2 := hide hP2
   have HP3 := hide hP3
   clear hrz hfw hP1 hQ hP2 hP3
   have HRZ2 := hide ((av_32 hkl hvl).symm.trans HRZ.out)
   clear hkl hvl
   have M0 := True.intro
   go_upto_region 23 with (first
    | (clear M5; refine wl_storeC rfl rfl HS.out 0 rfl (vs := [.slice W1 P1 h1, .slice S Q s, .slice W2 P2 h2, .slice W3 P3 h3]) szToken (Nat.le_refl _) rfl rfl one4 ?_; intro wu hS7; have HS : Hid (St w NoB wu (.cells ub #[.slice W1 P1 h1, .slice S Q s, .slice W2 P2 h2, .slice W3 P3 h3] 26 :: .cells tb #[.slice C1 P1 g1, .slice Z Q z, .slice C2 P2 g2, .slice C3 P3 g3] 26 :: Gu)) := hide hS7; clear hS7 u0 u1 u2 u3; have M6 := True.intro)
    | (clear M4; go_at_call 18; (with_reducible refine (appR_in HS.out.tail.tail HLu.out HL3.out HL4.out HKL.out HVL.out (by omega) (by omega) (by omega) (HR3.out.below HS.out.below) (HR4.out.below HS.out.below) HRK.out HRV.out HRZ2.out HP1.out HQ.out HP2.out HP3.out).mono ?_); rintro e wd ⟨W1, h1, S, s, W2, h2, W3, h3, G4, rfl, hL, hS2⟩; obtain ⟨Gu, hSa, m1, m2⟩ := grow2 HS.out hS2; have HS := hide hSa; have HLu := hide (hL.mono (fun c hc => (List.mem_append.1 hc).elim (m2 c) (m1 c))); have HLt := hide (HLt.out.mono m1); clear hL hS2 hSa; have M5 := True.intro)
    | (clear M3; refine wl_storeC rfl rfl HS.out 1 rfl (vs := [.slice C1 P1 g1, .slice Z Q z, .slice C2 P2 g2, .slice C3 P3 g3]) szToken (Nat.le_refl _) rfl rfl one4 ?_; intro wt hS7; have HS : Hid (St w NoB wt (.cells ub #[.slice V1 M1 e1, .slice Y N y, .slice V2 M2 e2, .slice V3 M3 e3] 26 :: .cells tb #[.slice C1 P1 g1, .slice Z Q z, .slice C2 P2 g2, .slice C3 P3 g3] 26 :: Gt)) := hide hS7; clear hS7 t0 t1 t2 t3; have HRK := hide (row_rd HS.out.tail.tail HKm.out); have HRV := hide (row_rd HS.out.tail.tail HVm.out); have u0 : _ = some (Value.slice V1 M1 e1) := HS.out.cell 0 rfl 0; have u1 : _ = some (Value.slice Y N y) := HS.out.cell 0 rfl 1; have u2 : _ = some (Value.slice V2 M2 e2) := HS.out.cell 0 rfl 2; have u3 : _ = some (Value.slice V3 M3 e3) := HS.out.cell 0 rfl 3; have M4 := True.intro)
    | (clear M2; go_at_call 17; (with_reducible refine (av_in HS.out.tail.tail HLt.out HF.out HL3.out HL4.out HKL.out HVL.out (HR3.out.below HS.out.below) (HR4.out.below HS.out.below) HRK.out HRV.out HRZ.out HP1.out HQ.out HP2.out HP3.out).mono ?_); rintro e wc ⟨C1, g1, Z, z, C2, g2, C3, g3, G3, rfl, hL, hS2⟩; obtain ⟨Gt, hSa, m1, m2⟩ := grow2 HS.out hS2; have HS := hide hSa; have HLt := hide (hL.mono m2); have HLu := hide (HLu.out.mono m1); have HKm := hide (m1 _ HKm.out); have HVm := hide (m1 _ HVm.out); clear hL hS2 hSa; have M3 := True.intro)
    | (clear M1; go_at_call 16; (with_reducible refine (vouchR_inS _ HL3.out HL2.out HL4.out (by omega) (HR3.out.below HS.out.below) (HR2.out.below HS.out.below) (HR4.out.below HS.out.below) HK.out HV.out HKL.out HVL.out).mono ?_); rintro e wb ⟨Kc, kc, Vc, vc, rfl, hS2⟩; obtain ⟨Gb, hSa, m1, m2⟩ := grow2 HS.out hS2; have HS := hide hSa; have HLt := hide (HLt.out.mono m1); have HLu := hide (HLu.out.mono m1); have HKm := hide (m1 _ HKm.out); have HVm := hide (m1 _ HVm.out); have HRK := hide (row_rd HS.out.tail.tail HKm.out); have HRV := hide (row_rd HS.out.tail.tail HVm.out); have cv1 := run_str (P := Tryz.prog) Tryz.underlying22 Tryz.underlying5 Tryz.underlying9 HRK.out; have cv2 := run_str (P := Tryz.prog) Tryz.underlying22 Tryz.underlying5 Tryz.underlying9 HRV.out; have cv3 := run_str (P := Tryz.prog) Tryz.underlying22 Tryz.underlying5 Tryz.underlying9 (row_rd HS.out.tail.tail (m2 _ (List.mem_cons_self ..))); have cv4 := run_str (P := Tryz.prog) Tryz.underlying22 Tryz.underlying5 Tryz.underlying9 (row_rd HS.out.tail.tail (m2 _ (List.mem_cons_of_mem _ (List.mem_cons_self ..)))); have t0 : _ = some (Value.slice B1 M1 d1) := HS.out.cell 1 rfl 0; have t1 : _ = some (Value.slice X N x) := HS.out.cell 1 rfl 1; have t2 : _ = some (Value.slice B2 M2 d2) := HS.out.cell 1 rfl 2; have t3 : _ = some (Value.slice B3 M3 d3) := HS.out.cell 1 rfl 3; clear hS2 hSa; have M2 := True.intro)
    | (clear M0; go_at_call 15; (with_reducible refine (vouch_inS _ HL3.out HL2.out HL4.out (by omega) (HR3.out.below HS.out.below) (HR2.out.below HS.out.below) (HR4.out.below HS.out.below) HK.out HV.out HKL.out HVL.out).mono ?_); rintro e wa ⟨Kb, kd, Vb, vd, rfl, hS2⟩; obtain ⟨Ga, hSa, m1, m2⟩ := grow2 HS.out hS2; have HS := hide hSa; have HLt := hide (HLt.out.mono m1); have HLu := hide (HLu.out.mono m1); have HKm := hide (m2 _ (List.mem_cons_self ..)); have HVm := hide (m2 _ (List.mem_cons_of_mem _ (List.mem_cons_self ..))); clear hS2 hSa; have M1 := True.intro))
   have t0 : _ = some (Value.slice C1 P1 g1) := HS.out.cell 1 rfl 0
   have t1 : _ = some (Value.slice Z Q z) := HS.out.cell 1 rfl 1
   have t2 : _ = some (Value.slice C2 P2 g2) := HS.out.cell 1 rfl 2
   have t3 : _ = some (Value.slice C3 P3 g3) := HS.out.cell 1 rfl 3
   have u0 : _ = some (Value.slice W1 P1 h1) := HS.out.cell 0 rfl 0
   have u1 : _ = some (Value.slice S Q s) := HS.out.cell 0 rfl 1
   have u2 : _ = some (Value.slice W2 P2 h2) := HS.out.cell 0 rfl 2
   have u3 : _ = some (Value.slice W3 P3 h3) := HS.out.cell 0 rfl 3
   have M0 := True.intro
   go_wp2_with (first
    | (clear M1; go_at_call 22; (with_reducible refine (same_in HS.out.tail.tail HLt.out HLu.out HF2P.out).mono ?_); rintro e wq ⟨rfl, hb⟩; have HS := hide (HS.out.call hb); have t0 : _ = some (Value.slice C1 P1 g1) := HS.out.cell 1 rfl 0; have t1 : _ = some (Value.slice Z Q z) := HS.out.cell 1 rfl 1; have t2 : _ = some (Value.slice C2 P2 g2) := HS.out.cell 1 rfl 2; have t3 : _ = some (Value.slice C3 P3 g3) := HS.out.cell 1 rfl 3; have u0 : _ = some (Value.slice W1 P1 h1) := HS.out.cell 0 rfl 0; have u1 : _ = some (Value.slice S Q s) := HS.out.cell 0 rfl 1; have u2 : _ = some (Value.slice W2 P2 h2) := HS.out.cell 0 rfl 2; have u3 : _ = some (Value.slice W3 P3 h3) := HS.out.cell 0 rfl 3; have M2 := True.intro)
    | (clear M0; go_at_call 14; (with_reducible refine (sameR_in HS.out.tail.tail HLt.out HLu.out HF2P.out).mono ?_); rintro e wq ⟨rfl, hb⟩; have HS := hide (HS.out.call hb); have t0 : _ = some (Value.slice C1 P1 g1) := HS.out.cell 1 rfl 0; have t1 : _ = some (Value.slice Z Q z) := HS.out.cell 1 rfl 1; have t2 : _ = some (Value.slice C2 P2 g2) := HS.out.cell 1 rfl 2; have t3 : _ = some (Value.slice C3 P3 g3) := HS.out.cell 1 rfl 3; have u0 : _ = some (Value.slice W1 P1 h1) := HS.out.cell 0 rfl 0; have u1 : _ = some (Value.slice S Q s) := HS.out.cell 0 rfl 1; have u2 : _ = some (Value.slice W2 P2 h2) := HS.out.cell 0 rfl 2; have u3 : _ = some (Value.slice W3 P3 h3) := HS.out.cell 0 rfl 3; have M1 := True.intro)
    | (go_at_call 8; (with_reducible refine (awake24_any _).mono ?_); rintro e wy ⟨rfl, hb⟩; have HS := hide (HS.out.call hb)))
   go_ret
   exact ⟨rfl, HS.out.below⟩
  ·have HKL := hide hkl
   have HVL := hide hvl
   have HRZ := hide (av_0 (p := p0) (nx := l3) (b := l4) (v := V) hkl)
   have HF2P := hide few0
   clear hkl hvl
   have HAB := hide (fun h => add_bad (p := p0) (nx := l3) (x := ⟨l4, [], [], K, V⟩) h)
   by_cases h3 : n3 ≠ 32
   ·have HRZ2 := hide (HAB.out (.inl (by rw [HL3.out]; exact h3)))
    have qx : ((n3 : Int) != 32) = true := by simp; omega
    clear h3
    have M0 := True.intro
    go_upto_region 23 with (first
     | (clear M5; refine wl_storeC rfl rfl HS.out 0 rfl (vs := [.slice W1 0 h1, .slice S 0 s, .slice W2 0 h2, .slice W3 0 h3]) szToken (Nat.le_refl _) rfl rfl one4 ?_; intro wu hS7; have HS : Hid (St w NoB wu (.cells ub #[.slice W1 0 h1, .slice S 0 s, .slice W2 0 h2, .slice W3 0 h3] 26 :: .cells tb #[.slice C1 0 g1, .slice Z 0 z, .slice C2 0 g2, .slice C3 0 g3] 26 :: Gu)) := hide hS7; clear hS7 u0 u1 u2 u3; have M6 := True.intro)
     | (clear M4; go_at_call 18; (with_reducible refine (appR_in HS.out.tail.tail HLu.out HL3.out HL4.out HKL.out HVL.out (by omega) (by omega) (by omega) (HR3.out.below HS.out.below) (HR4.out.below HS.out.below) HRK.out HRV.out HRZ2.out z01 z02 z03 z04).mono ?_); rintro e wd ⟨W1, h1, S, s, W2, h2, W3, h3, G4, rfl, hL, hS2⟩; obtain ⟨Gu, hSa, m1, m2⟩ := grow2 HS.out hS2; have HS := hide hSa; have HLu := hide (hL.mono (fun c hc => (List.mem_append.1 hc).elim (m2 c) (m1 c))); have HLt := hide (HLt.out.mono m1); clear hL hS2 hSa; have M5 := True.intro)
     | (clear M3; refine wl_storeC rfl rfl HS.out 1 rfl (vs := [.slice C1 0 g1, .slice Z 0 z, .slice C2 0 g2, .slice C3 0 g3]) szToken (Nat.le_refl _) rfl rfl one4 ?_; intro wt hS7; have HS : Hid (St w NoB wt (.cells ub #[.slice V1 M1 e1, .slice Y N y, .slice V2 M2 e2, .slice V3 M3 e3] 26 :: .cells tb #[.slice C1 0 g1, .slice Z 0 z, .slice C2 0 g2, .slice C3 0 g3] 26 :: Gt)) := hide hS7; clear hS7 t0 t1 t2 t3; have HRK := hide (row_rd HS.out.tail.tail HKm.out); have HRV := hide (row_rd HS.out.tail.tail HVm.out); have u0 : _ = some (Value.slice V1 M1 e1) := HS.out.cell 0 rfl 0; have u1 : _ = some (Value.slice Y N y) := HS.out.cell 0 rfl 1; have u2 : _ = some (Value.slice V2 M2 e2) := HS.out.cell 0 rfl 2; have u3 : _ = some (Value.slice V3 M3 e3) := HS.out.cell 0 rfl 3; have M4 := True.intro)
     | (clear M2; go_at_call 17; (with_reducible refine (av_in HS.out.tail.tail HLt.out HF.out HL3.out HL4.out HKL.out HVL.out (HR3.out.below HS.out.below) (HR4.out.below HS.out.below) HRK.out HRV.out HRZ.out z01 z02 z03 z04).mono ?_); rintro e wc ⟨C1, g1, Z, z, C2, g2, C3, g3, G3, rfl, hL, hS2⟩; obtain ⟨Gt, hSa, m1, m2⟩ := grow2 HS.out hS2; have HS := hide hSa; have HLt := hide (hL.mono m2); have HLu := hide (HLu.out.mono m1); have HKm := hide (m1 _ HKm.out); have HVm := hide (m1 _ HVm.out); clear hL hS2 hSa; have M3 := True.intro)
     | (clear M1; go_at_call 16; (with_reducible refine (vouchR_inS _ HL3.out HL2.out HL4.out (by omega) (HR3.out.below HS.out.below) (HR2.out.below HS.out.below) (HR4.out.below HS.out.below) HK.out HV.out HKL.out HVL.out).mono ?_); rintro e wb ⟨Kc, kc, Vc, vc, rfl, hS2⟩; obtain ⟨Gb, hSa, m1, m2⟩ := grow2 HS.out hS2; have HS := hide hSa; have HLt := hide (HLt.out.mono m1); have HLu := hide (HLu.out.mono m1); have HKm := hide (m1 _ HKm.out); have HVm := hide (m1 _ HVm.out); have HRK := hide (row_rd HS.out.tail.tail HKm.out); have HRV := hide (row_rd HS.out.tail.tail HVm.out); have cv1 := run_str (P := Tryz.prog) Tryz.underlying22 Tryz.underlying5 Tryz.underlying9 HRK.out; have cv2 := run_str (P := Tryz.prog) Tryz.underlying22 Tryz.underlying5 Tryz.underlying9 HRV.out; have cv3 := run_str (P := Tryz.prog) Tryz.underlying22 Tryz.underlying5 Tryz.underlying9 (row_rd HS.out.tail.tail (m2 _ (List.mem_cons_self ..))); have cv4 := run_str (P := Tryz.prog) Tryz.underlying22 Tryz.underlying5 Tryz.underlying9 (row_rd HS.out.tail.tail (m2 _ (List.mem_cons_of_mem _ (List.mem_cons_self ..)))); have t0 : _ = some (Value.slice B1 M1 d1) := HS.out.cell 1 rfl 0; have t1 : _ = some (Value.slice X N x) := HS.out.cell 1 rfl 1; have t2 : _ = some (Value.slice B2 M2 d2) := HS.out.cell 1 rfl 2; have t3 : _ = some (Value.slice B3 M3 d3) := HS.out.cell 1 rfl 3; clear hS2 hSa; have M2 := True.intro)
     | (clear M0; go_at_call 15; (with_reducible refine (vouch_inS _ HL3.out HL2.out HL4.out (by omega) (HR3.out.below HS.out.below) (HR2.out.below HS.out.below) (HR4.out.below HS.out.below) HK.out HV.out HKL.out HVL.out).mono ?_); rintro e wa ⟨Kb, kd, Vb, vd, rfl, hS2⟩; obtain ⟨Ga, hSa, m1, m2⟩ := grow2 HS.out hS2; have HS := hide hSa; have HLt := hide (HLt.out.mono m1); have HLu := hide (HLu.out.mono m1); have HKm := hide (m2 _ (List.mem_cons_self ..)); have HVm := hide (m2 _ (List.mem_cons_of_mem _ (List.mem_cons_self ..))); clear hS2 hSa; have M1 := True.intro))
    have t0 : _ = some (Value.slice C1 0 g1) := HS.out.cell 1 rfl 0
    have t1 : _ = some (Value.slice Z 0 z) := HS.out.cell 1 rfl 1
    have t2 : _ = some (Value.slice C2 0 g2) := HS.out.cell 1 rfl 2
    have t3 : _ = some (Value.slice C3 0 g3) := HS.out.cell 1 rfl 3
    have u0 : _ = some (Value.slice W1 0 h1) := HS.out.cell 0 rfl 0
    have u1 : _ = some (Value.slice S 0 s) := HS.out.cell 0 rfl 1
    have u2 : _ = some (Value.slice W2 0 h2) := HS.out.cell 0 rfl 2
    have u3 : _ = some (Value.slice W3 0 h3) := HS.out.cell 0 rfl 3
    have M0 := True.intro
    go_wp2_with (first
     | (clear M1; go_at_call 22; (with_reducible refine (same_in HS.out.tail.tail HLt.out HLu.out HF2P.out).mono ?_); rintro e wq ⟨rfl, hb⟩; have HS := hide (HS.out.call hb); have t0 : _ = some (Value.slice C1 0 g1) := HS.out.cell 1 rfl 0; have t1 : _ = some (Value.slice Z 0 z) := HS.out.cell 1 rfl 1; have t2 : _ = some (Value.slice C2 0 g2) := HS.out.cell 1 rfl 2; have t3 : _ = some (Value.slice C3 0 g3) := HS.out.cell 1 rfl 3; have u0 : _ = some (Value.slice W1 0 h1) := HS.out.cell 0 rfl 0; have u1 : _ = some (Value.slice S 0 s) := HS.out.cell 0 rfl 1; have u2 : _ = some (Value.slice W2 0 h2) := HS.out.cell 0 rfl 2; have u3 : _ = some (Value.slice W3 0 h3) := HS.out.cell 0 rfl 3; have M2 := True.intro)
     | (clear M0; go_at_call 14; (with_reducible refine (sameR_in HS.out.tail.tail HLt.out HLu.out HF2P.out).mono ?_); rintro e wq ⟨rfl, hb⟩; have HS := hide (HS.out.call hb); have t0 : _ = some (Value.slice C1 0 g1) := HS.out.cell 1 rfl 0; have t1 : _ = some (Value.slice Z 0 z) := HS.out.cell 1 rfl 1; have t2 : _ = some (Value.slice C2 0 g2) := HS.out.cell 1 rfl 2; have t3 : _ = some (Value.slice C3 0 g3) := HS.out.cell 1 rfl 3; have u0 : _ = some (Value.slice W1 0 h1) := HS.out.cell 0 rfl 0; have u1 : _ = some (Value.slice S 0 s) := HS.out.cell 0 rfl 1; have u2 : _ = some (Value.slice W2 0 h2) := HS.out.cell 0 rfl 2; have u3 : _ = some (Value.slice W3 0 h3) := HS.out.cell 0 rfl 3; have M1 := True.intro)
     | (go_at_call 8; (with_reducible refine (awake24_any _).mono ?_); rintro e wy ⟨rfl, hb⟩; have HS := hide (HS.out.call hb)))
    go_ret
    exact ⟨rfl, HS.out.below⟩
   obtain rfl : n3 = 32 := by omega
   clear h3
   by_cases h4 : N = 0
   ·subst h4
    have HRZ2 := hide (HAB.out (.inr ⟨by show l4.length ≤ 65536; omega, HN.out⟩))
    have M0 := True.intro
    go_upto_region 23 with (first
     | (clear M5; refine wl_storeC rfl rfl HS.out 0 rfl (vs := [.slice W1 0 h1, .slice S 0 s, .slice W2 0 h2, .slice W3 0 h3]) szToken (Nat.le_refl _) rfl rfl one4 ?_; intro wu hS7; have HS : Hid (St w NoB wu (.cells ub #[.slice W1 0 h1, .slice S 0 s, .slice W2 0 h2, .slice W3 0 h3] 26 :: .cells tb #[.slice C1 0 g1, .slice Z 0 z, .slice C2 0 g2, .slice C3 0 g3] 26 :: Gu)) := hide hS7; clear hS7 u0 u1 u2 u3; have M6 := True.intro)
     | (clear M4; go_at_call 18; (with_reducible refine (appR_in HS.out.tail.tail HLu.out HL3.out HL4.out HKL.out HVL.out (by omega) (by omega) (by omega) (HR3.out.below HS.out.below) (HR4.out.below HS.out.below) HRK.out HRV.out HRZ2.out z01 z02 z03 z04).mono ?_); rintro e wd ⟨W1, h1, S, s, W2, h2, W3, h3, G4, rfl, hL, hS2⟩; obtain ⟨Gu, hSa, m1, m2⟩ := grow2 HS.out hS2; have HS := hide hSa; have HLu := hide (hL.mono (fun c hc => (List.mem_append.1 hc).elim (m2 c) (m1 c))); have HLt := hide (HLt.out.mono m1); clear hL hS2 hSa; have M5 := True.intro)
     | (clear M3; refine wl_storeC rfl rfl HS.out 1 rfl (vs := [.slice C1 0 g1, .slice Z 0 z, .slice C2 0 g2, .slice C3 0 g3]) szToken (Nat.le_refl _) rfl rfl one4 ?_; intro wt hS7; have HS : Hid (St w NoB wt (.cells ub #[.slice V1 M1 e1, .slice Y 0 y, .slice V2 M2 e2, .slice V3 M3 e3] 26 :: .cells tb #[.slice C1 0 g1, .slice Z 0 z, .slice C2 0 g2, .slice C3 0 g3] 26 :: Gt)) := hide hS7; clear hS7 t0 t1 t2 t3; have HRK := hide (row_rd HS.out.tail.tail HKm.out); have HRV := hide (row_rd HS.out.tail.tail HVm.out); have u0 : _ = some (Value.slice V1 M1 e1) := HS.out.cell 0 rfl 0; have u1 : _ = some (Value.slice Y 0 y) := HS.out.cell 0 rfl 1; have u2 : _ = some (Value.slice V2 M2 e2) := HS.out.cell 0 rfl 2; have u3 : _ = some (Value.slice V3 M3 e3) := HS.out.cell 0 rfl 3; have M4 := True.intro)
     | (clear M2; go_at_call 17; (with_reducible refine (av_in HS.out.tail.tail HLt.out HF.out HL3.out HL4.out HKL.out HVL.out (HR3.out.below HS.out.below) (HR4.out.below HS.out.below) HRK.out HRV.out HRZ.out z01 z02 z03 z04).mono ?_); rintro e wc ⟨C1, g1, Z, z, C2, g2, C3, g3, G3, rfl, hL, hS2⟩; obtain ⟨Gt, hSa, m1, m2⟩ := grow2 HS.out hS2; have HS := hide hSa; have HLt := hide (hL.mono m2); have HLu := hide (HLu.out.mono m1); have HKm := hide (m1 _ HKm.out); have HVm := hide (m1 _ HVm.out); clear hL hS2 hSa; have M3 := True.intro)
     | (clear M1; go_at_call 16; (with_reducible refine (vouchR_inS _ HL3.out HL2.out HL4.out (by omega) (HR3.out.below HS.out.below) (HR2.out.below HS.out.below) (HR4.out.below HS.out.below) HK.out HV.out HKL.out HVL.out).mono ?_); rintro e wb ⟨Kc, kc, Vc, vc, rfl, hS2⟩; obtain ⟨Gb, hSa, m1, m2⟩ := grow2 HS.out hS2; have HS := hide hSa; have HLt := hide (HLt.out.mono m1); have HLu := hide (HLu.out.mono m1); have HKm := hide (m1 _ HKm.out); have HVm := hide (m1 _ HVm.out); have HRK := hide (row_rd HS.out.tail.tail HKm.out); have HRV := hide (row_rd HS.out.tail.tail HVm.out); have cv1 := run_str (P := Tryz.prog) Tryz.underlying22 Tryz.underlying5 Tryz.underlying9 HRK.out; have cv2 := run_str (P := Tryz.prog) Tryz.underlying22 Tryz.underlying5 Tryz.underlying9 HRV.out; have cv3 := run_str (P := Tryz.prog) Tryz.underlying22 Tryz.underlying5 Tryz.underlying9 (row_rd HS.out.tail.tail (m2 _ (List.mem_cons_self ..))); have cv4 := run_str (P := Tryz.prog) Tryz.underlying22 Tryz.underlying5 Tryz.underlying9 (row_rd HS.out.tail.tail (m2 _ (List.mem_cons_of_mem _ (List.mem_cons_self ..)))); have t0 : _ = some (Value.slice B1 M1 d1) := HS.out.cell 1 rfl 0; have t1 : _ = some (Value.slice X 0 x) := HS.out.cell 1 rfl 1; have t2 : _ = some (Value.slice B2 M2 d2) := HS.out.cell 1 rfl 2; have t3 : _ = some (Value.slice B3 M3 d3) := HS.out.cell 1 rfl 3; clear hS2 hSa; have M2 := True.intro)
     | (clear M0; go_at_call 15; (with_reducible refine (vouch_inS _ HL3.out HL2.out HL4.out (by omega) (HR3.out.below HS.out.below) (HR2.out.below HS.out.below) (HR4.out.below HS.out.below) HK.out HV.out HKL.out HVL.out).mono ?_); rintro e wa ⟨Kb, kd, Vb, vd, rfl, hS2⟩; obtain ⟨Ga, hSa, m1, m2⟩ := grow2 HS.out hS2; have HS := hide hSa; have HLt := hide (HLt.out.mono m1); have HLu := hide (HLu.out.mono m1); have HKm := hide (m2 _ (List.mem_cons_self ..)); have HVm := hide (m2 _ (List.mem_cons_of_mem _ (List.mem_cons_self ..))); clear hS2 hSa; have M1 := True.intro))
    have t0 : _ = some (Value.slice C1 0 g1) := HS.out.cell 1 rfl 0
    have t1 : _ = some (Value.slice Z 0 z) := HS.out.cell 1 rfl 1
    have t2 : _ = some (Value.slice C2 0 g2) := HS.out.cell 1 rfl 2
    have t3 : _ = some (Value.slice C3 0 g3) := HS.out.cell 1 rfl 3
    have u0 : _ = some (Value.slice W1 0 h1) := HS.out.cell 0 rfl 0
    have u1 : _ = some (Value.slice S 0 s) := HS.out.cell 0 rfl 1
    have u2 : _ = some (Value.slice W2 0 h2) := HS.out.cell 0 rfl 2
    have u3 : _ = some (Value.slice W3 0 h3) := HS.out.cell 0 rfl 3
    have M0 := True.intro
    go_wp2_with (first
     | (clear M1; go_at_call 22; (with_reducible refine (same_in HS.out.tail.tail HLt.out HLu.out HF2P.out).mono ?_); rintro e wq ⟨rfl, hb⟩; have HS := hide (HS.out.call hb); have t0 : _ = some (Value.slice C1 0 g1) := HS.out.cell 1 rfl 0; have t1 : _ = some (Value.slice Z 0 z) := HS.out.cell 1 rfl 1; have t2 : _ = some (Value.slice C2 0 g2) := HS.out.cell 1 rfl 2; have t3 : _ = some (Value.slice C3 0 g3) := HS.out.cell 1 rfl 3; have u0 : _ = some (Value.slice W1 0 h1) := HS.out.cell 0 rfl 0; have u1 : _ = some (Value.slice S 0 s) := HS.out.cell 0 rfl 1; have u2 : _ = some (Value.slice W2 0 h2) := HS.out.cell 0 rfl 2; have u3 : _ = some (Value.slice W3 0 h3) := HS.out.cell 0 rfl 3; have M2 := True.intro)
     | (clear M0; go_at_call 14; (with_reducible refine (sameR_in HS.out.tail.tail HLt.out HLu.out HF2P.out).mono ?_); rintro e wq ⟨rfl, hb⟩; have HS := hide (HS.out.call hb); have t0 : _ = some (Value.slice C1 0 g1) := HS.out.cell 1 rfl 0; have t1 : _ = some (Value.slice Z 0 z) := HS.out.cell 1 rfl 1; have t2 : _ = some (Value.slice C2 0 g2) := HS.out.cell 1 rfl 2; have t3 : _ = some (Value.slice C3 0 g3) := HS.out.cell 1 rfl 3; have u0 : _ = some (Value.slice W1 0 h1) := HS.out.cell 0 rfl 0; have u1 : _ = some (Value.slice S 0 s) := HS.out.cell 0 rfl 1; have u2 : _ = some (Value.slice W2 0 h2) := HS.out.cell 0 rfl 2; have u3 : _ = some (Value.slice W3 0 h3) := HS.out.cell 0 rfl 3; have M1 := True.intro)
     | (go_at_call 8; (with_reducible refine (awake24_any _).mono ?_); rintro e wy ⟨rfl, hb⟩; have HS := hide (HS.out.call hb)))
    go_ret
    exact ⟨rfl, HS.out.below⟩
   have qn : ((N : Int) == 0) = false := by simp; omega
   have qn2 : decide ((N : Int) = 0) = false := by simp; omega
   clear h4
   have M0 := True.intro
   go_upto_region 23 with (first
    | (clear M4; obtain ⟨Gu, hSa, m1, hLn⟩ := nil_laid HS.out; have HS := hide hSa; have HLt := hide (HLt.out.mono m1); have HLu := hide hLn; refine wl_storeC rfl rfl HS.out 0 rfl (vs := [.slice none 0 0, .slice none 0 0, .slice none 0 0, .slice none 0 0]) szToken (Nat.le_refl _) rfl rfl one4 ?_; intro wu hS7; have HS : Hid (St w NoB wu (.cells ub #[.slice none 0 0, .slice none 0 0, .slice none 0 0, .slice none 0 0] 26 :: .cells tb #[.slice C1 0 g1, .slice Z 0 z, .slice C2 0 g2, .slice C3 0 g3] 26 :: Gu)) := hide hS7; clear hS7 u0 u1 u2 u3; have M5 := True.intro)
    | (clear M3; refine wl_storeC rfl rfl HS.out 1 rfl (vs := [.slice C1 0 g1, .slice Z 0 z, .slice C2 0 g2, .slice C3 0 g3]) szToken (Nat.le_refl _) rfl rfl one4 ?_; intro wt hS7; have HS : Hid (St w NoB wt (.cells ub #[.slice V1 M1 e1, .slice Y N y, .slice V2 M2 e2, .slice V3 M3 e3] 26 :: .cells tb #[.slice C1 0 g1, .slice Z 0 z, .slice C2 0 g2, .slice C3 0 g3] 26 :: Gt)) := hide hS7; clear hS7 t0 t1 t2 t3; have HRK := hide (row_rd HS.out.tail.tail HKm.out); have HRV := hide (row_rd HS.out.tail.tail HVm.out); have u0 : _ = some (Value.slice V1 M1 e1) := HS.out.cell 0 rfl 0; have u1 : _ = some (Value.slice Y N y) := HS.out.cell 0 rfl 1; have u2 : _ = some (Value.slice V2 M2 e2) := HS.out.cell 0 rfl 2; have u3 : _ = some (Value.slice V3 M3 e3) := HS.out.cell 0 rfl 3; have M4 := True.intro)
    | (clear M2; go_at_call 17; (with_reducible refine (av_in HS.out.tail.tail HLt.out HF.out HL3.out HL4.out HKL.out HVL.out (HR3.out.below HS.out.below) (HR4.out.below HS.out.below) HRK.out HRV.out HRZ.out z01 z02 z03 z04).mono ?_); rintro e wc ⟨C1, g1, Z, z, C2, g2, C3, g3, G3, rfl, hL, hS2⟩; obtain ⟨Gt, hSa, m1, m2⟩ := grow2 HS.out hS2; have HS := hide hSa; have HLt := hide (hL.mono m2); have HLu := hide (HLu.out.mono m1); have HKm := hide (m1 _ HKm.out); have HVm := hide (m1 _ HVm.out); clear hL hS2 hSa; have M3 := True.intro)
    | (clear M1; go_at_call 16; (with_reducible refine (vouchR_inS _ HL3.out HL2.out HL4.out (by omega) (HR3.out.below HS.out.below) (HR2.out.below HS.out.below) (HR4.out.below HS.out.below) HK.out HV.out HKL.out HVL.out).mono ?_); rintro e wb ⟨Kc, kc, Vc, vc, rfl, hS2⟩; obtain ⟨Gb, hSa, m1, m2⟩ := grow2 HS.out hS2; have HS := hide hSa; have HLt := hide (HLt.out.mono m1); have HLu := hide (HLu.out.mono m1); have HKm := hide (m1 _ HKm.out); have HVm := hide (m1 _ HVm.out); have HRK := hide (row_rd HS.out.tail.tail HKm.out); have HRV := hide (row_rd HS.out.tail.tail HVm.out); have cv1 := run_str (P := Tryz.prog) Tryz.underlying22 Tryz.underlying5 Tryz.underlying9 HRK.out; have cv2 := run_str (P := Tryz.prog) Tryz.underlying22 Tryz.underlying5 Tryz.underlying9 HRV.out; have cv3 := run_str (P := Tryz.prog) Tryz.underlying22 Tryz.underlying5 Tryz.underlying9 (row_rd HS.out.tail.tail (m2 _ (List.mem_cons_self ..))); have cv4 := run_str (P := Tryz.prog) Tryz.underlying22 Tryz.underlying5 Tryz.underlying9 (row_rd HS.out.tail.tail (m2 _ (List.mem_cons_of_mem _ (List.mem_cons_self ..)))); have t0 : _ = some (Value.slice B1 M1 d1) := HS.out.cell 1 rfl 0; have t1 : _ = some (Value.slice X N x) := HS.out.cell 1 rfl 1; have t2 : _ = some (Value.slice B2 M2 d2) := HS.out.cell 1 rfl 2; have t3 : _ = some (Value.slice B3 M3 d3) := HS.out.cell 1 rfl 3; clear hS2 hSa; have M2 := True.intro)
    | (clear M0; go_at_call 15; (with_reducible refine (vouch_inS _ HL3.out HL2.out HL4.out (by omega) (HR3.out.below HS.out.below) (HR2.out.below HS.out.below) (HR4.out.below HS.out.below) HK.out HV.out HKL.out HVL.out).mono ?_); rintro e wa ⟨Kb, kd, Vb, vd, rfl, hS2⟩; obtain ⟨Ga, hSa, m1, m2⟩ := grow2 HS.out hS2; have HS := hide hSa; have HLt := hide (HLt.out.mono m1); have HLu := hide (HLu.out.mono m1); have HKm := hide (m2 _ (List.mem_cons_self ..)); have HVm := hide (m2 _ (List.mem_cons_of_mem _ (List.mem_cons_self ..))); clear hS2 hSa; have M1 := True.intro))
   have t0 : _ = some (Value.slice C1 0 g1) := HS.out.cell 1 rfl 0
   have t1 : _ = some (Value.slice Z 0 z) := HS.out.cell 1 rfl 1
   have t2 : _ = some (Value.slice C2 0 g2) := HS.out.cell 1 rfl 2
   have t3 : _ = some (Value.slice C3 0 g3) := HS.out.cell 1 rfl 3
   have u0 : _ = some (Value.slice none 0 0) := HS.out.cell 0 rfl 0
   have u1 : _ = some (Value.slice none 0 0) := HS.out.cell 0 rfl 1
   have u2 : _ = some (Value.slice none 0 0) := HS.out.cell 0 rfl 2
   have u3 : _ = some (Value.slice none 0 0) := HS.out.cell 0 rfl 3
   have M0 := True.intro
   go_wp2_with (first
    | (clear M1; go_at_call 22; (with_reducible refine (same_in HS.out.tail.tail HLt.out HLu.out HF2P.out).mono ?_); rintro e wq ⟨rfl, hb⟩; have HS := hide (HS.out.call hb); have t0 : _ = some (Value.slice C1 0 g1) := HS.out.cell 1 rfl 0; have t1 : _ = some (Value.slice Z 0 z) := HS.out.cell 1 rfl 1; have t2 : _ = some (Value.slice C2 0 g2) := HS.out.cell 1 rfl 2; have t3 : _ = some (Value.slice C3 0 g3) := HS.out.cell 1 rfl 3; have u0 : _ = some (Value.slice none 0 0) := HS.out.cell 0 rfl 0; have u1 : _ = some (Value.slice none 0 0) := HS.out.cell 0 rfl 1; have u2 : _ = some (Value.slice none 0 0) := HS.out.cell 0 rfl 2; have u3 : _ = some (Value.slice none 0 0) := HS.out.cell 0 rfl 3; have M2 := True.intro)
    | (clear M0; go_at_call 14; (with_reducible refine (sameR_in HS.out.tail.tail HLt.out HLu.out HF2P.out).mono ?_); rintro e wq ⟨rfl, hb⟩; have HS := hide (HS.out.call hb); have t0 : _ = some (Value.slice C1 0 g1) := HS.out.cell 1 rfl 0; have t1 : _ = some (Value.slice Z 0 z) := HS.out.cell 1 rfl 1; have t2 : _ = some (Value.slice C2 0 g2) := HS.out.cell 1 rfl 2; have t3 : _ = some (Value.slice C3 0 g3) := HS.out.cell 1 rfl 3; have u0 : _ = some (Value.slice none 0 0) := HS.out.cell 0 rfl 0; have u1 : _ = some (Value.slice none 0 0) := HS.out.cell 0 rfl 1; have u2 : _ = some (Value.slice none 0 0) := HS.out.cell 0 rfl 2; have u3 : _ = some (Value.slice none 0 0) := HS.out.cell 0 rfl 3; have M1 := True.intro)
    | (go_at_call 8; (with_reducible refine (awake24_any _).mono ?_); rintro e wy ⟨rfl, hb⟩; have HS := hide (HS.out.call hb)))
   go_ret
   exact ⟨rfl, HS.out.below⟩
end Go.Proofs.YtnohmgpmmhlloaaGreatDoor

namespace Go.Proofs.YtnohmgpmmhlloaaGreatDoor
open Go.ChangeShapes Go.WideShapes Go.ChangeAt Go.RowKit Go.Deep
open Go.ChangeMaps (open_string shut_string)

section
variable {H : Type} {enc : TypeId × Value → H} {P : Program}

theorem trodAll_below (hl : laidOutB P = true) {W W' : World} (hb : Below W.heap.size W W') : ∀ (ts : List TypeId) (vs : List Value) (ds : List (DataW H)) (ps : List MemPlace),
  (ts.all fun t => P.readableRec t && decide (t < P.types.size)) = true → DataW.TrodAll enc P W 0 (fun _ => true) true ts vs ds ps → DataW.TrodAll enc P W' 0 (fun b => decide (b < W.heap.size)) true ts vs ds ps
 | [], vs, ds, ps, _, h => by
  obtain ⟨rfl, rfl, rfl⟩ := trodAll_nil h
  exact rfl
 | t :: ts, vs, ds, ps, hts, h => by
  obtain ⟨v, vs', d, ds', p, q, rfl, rfl, rfl, hd, hr⟩ := trodAll_cons h
  simp only [List.all_cons, Bool.and_eq_true, decide_eq_true_eq] at hts
  obtain ⟨⟨k1, k2⟩, k3⟩ := hts
  have lt : ∀ x ∈ p, x.block < W.heap.size := by
   obtain ⟨m, hm⟩ := hd
   exact DataW.trod_lt m _ _ _ hm
  exact ⟨p, q, Below.trod hl k1 k2 hd hb lt, trodAll_below hl hb ts vs' ds' q (by simpa using k3) hr, rfl⟩
theorem trodAll_length : ∀ (ts : List TypeId) {w : World} {base : Nat} {spare : Nat → Bool} {held : Bool} (vs : List Value) (ds : List (DataW H)) (ps : List MemPlace), DataW.TrodAll enc P w base spare held ts vs ds ps → ds.length = ts.length
 | [], _, _, _, _, vs, ds, ps, h => by
  obtain ⟨rfl, rfl, rfl⟩ := trodAll_nil h
  rfl
 | t :: ts, _, _, _, _, vs, ds, ps, h => by
  obtain ⟨v, vs', d, ds', p, q, rfl, rfl, rfl, hd, hr⟩ := trodAll_cons h
  rw [List.length_cons, List.length_cons, trodAll_length ts vs' ds' q hr]

structure Told (P : Program) (enc : TypeId × Value → H) (W : World) (ts : List TypeId) (args : Array Value) (ds : List (DataW H)) (p : List MemPlace) : Prop where
 trod : DataW.TrodAll enc P W 0 (fun _ => true) true ts args.toList ds p
 ok : ∃ base, ∀ (j : Nat) (t : TypeId) (v : Value), ts.toArray[j]? = some t → args[j]? = some v → Value.okWide P W .any base t v
 size : (DataW.weightsEach P ts ds).all (· ≤ reachBytes) = true
end

section
variable {H : Type} {enc : TypeId × Value → H} {P : Program} {W : World}

theorem open_bytes {t e : TypeId} {fuel : Nat} {a : Option Addr} {len cap : Nat} {x : DataW H × List MemPlace} (ht : P.underlying t = some (.slice e)) (he : P.underlying e = some (.int .u8)) (hC : P.cellsOf e = 1) (hB : P.bytesOf e = 1)
  (h : DataW.trod enc P W 0 (fun _ => true) true fuel t [.slice a len cap] = some x) :
  ∃ l : List UInt8, l.length = len ∧ Rd W (.slice a len cap) 1 len (bvs l) ∧ ((∀ n ∈ x.1.weights P t, n ≤ reachBytes) → len ≤ 140737488351232) := by
 rcases open_ints ht he hC h with ⟨hcs, hx⟩ | ⟨ad, len', cap', zs, hcs, _, hl, hm, hz, hx, hcell, hwz⟩
 ·simp only [List.cons.injEq, and_true, Value.slice.injEq] at hcs
  obtain ⟨rfl, rfl, rfl⟩ := hcs
  exact ⟨[], rfl, rd_nil W 1, fun _ => by omega⟩
 ·simp only [List.cons.injEq, and_true, Value.slice.injEq] at hcs
  obtain ⟨rfl, rfl, rfl⟩ := hcs
  simp only [if_true] at hz
  refine ⟨(zs.take len).map fun z => UInt8.ofNat z.toNat, by simp; omega, ⟨some ad, cap, rfl, by rw [length_bvs]; simp; omega, hl, hm, (fun hn => by cases hn), fun b o sp hA => ?_⟩, fun hw => ?_⟩
  case refine_2 =>
   have := hw ((len + (cap - len)) * 1) (by rw [hx]; simp [DataW.weights, ht, lits, hB]; omega)
   simp only [reachBytes] at this
   omega
  injection hA with hA
  subst hA
  have hsp : ∀ j, j < zs.length → sp = none := fun j hj => by
   have h0 := hcell 0 (by omega)
   simpa [Addr.add] using World.cell?_spot h0
  refine ⟨fun hn => hsp 0 (by omega), fun j u hu => ?_⟩
  have hj : j < len := by
   have := (List.getElem?_eq_some_iff.1 hu).1
   rw [length_bvs] at this
   simp at this
   omega
  obtain rfl := hsp 0 (by omega)
  have hc := hcell j (by omega)
  rw [Addr.add_lit] at hc
  rw [hc, ← hu]
  have hjz : j < zs.length := by omega
  simp only [bvs, List.getElem?_map, List.getElem?_take, if_pos hj, List.getElem?_eq_getElem hjz, List.getD_eq_getElem?_getD, Option.map_some, Option.getD_some, bv, UInt8.toNat_ofNat']
  have hwf := hwz _ (List.getElem_mem hjz)
  simp [Lit.wf, IntKind.min, IntKind.max, IntKind.signed, IntKind.bits] at hwf
  congr 2
  omega

end
end Go.Proofs.YtnohmgpmmhlloaaGreatDoor

namespace Go.Proofs.YtnohmgpmmhlloaaGreatDoor
open Go.ChangeShapes Go.WideShapes Go.ChangeAt Go.RowKit Go.Deep

section
variable {H : Type} {enc : TypeId × Value → H} {P : Program} {w W : World} {base : Nat} {spare : Nat → Bool} {held : Bool}
theorem trodAll_six {t0 t1 t2 t3 t4 t5 : TypeId} {args : Array Value} {ds : List (DataW H)} {ps : List MemPlace} (h : DataW.TrodAll enc P w base spare held [t0, t1, t2, t3, t4, t5] args.toList ds ps) :
  ∃ v0 v1 v2 v3 v4 v5 d0 d1 d2 d3 d4 d5 p0 p1 p2 p3 p4 p5, args = #[v0, v1, v2, v3, v4, v5] ∧ ds = [d0, d1, d2, d3, d4, d5] ∧ ps = p0 ++ p1 ++ p2 ++ p3 ++ p4 ++ p5 ∧ DataW.Trod enc P w base spare held t0 v0 d0 p0 ∧ DataW.Trod enc P w base spare held t1 v1 d1 p1 ∧
   DataW.Trod enc P w base spare held t2 v2 d2 p2 ∧ DataW.Trod enc P w base spare held t3 v3 d3 p3 ∧ DataW.Trod enc P w base spare held t4 v4 d4 p4 ∧ DataW.Trod enc P w base spare held t5 v5 d5 p5 := by
 obtain ⟨v0, vs, d0, ds', p0, q, hargs, rfl, rfl, h0, hr⟩ := trodAll_cons h
 obtain ⟨v1, vs1, d1, ds1, p1, q1, rfl, rfl, rfl, h1, hr1⟩ := trodAll_cons hr
 obtain ⟨v2, vs2, d2, ds2, p2, q2, rfl, rfl, rfl, h2, hr2⟩ := trodAll_cons hr1
 obtain ⟨v3, vs3, d3, ds3, p3, q3, rfl, rfl, rfl, h3, hr3⟩ := trodAll_cons hr2
 obtain ⟨v4, vs4, d4, ds4, p4, q4, rfl, rfl, rfl, h4, hr4⟩ := trodAll_cons hr3
 obtain ⟨v5, vs5, d5, ds5, p5, q5, rfl, rfl, rfl, h5, hr5⟩ := trodAll_cons hr4
 obtain ⟨rfl, rfl, rfl⟩ := trodAll_nil hr5
 exact ⟨v0, v1, v2, v3, v4, v5, d0, d1, d2, d3, d4, d5, p0, p1, p2, p3, p4, p5, by cases args; simp_all, rfl, by simp, h0, h1, h2, h3, h4, h5⟩
end
end Go.Proofs.YtnohmgpmmhlloaaGreatDoor

namespace Go.Proofs.YtnohmgpmmhlloaaGreatDoor
open Go.ChangeShapes Go.WideShapes Go.ChangeAt Go.RowKit

theorem own : ownKnob Tryz.prog.godebug = none := by kernel_rfl
theorem laidOut : laidOutB Tryz.prog = true := by kernel_rfl
theorem cellsU8 : Tryz.prog.cellsOf 5 = 1 := by kernel_rfl
theorem bytesU8 : Tryz.prog.bytesOf 5 = 1 := by kernel_rfl
end Go.Proofs.YtnohmgpmmhlloaaGreatDoor

namespace Go.Proofs.YtnohmgpmmhlloaaGreatDoor
open Go.ChangeShapes Go.WideShapes Go.ChangeAt Go.RowKit Go.Deep

theorem lift_laid {C : Checked} (own : ownKnob C.prog.godebug = none) {os : Os} (started : os.Started) {f : FuncId} {fn : Func} (noInit : C.prog.inits.idxOf? f = none) (hfn : C.prog.funcs[f]? = some fn)
  {s : ChangeSpec} (hvars : s.vars = []) (hbare : s.plain.varTypes C.prog = []) {tb : TypeId} (hres : fn.resultTypes = #[tb]) (hbool : C.prog.underlying tb = some .bool) (hl : laidOutB C.prog = true)
  (hts : (fn.params.toList.all fun t => C.prog.readableRec t && decide (t < C.prog.types.size)) = true) {l : List (String × DataW Unit)}
  {H : Type} {enc : TypeId × Value → H} (hspec : ∀ (ds : List (DataW H)), ds.length = fn.params.toList.length → (s.fn H ds).results = [.lit (.bool true)] ∧ (s.fn H ds).args = ds ∧ (s.fn H ds).vars = [])
  (witness : ∃ (w : World) (tape : Tape) (i : Input), w.os = os ∧ (w.forCall tape i).Shaped C.prog ∧ i.vars = [] ∧ Input.okWide C.prog (w.forCall tape i) .any w.heap.size f i ∧
   ((s.pre enc C.prog fn [] false (w.forCall tape i).memory i.args ∧ laidMetH C.prog l (w.forCall tape i).memory) ∧ sizedMet enc C.prog fn (OpenSpec.ofChange s) false (w.forCall tape i).memory i.args) ∧ Assume.holds {} C.prog (lone (Frame.enter C.prog f i.args .normal) [] (w.forCall tape i)))
  (walk : ∀ (W : World) (args : Array Value) (ds : List (DataW H)) (p : List MemPlace), Told C.prog enc W fn.params.toList args ds p → laidMetH C.prog l W →
   Calls C.prog f args W fun e W' => e = .returned (.bool true) ∧ Below W.heap.size W W') :
  ReturnsInHanded {} C os f .any (fun w args => (s.pre enc C.prog fn [] false w args ∧ laidMetH C.prog l w) ∧ sizedMet enc C.prog fn (OpenSpec.ofChange s) false w args) (s.post enc C.prog fn false true false false) := by
 refine returnsInHanded_of_change_and (C := C) (X := fun w _ => laidMetH C.prog l w) (fun _ _ _ hh h => h.of_heap hh) own started noInit hfn witness ?_
 intro W base args ds gs before hval hW _ hsz hL _
 have hW' := hW
 obtain ⟨p, q, hA, hV, rfl, hfz, hnd⟩ := hW
 rw [hvars] at hV
 obtain ⟨rfl, rfl⟩ := trodVars_none hV
 have hlen := trodAll_length fn.params.toList args.toList ds p hA
 obtain ⟨s1, s2, s3⟩ := hspec ds hlen
 refine (walk W args ds p ⟨hA, ⟨base, fun j t v ht hv => hval j t v (by simpa using ht) hv⟩, by rw [hbare] at hsz; simpa using hsz⟩ hL).mono fun e W' ⟨he, bel⟩ => ?_
 subst he
 refine ⟨_, rfl, ds, [], _, [], p, [], hW', ?_, ?_, ?_, bel.frame _, fun h => by cases h⟩
 ·rw [List.append_nil, s1, hres]
  exact trodAll_mk1 (shut_bool hbool _)
 ·rw [List.append_nil, s2]
  exact trodAll_below hl bel _ _ _ _ hts hA
 ·rw [List.append_nil, s3, hvars]
  exact rfl

def LL : List (String × DataW Unit) := [("math/bits.deBruijn32tab", Rows.laid_math_bits_deBruijn32tab), ("math/bits.deBruijn64tab", Rows.laid_math_bits_deBruijn64tab), ("internal/strconv.uint64pow10", Rows.laid_internal_strconv_uint64pow10), ("strconv.ErrRange", Rows.laid_strconv_ErrRange), ("strconv.ErrSyntax", Rows.laid_strconv_ErrSyntax)]
theorem door_met (os : Os) (args : Array Value) : laidMetH Tryz.prog LL ((World.doorLaid Tryz.prog 400 os).forCall (fun _ _ => 0) ⟨#[], args, []⟩).memory := by
 rw [MakeChecks.laidMetH_plain _ _ _ (by kernel_rfl)]
 exact laidMet_of_run' 8 (by kernel_rfl) (by kernel_rfl)
end Go.Proofs.YtnohmgpmmhlloaaGreatDoor
