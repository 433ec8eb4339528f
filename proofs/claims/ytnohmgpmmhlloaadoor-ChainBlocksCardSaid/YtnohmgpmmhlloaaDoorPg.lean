/-
  Joined of texts of mine, in build order: At, Av, Aw, Ax, Ay, Lift, Opg, Oq, Lm. Each says what it proves at its own head.
-/
import Derived.Deep.DeepCutAuto
import Derived.ProofKit
import Derived.OpenShut
import Derived.SizedLaws
import Derived.Carry
import Derived.Deep.Fields
import Derived.Deep.Slices
import Derived.ShutString
import Derived.Test.YtnohmgpmmhlloaaDoorRows
import Derived.LaidMore
import Derived.Stop.Joined
import Derived.Test.YtnohmgpmmhlloaaDoorPf
set_option linter.unusedSimpArgs false
set_option linter.unusedVariables false

namespace Go.Proofs.YtnohmgpmmhlloaaDoor
open Go.RowKit
set_option linter.unusedSimpArgs false
theorem one1 {A1 : Option Addr} {n1 c1 : Nat} : ∀ v ∈ [Value.slice A1 n1 c1], v.oneCell' = true := by
  intro v hv
  simp only [List.mem_cons, List.not_mem_nil, or_false] at hv
  rcases hv with rfl
  rfl
theorem St.pickI {w0 w : World} {M : Nat → Prop} {a b c d : Chunk} {G : List Chunk} (h : St w0 M w (a :: b :: c :: d :: G)) : St w0 M w (c :: d :: a :: G) :=
  (St.swap12 (a := c) (b := a) (c := d) (St.swap (St.cut [a] b (c :: d :: G) h)))
theorem ty47 : RowTy Tryd.prog 33 23 1 24 := rowTy_of (z := .slice none 0 0) Tryd.underlying33 (by kernel_rfl) rfl (by decide)
def IdsR (w : World) (l : List (List UInt8)) (n : Nat) (e : Ending) (w' : World) : Prop := ∃ (X : Option Addr) (x : Nat) (qs : List PcV) (G : List Chunk), e = .returned (.slice X n x) ∧ qs.length = n ∧ qs.map PcV.b = l ∧ (∀ q ∈ qs, q.ch ∈ G) ∧ St w NoB w' (.row (.slice X n x) 23 1 n (qs.flatMap PcV.cells) :: G)
set_option maxRecDepth 100000 in
set_option maxHeartbeats 6400000 in
theorem ids_any (A1 A2 A3 A : Option Addr) (m1 m2 m3 n c1 c2 c3 c : Nat) (l : List Sg) (w : World) (hl : l.length = n) (hn : n ≤ 1000) (hs : ∀ x ∈ l, x.p.sm) (hr : Rd w (.slice A n c) 5 n (sgCells l)) (hok : ∀ x ∈ l, SgOK w x) :
    Calls Tryd.prog 8 #[.agg #[.slice A1 m1 c1, .slice A n c, .slice A2 m2 c2, .slice A3 m3 c3]] w (IdsR w (l.map fun x => x.s.b) n) := by
  have HS : Hid (St w NoB _ [.row (.slice none 0 0) 23 1 0 [], .cells w.heap.size #[.slice A1 m1 c1, .slice A n c, .slice A2 m2 c2, .slice A3 m3 c3] 26]) := hide (((St.init w NoB).alloc #[.slice A1 m1 c1, .slice A n c, .slice A2 m2 c2, .slice A3 m3 c3] 26).row (Below.refl _ _) (World.ownsRow_nil _ _ _ _))
  have HL := hide hl
  have HSS := hide hs
  have HR := hide hr
  have HOK := hide hok
  clear hl hs hr hok
  have t1 : _ = some (Value.slice A n c) := HS.out.cell 1 rfl 1
  go_enter Tryd.func8, Tryd.ntmps8
  go_wp2_with fail
  go_loopw [3, 9] (fun sv iv wr => ∃ (k : Nat) (X : Option Addr) (x : Nat) (qs : List PcV) (G : List Chunk), k ≤ n ∧ iv = .int .i64 (k : Int) ∧ sv = .slice X k x ∧ qs.length = k ∧ qs.map PcV.b = (l.take k).map (fun x => x.s.b) ∧ (∀ q ∈ qs, q.ch ∈ G) ∧ Hid (St w NoB wr (.row (.slice X k x) 23 1 k (qs.flatMap PcV.cells) :: .cells w.heap.size #[.slice A1 m1 c1, .slice A n c, .slice A2 m2 c2, .slice A3 m3 c3] 26 :: G))) (fun _ iv _ => n - (intOf iv).toNat)
  case atStart => exact ⟨0, none, 0, [], [], by omega, rfl, rfl, rfl, rfl, fun y hy => absurd hy List.not_mem_nil, HS⟩
  case round =>
    clear HS t1
    obtain ⟨k, X, x, qs, G, hk, rfl, rfl, hzl, hzp, hzG, HS⟩ := hrel
    have HZL := hide hzl
    have HZP := hide hzp
    have HZG := hide hzG
    clear hzl hzp hzG
    by_cases hlt : k < n
    · have d0 : decide ((k : Int) < (n : Int)) = true := by simp; omega
      have d1' : decide (k < n) = true := by simp; omega
      have kn : (k : Int) < (n : Int) := by omega
      have kl : k < l.length := by have := HL.out; omega
      have hlk : l[k]? = some l[k] := List.getElem?_eq_getElem kl
      obtain ⟨b, o, rfl, hb8, hc⟩ := sg_at HR.out hlk
      obtain ⟨k0, k1, k2, k3, k4⟩ := hc _ HS.out.below
      have HOX := hide ((HOK.out l[k] (List.getElem_mem kl)).s)
      have hx3 : (l[k]).s.b.length ≤ 1000000 := (HSS.out l[k] (List.getElem_mem kl)).2.2.1
      have HT := hide (show (l.take (k + 1)).map (fun x => x.s.b) = (l.take k).map (fun x => x.s.b) ++ [(l[k]).s.b] by rw [List.take_add_one, hlk, List.map_append]; rfl)
      generalize l[k] = y at k0 k1 k2 k3 k4 HOX hx3 HT
      obtain ⟨⟨E1, f1, y1⟩, ⟨E2, f2, y2⟩, ⟨E3, f3, y3⟩, ⟨E4, f4, y4⟩, ⟨E5, f5, y5⟩⟩ := y
      have HE3 : Hid (Rd w (.slice E3 y3.length f3) 1 y3.length (bvs y3)) := HOX
      clear hc hlk kl HOX
      go_upto_region 5 with (refine wl_storeC rfl rfl (HS.out.alloc _ _) 0 rfl (vs := [.slice E1 y1.length f1, .slice E2 y2.length f2, .slice E3 y3.length f3, .slice E4 y4.length f4, .slice E5 y5.length f5]) szSigned (Nat.le_refl _) rfl rfl one5 ?_; intro w5 hS5; have HS := hide hS5; clear hS5)
      have q2 : _ = some (Value.slice E3 y3.length f3) := HS.out.cell 0 rfl 2
      clear k0 k1 k2 k3 k4
      have M0 := True.intro
      go_wp2_with (first
        | (clear M1; at_builtin; refine wl_append rfl rfl ty47 (HS.out.skip _) 2 rfl rfl rfl (rd_new _ [.slice F y3.length g] 23 1 1 rfl (by decide)) one1 (by omega) (by decide) ?_; intro A7 c7 w7 hS7; have HS := hide hS7; clear hS7; have M2 := True.intro)
        | (clear M0; go_at_call 13; (with_reducible refine (clone_b _ rfl (by omega) (HE3.out.below HS.out.below)).mono ?_); rintro e wy ⟨F, g, rfl, hb, ho⟩; have HS := hide (HS.out.row hb ho); clear ho hb; have M1 := True.intro))
      have HC := hide (show (qs ++ [PcV.mk F g y3]).flatMap PcV.cells = qs.flatMap PcV.cells ++ [.slice F y3.length g] by rw [List.flatMap_append]; rfl)
      rw [← HC.out] at HS
      go_roundw
      case rel => exact ⟨k + 1, A7, c7, qs ++ [PcV.mk F g y3], PcV.ch ⟨F, g, y3⟩ :: G, by omega, by go_num, rfl, by rw [List.length_append, HZL.out]; rfl, by rw [List.map_append, HZP.out, HT.out]; rfl, (fun y hy => by
            rcases List.mem_append.1 hy with h | h
            · exact List.mem_cons_of_mem _ (HZG.out y h)
            · rw [List.mem_singleton.1 h]; exact List.mem_cons_self ..), hide (St.pickI HS.out)⟩
      case measure => (simp [intOf]) <;> omega
    · obtain rfl : k = n := by omega
      have d0 : decide ((k : Int) < (k : Int)) = false := by simp
      have d0' : decide (k < k) = false := by simp
      have hzp := HZP.out
      rw [List.take_of_length_le (by rw [HL.out]; omega)] at hzp
      have HZ := hide hzp
      clear hzp
      go_wp2_with fail
      go_ret
      exact ⟨X, x, qs, G, rfl, HZL.out, HZ.out, HZG.out, St.cut [_] _ _ HS.out⟩
end Go.Proofs.YtnohmgpmmhlloaaDoor

namespace Go.Proofs.YtnohmgpmmhlloaaDoor
open Go.RowKit
set_option linter.unusedSimpArgs false
theorem St.perm {w0 w : World} {M : Nat → Prop} {H H' : List Chunk} (h : St w0 M w H) (p : H.Perm H') : St w0 M w H' := by
  have h1 : H.Pairwise (fun c d => ∀ k, c.block = some k → d.block ≠ some k) := List.pairwise_iff_getElem.2 fun i j hi hj hij k hc => h.apart i j _ _ k (by omega) (List.getElem?_eq_getElem hi) (List.getElem?_eq_getElem hj) hc
  have h2 := (List.Perm.pairwise_iff (R := fun c d : Chunk => ∀ k, c.block = some k → d.block ≠ some k) (fun {x y} hxy k hy hx => hxy k hx hy) p).1 h1
  refine ⟨h.ext, fun i c hc => ?_, fun i c k hc hb => ?_, fun i j c d k hij hc hd hb hb' => ?_⟩
  · obtain ⟨j, hj⟩ := List.getElem?_of_mem (p.mem_iff.2 (List.mem_of_getElem? hc))
    exact h.sat j c hj
  · obtain ⟨j, hj⟩ := List.getElem?_of_mem (p.mem_iff.2 (List.mem_of_getElem? hc))
    exact h.own j c k hj hb
  · obtain ⟨hi, e1⟩ := List.getElem?_eq_some_iff.1 hc
    obtain ⟨hj, e2⟩ := List.getElem?_eq_some_iff.1 hd
    have h3 := List.pairwise_iff_getElem.1 h2
    rcases Nat.lt_or_gt_of_ne hij with hlt | hlt
    · have := h3 i j hi hj hlt k
      rw [e1, e2] at this
      exact this hb hb'
    · have := h3 j i hj hi hlt k
      rw [e1, e2] at this
      exact this hb' hb
def Laid (G : List Chunk) (p : Tp) (B1 : Option Addr) (m1 d1 : Nat) (X : Option Addr) (n x : Nat) (B2 : Option Addr) (m2 d2 : Nat) (B3 : Option Addr) (m3 d3 : Nat) : Prop :=
  ∃ k1 k2 k3 zs, k1.length = m1 ∧ zs.length = n ∧ k2.length = m2 ∧ k3.length = m3 ∧ Tp.mk k1 (zs.map Sg.p) k2 k3 = p ∧ TkIn G ⟨⟨B1, d1, k1⟩, X, x, zs, ⟨B2, d2, k2⟩, ⟨B3, d3, k3⟩⟩
section
variable {G G' : List Chunk} {p : Tp} {B1 X B2 B3 : Option Addr} {m1 d1 n x m2 d2 m3 d3 : Nat}
theorem Laid.mono (h : Laid G p B1 m1 d1 X n x B2 m2 d2 B3 m3 d3) (hs : ∀ c ∈ G, c ∈ G') : Laid G' p B1 m1 d1 X n x B2 m2 d2 B3 m3 d3 := by
  obtain ⟨k1, k2, k3, zs, h1, h2, h3, h4, h5, h6⟩ := h
  exact ⟨k1, k2, k3, zs, h1, h2, h3, h4, h5, h6.mono hs⟩
theorem Laid.open {w0 w : World} {M : Nat → Prop} (hS : St w0 M w G) (h : Laid G p B1 m1 d1 X n x B2 m2 d2 B3 m3 d3) : ∃ zs, zs.length = n ∧ zs.map Sg.p = p.l ∧ p.r.length = m1 ∧ p.e.length = m2 ∧ p.z.length = m3 ∧ Rd w (.slice B1 m1 d1) 1 m1 (bvs p.r) ∧ Rd w (.slice B2 m2 d2) 1 m2 (bvs p.e) ∧ Rd w (.slice B3 m3 d3) 1 m3 (bvs p.z) ∧ Rd w (.slice X n x) 5 n (sgCells zs) ∧ ∀ y ∈ zs, SgOK w y := by
  obtain ⟨k1, k2, k3, zs, h1, h2, h3, h4, h5, h6⟩ := h
  subst h1 h2 h3 h4 h5
  have hk := h6.ok hS
  exact ⟨zs, rfl, rfl, rfl, rfl, rfl, hk.r, hk.e, hk.z, hk.row, hk.l⟩
end
def TkS (w : World) (c : Nat) (p : Tp) (m1 n m2 m3 : Nat) (e : Ending) (w' : World) : Prop := ∃ B1 d1 X x B2 d2 B3 d3 G, e = .returned (.tuple #[.agg #[.slice B1 m1 d1, .slice X n x, .slice B2 m2 d2, .slice B3 m3 d3], .int .i64 (c : Int)]) ∧ Laid G p B1 m1 d1 X n x B2 m2 d2 B3 m3 d3 ∧ St w NoB w' G
theorem tkS_of {w : World} {r : Rz} {e : Ending} {w' : World} {m1 n m2 m3 : Nat} (h : TkQ w r e w') (h1 : r.p.r.length = m1) (h2 : r.p.l.length = n) (h3 : r.p.e.length = m2) (h4 : r.p.z.length = m3) : TkS w r.c r.p m1 n m2 m3 e w' := by
  obtain ⟨⟨⟨B1, d1, k1⟩, X, x, zs, ⟨B2, d2, k2⟩, ⟨B3, d3, k3⟩⟩, G, rfl, hp, hg, hS⟩ := h
  replace hp : Tp.mk k1 (zs.map Sg.p) k2 k3 = r.p := hp
  have q1 : k1.length = m1 := by rw [← h1, ← hp]
  have q2 : zs.length = n := by rw [← h2, ← hp]; exact (List.length_map ..).symm
  have q3 : k2.length = m2 := by rw [← h3, ← hp]
  have q4 : k3.length = m3 := by rw [← h4, ← hp]
  refine ⟨B1, d1, X, x, B2, d2, B3, d3, G, ?_, ⟨k1, k2, k3, zs, q1, q2, q3, q4, hp, hg⟩, hS⟩
  show Ending.returned (.tuple #[.agg #[.slice B1 k1.length d1, .slice X zs.length x, .slice B2 k2.length d2, .slice B3 k3.length d3], _]) = _
  rw [q1, q2, q3, q4]
theorem sm_mem {p : Tp} {zs : List Sg} (h : p.sm) (hz : zs.map Sg.p = p.l) : ∀ x ∈ zs, x.p.sm := fun x hx => h.2.2.2.2 _ (by rw [← hz]; exact List.mem_map_of_mem hx)
section
variable {w0 w : World} {M : Nat → Prop} {H : List Chunk} {p : Tp}
theorem append_in {nx y1 : List UInt8} {r : Rz} {M1 N M2 M3 : Nat} {B1 X B2 B3 Ax E1 : Option Addr} {m1 d1 n x m2 d2 m3 d3 q cx n1 f1 : Nat} (hS : St w0 M w H) (hL : Laid H p B1 m1 d1 X n x B2 m2 d2 B3 m3 d3) (hsm : p.sm) (hx : nx.length = q) (hg1 : y1.length = n1) (hrx : Rd w (.slice Ax q cx) 1 q (bvs nx)) (he1 : Rd w (.slice E1 n1 f1) 1 n1 (bvs y1))
    (hr : addRz p nx ⟨y1, [], [], [], []⟩ = r) (h1 : r.p.r.length = M1) (h2 : r.p.l.length = N) (h3 : r.p.e.length = M2) (h4 : r.p.z.length = M3) :
    Calls Tryd.prog 6 #[.agg #[.slice B1 m1 d1, .slice X n x, .slice B2 m2 d2, .slice B3 m3 d3], .slice Ax q cx, .slice E1 n1 f1] w (TkS w r.c r.p M1 N M2 M3) := by
  obtain ⟨zs, e1, e2, e3, e4, e5, r1, r2, r3, r4, hok⟩ := hL.open hS
  obtain ⟨pr, pl, pe, pz⟩ := p
  subst e2
  have h := append_any B1 B2 B3 X Ax E1 m1 m2 m3 n q n1 d1 d2 d3 x cx f1 pr pe pz nx zs y1 w e3 e4 e5 e1 hx hg1 (by have := hsm.1; rw [← e3]; exact this) (by have := hsm.2.2.1; rw [← e5]; exact this) (sm_mem hsm rfl) r1 r2 r3 r4 hok hrx he1
  rw [hr] at h
  exact h.mono fun _ _ h => tkS_of h h1 h2 h3 h4
theorem ids_in {B1 X B2 B3 : Option Addr} {m1 d1 n x m2 d2 m3 d3 : Nat} (hS : St w0 M w H) (hL : Laid H p B1 m1 d1 X n x B2 m2 d2 B3 m3 d3) (hsm : p.sm) :
    Calls Tryd.prog 8 #[.agg #[.slice B1 m1 d1, .slice X n x, .slice B2 m2 d2, .slice B3 m3 d3]] w (IdsR w (p.l.map Sp.s) n) := by
  obtain ⟨zs, e1, e2, e3, e4, e5, r1, r2, r3, r4, hok⟩ := hL.open hS
  have hn : n ≤ 1000 := by
    have := hsm.2.2.2.1
    rw [← e2, List.length_map] at this
    omega
  have h := ids_any B1 B2 B3 X m1 m2 m3 n d1 d2 d3 x zs w e1 hn (sm_mem hsm e2) r4 hok
  rw [← e2, List.map_map]
  exact h
end
theorem issue_in {Ay Ax A : Option Addr} {cy cx n c : Nat} {y nx l : List UInt8} (w : World) (hy : y.length = 32) (hx : nx.length = 32) (hl : l.length = n) (hn : n ≤ 65536) (hry : Rd w (.slice Ay 32 cy) 1 32 (bvs y)) (hrx : Rd w (.slice Ax 32 cx) 1 32 (bvs nx)) (hr : Rd w (.slice A n c) 1 n (bvs l)) :
    Calls Tryd.prog 4 #[.slice Ay 32 cy, .slice Ax 32 cx, .slice A n c] w (TkS w 0 (issueK y nx l) 32 1 32 0) :=
  (issue_okG Ay Ax A cy cx n c y nx l w hy hx hl hn hry hrx hr).mono fun _ _ h => tkS_of (tkQ_ok h) (pubL_len _) rfl hx rfl
end Go.Proofs.YtnohmgpmmhlloaaDoor

namespace Go.Proofs.YtnohmgpmmhlloaaDoor
open Go.RowKit
set_option linter.unusedSimpArgs false
noncomputable def tokB (n : UInt8) : Nat → Tp
  | 0 => issueK (seedW n) (seedW (n + 1)) [0]
  | i + 1 => addK (tokB n i) (seedW (n + 2 + UInt8.ofNat i)) ⟨[UInt8.ofNat i], [], [], [], []⟩
theorem tokB_r (n : UInt8) : ∀ i, (tokB n i).r = pubL (seedW n)
  | 0 => by rw [tokB]; rfl
  | i + 1 => by rw [tokB]; exact tokB_r n i
theorem tokB_z (n : UInt8) : ∀ i, (tokB n i).z = []
  | 0 => by rw [tokB]; rfl
  | i + 1 => by rw [tokB]; exact tokB_z n i
theorem tokB_len (n : UInt8) : ∀ i, (tokB n i).l.length = i + 1
  | 0 => by rw [tokB]; rfl
  | i + 1 => by
    rw [tokB]
    show ((tokB n i).l ++ [_]).length = _
    rw [List.length_append, tokB_len n i]
    rfl
theorem ofNat_succ8 (n : UInt8) (i : Nat) : n + 2 + UInt8.ofNat i = n + 1 + UInt8.ofNat (i + 1) := by
  rw [show UInt8.ofNat (i + 1) = UInt8.ofNat i + 1 from by rw [UInt8.ofNat_add]; rfl]
  rw [show (2 : UInt8) = 1 + 1 from rfl, ← UInt8.add_assoc n 1 1, UInt8.add_assoc (n + 1) 1 (UInt8.ofNat i), UInt8.add_comm 1 (UInt8.ofNat i)]
theorem tokB_e (n : UInt8) : ∀ i, (tokB n i).e = seedW (n + 1 + UInt8.ofNat i)
  | 0 => by
    rw [tokB, show UInt8.ofNat 0 = 0 from rfl, UInt8.add_zero]
    rfl
  | i + 1 => by
    rw [tokB, ← ofNat_succ8]
    rfl
theorem tokB_sm (n : UInt8) : ∀ i, ∀ x ∈ (tokB n i).l, x.sm
  | 0 => by
    rw [tokB]
    intro x hx
    obtain rfl := List.mem_singleton.1 hx
    refine ⟨?_, ?_, ?_, ?_, ?_⟩
    · show 1 ≤ _; decide
    · show (pubL _).length ≤ _; rw [pubL_len]; decide
    · show (sigL _ _).length ≤ _; rw [sigL_len]; decide
    · show 0 ≤ _; decide
    · show 0 ≤ _; decide
  | i + 1 => by
    rw [tokB]
    intro x hx
    rcases List.mem_append.1 hx with h | h
    · exact tokB_sm n i x h
    · obtain rfl := List.mem_singleton.1 h
      refine ⟨?_, ?_, ?_, ?_, ?_⟩
      · show 1 ≤ _; decide
      · show (pubL _).length ≤ _; rw [pubL_len]; decide
      · show (sigL _ _).length ≤ _; rw [sigL_len]; decide
      · show 0 ≤ _; decide
      · show 0 ≤ _; decide
theorem tokB_smT (n : UInt8) (i : Nat) (hi : i ≤ 100) : (tokB n i).sm :=
  ⟨by rw [tokB_r, pubL_len]; decide, by rw [tokB_e, seedW_len]; decide, by rw [tokB_z]; decide, by rw [tokB_len]; omega, tokB_sm n i⟩
theorem tokB_add (n : UInt8) (i : Nat) (hi : i < 7) : addRz (tokB n i) (seedW (n + 2 + UInt8.ofNat i)) ⟨[UInt8.ofNat i], [], [], [], []⟩ = ⟨0, tokB n (i + 1)⟩ := by
  unfold addRz
  rw [if_neg (by rw [seedW_len]; decide), if_neg (by show ¬ 65536 < 1; decide), if_neg (by rw [tokB_len]; omega), if_neg (by rw [tokB_e, seedW_len]; decide), if_neg (by rw [tokB_len]; omega), tokB]
theorem tokB_full (n : UInt8) : addRz (tokB n 7) (seedW (n + 2 + UInt8.ofNat 7)) ⟨[UInt8.ofNat 7], [], [], [], []⟩ = ⟨4, tp0⟩ := by
  unfold addRz
  rw [if_neg (by rw [seedW_len]; decide), if_neg (by show ¬ 65536 < 1; decide), if_neg (by rw [tokB_len]; omega), if_neg (by rw [tokB_e, seedW_len]; decide), if_pos (by rw [tokB_len]; omega)]
theorem tokB_same (n : UInt8) (i x : Nat) (hx : x < i + 1) : ((tokB n (i + 1)).l.map Sp.s)[x]? = ((tokB n i).l.map Sp.s)[x]? := by
  have e : (tokB n (i + 1)).l = (tokB n i).l ++ [signK (tokB n i).e (seedW (n + 2 + UInt8.ofNat i)) ⟨[UInt8.ofNat i], [], [], [], []⟩] := by rw [tokB]; rfl
  rw [e, List.map_append, List.getElem?_append_left (by rw [List.length_map, tokB_len]; exact hx)]
end Go.Proofs.YtnohmgpmmhlloaaDoor

namespace Go.Proofs.YtnohmgpmmhlloaaDoor
open Go.RowKit
set_option linter.unusedSimpArgs false
theorem enSeed24 (args : Array Value) (w : World) : (callFunc 5 args).run Tryd.prog w = .ok (.enter 5 args) w := by kernel_rfl
theorem enAppend24 (args : Array Value) (w : World) : (callFunc 6 args).run Tryd.prog w = .ok (.enter 6 args) w := by kernel_rfl
theorem u8_1 (p : UInt8) : ((p.toNat : Int) + 1) % 256 = ((p + 1).toNat : Int) := by
  rw [UInt8.toNat_add]
  have : (1 : UInt8).toNat = 1 := rfl
  omega
theorem u8_i (i : Nat) (hi : i < 256) : (i : Int) = ((UInt8.ofNat i).toNat : Int) := by
  rw [UInt8.toNat_ofNat', Nat.mod_eq_of_lt (by omega)]
theorem bvs_i (i : Nat) (hi : i < 256) : [Value.int .u8 (i : Int)] = bvs [UInt8.ofNat i] := by
  show _ = [Value.int .u8 ((UInt8.ofNat i).toNat : Int)]
  rw [← u8_i i hi]
theorem seed24_1 (p : UInt8) (w : World) : Calls Tryd.prog 5 #[.int .u8 (((p.toNat : Int) + 1) % 256)] w (BN 32 w (seedW (p + 1))) := by
  rw [u8_1]
  exact seed24_any (p + 1) w
theorem u8_2i (p : UInt8) (i : Nat) (hi : i < 256) : ((p.toNat : Int) + 2 + (i : Int)) % 256 = ((p + 2 + UInt8.ofNat i).toNat : Int) := by
  have h1 : (2 : UInt8).toNat = 2 := rfl
  rw [UInt8.toNat_add (p + 2) (UInt8.ofNat i), UInt8.toNat_add p 2, UInt8.toNat_ofNat', h1]
  omega
theorem seed24_k (p : UInt8) (i : Nat) (hi : i < 256) (w : World) : Calls Tryd.prog 5 #[.int .u8 (((p.toNat : Int) + 1 + (i : Int)) % 256)] w (BN 32 w (seedW (p + 1 + UInt8.ofNat i))) := by
  rw [show ((p.toNat : Int) + 1 + (i : Int)) % 256 = ((p + 1 + UInt8.ofNat i).toNat : Int) from by
    have h1 : (1 : UInt8).toNat = 1 := rfl
    rw [UInt8.toNat_add (p + 1) (UInt8.ofNat i), UInt8.toNat_add p 1, UInt8.toNat_ofNat', h1]
    omega]
  exact seed24_any _ w
set_option maxRecDepth 100000 in
set_option maxHeartbeats 800000 in
theorem next24_any (p : UInt8) (i : Nat) (hi : i < 9) (w : World) : Calls Tryd.prog 9 #[.int .u8 (p.toNat : Int), .int .i64 (i : Int)] w (BN 32 w (seedW (p + 1 + UInt8.ofNat i))) := by
  have SDK := hide (fun w => seed24_k p i (by omega) w)
  have ei : (i : Int) % 256 = (i : Int) := by omega
  have HS := hide (St.init w NoB)
  go_enter Tryd.func9, Tryd.ntmps9
  go_wp2_with (go_at_call 5; (with_reducible refine (SDK.out _).mono ?_); rintro e wy ⟨b2, f2, rfl, hb, ho⟩; have HS := hide (HS.out.row hb ho); clear ho hb)
  go_ret
  exact ⟨_, _, rfl, HS.out.below, HS.out.ownsRow 0 rfl⟩
theorem meet_perm {w0 w : World} {M : Nat → Prop} (L R G2 G : List Chunk) (a b : Chunk) (h : St w0 M w ((L ++ (a :: (R ++ G2))) ++ (b :: G))) : St w0 M w (a :: b :: ((L ++ (R ++ G2)) ++ G)) :=
  (h.perm ((List.perm_middle (l₁ := L) (a := a) (l₂ := R ++ G2)).append_right (b :: G))).perm ((List.perm_middle (l₁ := L ++ (R ++ G2)) (a := b) (l₂ := G)).cons a)
theorem fwd2 {w0 w : World} {M : Nat → Prop} (A B : List Chunk) (b c : Chunk) (h : St w0 M w (A ++ (b :: c :: B))) : St w0 M w (b :: c :: (A ++ B)) :=
  (h.perm List.perm_middle).perm (List.Perm.cons _ List.perm_middle)
theorem fwd3 {w0 w : World} {M : Nat → Prop} (A B : List Chunk) (b c d : Chunk) (h : St w0 M w (A ++ (b :: c :: d :: B))) : St w0 M w (b :: c :: d :: (A ++ B)) :=
  ((h.perm List.perm_middle).perm (List.Perm.cons _ List.perm_middle)).perm (List.Perm.cons _ (List.Perm.cons _ List.perm_middle))
def AdR (p : UInt8) (i rc : Nat) (rp : Tp) (M1 M2 M3 M4 : Nat) : Prop := (i < 7 ∧ rc = 0 ∧ rp = tokB p (i + 1) ∧ M1 = 32 ∧ M2 = i + 2 ∧ M3 = 32 ∧ M4 = 0) ∨ (i = 7 ∧ rc = 4 ∧ rp = tp0 ∧ M1 = 0 ∧ M2 = 0 ∧ M3 = 0 ∧ M4 = 0)
theorem add_r (p : UInt8) (i : Nat) (hi : i ≤ 7) : ∃ rc rp M1 M2 M3 M4, addRz (tokB p i) (seedW (p + 2 + UInt8.ofNat i)) ⟨[UInt8.ofNat i], [], [], [], []⟩ = ⟨rc, rp⟩ ∧ rp.r.length = M1 ∧ rp.l.length = M2 ∧ rp.e.length = M3 ∧ rp.z.length = M4 ∧ AdR p i rc rp M1 M2 M3 M4 := by
  by_cases h : i < 7
  · exact ⟨0, tokB p (i + 1), 32, i + 2, 32, 0, tokB_add p i h, by rw [tokB_r, pubL_len], tokB_len p (i + 1), by rw [tokB_e, seedW_len], by rw [tokB_z]; rfl, .inl ⟨h, rfl, rfl, rfl, rfl, rfl, rfl⟩⟩
  · obtain rfl : i = 7 := by omega
    exact ⟨4, tp0, 0, 0, 0, 0, tokB_full p, rfl, rfl, rfl, rfl, .inr ⟨rfl, rfl, rfl, rfl, rfl, rfl, rfl⟩⟩
set_option maxRecDepth 100000 in
set_option maxHeartbeats 6400000 in
theorem chainBlocks_walk (p : UInt8) (kk : Int) (w : World) (hk : I64 kk) :
    Calls Tryd.prog 3 #[.int .u8 (p.toNat : Int), .int .i64 kk] w fun e w' => e = .returned (.bool true) ∧ Below w.heap.size w w' := by
  obtain ⟨q, hq⟩ : ∃ q : Nat, (q : Int) = (IntKind.u64.wrap kk).tmod 9 := ⟨((IntKind.u64.wrap kk) % 9).toNat, by
    rw [IntKind.wrap_u64]
    have h0 : 0 ≤ kk % 18446744073709551616 := by omega
    rw [Int.tmod_eq_emod_of_nonneg h0]
    omega⟩
  have q9 : q < 9 := by
    have h0 : 0 ≤ kk % 18446744073709551616 := by omega
    rw [IntKind.wrap_u64, Int.tmod_eq_emod_of_nonneg h0] at hq
    omega
  have hq2 := hq.symm
  clear hq hk
  have HS := hide (St.init w NoB)
  have SD0 := hide (fun w => seed24_any p w)
  have SD1 := hide (fun w => seed24_1 p w)
  have HL1 := hide (show ([0] : List UInt8).length = 1 from rfl)
  go_enter Tryd.func3, Tryd.ntmps3
  have M0 := True.intro
  go_upto_region 3 with (first
    | (clear M3; refine wl_storeC rfl rfl (HS.out.alloc _ _) 0 rfl (vs := [.slice B1 32 d1, .slice X 1 x, .slice B2 32 d2, .slice B3 0 d3]) szToken (Nat.le_refl _) rfl rfl one4 ?_; intro w7 hS7; have HS := hide hS7; clear hS7; have M4 := True.intro)
    | (clear M2; go_at_call 4; have HS := hide (HS.out.lit [.int .u8 0] 5 1 1 rfl (by decide)); have HR0 := hide (show Rd _ (.slice (some ⟨_, 0, none⟩) 1 1) 1 1 (bvs [0]) from HS.out.rd 0 rfl); (with_reducible refine (issue_in _ (seedW_len _) (seedW_len _) HL1.out (by omega) (HS.out.rd 2 rfl) (HS.out.rd 1 rfl) HR0.out).mono ?_); rintro e w6 ⟨B1, d1, X, x, B2, d2, B3, d3, G, rfl, hL, hS2⟩; have HL := hide hL; have HS := hide (St.rot _ _ (HS.out.join hS2)); clear hL hS2; have M3 := True.intro)
    | (clear M1; go_at_call 5; (with_reducible refine (SD1.out _).mono ?_); rintro e wy ⟨b2, f2, rfl, hb, ho⟩; have HS := hide (HS.out.row hb ho); clear ho hb; have M2 := True.intro)
    | (clear M0; go_at_call 5; (with_reducible refine (SD0.out _).mono ?_); rintro e wy ⟨b1, f1, rfl, hb, ho⟩; have HS := hide (HS.out.row hb ho); clear ho hb; have M1 := True.intro))
  generalize w6.heap.size = tb at HS ⊢
  have HS := hide (St.cut [_] _ _ (St.cut [_] _ _ (St.cut [_] _ _ HS.out)))
  have HS : Hid (St w NoB w7 (.cells tb #[.slice B1 32 d1, .slice X 1 x, .slice B2 32 d2, .slice B3 0 d3] 26 :: G)) := HS
  go_wp2_with fail
  go_loopw [30] (fun iv wr => ∃ (i : Nat) (B1 : Option Addr) (d1 : Nat) (X : Option Addr) (x : Nat) (B2 : Option Addr) (d2 : Nat) (B3 : Option Addr) (d3 : Nat) (G : List Chunk), i ≤ q ∧ i ≤ 7 ∧ iv = .int .i64 (i : Int) ∧ Laid G (tokB p i) B1 32 d1 X (i + 1) x B2 32 d2 B3 0 d3 ∧ Hid (St w NoB wr (.cells tb #[.slice B1 32 d1, .slice X (i + 1) x, .slice B2 32 d2, .slice B3 0 d3] 26 :: G))) (fun iv _ => q - (intOf iv).toNat)
  case atStart => exact ⟨0, B1, d1, X, x, B2, d2, B3, d3, G, by omega, by omega, rfl, by rw [tokB]; exact HL.out, HS⟩
  case round =>
    clear HS HL
    obtain ⟨i, B1, d1, X, x, B2, d2, B3, d3, G, hi, hi7, rfl, hL, HS⟩ := hrel
    have HL := hide hL
    clear hL
    by_cases hlt : i < q
    · have d0 : decide ((i : Int) < (q : Int)) = true := by simp; omega
      have d0' : decide (i < q) = true := by simp; omega
      have iq : (i : Int) < (q : Int) := by omega
      have ei : (i : Int) % 256 = (i : Int) := by omega
      obtain ⟨sb, hsb⟩ : ∃ s : UInt8, p + 2 + UInt8.ofNat i = s := ⟨_, rfl⟩
      have sv1 : (((p.toNat : Int) + 2) % 256 + (i : Int)) % 256 = (sb.toNat : Int) := by rw [← hsb, Int.emod_add_emod]; exact u8_2i p i (by omega)
      have sv2 : ((p.toNat : Int) + 2 + (i : Int)) % 256 = (sb.toNat : Int) := by rw [← hsb]; exact u8_2i p i (by omega)
      have HSV1 := hide sv1
      have HSV2 := hide sv2
      clear sv1 sv2
      have SDI := hide (fun w => seed24_any sb w)
      have HSM := hide (tokB_smT p i (by omega))
      obtain ⟨rc, rp, M1, M2, M3, M4, hadd, hm1, hm2, hm3, hm4, hcase⟩ := add_r p i hi7
      rw [hsb] at hadd
      clear hsb
      have HADD := hide hadd
      have HM1 := hide hm1
      have HM2 := hide hm2
      have HM3 := hide hm3
      have HM4 := hide hm4
      have HC := hide hcase
      clear hadd hm1 hm2 hm3 hm4 hcase
      go_upto_region 8 with fail
      go_cut [8, 9] (fun a b wx => ∃ (ub : Nat) (V1 : Option Addr) (e1 : Nat) (Y : Option Addr) (y : Nat) (V2 : Option Addr) (e2 : Nat) (V3 : Option Addr) (e3 : Nat) (G' : List Chunk), a = .pointer (some ⟨ub, 0, none⟩) ∧ b = .int .i64 (rc : Int) ∧ Laid G' rp V1 M1 e1 Y M2 y V2 M3 e2 V3 M4 e3 ∧ Laid G' (tokB p i) B1 32 d1 X (i + 1) x B2 32 d2 B3 0 d3 ∧ Hid (St w NoB wx (.cells ub #[.slice V1 M1 e1, .slice Y M2 y, .slice V2 M3 e2, .slice V3 M4 e3] 26 :: .cells tb #[.slice B1 32 d1, .slice X (i + 1) x, .slice B2 32 d2, .slice B3 0 d3] 26 :: G')))
      case first =>
        refine wp_region_S (.op 0 0 (.op 1 1 (.op 2 1 (.op 3 1 (.op 4 0 (.op 5 1 (.op 7 1 (.op 8 0 (.three 6 9 14 (.two 9 14 (.two 10 14 (.op 11 1 (.op 12 1 (.op 13 1 (.op 14 2 (.op 15 2 (.op 16 1 (.nil))))))) (.op 10 2 (.op 11 1 (.op 12 1 (.op 13 1 (.op 15 2 (.op 16 1 (.nil)))))))) (.op 9 2 (.op 10 2 (.op 11 1 (.op 12 1 (.op 13 1 (.op 15 2 (.op 16 1 (.nil))))))))) (.two 6 14 (.two 10 14 (.op 11 1 (.op 12 1 (.op 13 1 (.op 14 2 (.op 15 2 (.op 16 1 (.nil))))))) (.op 10 2 (.op 11 1 (.op 12 1 (.op 13 1 (.op 15 2 (.op 16 1 (.nil)))))))) (.op 6 2 (.op 10 2 (.op 11 1 (.op 12 1 (.op 13 1 (.op 15 2 (.op 16 1 (.nil))))))))) (.two 6 9 (.op 9 2 (.op 10 2 (.op 11 1 (.op 12 1 (.op 13 1 (.op 15 2 (.op 16 1 (.nil)))))))) (.op 6 2 (.op 10 2 (.op 11 1 (.op 12 1 (.op 13 1 (.op 15 2 (.op 16 1 (.nil)))))))))))))))))) (by kernel_rfl) (by kernel_rfl) (fun _ _ _ _ h => h) ?_
        have HS := hide HS.out.drew
        generalize World.drew _ = w3 at HS ⊢
        have t0 : _ = some (Value.slice B1 32 d1) := HS.out.cell 0 rfl 0
        have t1 : _ = some (Value.slice X (i + 1) x) := HS.out.cell 0 rfl 1
        have t2 : _ = some (Value.slice B2 32 d2) := HS.out.cell 0 rfl 2
        have t3 : _ = some (Value.slice B3 0 d3) := HS.out.cell 0 rfl 3
        have HTL := hide (HL.out.mono (G' := .cells tb #[.slice B1 32 d1, .slice X (i + 1) x, .slice B2 32 d2, .slice B3 0 d3] 26 :: G) (fun c hc => List.mem_cons_of_mem _ hc))
        have HA := hide (St.init w3 NoB)
        go_wp2_with (first | (refine wpS_nil ?_)   | ((with_reducible refine fromT_refl ?_); (try simp only [Act.put, nq1, nq2, nq3, nq4, nq5, nq6]))   | ((with_reducible refine fromT_mk (by assumption) ?_); (try simp only [Act.put, nq1, nq2, nq3, nq4, nq5, nq6]))   | (refine wpS_pure (v := ?_) rfl rfl ?_ ?_; rotate_left; (intro wx; go_simp; try go_bits) <;> (with_reducible rfl); (try simp only [Act.put, nq1, nq2, nq3, nq4, nq5, nq6]))   | (refine wpS_load (v := ?_) rfl rfl rfl ?_ ?_; rotate_left; (go_simp; try go_bits) <;> (with_reducible rfl); (try simp only [Act.put, nq1, nq2, nq3, nq4, nq5, nq6]))   | (refine wpS_read (v := ?_) rfl rfl ?_ ?_; rotate_left; (intro wx hx; go_simp; try go_bits) <;> (with_reducible rfl); (try simp only [Act.put, nq1, nq2, nq3, nq4, nq5, nq6]))   | (refine wpS_call rfl rfl ?_; intro K hK)   | (refine wpS_late rfl rfl ?_; intro K hK)   | (refine wpS_any rfl rfl ?_; intro K hK)   | (refine wpS_skip rfl rfl ?_; (try simp only [Act.put, nq1, nq2, nq3, nq4, nq5, nq6])))
        refine wpS_three ?_ ?_ ?_
        · refine wpS_call rfl rfl ?_; intro K hK; refine wp_call rfl enSeed24 (congrArg (fun z => [Value.int .u8 z]) HSV1.out) (SDI.out _) ?_; rintro e wy ⟨Bs, ds, rfl, hb, ho⟩; refine ⟨_, rfl, ?_⟩; have HA := hide (HA.out.row hb ho); clear hb ho; refine hK _ _ (fromT_mk HA.out.below ?_); (try simp only [Act.put, nq1, nq2, nq3, nq4, nq5, nq6])
          refine wpS_two ?_ ?_
          · refine wpS_call rfl rfl ?_; intro K hK; (show Oper.wp _ _ _ _ _ _); (unfold Oper.wp; go_simp); have HA := hide (HA.out.lit [.int .u8 (i : Int)] 5 1 1 rfl (by decide)); generalize World.alloc _ _ = wl at HA ⊢; refine hK _ _ (fromT_mk HA.out.below ?_); (try simp only [Act.put, nq1, nq2, nq3, nq4, nq5, nq6])
            refine wpS_two ?_ ?_
            · refine wpS_call rfl rfl ?_; intro K hK; refine wp_call rfl enAppend24 rfl (append_in (HS.out.call HA.out.below) (HTL.out) HSM.out (seedW_len _) rfl (HA.out.rd 1 rfl) (by rw [← bvs_i i (by omega)]; exact HA.out.rd 0 rfl) HADD.out HM1.out HM2.out HM3.out HM4.out) ?_; rintro e wy ⟨V1, e1, Y, y, V2, e2, V3, e3, G2, rfl, hL2, hS2⟩; refine ⟨_, rfl, ?_⟩; have HL2 := hide hL2; have HA := hide (St.rot _ _ (HA.out.join hS2)); clear hL2 hS2; refine hK _ _ (fromT_mk HA.out.below ?_); (try simp only [Act.put, nq1, nq2, nq3, nq4, nq5, nq6])
              (refine wpS_pure (v := ?_) rfl rfl ?_ ?_; rotate_left; (intro wx; go_simp; try go_bits) <;> (with_reducible rfl)); (try simp only [Act.put, nq1, nq2, nq3, nq4, nq5, nq6])
              (refine wpS_pure (v := ?_) rfl rfl ?_ ?_; rotate_left; (intro wx; go_simp; try go_bits) <;> (with_reducible rfl)); (try simp only [Act.put, nq1, nq2, nq3, nq4, nq5, nq6])
              (refine wpS_pure (v := ?_) rfl rfl ?_ ?_; rotate_left; (intro wx; go_simp; try go_bits) <;> (with_reducible rfl)); (try simp only [Act.put, nq1, nq2, nq3, nq4, nq5, nq6])
              refine wpS_call rfl rfl ?_; intro K hK; (show Oper.wp _ _ _ _ _ _); (unfold Oper.wp; go_simp); have HA := hide (HA.out.alloc #[.slice none 0 0, .slice none 0 0, .slice none 0 0, .slice none 0 0] 26); generalize World.alloc _ _ = wl at HA ⊢; refine hK _ _ (fromT_mk HA.out.below ?_); (try simp only [Act.put, nq1, nq2, nq3, nq4, nq5, nq6])
              refine wpS_call rfl rfl ?_; intro K hK; refine wp_storeC rfl HA.out 0 rfl (vs := [.slice V1 M1 e1, .slice Y M2 y, .slice V2 M3 e2, .slice V3 M4 e3]) szToken (Nat.le_refl _) rfl rfl one4 ?_; intro wz hS9; have HA := hide hS9; clear hS9; refine hK _ _ (fromT_mk HA.out.below ?_); (try simp only [Act.put, nq1, nq2, nq3, nq4, nq5, nq6])
              (refine wpS_pure (v := ?_) rfl rfl ?_ ?_; rotate_left; (intro wx; go_simp; try go_bits) <;> (with_reducible rfl)); (try simp only [Act.put, nq1, nq2, nq3, nq4, nq5, nq6])
              refine wpS_nil ?_
              go_wp2_with fail
              go_meet
              have HA : Hid (St w3 NoB wz (.cells _ #[.slice V1 M1 e1, .slice Y M2 y, .slice V2 M3 e2, .slice V3 M4 e3] 26 :: .row (.slice (some ⟨_, 0, none⟩) 1 1) 5 1 1 [.int .u8 (i : Int)] :: .row (.slice Bs 32 ds) 5 1 32 (bvs (seedW sb)) :: G2)) := HA
              exact ⟨_, V1, e1, Y, y, V2, e2, V3, e3, _, rfl, rfl, HL2.out.mono (fun c hc => List.mem_append_left _ (List.mem_append_right _ (List.mem_append_right _ hc))), HL.out.mono (fun c hc => List.mem_append_right _ hc), hide (meet_perm [] [_, _] G2 G _ _ (HS.out.join HA.out))⟩
            · refine wpS_call rfl rfl ?_; intro K hK; (show Oper.wp _ _ _ _ _ _); (unfold Oper.wp; go_simp); have HA := hide (HA.out.alloc #[.slice none 0 0, .slice none 0 0, .slice none 0 0, .slice none 0 0] 26); generalize World.alloc _ _ = wl at HA ⊢; refine hK _ _ (fromT_mk HA.out.below ?_); (try simp only [Act.put, nq1, nq2, nq3, nq4, nq5, nq6])
              refine wpS_call rfl rfl ?_; intro K hK; refine wp_call rfl enAppend24 rfl (append_in (HS.out.call HA.out.below) (HTL.out) HSM.out (seedW_len _) rfl (HA.out.rd 2 rfl) (by rw [← bvs_i i (by omega)]; exact HA.out.rd 1 rfl) HADD.out HM1.out HM2.out HM3.out HM4.out) ?_; rintro e wy ⟨V1, e1, Y, y, V2, e2, V3, e3, G2, rfl, hL2, hS2⟩; refine ⟨_, rfl, ?_⟩; have HL2 := hide hL2; have HA := hide (St.rot _ _ (HA.out.join hS2)); clear hL2 hS2; refine hK _ _ (fromT_mk HA.out.below ?_); (try simp only [Act.put, nq1, nq2, nq3, nq4, nq5, nq6])
              (refine wpS_pure (v := ?_) rfl rfl ?_ ?_; rotate_left; (intro wx; go_simp; try go_bits) <;> (with_reducible rfl)); (try simp only [Act.put, nq1, nq2, nq3, nq4, nq5, nq6])
              (refine wpS_pure (v := ?_) rfl rfl ?_ ?_; rotate_left; (intro wx; go_simp; try go_bits) <;> (with_reducible rfl)); (try simp only [Act.put, nq1, nq2, nq3, nq4, nq5, nq6])
              (refine wpS_pure (v := ?_) rfl rfl ?_ ?_; rotate_left; (intro wx; go_simp; try go_bits) <;> (with_reducible rfl)); (try simp only [Act.put, nq1, nq2, nq3, nq4, nq5, nq6])
              refine wpS_call rfl rfl ?_; intro K hK; refine wp_storeC rfl HA.out 0 rfl (vs := [.slice V1 M1 e1, .slice Y M2 y, .slice V2 M3 e2, .slice V3 M4 e3]) szToken (Nat.le_refl _) rfl rfl one4 ?_; intro wz hS9; have HA := hide hS9; clear hS9; refine hK _ _ (fromT_mk HA.out.below ?_); (try simp only [Act.put, nq1, nq2, nq3, nq4, nq5, nq6])
              (refine wpS_pure (v := ?_) rfl rfl ?_ ?_; rotate_left; (intro wx; go_simp; try go_bits) <;> (with_reducible rfl)); (try simp only [Act.put, nq1, nq2, nq3, nq4, nq5, nq6])
              refine wpS_nil ?_
              go_wp2_with fail
              go_meet
              have HA : Hid (St w3 NoB wz (.cells _ #[.slice V1 M1 e1, .slice Y M2 y, .slice V2 M3 e2, .slice V3 M4 e3] 26 :: .row (.slice (some ⟨_, 0, none⟩) 1 1) 5 1 1 [.int .u8 (i : Int)] :: .row (.slice Bs 32 ds) 5 1 32 (bvs (seedW sb)) :: G2)) := HA
              exact ⟨_, V1, e1, Y, y, V2, e2, V3, e3, _, rfl, rfl, HL2.out.mono (fun c hc => List.mem_append_left _ (List.mem_append_right _ (List.mem_append_right _ hc))), HL.out.mono (fun c hc => List.mem_append_right _ hc), hide (meet_perm [] [_, _] G2 G _ _ (HS.out.join HA.out))⟩
          · refine wpS_call rfl rfl ?_; intro K hK; (show Oper.wp _ _ _ _ _ _); (unfold Oper.wp; go_simp); have HA := hide (HA.out.alloc #[.slice none 0 0, .slice none 0 0, .slice none 0 0, .slice none 0 0] 26); generalize World.alloc _ _ = wl at HA ⊢; refine hK _ _ (fromT_mk HA.out.below ?_); (try simp only [Act.put, nq1, nq2, nq3, nq4, nq5, nq6])
            refine wpS_call rfl rfl ?_; intro K hK; (show Oper.wp _ _ _ _ _ _); (unfold Oper.wp; go_simp); have HA := hide (HA.out.lit [.int .u8 (i : Int)] 5 1 1 rfl (by decide)); generalize World.alloc _ _ = wl at HA ⊢; refine hK _ _ (fromT_mk HA.out.below ?_); (try simp only [Act.put, nq1, nq2, nq3, nq4, nq5, nq6])
            refine wpS_call rfl rfl ?_; intro K hK; refine wp_call rfl enAppend24 rfl (append_in (HS.out.call HA.out.below) (HTL.out) HSM.out (seedW_len _) rfl (HA.out.rd 2 rfl) (by rw [← bvs_i i (by omega)]; exact HA.out.rd 0 rfl) HADD.out HM1.out HM2.out HM3.out HM4.out) ?_; rintro e wy ⟨V1, e1, Y, y, V2, e2, V3, e3, G2, rfl, hL2, hS2⟩; refine ⟨_, rfl, ?_⟩; have HL2 := hide hL2; have HA := hide (St.rot _ _ (HA.out.join hS2)); clear hL2 hS2; refine hK _ _ (fromT_mk HA.out.below ?_); (try simp only [Act.put, nq1, nq2, nq3, nq4, nq5, nq6])
            (refine wpS_pure (v := ?_) rfl rfl ?_ ?_; rotate_left; (intro wx; go_simp; try go_bits) <;> (with_reducible rfl)); (try simp only [Act.put, nq1, nq2, nq3, nq4, nq5, nq6])
            (refine wpS_pure (v := ?_) rfl rfl ?_ ?_; rotate_left; (intro wx; go_simp; try go_bits) <;> (with_reducible rfl)); (try simp only [Act.put, nq1, nq2, nq3, nq4, nq5, nq6])
            (refine wpS_pure (v := ?_) rfl rfl ?_ ?_; rotate_left; (intro wx; go_simp; try go_bits) <;> (with_reducible rfl)); (try simp only [Act.put, nq1, nq2, nq3, nq4, nq5, nq6])
            refine wpS_call rfl rfl ?_; intro K hK; refine wp_storeC rfl HA.out 1 rfl (vs := [.slice V1 M1 e1, .slice Y M2 y, .slice V2 M3 e2, .slice V3 M4 e3]) szToken (Nat.le_refl _) rfl rfl one4 ?_; intro wz hS9; have HA := hide hS9; clear hS9; refine hK _ _ (fromT_mk HA.out.below ?_); (try simp only [Act.put, nq1, nq2, nq3, nq4, nq5, nq6])
            (refine wpS_pure (v := ?_) rfl rfl ?_ ?_; rotate_left; (intro wx; go_simp; try go_bits) <;> (with_reducible rfl)); (try simp only [Act.put, nq1, nq2, nq3, nq4, nq5, nq6])
            refine wpS_nil ?_
            go_wp2_with fail
            go_meet
            have HA : Hid (St w3 NoB wz (.row (.slice (some ⟨_, 0, none⟩) 1 1) 5 1 1 [.int .u8 (i : Int)] :: .cells _ #[.slice V1 M1 e1, .slice Y M2 y, .slice V2 M3 e2, .slice V3 M4 e3] 26 :: .row (.slice Bs 32 ds) 5 1 32 (bvs (seedW sb)) :: G2)) := HA
            exact ⟨_, V1, e1, Y, y, V2, e2, V3, e3, _, rfl, rfl, HL2.out.mono (fun c hc => List.mem_append_left _ (List.mem_append_right _ (List.mem_append_right _ hc))), HL.out.mono (fun c hc => List.mem_append_right _ hc), hide (meet_perm [_] [_] G2 G _ _ (HS.out.join HA.out))⟩
        · refine wpS_call rfl rfl ?_; intro K hK; (show Oper.wp _ _ _ _ _ _); (unfold Oper.wp; go_simp); have HA := hide (HA.out.lit [.int .u8 (i : Int)] 5 1 1 rfl (by decide)); generalize World.alloc _ _ = wl at HA ⊢; refine hK _ _ (fromT_mk HA.out.below ?_); (try simp only [Act.put, nq1, nq2, nq3, nq4, nq5, nq6])
          refine wpS_two ?_ ?_
          · refine wpS_call rfl rfl ?_; intro K hK; refine wp_call rfl enSeed24 (congrArg (fun z => [Value.int .u8 z]) HSV2.out) (SDI.out _) ?_; rintro e wy ⟨Bs, ds, rfl, hb, ho⟩; refine ⟨_, rfl, ?_⟩; have HA := hide (HA.out.row hb ho); clear hb ho; refine hK _ _ (fromT_mk HA.out.below ?_); (try simp only [Act.put, nq1, nq2, nq3, nq4, nq5, nq6])
            refine wpS_two ?_ ?_
            · refine wpS_call rfl rfl ?_; intro K hK; refine wp_call rfl enAppend24 rfl (append_in (HS.out.call HA.out.below) (HTL.out) HSM.out (seedW_len _) rfl (HA.out.rd 0 rfl) (by rw [← bvs_i i (by omega)]; exact HA.out.rd 1 rfl) HADD.out HM1.out HM2.out HM3.out HM4.out) ?_; rintro e wy ⟨V1, e1, Y, y, V2, e2, V3, e3, G2, rfl, hL2, hS2⟩; refine ⟨_, rfl, ?_⟩; have HL2 := hide hL2; have HA := hide (St.rot _ _ (HA.out.join hS2)); clear hL2 hS2; refine hK _ _ (fromT_mk HA.out.below ?_); (try simp only [Act.put, nq1, nq2, nq3, nq4, nq5, nq6])
              (refine wpS_pure (v := ?_) rfl rfl ?_ ?_; rotate_left; (intro wx; go_simp; try go_bits) <;> (with_reducible rfl)); (try simp only [Act.put, nq1, nq2, nq3, nq4, nq5, nq6])
              (refine wpS_pure (v := ?_) rfl rfl ?_ ?_; rotate_left; (intro wx; go_simp; try go_bits) <;> (with_reducible rfl)); (try simp only [Act.put, nq1, nq2, nq3, nq4, nq5, nq6])
              (refine wpS_pure (v := ?_) rfl rfl ?_ ?_; rotate_left; (intro wx; go_simp; try go_bits) <;> (with_reducible rfl)); (try simp only [Act.put, nq1, nq2, nq3, nq4, nq5, nq6])
              refine wpS_call rfl rfl ?_; intro K hK; (show Oper.wp _ _ _ _ _ _); (unfold Oper.wp; go_simp); have HA := hide (HA.out.alloc #[.slice none 0 0, .slice none 0 0, .slice none 0 0, .slice none 0 0] 26); generalize World.alloc _ _ = wl at HA ⊢; refine hK _ _ (fromT_mk HA.out.below ?_); (try simp only [Act.put, nq1, nq2, nq3, nq4, nq5, nq6])
              refine wpS_call rfl rfl ?_; intro K hK; refine wp_storeC rfl HA.out 0 rfl (vs := [.slice V1 M1 e1, .slice Y M2 y, .slice V2 M3 e2, .slice V3 M4 e3]) szToken (Nat.le_refl _) rfl rfl one4 ?_; intro wz hS9; have HA := hide hS9; clear hS9; refine hK _ _ (fromT_mk HA.out.below ?_); (try simp only [Act.put, nq1, nq2, nq3, nq4, nq5, nq6])
              (refine wpS_pure (v := ?_) rfl rfl ?_ ?_; rotate_left; (intro wx; go_simp; try go_bits) <;> (with_reducible rfl)); (try simp only [Act.put, nq1, nq2, nq3, nq4, nq5, nq6])
              refine wpS_nil ?_
              go_wp2_with fail
              go_meet
              have HA : Hid (St w3 NoB wz (.cells _ #[.slice V1 M1 e1, .slice Y M2 y, .slice V2 M3 e2, .slice V3 M4 e3] 26 :: .row (.slice Bs 32 ds) 5 1 32 (bvs (seedW sb)) :: .row (.slice (some ⟨_, 0, none⟩) 1 1) 5 1 1 [.int .u8 (i : Int)] :: G2)) := HA
              exact ⟨_, V1, e1, Y, y, V2, e2, V3, e3, _, rfl, rfl, HL2.out.mono (fun c hc => List.mem_append_left _ (List.mem_append_right _ (List.mem_append_right _ hc))), HL.out.mono (fun c hc => List.mem_append_right _ hc), hide (meet_perm [] [_, _] G2 G _ _ (HS.out.join HA.out))⟩
            · refine wpS_call rfl rfl ?_; intro K hK; (show Oper.wp _ _ _ _ _ _); (unfold Oper.wp; go_simp); have HA := hide (HA.out.alloc #[.slice none 0 0, .slice none 0 0, .slice none 0 0, .slice none 0 0] 26); generalize World.alloc _ _ = wl at HA ⊢; refine hK _ _ (fromT_mk HA.out.below ?_); (try simp only [Act.put, nq1, nq2, nq3, nq4, nq5, nq6])
              refine wpS_call rfl rfl ?_; intro K hK; refine wp_call rfl enAppend24 rfl (append_in (HS.out.call HA.out.below) (HTL.out) HSM.out (seedW_len _) rfl (HA.out.rd 1 rfl) (by rw [← bvs_i i (by omega)]; exact HA.out.rd 2 rfl) HADD.out HM1.out HM2.out HM3.out HM4.out) ?_; rintro e wy ⟨V1, e1, Y, y, V2, e2, V3, e3, G2, rfl, hL2, hS2⟩; refine ⟨_, rfl, ?_⟩; have HL2 := hide hL2; have HA := hide (St.rot _ _ (HA.out.join hS2)); clear hL2 hS2; refine hK _ _ (fromT_mk HA.out.below ?_); (try simp only [Act.put, nq1, nq2, nq3, nq4, nq5, nq6])
              (refine wpS_pure (v := ?_) rfl rfl ?_ ?_; rotate_left; (intro wx; go_simp; try go_bits) <;> (with_reducible rfl)); (try simp only [Act.put, nq1, nq2, nq3, nq4, nq5, nq6])
              (refine wpS_pure (v := ?_) rfl rfl ?_ ?_; rotate_left; (intro wx; go_simp; try go_bits) <;> (with_reducible rfl)); (try simp only [Act.put, nq1, nq2, nq3, nq4, nq5, nq6])
              (refine wpS_pure (v := ?_) rfl rfl ?_ ?_; rotate_left; (intro wx; go_simp; try go_bits) <;> (with_reducible rfl)); (try simp only [Act.put, nq1, nq2, nq3, nq4, nq5, nq6])
              refine wpS_call rfl rfl ?_; intro K hK; refine wp_storeC rfl HA.out 0 rfl (vs := [.slice V1 M1 e1, .slice Y M2 y, .slice V2 M3 e2, .slice V3 M4 e3]) szToken (Nat.le_refl _) rfl rfl one4 ?_; intro wz hS9; have HA := hide hS9; clear hS9; refine hK _ _ (fromT_mk HA.out.below ?_); (try simp only [Act.put, nq1, nq2, nq3, nq4, nq5, nq6])
              (refine wpS_pure (v := ?_) rfl rfl ?_ ?_; rotate_left; (intro wx; go_simp; try go_bits) <;> (with_reducible rfl)); (try simp only [Act.put, nq1, nq2, nq3, nq4, nq5, nq6])
              refine wpS_nil ?_
              go_wp2_with fail
              go_meet
              have HA : Hid (St w3 NoB wz (.cells _ #[.slice V1 M1 e1, .slice Y M2 y, .slice V2 M3 e2, .slice V3 M4 e3] 26 :: .row (.slice Bs 32 ds) 5 1 32 (bvs (seedW sb)) :: .row (.slice (some ⟨_, 0, none⟩) 1 1) 5 1 1 [.int .u8 (i : Int)] :: G2)) := HA
              exact ⟨_, V1, e1, Y, y, V2, e2, V3, e3, _, rfl, rfl, HL2.out.mono (fun c hc => List.mem_append_left _ (List.mem_append_right _ (List.mem_append_right _ hc))), HL.out.mono (fun c hc => List.mem_append_right _ hc), hide (meet_perm [] [_, _] G2 G _ _ (HS.out.join HA.out))⟩
          · refine wpS_call rfl rfl ?_; intro K hK; (show Oper.wp _ _ _ _ _ _); (unfold Oper.wp; go_simp); have HA := hide (HA.out.alloc #[.slice none 0 0, .slice none 0 0, .slice none 0 0, .slice none 0 0] 26); generalize World.alloc _ _ = wl at HA ⊢; refine hK _ _ (fromT_mk HA.out.below ?_); (try simp only [Act.put, nq1, nq2, nq3, nq4, nq5, nq6])
            refine wpS_call rfl rfl ?_; intro K hK; refine wp_call rfl enSeed24 (congrArg (fun z => [Value.int .u8 z]) HSV2.out) (SDI.out _) ?_; rintro e wy ⟨Bs, ds, rfl, hb, ho⟩; refine ⟨_, rfl, ?_⟩; have HA := hide (HA.out.row hb ho); clear hb ho; refine hK _ _ (fromT_mk HA.out.below ?_); (try simp only [Act.put, nq1, nq2, nq3, nq4, nq5, nq6])
            refine wpS_call rfl rfl ?_; intro K hK; refine wp_call rfl enAppend24 rfl (append_in (HS.out.call HA.out.below) (HTL.out) HSM.out (seedW_len _) rfl (HA.out.rd 0 rfl) (by rw [← bvs_i i (by omega)]; exact HA.out.rd 2 rfl) HADD.out HM1.out HM2.out HM3.out HM4.out) ?_; rintro e wy ⟨V1, e1, Y, y, V2, e2, V3, e3, G2, rfl, hL2, hS2⟩; refine ⟨_, rfl, ?_⟩; have HL2 := hide hL2; have HA := hide (St.rot _ _ (HA.out.join hS2)); clear hL2 hS2; refine hK _ _ (fromT_mk HA.out.below ?_); (try simp only [Act.put, nq1, nq2, nq3, nq4, nq5, nq6])
            (refine wpS_pure (v := ?_) rfl rfl ?_ ?_; rotate_left; (intro wx; go_simp; try go_bits) <;> (with_reducible rfl)); (try simp only [Act.put, nq1, nq2, nq3, nq4, nq5, nq6])
            (refine wpS_pure (v := ?_) rfl rfl ?_ ?_; rotate_left; (intro wx; go_simp; try go_bits) <;> (with_reducible rfl)); (try simp only [Act.put, nq1, nq2, nq3, nq4, nq5, nq6])
            (refine wpS_pure (v := ?_) rfl rfl ?_ ?_; rotate_left; (intro wx; go_simp; try go_bits) <;> (with_reducible rfl)); (try simp only [Act.put, nq1, nq2, nq3, nq4, nq5, nq6])
            refine wpS_call rfl rfl ?_; intro K hK; refine wp_storeC rfl HA.out 1 rfl (vs := [.slice V1 M1 e1, .slice Y M2 y, .slice V2 M3 e2, .slice V3 M4 e3]) szToken (Nat.le_refl _) rfl rfl one4 ?_; intro wz hS9; have HA := hide hS9; clear hS9; refine hK _ _ (fromT_mk HA.out.below ?_); (try simp only [Act.put, nq1, nq2, nq3, nq4, nq5, nq6])
            (refine wpS_pure (v := ?_) rfl rfl ?_ ?_; rotate_left; (intro wx; go_simp; try go_bits) <;> (with_reducible rfl)); (try simp only [Act.put, nq1, nq2, nq3, nq4, nq5, nq6])
            refine wpS_nil ?_
            go_wp2_with fail
            go_meet
            have HA : Hid (St w3 NoB wz (.row (.slice Bs 32 ds) 5 1 32 (bvs (seedW sb)) :: .cells _ #[.slice V1 M1 e1, .slice Y M2 y, .slice V2 M3 e2, .slice V3 M4 e3] 26 :: .row (.slice (some ⟨_, 0, none⟩) 1 1) 5 1 1 [.int .u8 (i : Int)] :: G2)) := HA
            exact ⟨_, V1, e1, Y, y, V2, e2, V3, e3, _, rfl, rfl, HL2.out.mono (fun c hc => List.mem_append_left _ (List.mem_append_right _ (List.mem_append_right _ hc))), HL.out.mono (fun c hc => List.mem_append_right _ hc), hide (meet_perm [_] [_] G2 G _ _ (HS.out.join HA.out))⟩
        · refine wpS_call rfl rfl ?_; intro K hK; (show Oper.wp _ _ _ _ _ _); (unfold Oper.wp; go_simp); have HA := hide (HA.out.alloc #[.slice none 0 0, .slice none 0 0, .slice none 0 0, .slice none 0 0] 26); generalize World.alloc _ _ = wl at HA ⊢; refine hK _ _ (fromT_mk HA.out.below ?_); (try simp only [Act.put, nq1, nq2, nq3, nq4, nq5, nq6])
          refine wpS_two ?_ ?_
          · refine wpS_call rfl rfl ?_; intro K hK; refine wp_call rfl enSeed24 (congrArg (fun z => [Value.int .u8 z]) HSV2.out) (SDI.out _) ?_; rintro e wy ⟨Bs, ds, rfl, hb, ho⟩; refine ⟨_, rfl, ?_⟩; have HA := hide (HA.out.row hb ho); clear hb ho; refine hK _ _ (fromT_mk HA.out.below ?_); (try simp only [Act.put, nq1, nq2, nq3, nq4, nq5, nq6])
            refine wpS_call rfl rfl ?_; intro K hK; (show Oper.wp _ _ _ _ _ _); (unfold Oper.wp; go_simp); have HA := hide (HA.out.lit [.int .u8 (i : Int)] 5 1 1 rfl (by decide)); generalize World.alloc _ _ = wl at HA ⊢; refine hK _ _ (fromT_mk HA.out.below ?_); (try simp only [Act.put, nq1, nq2, nq3, nq4, nq5, nq6])
            refine wpS_call rfl rfl ?_; intro K hK; refine wp_call rfl enAppend24 rfl (append_in (HS.out.call HA.out.below) (HTL.out) HSM.out (seedW_len _) rfl (HA.out.rd 1 rfl) (by rw [← bvs_i i (by omega)]; exact HA.out.rd 0 rfl) HADD.out HM1.out HM2.out HM3.out HM4.out) ?_; rintro e wy ⟨V1, e1, Y, y, V2, e2, V3, e3, G2, rfl, hL2, hS2⟩; refine ⟨_, rfl, ?_⟩; have HL2 := hide hL2; have HA := hide (St.rot _ _ (HA.out.join hS2)); clear hL2 hS2; refine hK _ _ (fromT_mk HA.out.below ?_); (try simp only [Act.put, nq1, nq2, nq3, nq4, nq5, nq6])
            (refine wpS_pure (v := ?_) rfl rfl ?_ ?_; rotate_left; (intro wx; go_simp; try go_bits) <;> (with_reducible rfl)); (try simp only [Act.put, nq1, nq2, nq3, nq4, nq5, nq6])
            (refine wpS_pure (v := ?_) rfl rfl ?_ ?_; rotate_left; (intro wx; go_simp; try go_bits) <;> (with_reducible rfl)); (try simp only [Act.put, nq1, nq2, nq3, nq4, nq5, nq6])
            (refine wpS_pure (v := ?_) rfl rfl ?_ ?_; rotate_left; (intro wx; go_simp; try go_bits) <;> (with_reducible rfl)); (try simp only [Act.put, nq1, nq2, nq3, nq4, nq5, nq6])
            refine wpS_call rfl rfl ?_; intro K hK; refine wp_storeC rfl HA.out 2 rfl (vs := [.slice V1 M1 e1, .slice Y M2 y, .slice V2 M3 e2, .slice V3 M4 e3]) szToken (Nat.le_refl _) rfl rfl one4 ?_; intro wz hS9; have HA := hide hS9; clear hS9; refine hK _ _ (fromT_mk HA.out.below ?_); (try simp only [Act.put, nq1, nq2, nq3, nq4, nq5, nq6])
            (refine wpS_pure (v := ?_) rfl rfl ?_ ?_; rotate_left; (intro wx; go_simp; try go_bits) <;> (with_reducible rfl)); (try simp only [Act.put, nq1, nq2, nq3, nq4, nq5, nq6])
            refine wpS_nil ?_
            go_wp2_with fail
            go_meet
            have HA : Hid (St w3 NoB wz (.row (.slice (some ⟨_, 0, none⟩) 1 1) 5 1 1 [.int .u8 (i : Int)] :: .row (.slice Bs 32 ds) 5 1 32 (bvs (seedW sb)) :: .cells _ #[.slice V1 M1 e1, .slice Y M2 y, .slice V2 M3 e2, .slice V3 M4 e3] 26 :: G2)) := HA
            exact ⟨_, V1, e1, Y, y, V2, e2, V3, e3, _, rfl, rfl, HL2.out.mono (fun c hc => List.mem_append_left _ (List.mem_append_right _ (List.mem_append_right _ hc))), HL.out.mono (fun c hc => List.mem_append_right _ hc), hide (meet_perm [_, _] [] G2 G _ _ (HS.out.join HA.out))⟩
          · refine wpS_call rfl rfl ?_; intro K hK; (show Oper.wp _ _ _ _ _ _); (unfold Oper.wp; go_simp); have HA := hide (HA.out.lit [.int .u8 (i : Int)] 5 1 1 rfl (by decide)); generalize World.alloc _ _ = wl at HA ⊢; refine hK _ _ (fromT_mk HA.out.below ?_); (try simp only [Act.put, nq1, nq2, nq3, nq4, nq5, nq6])
            refine wpS_call rfl rfl ?_; intro K hK; refine wp_call rfl enSeed24 (congrArg (fun z => [Value.int .u8 z]) HSV2.out) (SDI.out _) ?_; rintro e wy ⟨Bs, ds, rfl, hb, ho⟩; refine ⟨_, rfl, ?_⟩; have HA := hide (HA.out.row hb ho); clear hb ho; refine hK _ _ (fromT_mk HA.out.below ?_); (try simp only [Act.put, nq1, nq2, nq3, nq4, nq5, nq6])
            refine wpS_call rfl rfl ?_; intro K hK; refine wp_call rfl enAppend24 rfl (append_in (HS.out.call HA.out.below) (HTL.out) HSM.out (seedW_len _) rfl (HA.out.rd 0 rfl) (by rw [← bvs_i i (by omega)]; exact HA.out.rd 1 rfl) HADD.out HM1.out HM2.out HM3.out HM4.out) ?_; rintro e wy ⟨V1, e1, Y, y, V2, e2, V3, e3, G2, rfl, hL2, hS2⟩; refine ⟨_, rfl, ?_⟩; have HL2 := hide hL2; have HA := hide (St.rot _ _ (HA.out.join hS2)); clear hL2 hS2; refine hK _ _ (fromT_mk HA.out.below ?_); (try simp only [Act.put, nq1, nq2, nq3, nq4, nq5, nq6])
            (refine wpS_pure (v := ?_) rfl rfl ?_ ?_; rotate_left; (intro wx; go_simp; try go_bits) <;> (with_reducible rfl)); (try simp only [Act.put, nq1, nq2, nq3, nq4, nq5, nq6])
            (refine wpS_pure (v := ?_) rfl rfl ?_ ?_; rotate_left; (intro wx; go_simp; try go_bits) <;> (with_reducible rfl)); (try simp only [Act.put, nq1, nq2, nq3, nq4, nq5, nq6])
            (refine wpS_pure (v := ?_) rfl rfl ?_ ?_; rotate_left; (intro wx; go_simp; try go_bits) <;> (with_reducible rfl)); (try simp only [Act.put, nq1, nq2, nq3, nq4, nq5, nq6])
            refine wpS_call rfl rfl ?_; intro K hK; refine wp_storeC rfl HA.out 2 rfl (vs := [.slice V1 M1 e1, .slice Y M2 y, .slice V2 M3 e2, .slice V3 M4 e3]) szToken (Nat.le_refl _) rfl rfl one4 ?_; intro wz hS9; have HA := hide hS9; clear hS9; refine hK _ _ (fromT_mk HA.out.below ?_); (try simp only [Act.put, nq1, nq2, nq3, nq4, nq5, nq6])
            (refine wpS_pure (v := ?_) rfl rfl ?_ ?_; rotate_left; (intro wx; go_simp; try go_bits) <;> (with_reducible rfl)); (try simp only [Act.put, nq1, nq2, nq3, nq4, nq5, nq6])
            refine wpS_nil ?_
            go_wp2_with fail
            go_meet
            have HA : Hid (St w3 NoB wz (.row (.slice Bs 32 ds) 5 1 32 (bvs (seedW sb)) :: .row (.slice (some ⟨_, 0, none⟩) 1 1) 5 1 1 [.int .u8 (i : Int)] :: .cells _ #[.slice V1 M1 e1, .slice Y M2 y, .slice V2 M3 e2, .slice V3 M4 e3] 26 :: G2)) := HA
            exact ⟨_, V1, e1, Y, y, V2, e2, V3, e3, _, rfl, rfl, HL2.out.mono (fun c hc => List.mem_append_left _ (List.mem_append_right _ (List.mem_append_right _ hc))), HL.out.mono (fun c hc => List.mem_append_right _ hc), hide (meet_perm [_, _] [] G2 G _ _ (HS.out.join HA.out))⟩
      case rest =>
        clear HS HL
        obtain ⟨ub, V1, e1, Y, y, V2, e2, V3, e3, G', rfl, rfl, hL2, hL, HS⟩ := hcut
        have HL := hide hL
        have HL2 := hide hL2
        clear hL hL2
        rcases HC.out with ⟨h7, rfl, rfl, rfl, rfl, rfl, rfl⟩ | ⟨h7, rfl, rfl, rfl, rfl, rfl, rfl⟩
        · have HSM2 := hide (tokB_smT p (i + 1) (by omega))
          have dg : decide ((8 : Int) < (i : Int) + 2) = false := by simp; omega
          clear HADD HM1 HM2 HM3 HM4 HC HSV1 HSV2 SDI
          go_upto_region 11 with fail
          refine wp_region_T [(0, 0), (2, 0), (1, 2), (3, 2), (4, 1), (5, 1)] (by kernel_rfl) (by kernel_rfl) (fun _ _ _ _ h => h) ?_
          have HS := hide HS.out.drew
          generalize World.drew _ = w4 at HS ⊢
          have t0 : _ = some (Value.slice B1 32 d1) := HS.out.cell 1 rfl 0
          have t1 : _ = some (Value.slice X (i + 1) x) := HS.out.cell 1 rfl 1
          have t2 : _ = some (Value.slice B2 32 d2) := HS.out.cell 1 rfl 2
          have t3 : _ = some (Value.slice B3 0 d3) := HS.out.cell 1 rfl 3
          have u0 : _ = some (Value.slice V1 32 e1) := HS.out.cell 0 rfl 0
          have u1 : _ = some (Value.slice Y (i + 2) y) := HS.out.cell 0 rfl 1
          have u2 : _ = some (Value.slice V2 32 e2) := HS.out.cell 0 rfl 2
          have u3 : _ = some (Value.slice V3 0 e3) := HS.out.cell 0 rfl 3
          have M0 := True.intro
          go_upto_region 12 with (first
            | (clear M1; go_at_call 8; (with_reducible refine (ids_in HS.out (HL2.out.mono (fun c hc => List.mem_cons_of_mem _ (List.mem_cons_of_mem _ (List.mem_append_right _ hc)))) HSM2.out).mono ?_); rintro e w6 ⟨Z2, z2, qs2, G3, rfl, hl2, hq2, hg2, hS2⟩; have hb := hS2.below; have HS := hide (fwd3 _ _ _ _ _ (HS.out.join hS2)); have HLQ2 := hide hl2; have HQ2 := hide hq2; have HG2 := hide hg2; clear hl2 hq2 hg2 hS2; have M2 := True.intro)
            | (clear M0; go_at_call 8; (with_reducible refine (ids_in HS.out (HL.out.mono (fun c hc => List.mem_cons_of_mem _ (List.mem_cons_of_mem _ hc))) HSM.out).mono ?_); rintro e w5 ⟨Z1, z1, qs1, G2, rfl, hl1, hq1, hg1, hS2⟩; have hb := hS2.below; have HS := hide (fwd2 _ _ _ _ (HS.out.join hS2)); have HLQ1 := hide hl1; have HQ1 := hide hq1; have HG1 := hide hg1; clear hl1 hq1 hg1 hS2; have M1 := True.intro)
            | (refine wpT_nil ?_)   | ((with_reducible refine fromT_refl ?_); (try simp only [Act.put, nq1, nq2, nq3, nq4, nq5, nq6]))   | ((with_reducible refine fromT_mk (by assumption) ?_); (try simp only [Act.put, nq1, nq2, nq3, nq4, nq5, nq6]))   | (refine wpT_pure (v := ?_) rfl rfl ?_ ?_; rotate_left; (intro wx; go_simp; try go_bits) <;> (with_reducible rfl); (try simp only [Act.put, nq1, nq2, nq3, nq4, nq5, nq6]))   | (refine wpT_load (v := ?_) rfl rfl rfl ?_ ?_; rotate_left; (go_simp; try go_bits) <;> (with_reducible rfl); (try simp only [Act.put, nq1, nq2, nq3, nq4, nq5, nq6]))   | (refine wpT_read (v := ?_) rfl rfl ?_ ?_; rotate_left; (intro wx hx; go_simp; try go_bits) <;> (with_reducible rfl); (try simp only [Act.put, nq1, nq2, nq3, nq4, nq5, nq6]))   | (refine wpT_call rfl rfl ?_; intro K hK)   | (refine wpT_late rfl rfl ?_; intro K hK)   | (refine wpT_any rfl rfl ?_; intro K hK)   | (refine wpT_skip rfl rfl ?_; (try simp only [Act.put, nq1, nq2, nq3, nq4, nq5, nq6])))
          clear t0 t1 t2 t3 u0 u1 u2 u3 hb
          have HS : Hid (St w NoB _ (.cells ub #[.slice V1 32 e1, .slice Y (i + 2) y, .slice V2 32 e2, .slice V3 0 e3] 26 :: .cells tb #[.slice B1 32 d1, .slice X (i + 1) x, .slice B2 32 d2, .slice B3 0 d3] 26 :: .row (.slice Z1 (i + 1) z1) 23 1 (i + 1) (qs1.flatMap PcV.cells) :: .row (.slice Z2 (i + 2) z2) 23 1 (i + 2) (qs2.flatMap PcV.cells) :: (G3 ++ (G2 ++ G')))) := HS
          go_wp2_with fail
          go_loopw [83] (fun jv wr => ∃ (j : Nat), j ≤ i + 1 ∧ jv = .int .i64 (j : Int) ∧ Hid (St w NoB wr (.cells ub #[.slice V1 32 e1, .slice Y (i + 2) y, .slice V2 32 e2, .slice V3 0 e3] 26 :: .cells tb #[.slice B1 32 d1, .slice X (i + 1) x, .slice B2 32 d2, .slice B3 0 d3] 26 :: .row (.slice Z1 (i + 1) z1) 23 1 (i + 1) (qs1.flatMap PcV.cells) :: .row (.slice Z2 (i + 2) z2) 23 1 (i + 2) (qs2.flatMap PcV.cells) :: (G3 ++ (G2 ++ G'))))) (fun jv _ => i + 1 - (intOf jv).toNat)
          case atStart => exact ⟨0, by omega, rfl, HS⟩
          case round =>
            clear HS
            obtain ⟨j, hj, rfl, HS⟩ := hrel
            by_cases hjl : j < i + 1
            · have dj : decide ((j : Int) < (i : Int) + 1) = true := by simp; omega
              have dj' : decide (j < i + 1) = true := by simp; omega
              have jn : (j : Int) < (i : Int) + 1 := by omega
              have jn2 : (j : Int) < (i : Int) + 2 := by omega
              obtain ⟨a1, ha1⟩ : ∃ a, qs1[j]? = some a := ⟨_, List.getElem?_eq_getElem (by rw [HLQ1.out]; exact hjl)⟩
              obtain ⟨a2, ha2⟩ : ∃ a, qs2[j]? = some a := ⟨_, List.getElem?_eq_getElem (by rw [HLQ2.out]; omega)⟩
              have hb12 : a2.b = a1.b := by
                have e1 : (qs1.map PcV.b)[j]? = some a1.b := by rw [List.getElem?_map, ha1]; rfl
                have e2 : (qs2.map PcV.b)[j]? = some a2.b := by rw [List.getElem?_map, ha2]; rfl
                rw [HQ1.out] at e1
                rw [HQ2.out, tokB_same p i j hjl, e1] at e2
                exact (Option.some.inj e2).symm
              have hm1 := HG1.out a1 (List.mem_of_getElem? ha1)
              have hm2 := HG2.out a2 (List.mem_of_getElem? ha2)
              go_upto_region 17 with fail
              refine wp_region_T [(0, 1), (1, 1), (2, 1), (3, 0), (4, 0), (5, 1), (6, 1), (7, 1), (8, 0), (9, 0), (10, 1)] (by kernel_rfl) (by kernel_rfl) (fun _ _ _ _ h => h) ?_
              have HS := hide HS.out.drew
              generalize World.drew _ = wd at HS ⊢
              obtain ⟨c1, o1, hc1, k1⟩ := rd_cell (HS.out.rd 2 rfl) (pcs_get ha1)
              obtain ⟨c2, o2, hc2, k2⟩ := rd_cell (HS.out.rd 3 rfl) (pcs_get ha2)
              subst hc1 hc2
              have hr1 : Rd wd (.slice a1.A a1.b.length a1.c) 1 a1.b.length (bvs a1.b) := ch_ok HS.out (List.mem_cons_of_mem _ (List.mem_cons_of_mem _ (List.mem_cons_of_mem _ (List.mem_cons_of_mem _ (List.mem_append_right _ (List.mem_append_left _ hm1))))))
              have hr2 : Rd wd (.slice a2.A a2.b.length a2.c) 1 a2.b.length (bvs a2.b) := ch_ok HS.out (List.mem_cons_of_mem _ (List.mem_cons_of_mem _ (List.mem_cons_of_mem _ (List.mem_cons_of_mem _ (List.mem_append_left _ hm2)))))
              rw [hb12] at hr2 k2
              have cv1 := fun x (hx : From wd x) => run_str (P := Tryd.prog) Tryd.underlying23 Tryd.underlying5 Tryd.underlying9 (hr1.below hx)
              have cv2 := fun x (hx : From wd x) => run_str (P := Tryd.prog) Tryd.underlying23 Tryd.underlying5 Tryd.underlying9 (hr2.below hx)
              clear hr1 hr2 hm1 hm2 hb12 ha1 ha2
              go_wp2_with (first | (refine wpT_nil ?_)   | ((with_reducible refine fromT_refl ?_); (try simp only [Act.put, nq1, nq2, nq3, nq4, nq5, nq6]))   | ((with_reducible refine fromT_mk (by assumption) ?_); (try simp only [Act.put, nq1, nq2, nq3, nq4, nq5, nq6]))   | (refine wpT_pure (v := ?_) rfl rfl ?_ ?_; rotate_left; (intro wx; go_simp; try go_bits) <;> (with_reducible rfl); (try simp only [Act.put, nq1, nq2, nq3, nq4, nq5, nq6]))   | (refine wpT_load (v := ?_) rfl rfl rfl ?_ ?_; rotate_left; (go_simp; try go_bits) <;> (with_reducible rfl); (try simp only [Act.put, nq1, nq2, nq3, nq4, nq5, nq6]))   | (refine wpT_read (v := ?_) rfl rfl ?_ ?_; rotate_left; (intro wx hx; go_simp; try go_bits) <;> (with_reducible rfl); (try simp only [Act.put, nq1, nq2, nq3, nq4, nq5, nq6]))   | (refine wpT_call rfl rfl ?_; intro K hK)   | (refine wpT_late rfl rfl ?_; intro K hK)   | (refine wpT_any rfl rfl ?_; intro K hK)   | (refine wpT_skip rfl rfl ?_; (try simp only [Act.put, nq1, nq2, nq3, nq4, nq5, nq6])))
              go_roundw
              case rel => exact ⟨j + 1, by omega, by go_num, HS⟩
              case measure => (simp [intOf]) <;> omega
            · obtain rfl : j = i + 1 := by omega
              have dj : decide ((i : Int) + 1 < (i : Int) + 1) = false := by simp
              have dj2 : decide (((i + 1 : Nat) : Int) < (i : Int) + 1) = false := by simp
              have u0 : _ = some (Value.slice V1 32 e1) := HS.out.cell 0 rfl 0
              have u1 : _ = some (Value.slice Y (i + 2) y) := HS.out.cell 0 rfl 1
              have u2 : _ = some (Value.slice V2 32 e2) := HS.out.cell 0 rfl 2
              have u3 : _ = some (Value.slice V3 0 e3) := HS.out.cell 0 rfl 3
              go_wp2_with (refine wl_storeC rfl rfl HS.out 1 rfl (vs := [.slice V1 32 e1, .slice Y (i + 2) y, .slice V2 32 e2, .slice V3 0 e3]) szToken (Nat.le_refl _) rfl rfl one4 ?_; intro w9 hS9; have HS9 := hide hS9; clear hS9)
              go_roundw
              case rel =>

                exact ⟨i + 1, V1, e1, Y, y, V2, e2, V3, e3, _, by omega, by omega, by go_num, HL2.out.mono (fun c hc => List.mem_cons_of_mem _ (List.mem_cons_of_mem _ (List.mem_append_right _ (List.mem_append_right _ hc)))), hide HS9.out.tail⟩
              case measure => (simp [intOf]) <;> omega
        · have dg : decide ((8 : Int) < (i : Int) + 2) = true := by simp; omega
          have u1 : _ = some (Value.slice Y 0 y) := HS.out.cell 0 rfl 1
          go_wp2_with (go_at_call 7; (with_reducible refine (awake24_any _).mono ?_); rintro e wy ⟨rfl, hb⟩; have HS := hide (HS.out.call hb))
          go_ret
          exact ⟨rfl, HS.out.below⟩
    · obtain rfl : i = q := by omega
      have d0 : decide ((i : Int) < (i : Int)) = false := by simp
      have d0' : decide (i < i) = false := by simp
      have ND := hide (fun w => next24_any p i q9 w)
      obtain ⟨zs, f1, f2, f3, f4, f5, r1, r2, r3, r4, r5⟩ := HL.out.open HS.out.tail
      rw [tokB_e] at r2
      have HR2 := hide r2
      clear f1 f2 f3 f4 f5 r1 r2 r3 r4 r5
      go_upto_region 22 with fail
      refine wp_region_T [(0, 1), (1, 0), (2, 1), (3, 1), (4, 1), (5, 1), (6, 1), (7, 1), (8, 0), (9, 0), (10, 1), (11, 1), (12, 2), (13, 0), (14, 1), (15, 1), (16, 1), (17, 2), (18, 1), (19, 1)] (by kernel_rfl) (by kernel_rfl) (fun _ _ _ _ h => h) ?_
      have HB := hide (St.init wr NoB).drew
      have HS := hide HS.out.drew
      generalize hwd : World.drew _ = wd at HS HB ⊢
      have t1 : _ = some (Value.slice X (i + 1) x) := HS.out.cell 0 rfl 1
      have t2 : _ = some (Value.slice B2 32 d2) := HS.out.cell 0 rfl 2
      have cv2 := fun x (hx : From wd x) => run_str (P := Tryd.prog) Tryd.underlying23 Tryd.underlying5 Tryd.underlying9 ((HR2.out.below HB.out.below).below hx)
      have M0 := True.intro
      go_wp2_with (first
        | (clear M1; go_at_call 7; (with_reducible refine (awake24_any _).mono ?_); rintro e wz ⟨rfl, hb⟩; have HS := hide (HS.out.call hb); have M2 := True.intro)
        | (clear M0; go_at_call 9; (with_reducible refine (ND.out _).mono ?_); rintro e wy ⟨Bn, dn, rfl, hb, ho⟩; have HS := hide (HS.out.call hb); have HN := hide (rd_own ho); have cv3 := fun x (hx : From wy x) => run_str (P := Tryd.prog) Tryd.underlying23 Tryd.underlying5 Tryd.underlying9 (HN.out.below hx); clear ho; have M1 := True.intro)
        | (refine wpT_nil ?_)   | ((with_reducible refine fromT_refl ?_); (try simp only [Act.put, nq1, nq2, nq3, nq4, nq5, nq6]))   | ((with_reducible refine fromT_mk (by assumption) ?_); (try simp only [Act.put, nq1, nq2, nq3, nq4, nq5, nq6]))   | (refine wpT_pure (v := ?_) rfl rfl ?_ ?_; rotate_left; (intro wx; go_simp; try go_bits) <;> (with_reducible rfl); (try simp only [Act.put, nq1, nq2, nq3, nq4, nq5, nq6]))   | (refine wpT_load (v := ?_) rfl rfl rfl ?_ ?_; rotate_left; (go_simp; try go_bits) <;> (with_reducible rfl); (try simp only [Act.put, nq1, nq2, nq3, nq4, nq5, nq6]))   | (refine wpT_read (v := ?_) rfl rfl ?_ ?_; rotate_left; (intro wx hx; go_simp; try go_bits) <;> (with_reducible rfl); (try simp only [Act.put, nq1, nq2, nq3, nq4, nq5, nq6]))   | (refine wpT_call rfl rfl ?_; intro K hK)   | (refine wpT_late rfl rfl ?_; intro K hK)   | (refine wpT_any rfl rfl ?_; intro K hK)   | (refine wpT_skip rfl rfl ?_; (try simp only [Act.put, nq1, nq2, nq3, nq4, nq5, nq6])))
      go_ret
      exact ⟨rfl, HS.out.below⟩
end Go.Proofs.YtnohmgpmmhlloaaDoor

namespace Go.Proofs.YtnohmgpmmhlloaaDoor
open Go.RowKit
theorem chainBlocks_nat (p : Nat) (hp : p < 256) (k : Int) (hk : I64 k) (w : World) :
    Calls Tryd.prog 3 #[.int .u8 (p : Int), .int .i64 k] w fun e w' => e = .returned (.bool true) ∧ Below w.heap.size w w' := by
  have h := chainBlocks_walk (UInt8.ofNat p) k w hk
  rwa [show ((UInt8.ofNat p).toNat : Int) = (p : Int) from by rw [UInt8.toNat_ofNat']; omega] at h
end Go.Proofs.YtnohmgpmmhlloaaDoor

namespace Go.Proofs.YtnohmgpmmhlloaaDoor
open Go.ChangeShapes Go.WideShapes Go.ChangeAt Go.RowKit Go.Deep
open Go.ChangeMaps (open_string shut_string)

section
variable {H : Type} {enc : TypeId × Value → H} {P : Program}

theorem trodAll_below (hl : laidOutB P = true) {W W' : World} (hb : Below W.heap.size W W') : ∀ (ts : List TypeId) (vs : List Value) (ds : List (DataW H)) (ps : List MemPlace),
    (ts.all fun t => P.readableRec t && decide (t < P.types.size)) = true → DataW.TrodAll enc P W 0 (fun _ => true) true ts vs ds ps → DataW.TrodAll enc P W' 0 (fun b => decide (b < W.heap.size)) true ts vs ds ps
  | [], vs, ds, ps, _, h => by
    obtain ⟨rfl, rfl, rfl⟩ := trodAll_nil h
    exact rfl
  | t :: ts, vs, ds, ps, hts, h => by
    obtain ⟨v, vs', d, ds', p, q, rfl, rfl, rfl, hd, hr⟩ := trodAll_cons h
    simp only [List.all_cons, Bool.and_eq_true, decide_eq_true_eq] at hts
    obtain ⟨⟨k1, k2⟩, k3⟩ := hts
    have lt : ∀ x ∈ p, x.block < W.heap.size := by
      obtain ⟨m, hm⟩ := hd
      exact DataW.trod_lt m _ _ _ hm
    exact ⟨p, q, Below.trod hl k1 k2 hd hb lt, trodAll_below hl hb ts vs' ds' q (by simpa using k3) hr, rfl⟩
theorem trodAll_length : ∀ (ts : List TypeId) {w : World} {base : Nat} {spare : Nat → Bool} {held : Bool} (vs : List Value) (ds : List (DataW H)) (ps : List MemPlace), DataW.TrodAll enc P w base spare held ts vs ds ps → ds.length = ts.length
  | [], _, _, _, _, vs, ds, ps, h => by
    obtain ⟨rfl, rfl, rfl⟩ := trodAll_nil h
    rfl
  | t :: ts, _, _, _, _, vs, ds, ps, h => by
    obtain ⟨v, vs', d, ds', p, q, rfl, rfl, rfl, hd, hr⟩ := trodAll_cons h
    rw [List.length_cons, List.length_cons, trodAll_length ts vs' ds' q hr]

structure Told (P : Program) (enc : TypeId × Value → H) (W : World) (ts : List TypeId) (args : Array Value) (ds : List (DataW H)) (p : List MemPlace) : Prop where
  trod : DataW.TrodAll enc P W 0 (fun _ => true) true ts args.toList ds p
  ok : ∃ base, ∀ (j : Nat) (t : TypeId) (v : Value), ts.toArray[j]? = some t → args[j]? = some v → Value.okWide P W .any base t v
  size : (DataW.weightsEach P ts ds).all (· ≤ reachBytes) = true
end

section
variable {H : Type} {enc : TypeId × Value → H} {P : Program} {W : World}

end
end Go.Proofs.YtnohmgpmmhlloaaDoor

namespace Go.Proofs.YtnohmgpmmhlloaaDoor
open Go.ChangeShapes Go.WideShapes Go.ChangeAt Go.RowKit Go.Deep

theorem i64_of {n : Int} (h : (Lit.int .i64 n).wf = true) : I64 n := by
  simp [Lit.wf, IntKind.min, IntKind.max, IntKind.signed, IntKind.bits] at h
  unfold I64
  omega

theorem u8_of {n : Int} (h : (Lit.int .u8 n).wf = true) : ∃ m : Nat, n = m ∧ m < 256 := by
  simp [Lit.wf, IntKind.min, IntKind.max, IntKind.signed, IntKind.bits] at h
  exact ⟨n.toNat, by omega, by omega⟩
section
variable {H : Type} {enc : TypeId × Value → H} {P : Program} {w W : World} {base : Nat} {spare : Nat → Bool} {held : Bool}
end
end Go.Proofs.YtnohmgpmmhlloaaDoor

namespace Go.Proofs.YtnohmgpmmhlloaaDoor
open Go.ChangeShapes Go.WideShapes Go.ChangeAt Go.RowKit

theorem own : ownKnob Tryd.prog.godebug = none := by kernel_rfl
theorem laidOut : laidOutB Tryd.prog = true := by kernel_rfl
end Go.Proofs.YtnohmgpmmhlloaaDoor

namespace Go.Proofs.YtnohmgpmmhlloaaDoor
open Go.ChangeShapes Go.WideShapes Go.ChangeAt Go.RowKit Go.Deep

theorem lift_laid {C : Checked} (own : ownKnob C.prog.godebug = none) {os : Os} (started : os.Started) {f : FuncId} {fn : Func} (noInit : C.prog.inits.idxOf? f = none) (hfn : C.prog.funcs[f]? = some fn)
    {s : ChangeSpec} (hvars : s.vars = []) (hbare : s.plain.varTypes C.prog = []) {tb : TypeId} (hres : fn.resultTypes = #[tb]) (hbool : C.prog.underlying tb = some .bool) (hl : laidOutB C.prog = true)
    (hts : (fn.params.toList.all fun t => C.prog.readableRec t && decide (t < C.prog.types.size)) = true) {l : List (String × DataW Unit)}
    {H : Type} {enc : TypeId × Value → H} (hspec : ∀ (ds : List (DataW H)), ds.length = fn.params.toList.length → (s.fn H ds).results = [.lit (.bool true)] ∧ (s.fn H ds).args = ds ∧ (s.fn H ds).vars = [])
    (witness : ∃ (w : World) (tape : Tape) (i : Input), w.os = os ∧ (w.forCall tape i).Shaped C.prog ∧ i.vars = [] ∧ Input.okWide C.prog (w.forCall tape i) .any w.heap.size f i ∧
      ((s.pre enc C.prog fn [] false (w.forCall tape i).memory i.args ∧ laidMetH C.prog l (w.forCall tape i).memory) ∧ sizedMet enc C.prog fn (OpenSpec.ofChange s) false (w.forCall tape i).memory i.args) ∧ Assume.holds {} C.prog (lone (Frame.enter C.prog f i.args .normal) [] (w.forCall tape i)))
    (walk : ∀ (W : World) (args : Array Value) (ds : List (DataW H)) (p : List MemPlace), Told C.prog enc W fn.params.toList args ds p → laidMetH C.prog l W →
      Calls C.prog f args W fun e W' => e = .returned (.bool true) ∧ Below W.heap.size W W') :
    ReturnsInHanded {} C os f .any (fun w args => (s.pre enc C.prog fn [] false w args ∧ laidMetH C.prog l w) ∧ sizedMet enc C.prog fn (OpenSpec.ofChange s) false w args) (s.post enc C.prog fn false true false false) := by
  refine returnsInHanded_of_change_and (C := C) (X := fun w _ => laidMetH C.prog l w) (fun _ _ _ hh h => h.of_heap hh) own started noInit hfn witness ?_
  intro W base args ds gs before hval hW _ hsz hL _
  have hW' := hW
  obtain ⟨p, q, hA, hV, rfl, hfz, hnd⟩ := hW
  rw [hvars] at hV
  obtain ⟨rfl, rfl⟩ := trodVars_none hV
  have hlen := trodAll_length fn.params.toList args.toList ds p hA
  obtain ⟨s1, s2, s3⟩ := hspec ds hlen
  refine (walk W args ds p ⟨hA, ⟨base, fun j t v ht hv => hval j t v (by simpa using ht) hv⟩, by rw [hbare] at hsz; simpa using hsz⟩ hL).mono fun e W' ⟨he, bel⟩ => ?_
  subst he
  refine ⟨_, rfl, ds, [], _, [], p, [], hW', ?_, ?_, ?_, bel.frame _, fun h => by cases h⟩
  · rw [List.append_nil, s1, hres]
    exact trodAll_mk1 (shut_bool hbool _)
  · rw [List.append_nil, s2]
    exact trodAll_below hl bel _ _ _ _ hts hA
  · rw [List.append_nil, s3, hvars]
    exact rfl

def LL : List (String × DataW Unit) := [("math/bits.deBruijn32tab", Rows.laid_math_bits_deBruijn32tab), ("math/bits.deBruijn64tab", Rows.laid_math_bits_deBruijn64tab), ("internal/strconv.uint64pow10", Rows.laid_internal_strconv_uint64pow10), ("strconv.ErrRange", Rows.laid_strconv_ErrRange), ("strconv.ErrSyntax", Rows.laid_strconv_ErrSyntax)]
theorem door_met (os : Os) (args : Array Value) : laidMetH Tryd.prog LL ((World.doorLaid Tryd.prog 400 os).forCall (fun _ _ => 0) ⟨#[], args, []⟩).memory := by
  rw [MakeChecks.laidMetH_plain _ _ _ (by kernel_rfl)]
  exact laidMet_of_run' 8 (by kernel_rfl) (by kernel_rfl)
end Go.Proofs.YtnohmgpmmhlloaaDoor
