/-
 Joined of texts of mine, in build order: C1, C3, Pw11, C4, Mc, Br, Bs, Bu, Bw, Bx, Bv, By, Ic, Id, Ra, Rb, Rc, Rd, Hw, Md, Oa, Ob, Oc, Od, Oe, Of, Og, Oh, C5, C7, Me, Mg, Mh, C2. Each says what it proves at its own head.
-/
import Derived.Deep.LoopGhost
import Derived.BigQuiet
import Derived.Test.YtnohmgpmmhlloaaGreatDoorPh
set_option linter.unusedSimpArgs false
set_option linter.unusedVariables false
set_option maxRecDepth 100000
set_option maxHeartbeats 25600000

namespace Go.Proofs.YtnohmgpmmhlloaaGreatDoor.S6
set_option maxRecDepth 100000
open Go.RowKit
theorem fds_putR (num : Int) (b r : List UInt8) (hm : mayB num = true) (hb : b.length ≤ 65536) : fds (putR num b ++ r) = (fds r).pre [⟨num.toNat, true, 0, b⟩] :=
 fds_ok _ _ _ (fun h => putR_ne num b hm hb (List.append_eq_nil_iff.1 h).1) (fd_putR num b r hm hb)
theorem fdsF_bads : ∀ (n : Nat) (l : List UInt8) (k : Nat), fdsF n l = .bad k → k = 2 ∨ k = 3
 | 0, _, _, h => by unfold fdsF at h; cases h
 | n + 1, l, k, h => by
  unfold fdsF at h
  by_cases hl : l = []
  ·rw [if_pos hl] at h; cases h
  ·rw [if_neg hl] at h
   cases hf : fd l with
   | bad j => rw [hf] at h; injection h with h; subst h; exact fd_bads l _ hf
   | ok f r =>
    rw [hf] at h
    cases hr : fdsF n r with
    | bad j =>
     replace h : (fdsF n r).pre [f] = .bad k := h
     rw [hr] at h
     injection h with h
     subst h
     exact fdsF_bads n r _ hr
    | ok x =>
     replace h : (fdsF n r).pre [f] = .bad k := h
     rw [hr] at h
     cases h
theorem fds_bads (l : List UInt8) (k : Nat) (h : fds l = .bad k) : k = 2 ∨ k = 3 := by
 unfold fds at h
 exact fdsF_bads _ _ _ h
theorem fdsF_len : ∀ (n : Nat) (l : List UInt8) (fs : List FdV), fdsF n l = .ok fs → fs.length ≤ l.length
 | 0, _, fs, h => by
  unfold fdsF at h
  injection h with h
  subst h
  exact Nat.zero_le _
 | n + 1, l, fs, h => by
  unfold fdsF at h
  by_cases hl : l = []
  ·rw [if_pos hl] at h
   injection h with h
   subst h
   exact Nat.zero_le _
  ·rw [if_neg hl] at h
   cases hf : fd l with
   | bad j => rw [hf] at h; cases h
   | ok f r =>
    rw [hf] at h
    replace h : (fdsF n r).pre [f] = .ok fs := h
    have hlen := fd_len l f r hf
    cases hr : fdsF n r with
    | bad j => rw [hr] at h; cases h
    | ok x =>
     rw [hr] at h
     injection h with h
     have := fdsF_len n r x hr
     rw [← h, List.length_append, List.length_singleton]
     omega
theorem fds_len (l : List UInt8) (fs : List FdV) (h : fds l = .ok fs) : fs.length ≤ l.length := by
 unfold fds at h
 exact fdsF_len _ _ _ h
def spEnc (x : Sp) : List UInt8 := if x.k.length + x.v.length = 0 then accL [x.b, x.n, x.s] 3 else accL [x.b, x.n, x.s, x.k, x.v] 5
theorem accL3 (a b c : List UInt8) : accL [a, b, c] 3 = putR 1 a ++ (putR 2 b ++ (putR 3 c ++ [])) := rfl
theorem accL5 (a b c d e : List UInt8) : accL [a, b, c, d, e] 5 = putR 1 a ++ (putR 2 b ++ (putR 3 c ++ (putR 4 d ++ (putR 5 e ++ [])))) := rfl
def blksL (l : List Sp) : List UInt8 := l.flatMap fun x => putR 1 (spEnc x)
def encL (p : Tp) : List UInt8 := (blksL p.l ++ someL 2 p.e) ++ someL 3 p.z
def spLen (x : Sp) : Nat := x.b.length + x.n.length + x.s.length + x.k.length + x.v.length
def totL (l : List Sp) : Nat := (l.map spLen).sum
theorem spEnc_le (x : Sp) : (spEnc x).length ≤ spLen x + 100 := by
 have h1 := putR_le 1 x.b
 have h2 := putR_le 2 x.n
 have h3 := putR_le 3 x.s
 have h4 := putR_le 4 x.k
 have h5 := putR_le 5 x.v
 unfold spEnc spLen
 split
 ·rw [accL3]
  simp only [List.length_append, List.length_nil]
  omega
 ·rw [accL5]
  simp only [List.length_append, List.length_nil]
  omega
theorem blksL_le : ∀ l : List Sp, (blksL l).length ≤ totL l + 120 * l.length
 | [] => by simp [blksL, totL]
 | x :: l => by
  have ih := blksL_le l
  have h1 := putR_le 1 (spEnc x)
  have h2 := spEnc_le x
  unfold blksL totL at ih ⊢
  rw [List.flatMap_cons, List.length_append, List.map_cons, List.sum_cons, List.length_cons]
  omega
theorem blksL_snoc (l : List Sp) (x : Sp) : blksL (l ++ [x]) = blksL l ++ putR 1 (spEnc x) := by
 unfold blksL
 rw [List.flatMap_append, List.flatMap_cons, List.flatMap_nil, List.append_nil]
theorem blksL_app (l m : List Sp) : blksL (l ++ m) = blksL l ++ blksL m := List.flatMap_append
theorem someL_le (num : Int) (b : List UInt8) : (someL num b).length ≤ b.length + 20 := by
 unfold someL
 split
 ·simp
 ·exact putR_le num b
theorem encL_le (p : Tp) : (encL p).length ≤ totL p.l + 120 * p.l.length + p.e.length + p.z.length + 40 := by
 have h1 := blksL_le p.l
 have h2 := someL_le 2 p.e
 have h3 := someL_le 3 p.z
 unfold encL
 rw [List.length_append, List.length_append]
 omega
def rise : Nat → List FdV → Bool
 | _, [] => true
 | last, f :: fs => f.whole && (decide (f.num ≤ 5) && (decide (last < f.num) && rise f.num fs))
def look (l : List FdV) (j : Nat) : List UInt8 := match l.find? (fun f => f.num == j) with | some f => f.b | none => []
def hasN (l : List FdV) (j : Nat) : Nat := match l.find? (fun f => f.num == j) with | some _ => 1 | none => 0
def sgR (fs : List FdV) : Option Sp := if rise 0 fs = true ∧ hasN fs 1 + hasN fs 2 + hasN fs 3 = 3 ∧ hasN fs 4 = hasN fs 5 then some ⟨look fs 1, look fs 2, look fs 3, look fs 4, look fs 5⟩ else none
inductive SgQ where
 | ok (x : Sp)
 | bad (k : Nat)
def sgB (b : List UInt8) : SgQ := match fds b with
 | .bad k => .bad k
 | .ok fs => match sgR fs with
  | none => .bad 3
  | some x => .ok x
def tkF : Nat → Tp → List FdV → Rz
 | _, t, [] => ⟨0, t⟩
 | last, t, f :: fs =>
  if f.whole = false ∨ f.num < last ∨ (f.num = last ∧ f.num ≠ 1) then ⟨3, tp0⟩
  else if f.num = 1 then match sgB f.b with
   | .bad k => ⟨k, tp0⟩
   | .ok x => tkF 1 ⟨t.r, t.l ++ [x], t.e, t.z⟩ fs
  else if f.num = 2 then tkF 2 ⟨t.r, t.l, f.b, t.z⟩ fs
  else if f.num = 3 then tkF 3 ⟨t.r, t.l, t.e, f.b⟩ fs
  else ⟨3, tp0⟩
def decRz (raw root : List UInt8) : Rz := match fds raw with
 | .bad k => ⟨k, tp0⟩
 | .ok fs => if (tkF 0 ⟨root, [], [], []⟩ fs).c ≠ 0 then ⟨(tkF 0 ⟨root, [], [], []⟩ fs).c, tp0⟩ else if (tkF 0 ⟨root, [], [], []⟩ fs).p.l.length = 0 ∨ 8 < (tkF 0 ⟨root, [], [], []⟩ fs).p.l.length then ⟨3, tp0⟩ else ⟨0, (tkF 0 ⟨root, [], [], []⟩ fs).p⟩
def Sp.tiny (x : Sp) : Prop := x.b.length ≤ 5000 ∧ x.n.length ≤ 5000 ∧ x.s.length ≤ 5000 ∧ x.k.length ≤ 5000 ∧ x.v.length ≤ 5000
theorem tiny_enc {x : Sp} (h : Sp.tiny x) : (spEnc x).length ≤ 25100 := by
 have := spEnc_le x
 obtain ⟨h1, h2, h3, h4, h5⟩ := h
 unfold spLen at this
 omega
theorem fds_enc (x : Sp) (h : Sp.tiny x) : fds (spEnc x) = .ok (if x.k.length + x.v.length = 0 then [⟨1, true, 0, x.b⟩, ⟨2, true, 0, x.n⟩, ⟨3, true, 0, x.s⟩] else [⟨1, true, 0, x.b⟩, ⟨2, true, 0, x.n⟩, ⟨3, true, 0, x.s⟩, ⟨4, true, 0, x.k⟩, ⟨5, true, 0, x.v⟩]) := by
 obtain ⟨h1, h2, h3, h4, h5⟩ := h
 unfold spEnc
 split
 ·rw [accL3, fds_putR 1 _ _ (by decide) (by omega), fds_putR 2 _ _ (by decide) (by omega), fds_putR 3 _ _ (by decide) (by omega), fds_nil]
  rfl
 ·rw [accL5, fds_putR 1 _ _ (by decide) (by omega), fds_putR 2 _ _ (by decide) (by omega), fds_putR 3 _ _ (by decide) (by omega), fds_putR 4 _ _ (by decide) (by omega), fds_putR 5 _ _ (by decide) (by omega), fds_nil]
  rfl
theorem sgB_enc (x : Sp) (h : Sp.tiny x) : sgB (spEnc x) = .ok x := by
 obtain ⟨b, n, s, k, v⟩ := x
 unfold sgB
 rw [fds_enc _ h]
 by_cases h0 : k.length + v.length = 0
 ·obtain rfl : k = [] := List.eq_nil_of_length_eq_zero (by omega)
  obtain rfl : v = [] := List.eq_nil_of_length_eq_zero (by omega)
  rfl
 ·rw [if_neg (show ¬ (Sp.k ⟨b, n, s, k, v⟩).length + (Sp.v ⟨b, n, s, k, v⟩).length = 0 from h0)]
  rfl
theorem tkF_blks : ∀ (l : List Sp) (last : Nat) (t : Tp) (fs : List FdV), last ≤ 1 → (∀ x ∈ l, Sp.tiny x) → ∃ last', last' ≤ 1 ∧ tkF last t (l.map (fun x => (⟨1, true, 0, spEnc x⟩ : FdV)) ++ fs) = tkF last' ⟨t.r, t.l ++ l, t.e, t.z⟩ fs
 | [], last, t, fs, h, _ => ⟨last, h, by rw [List.append_nil]; rfl⟩
 | x :: l, last, t, fs, h, hx => by
  obtain ⟨q, hq, e⟩ := tkF_blks l 1 ⟨t.r, t.l ++ [x], t.e, t.z⟩ fs (Nat.le_refl _) fun y hy => hx y (List.mem_cons_of_mem _ hy)
  refine ⟨q, hq, ?_⟩
  rw [List.map_cons, List.cons_append]
  rw [tkF]
  rw [if_neg (by simp; omega), if_pos rfl]
  show (match sgB (spEnc x) with | .bad k => _ | .ok x => _) = _
  rw [sgB_enc x (hx x (List.mem_cons_self ..))]
  show tkF 1 ⟨t.r, t.l ++ [x], t.e, t.z⟩ _ = _
  rw [e]
  show tkF q ⟨t.r, (t.l ++ [x]) ++ l, t.e, t.z⟩ fs = _
  rw [List.append_assoc]
  rfl
theorem fds_blks : ∀ (l : List Sp) (r : List UInt8), (∀ x ∈ l, Sp.tiny x) → fds (blksL l ++ r) = (fds r).pre (l.map fun x => (⟨1, true, 0, spEnc x⟩ : FdV))
 | [], r, _ => by rw [List.map_nil, FsR.pre_nil]; rfl
 | x :: l, r, h => by
  have ih := fds_blks l r fun y hy => h y (List.mem_cons_of_mem _ hy)
  have hx := tiny_enc (h x (List.mem_cons_self ..))
  rw [show blksL (x :: l) ++ r = putR 1 (spEnc x) ++ (blksL l ++ r) from by unfold blksL; rw [List.flatMap_cons, List.append_assoc], fds_putR 1 _ _ (by decide) (by omega), ih, FsR.pre_pre]
  rfl
def someF (num : Nat) (b : List UInt8) : List FdV := if b.length = 0 then [] else [⟨num, true, 0, b⟩]
theorem fds_some2 (b r : List UInt8) (h : b.length ≤ 65536) : fds (someL 2 b ++ r) = (fds r).pre (someF 2 b) := by
 unfold someL someF
 split
 ·rw [FsR.pre_nil]; rfl
 ·rw [fds_putR 2 _ _ (by decide) h]; rfl
theorem fds_some3 (b r : List UInt8) (h : b.length ≤ 65536) : fds (someL 3 b ++ r) = (fds r).pre (someF 3 b) := by
 unfold someL someF
 split
 ·rw [FsR.pre_nil]; rfl
 ·rw [fds_putR 3 _ _ (by decide) h]; rfl
structure Tiny (p : Tp) : Prop where
 n0 : 0 < p.l.length
 n8 : p.l.length ≤ 8
 e : p.e.length ≤ 5000
 z : p.z.length ≤ 5000
 l : ∀ x ∈ p.l, Sp.tiny x
theorem dec_enc (p : Tp) (h : Tiny p) : decRz (encL p) p.r = ⟨0, p⟩ := by
 obtain ⟨r, l, e, z⟩ := p
 obtain ⟨h0, h8, he, hz, hl⟩ := h
 have hf : fds (encL ⟨r, l, e, z⟩) = .ok (l.map (fun x => (⟨1, true, 0, spEnc x⟩ : FdV)) ++ (someF 2 e ++ (someF 3 z ++ []))) := by
  show fds ((blksL l ++ someL 2 e) ++ someL 3 z) = _
  rw [List.append_assoc, fds_blks l _ hl, fds_some2 e _ (by exact Nat.le_trans he (by decide)), show someL 3 z = someL 3 z ++ [] from (List.append_nil _).symm, fds_some3 z _ (by exact Nat.le_trans hz (by decide)), fds_nil]
  rfl
 have ht : tkF 0 ⟨r, [], [], []⟩ (l.map (fun x => (⟨1, true, 0, spEnc x⟩ : FdV)) ++ (someF 2 e ++ (someF 3 z ++ []))) = ⟨0, ⟨r, l, e, z⟩⟩ := by
  obtain ⟨q, hq, e1⟩ := tkF_blks l 0 ⟨r, [], [], []⟩ (someF 2 e ++ (someF 3 z ++ [])) (by decide) hl
  rw [e1]
  unfold someF
  by_cases c2 : e.length = 0
  ·obtain rfl : e = [] := List.eq_nil_of_length_eq_zero c2
   rw [if_pos c2]
   by_cases c3 : z.length = 0
   ·obtain rfl : z = [] := List.eq_nil_of_length_eq_zero c3
    rw [if_pos c3]
    rfl
   ·rw [if_neg c3]
    show tkF q _ [⟨3, true, 0, z⟩] = _
    unfold tkF
    rw [if_neg (by simp; omega)]
    rfl
  ·rw [if_neg c2]
   show tkF q _ (⟨2, true, 0, e⟩ :: _) = _
   unfold tkF
   rw [if_neg (by simp; omega)]
   by_cases c3 : z.length = 0
   ·obtain rfl : z = [] := List.eq_nil_of_length_eq_zero c3
    rw [if_pos c3]
    rfl
   ·rw [if_neg c3]
    rfl
 unfold decRz
 rw [hf]
 show (if (tkF 0 ⟨r, [], [], []⟩ _).c ≠ 0 then _ else _) = _
 rw [ht, if_neg (by simp), if_neg (show ¬ (l.length = 0 ∨ 8 < l.length) by have a0 : 0 < l.length := h0; have a8 : l.length ≤ 8 := h8; omega)]
end Go.Proofs.YtnohmgpmmhlloaaGreatDoor.S6

namespace Go.Proofs.YtnohmgpmmhlloaaGreatDoor.S6
set_option maxRecDepth 100000
open Go.RowKit
set_option linter.unusedSimpArgs false
theorem wblock_any {w0 w : World} {H : List Chunk} (g : Nat) (v : Value) (l : List UInt8) (A1 A2 A3 A4 A5 : Option Addr) (n1 n2 n3 n4 n5 c1 c2 c3 c4 c5 : Nat) (l1 l2 l3 l4 l5 : List UInt8) (hl1 : l1.length = n1) (hn1 : n1 ≤ 10000) (hr1 : Rd w0 (.slice A1 n1 c1) 1 n1 (bvs l1)) (hl2 : l2.length = n2) (hn2 : n2 ≤ 10000) (hr2 : Rd w0 (.slice A2 n2 c2) 1 n2 (bvs l2)) (hl3 : l3.length = n3) (hn3 : n3 ≤ 10000) (hr3 : Rd w0 (.slice A3 n3 c3) 1 n3 (bvs l3)) (hl4 : l4.length = n4) (hn4 : n4 ≤ 10000) (hr4 : Rd w0 (.slice A4 n4 c4) 1 n4 (bvs l4)) (hl5 : l5.length = n5) (hn5 : n5 ≤ 10000) (hr5 : Rd w0 (.slice A5 n5 c5) 1 n5 (bvs l5)) (hl : l.length ≤ 800000) (hS : St w0 NoB w (MsgW g 0 v l H)) :
  Calls Tryz.prog 59 #[.pointer (some ⟨g, 0, none⟩), .agg #[.slice A1 n1 c1, .slice A2 n2 c2, .slice A3 n3 c3, .slice A4 n4 c4, .slice A5 n5 c5]] w fun e w' => e = .returned (.tuple #[]) ∧ ∃ v', St w0 NoB w' (MsgW g 0 v' (l ++ putR 1 (spEnc ⟨l1, l2, l3, l4, l5⟩)) H) := by
 unfold spEnc
 by_cases h : n4 + n5 = 0
 ·obtain rfl : n4 = 0 := by omega
  obtain rfl : n5 = 0 := by omega
  rw [if_pos (show (Sp.k ⟨l1, l2, l3, l4, l5⟩).length + (Sp.v ⟨l1, l2, l3, l4, l5⟩).length = 0 by show l4.length + l5.length = 0; omega)]
  exact wblock3 g v l A1 A2 A3 A4 A5 n1 n2 n3 c1 c2 c3 c4 c5 l1 l2 l3 l4 l5 hl1 hn1 hr1 hl2 hn2 hr2 hl3 hn3 hr3 hl4 hn4 hr4 hl5 hn5 hr5 hl hS
 ·rw [if_neg (show ¬ (Sp.k ⟨l1, l2, l3, l4, l5⟩).length + (Sp.v ⟨l1, l2, l3, l4, l5⟩).length = 0 by show ¬ l4.length + l5.length = 0; omega)]
  exact wblock5 g v l A1 A2 A3 A4 A5 n1 n2 n3 n4 n5 c1 c2 c3 c4 c5 l1 l2 l3 l4 l5 hl1 hn1 hr1 hl2 hn2 hr2 hl3 hn3 hr3 hl4 hn4 hr4 hl5 hn5 hr5 h hl hS
theorem enLong (args : Array Value) (w : World) : (callFunc 58 args).run Tryz.prog w = .ok (.enter 58 args) w := by kernel_rfl
theorem cont_no (A : Option Addr) (n c : Nat) (l : List Sg) (w : World) (hl : l.length = n) (hn : n ≤ 1000) (ht : ∀ x ∈ l, Sp.tiny x.p) (hr : Rd w (.slice A n c) 5 n (sgCells l)) :
  Calls Tryz.prog 57 #[.slice A n c, .func (.func 58) #[] #[]] w fun e w' => e = .returned (.bool false) ∧ Below w.heap.size w w' := by
 subst hl
 refine (contS_any 58 enLong #[] (fun _ => false) (.slice A l.length c) l w hr (by omega) ?_).mono ?_
 ·intro w' hw x hx
  obtain ⟨h1, h2, h3, h4, h5⟩ := ht x hx
  exact long_core x.b.A x.n.A x.s.A x.k.A x.v.A x.b.b.length x.n.b.length x.s.b.length x.k.b.length x.v.b.length x.b.c x.n.c x.s.c x.k.c x.v.c (Nat.le_trans h1 (by decide)) (Nat.le_trans h2 (by decide)) (Nat.le_trans h3 (by decide)) (Nat.le_trans h4 (by decide)) (Nat.le_trans h5 (by decide)) w'
 ·rintro e w' ⟨rfl, hb⟩
  refine ⟨?_, hb⟩
  have : l.any (fun _ => false) = false := by simp
  rw [this]
def EncS (w : World) (q : Nat) (L : List UInt8) (e : Ending) (w' : World) : Prop := ∃ B d, e = .returned (.tuple #[.slice B q d, .int .i64 0]) ∧ Below w.heap.size w w' ∧ w'.ownsRow w.heap.size 5 1 (.slice B q d) q (bvs L)
theorem blks_take (l : List Sg) (k : Nat) (x : Sg) (h : l[k]? = some x) : blksL ((l.take (k + 1)).map Sg.p) = blksL ((l.take k).map Sg.p) ++ putR 1 (spEnc x.p) := by
 rw [List.take_add_one, h, List.map_append]
 exact blksL_snoc _ _
theorem blks_pre (p : Tp) (k : Nat) : (blksL (p.l.take k)).length ≤ (encL p).length := by
 have h : blksL p.l = blksL (p.l.take k) ++ blksL (p.l.drop k) := by
  conv => lhs; rw [← List.take_append_drop k p.l]
  exact blksL_app _ _
 unfold encL
 rw [List.length_append, List.length_append, h, List.length_append]
 omega
theorem encode_ok (A1 A2 A3 A : Option Addr) (m1 m2 m3 n c1 c2 c3 c q : Nat) (l1 l2 l3 : List UInt8) (l : List Sg) (w : World) (hl2 : l2.length = m2) (hl3 : l3.length = m3) (hl : l.length = n) (h0 : 0 < n) (h8 : n ≤ 8) (hm2 : m2 ≤ 5000) (hm3 : m3 ≤ 5000) (ht : ∀ x ∈ l, Sp.tiny x.p) (hq : (encL ⟨l1, l.map Sg.p, l2, l3⟩).length = q) (hq2 : q ≤ 65536)
  (hr2 : Rd w (.slice A2 m2 c2) 1 m2 (bvs l2)) (hr3 : Rd w (.slice A3 m3 c3) 1 m3 (bvs l3)) (hr : Rd w (.slice A n c) 5 n (sgCells l)) (hok : ∀ x ∈ l, SgOK w x) :
  Calls Tryz.prog 24 #[.agg #[.slice A1 m1 c1, .slice A n c, .slice A2 m2 c2, .slice A3 m3 c3]] w (EncS w q (encL ⟨l1, l.map Sg.p, l2, l3⟩)) := by
 have HS := hide ((St.init w NoB).alloc #[.slice A1 m1 c1, .slice A n c, .slice A2 m2 c2, .slice A3 m3 c3] 26)
 have HB : Hid (∀ k, (blksL ((l.take k).map Sg.p)).length ≤ 65536) := hide (fun k => by
  have := blks_pre ⟨l1, l.map Sg.p, l2, l3⟩ k
  rw [hq] at this
  rw [List.map_take]
  exact Nat.le_trans this hq2)
 obtain ⟨L, hLL⟩ : ∃ L, encL ⟨l1, l.map Sg.p, l2, l3⟩ = L := ⟨_, rfl⟩
 rw [hLL] at hq ⊢
 have HLL : Hid ((blksL (l.map Sg.p) ++ someL 2 l2) ++ someL 3 l3 = L) := hide hLL
 clear hLL
 have HQ := hide hq
 have HQ2 := hide hq2
 have HL := hide hl
 have HL2 := hide hl2
 have HL3 := hide hl3
 have HT := hide ht
 have HR := hide hr
 have HR2 := hide hr2
 have HR3 := hide hr3
 have HOK := hide hok
 have HM2 := hide hm2
 have HM3 := hide hm3
 have HC := hide (cont_no A n c l _ hl (by omega) ht (hr.st HS.out))
 have t1 : _ = some (Value.slice A n c) := HS.out.cell 0 rfl 1
 have t2 : _ = some (Value.slice A2 m2 c2) := HS.out.cell 0 rfl 2
 have t3 : _ = some (Value.slice A3 m3 c3) := HS.out.cell 0 rfl 3
 have d1 : ((n : Int) == 0) = false := by simp; omega
 have d2 : decide ((8 : Int) < (n : Int)) = false := by simp; omega
 have d3 : decide ((65536 : Int) < (m2 : Int)) = false := by simp; omega
 have d4 : decide ((65536 : Int) < (m3 : Int)) = false := by simp; omega
 clear hq hq2 hl2 hl3 ht hr hr2 hr3 hok hl hm2 hm3 h0
 go_enter Tryz.func24, Tryz.ntmps24
 go_upto_region 4 with (go_at_call 57; (with_reducible refine HC.out.mono ?_); rintro e w2 ⟨rfl, hb⟩; have HS := hide (HS.out.call hb); have t2 : _ = some (Value.slice A2 m2 c2) := HS.out.cell 0 rfl 2; have t3 : _ = some (Value.slice A3 m3 c3) := HS.out.cell 0 rfl 3; clear hb)
 have hS2 := HS.out.alloc #[.slice none 0 0, .int .i64 0] 84
 have HSL : Hid (St w NoB _ (MsgW w2.heap.size 0 (.slice none 0 0) (blksL ((l.take 0).map Sg.p)) [.cells w.heap.size #[.slice A1 m1 c1, .slice A n c, .slice A2 m2 c2, .slice A3 m3 c3] 26])) := hide (((hS2.row (Below.refl _ _) (World.ownsRow_nil _ _ 5 1)).swap))
 clear hS2 HS t1 t2 t3
 generalize w2.heap.size = g at HSL ⊢
 generalize w2.alloc _ = w3 at HSL ⊢
 have t1 : _ = some (Value.slice A n c) := HSL.out.cell 2 rfl 1
 go_wp2_with fail
 go_loopw [40] (fun i wr => ∃ (k : Nat) (v : Value), k ≤ n ∧ i = .int .i64 (k : Int) ∧ Hid (St w NoB wr (MsgW g 0 v (blksL ((l.take k).map Sg.p)) [.cells w.heap.size #[.slice A1 m1 c1, .slice A n c, .slice A2 m2 c2, .slice A3 m3 c3] 26]))) (fun i _ => (n - intOf i).toNat)
 case atStart => exact ⟨0, .slice none 0 0, by omega, rfl, HSL⟩
 case round =>
  clear HSL
  obtain ⟨k, v, hk, rfl, HS⟩ := hrel
  by_cases hlt : k < n
  ·have e0 : decide ((k : Int) < (n : Int)) = true := by simp; omega
   have e0' : decide (k < n) = true := by simp; omega
   have kn : (k : Int) < (n : Int) := by omega
   have kl : k < l.length := by have := HL.out; omega
   have hlk : l[k]? = some l[k] := List.getElem?_eq_getElem kl
   obtain ⟨b, o, rfl, hb8, hc⟩ := sg_at HR.out hlk
   obtain ⟨k0, k1, k2, k3, k4⟩ := hc _ HS.out.below
   have HOX := hide (HOK.out l[k] (List.getElem_mem kl))
   have HTX := hide (HT.out l[k] (List.getElem_mem kl))
   have HE := hide (blks_take l k l[k] hlk)
   generalize l[k] = y at k0 k1 k2 k3 k4 HOX HTX HE
   obtain ⟨⟨E1, f1, y1⟩, ⟨E2, f2, y2⟩, ⟨E3, f3, y3⟩, ⟨E4, f4, y4⟩, ⟨E5, f5, y5⟩⟩ := y
   clear hc hlk kl
   go_upto_region 7 with (refine wl_storeC rfl rfl (HS.out.alloc _ _) 0 rfl (vs := [.slice E1 y1.length f1, .slice E2 y2.length f2, .slice E3 y3.length f3, .slice E4 y4.length f4, .slice E5 y5.length f5]) szSigned (Nat.le_refl _) rfl rfl one5 ?_; intro w5 hS5; have HS5 := hide hS5; clear hS5)
   have q0 : _ = some (Value.slice E1 y1.length f1) := HS5.out.cell 0 rfl 0
   have q1 : _ = some (Value.slice E2 y2.length f2) := HS5.out.cell 0 rfl 1
   have q2 : _ = some (Value.slice E3 y3.length f3) := HS5.out.cell 0 rfl 2
   have q3 : _ = some (Value.slice E4 y4.length f4) := HS5.out.cell 0 rfl 3
   have q4 : _ = some (Value.slice E5 y5.length f5) := HS5.out.cell 0 rfl 4
   have HW := hide (wblock_any (H := [.cells wr.heap.size #[.slice E1 y1.length f1, .slice E2 y2.length f2, .slice E3 y3.length f3, .slice E4 y4.length f4, .slice E5 y5.length f5] 32, .cells w.heap.size #[.slice A1 m1 c1, .slice (some ⟨b, o, none⟩) n c, .slice A2 m2 c2, .slice A3 m3 c3] 26]) g v _ E1 E2 E3 E4 E5 y1.length y2.length y3.length y4.length y5.length f1 f2 f3 f4 f5 y1 y2 y3 y4 y5 rfl (Nat.le_trans HTX.out.1 (by decide)) HOX.out.b rfl (Nat.le_trans HTX.out.2.1 (by decide)) HOX.out.n rfl (Nat.le_trans HTX.out.2.2.1 (by decide)) HOX.out.s rfl (Nat.le_trans HTX.out.2.2.2.1 (by decide)) HOX.out.k rfl (Nat.le_trans HTX.out.2.2.2.2 (by decide)) HOX.out.v (Nat.le_trans (HB.out k) (by decide)) (HS5.out.perm ((List.Perm.swap _ _ _).trans (List.Perm.cons _ (List.Perm.swap _ _ _)))))
   clear k0 k1 k2 k3 k4 HOX HTX
   go_wp2_with (go_at_call 59; (with_reducible refine HW.out.mono ?_); rintro e w6 ⟨rfl, v6, hS6⟩; have HS6 := hide hS6; clear hS6)
   have HS7 : Hid (St w NoB w6 (MsgW g 0 v6 (blksL ((l.take (k + 1)).map Sg.p)) [.cells w.heap.size #[.slice A1 m1 c1, .slice (some ⟨b, o, none⟩) n c, .slice A2 m2 c2, .slice A3 m3 c3] 26])) := hide (by rw [HE.out]; exact St.cut [_, _] _ _ HS6.out)
   go_roundw
   case rel => exact ⟨k + 1, v6, by omega, by go_num, HS7⟩
   case measure => (simp [intOf]) <;> omega
  ·obtain rfl : k = n := by omega
   have e0 : decide ((k : Int) < (k : Int)) = false := by simp
   have e0' : decide (k < k) = false := by simp
   rw [List.take_of_length_le (by rw [HL.out]; omega)] at HS
   have hb := HB.out k
   rw [List.take_of_length_le (by rw [HL.out]; omega)] at hb
   generalize blksL (l.map Sg.p) = bl at *
   have hbs : (bl ++ someL 2 l2).length ≤ 65536 := by
    have := HLL.out
    have h2 := HQ.out
    rw [← this, List.length_append] at h2
    have := HQ2.out
    omega
   have HW2 := hide (wsome_any g 0 v bl 2 A2 c2 l2 (by omega) (by rw [HL2.out]; exact Nat.le_trans HM2.out (by decide)) (by rw [HL2.out]; exact HR2.out.rdH) HS.out)
   rw [HL2.out] at HW2
   have t2 : _ = some (Value.slice A2 m2 c2) := HS.out.cell 2 rfl 2
   have M0 := True.intro
   go_wp2_with (first
    | (clear M2; go_at_call 61; have HB4 := hide ((bytes_any g v4 L (by rw [HQ.out]; exact Nat.le_trans HQ2.out (by decide)) (HS4.out.cell 0 rfl 0) (HS4.out.rd 1 rfl)).mono fun _ _ h => bn_of HQ.out h); (with_reducible refine HB4.out.mono ?_); rintro e w5 ⟨A6, c6, rfl, hb, ho⟩; have HS5 := hide (HS4.out.row hb ho); have t5 : _ = some (Value.int .i64 0) := HS5.out.cell 1 rfl 1; have d5 : decide ((65536 : Int) < (q : Int)) = false := (by have := HQ2.out; simp; omega); clear hb ho; have M3 := True.intro)
    | (clear M1; go_at_call 60; have HW3 := hide (wsome_any g 0 v3 (bl ++ someL 2 l2) 3 A3 c3 l3 (by omega) (by rw [HL3.out]; exact Nat.le_trans HM3.out (by decide)) (by rw [HL3.out]; exact HR3.out.rdH) HS3.out); rw [HL3.out, HLL.out] at HW3; (with_reducible refine HW3.out.mono ?_); rintro e w4 ⟨rfl, v4, hS4⟩; have HS4 := hide hS4; clear hS4; have M2 := True.intro)
    | (clear M0; go_at_call 60; (with_reducible refine HW2.out.mono ?_); rintro e w3 ⟨rfl, v3, hS3⟩; have HS3 := hide hS3; clear hS3; have t3 : _ = some (Value.slice A3 m3 c3) := HS3.out.cell 2 rfl 3; have M1 := True.intro))
   go_ret2
   exact ⟨A6, c6, rfl, HS5.out.below, HS5.out.ownsRow 0 rfl⟩
end Go.Proofs.YtnohmgpmmhlloaaGreatDoor.S6

namespace Go.Proofs.YtnohmgpmmhlloaaGreatDoor.S6
set_option maxRecDepth 100000
open Go.RowKit

theorem tyF : RowTy Tryz.prog 89 93 4 48 := rowTy_of (z := .agg #[.int .i64 0, .bool false, .int .u64 0, .slice none 0 0]) (by kernel_rfl) (by kernel_rfl) (by kernel_rfl) (by decide)

def FieldsRel (w : World) (g : Nat) (A : Option Addr) (c : Nat) (l : List UInt8) (left : Nat) (v : Value) (wr : World) : Prop :=
 (∃ (xs : List FdL) (r : List UInt8) (B : Option Addr) (d : Nat) (A' : Option Addr) (c' : Nat), v = .slice B xs.length d ∧ left = r.length ∧ xs.length + r.length ≤ l.length ∧
  St w NoB wr (RdrC g A' r.length c' 0 (.row (.slice B xs.length d) 93 4 xs.length (cellsF xs) :: chunksF xs)) ∧ CutR A c l A' c' r ∧ fds l = (fds r).pre (xs.map FdL.f)) ∨
 (∃ (k n' : Nat) (B : Option Addr) (n d : Nat) (A' : Option Addr) (c' : Nat), v = .slice B n d ∧ left = 0 ∧ (k = 2 ∨ k = 3) ∧ St w NoB wr (RdrC g A' n' c' k []) ∧ fds l = .bad k)

theorem fields_walk (w : World) (A : Option Addr) (c : Nat) (l : List UInt8) (hl : l.length ≤ 65536) (hr : Rd w (.slice A l.length c) 1 l.length (bvs l)) :
  Calls Tryz.prog 64 #[.slice A l.length c] w (ResF 93 w (fds l)) := by
 have hle : decide (65536 < (l.length : Int)) = false := by simp; omega
 have hS0 : St w NoB (w.alloc (.cells #[.slice A l.length c, .int .i64 0] 143)) (RdrC w.heap.size A l.length c 0 (.row (.slice none 0 0) 93 4 0 [] :: [])) := (((St.init w NoB).alloc #[.slice A l.length c, .int .i64 0] 143).row (Below.refl _ _) (World.ownsRow_nil _ _ _ _)).swap
 have HR := hide hr
 have HS := hide hS0
 clear hr hS0
 go_enter Tryz.func64, Tryz.ntmps64
 go_wp2_with fail
 go_loopg [6] (l.length + 1) (fun left v wr => ∃ k, left = k + 1 ∧ FieldsRel w w.heap.size A c l k v wr)
 case atStart => exact ⟨_, rfl, .inl ⟨[], l, none, 0, A, c, rfl, rfl, by simp, HS.out, fun _ h => h, (FsR.pre_nil _).symm⟩⟩
 case round =>
  obtain ⟨k0, rfl, hrel⟩ := hrel
  rcases hrel with ⟨xs, r, B, d, A', c', rfl, rfl, hxl, hS, hcr, hfd⟩ | ⟨k, n', B, n, d, A', c', rfl, rfl, hk, hS, hfd⟩
  ·have hc0 : wr.cell? ⟨w.heap.size, 0, none⟩ = some (.slice A' r.length c') := hS.cell 0 rfl 0
   have hc1 : wr.cell? ⟨w.heap.size, 1, none⟩ = some (.int .i64 0) := hS.cell 0 rfl 1
   by_cases hr0 : r = []
   ·subst hr0
    rw [fds_nil] at hfd
    have hd0 : decide ((0 : Int) < (([] : List UInt8).length : Int)) = false := rfl
    have HF := hide hfd
    have HX := hide hxl
    clear hfd hxl
    go_wp2_with fail
    go_ret2
    rw [HF.out]
    refine ⟨xs, B, d, rfl, by simp [FsR.pre], hS.tail⟩
   ·have hpos : 0 < r.length := List.length_pos_iff.2 hr0
    have hd0 : decide ((0 : Int) < (r.length : Int)) = true := by simp; omega
    have F := field_walk w.heap.size A' c' r (by omega) (hcr.rdH HR.out.rdH) hS
    cases hf : fd r with
    | ok f r' =>
     have hlen := fd_len r f r' hf
     have HF := hide (show fds l = (fds r').pre ((xs.map FdL.f) ++ [f]) by rw [hfd, fds_ok r f r' hr0 hf, FsR.pre_pre])
     rw [hf] at F
     have FF := hide F
     have HX := hide hxl
     clear F hfd hS hf hxl
     unfold P0 at *
     go_wp2_with (first
      | (go_at_call 113; refine FF.out.mono ?_; rintro e w2 ⟨B2, d2, rfl, A2, a2, hS2, hr2⟩)
      | (at_builtin; refine wl_appendN rfl rfl tyF hS2 2 rfl rfl (us := [_, _, _, _]) rfl rfl ?_ ?_ (by decide) ?_; (intro u hu; simp only [List.mem_cons, List.not_mem_nil, or_false] at hu; rcases hu with rfl | rfl | rfl | rfl <;> rfl); (have := HX.out; omega); intro B3 d3 w3 hS3))
     go_roundg (r'.length + 1)
     case rel =>
      refine ⟨_, rfl, .inl ⟨xs ++ [⟨f, B2, d2⟩], r', B3, d3, A2, a2, by simp, rfl, ?_, ?_, hcr.trans hr2, ?_⟩⟩
      ·have := HX.out
       simp only [List.length_append, List.length_singleton]
       omega
      ·rw [cellsF_snoc, chunksF_snoc, List.length_append, List.length_singleton]
       exact St.swap12 hS3
      ·rw [HF.out, List.map_append]
       rfl
     case measure => omega
    | bad k =>
     have hk := fd_bads r k hf
     have HF := hide (show fds l = .bad k by rw [hfd, fds_bad r k hr0 hf]; rfl)
     rw [hf] at F
     have FF := hide F
     have HX := hide hxl
     have HK := hide hk
     clear F hfd hS hf hxl hk
     unfold P0 at *
     go_wp2_with (first
      | (go_at_call 113; refine FF.out.mono ?_; rintro e w2 ⟨x1, x2, x3, B2, m2, d2, rfl, A2, n2, a2, hS2⟩)
      | (at_builtin; refine wl_appendN rfl rfl tyF hS2 1 rfl rfl (us := [_, _, _, _]) rfl rfl ?_ ?_ (by decide) ?_; (intro u hu; simp only [List.mem_cons, List.not_mem_nil, or_false] at hu; rcases hu with rfl | rfl | rfl | rfl <;> rfl); (have := HX.out; omega); intro B3 d3 w3 hS3))
     go_roundg 1
     case rel => exact ⟨_, rfl, .inr ⟨k, n2, B3, _, d3, A2, a2, rfl, rfl, HK.out, hS3.pickL [0] (by decide) rfl, HF.out⟩⟩
     case measure => omega
  ·have hc0 : wr.cell? ⟨w.heap.size, 0, none⟩ = some (.slice A' n' c') := hS.cell 0 rfl 0
   have hc1 : wr.cell? ⟨w.heap.size, 1, none⟩ = some (.int .i64 (k : Int)) := hS.cell 0 rfl 1
   have hk1 : ((k : Int) == 0) = false := by rcases hk with rfl | rfl <;> rfl
   have hk2 : ((k : Int) != 0) = true := by rcases hk with rfl | rfl <;> rfl
   have HF := hide hfd
   clear hfd hk
   by_cases hn : n' = 0
   ·subst hn
    go_wp2_with fail
    go_quiet (fail)
    go_wp2_with fail
    go_ret2
    rw [HF.out]
    exact ⟨rfl, (hS.drewN _).below⟩
   ·have hd0 : decide ((0 : Int) < (n' : Int)) = true := by simp; omega
    go_wp2_with fail
    go_quiet (fail)
    go_wp2_with fail
    go_ret2
    rw [HF.out]
    exact ⟨rfl, (hS.drewN _).below⟩
end Go.Proofs.YtnohmgpmmhlloaaGreatDoor.S6

namespace Go.Proofs.YtnohmgpmmhlloaaGreatDoor.S6
set_option maxRecDepth 100000
open Go.RowKit
set_option linter.unusedSimpArgs false
def arr6 (f : Nat → Value) : Array Value := #[f 0, f 1, f 2, f 3, f 4, f 5]
theorem arr6_get (f : Nat → Value) {k : Nat} (h : k < 6) : (arr6 f)[k]? = some (f k) := by
 rcases (show k = 0 ∨ k = 1 ∨ k = 2 ∨ k = 3 ∨ k = 4 ∨ k = 5 by omega) with rfl | rfl | rfl | rfl | rfl | rfl <;> rfl
theorem arr6_set (f : Nat → Value) {k : Nat} (h : k < 6) (v : Value) : (arr6 f).setIfInBounds k v = arr6 (fun j => if j = k then v else f j) := by
 rcases (show k = 0 ∨ k = 1 ∨ k = 2 ∨ k = 3 ∨ k = 4 ∨ k = 5 by omega) with rfl | rfl | rfl | rfl | rfl | rfl <;> rfl
def lookV (xs : List FdL) (j : Nat) : PcV := match xs.find? (fun x => x.f.num == j) with | some x => ⟨x.A, x.c, x.f.b⟩ | none => pc0
def hasV (xs : List FdL) (j : Nat) : Nat := match xs.find? (fun x => x.f.num == j) with | some _ => 1 | none => 0
theorem look_map (xs : List FdL) (j : Nat) : (lookV xs j).b = look (xs.map FdL.f) j := by
 unfold lookV look
 rw [List.find?_map]
 show _ = (match ((xs.find? (fun x => x.f.num == j)).map FdL.f) with | some f => f.b | none => [])
 cases xs.find? (fun x => x.f.num == j) <;> rfl
theorem has_map (xs : List FdL) (j : Nat) : hasV xs j = hasN (xs.map FdL.f) j := by
 unfold hasV hasN
 rw [List.find?_map]
 show _ = (match ((xs.find? (fun x => x.f.num == j)).map FdL.f) with | some _ => 1 | none => 0)
 cases xs.find? (fun x => x.f.num == j) <;> rfl
theorem look_ch {xs : List FdL} {G : List Chunk} (j : Nat) (h0 : pc0.ch ∈ G) (h : ∀ x ∈ xs, FdL.chunk x ∈ G) : (lookV xs j).ch ∈ G := by
 unfold lookV
 cases e : xs.find? (fun x => x.f.num == j) with
 | none => exact h0
 | some x => exact h x (List.mem_of_find?_eq_some e)
theorem find_none {xs : List FdL} {m : Nat} (h : ∀ y ∈ xs, y.f.num < m) : xs.find? (fun x => x.f.num == m) = none := by
 rw [List.find?_eq_none]
 intro y hy
 have := h y hy
 simp
 omega
theorem lookV_snoc (xs : List FdL) (x : FdL) (h : ∀ y ∈ xs, y.f.num < x.f.num) (j : Nat) : lookV (xs ++ [x]) j = if j = x.f.num then ⟨x.A, x.c, x.f.b⟩ else lookV xs j := by
 unfold lookV
 rw [List.find?_append]
 by_cases e : j = x.f.num
 ·subst e
  rw [if_pos rfl, find_none h]
  simp
 ·rw [if_neg e, show List.find? (fun y => y.f.num == j) [x] = none by simp; omega, Option.or_none]
theorem hasV_snoc (xs : List FdL) (x : FdL) (h : ∀ y ∈ xs, y.f.num < x.f.num) (j : Nat) : hasV (xs ++ [x]) j = if j = x.f.num then 1 else hasV xs j := by
 unfold hasV
 rw [List.find?_append]
 by_cases e : j = x.f.num
 ·subst e
  rw [if_pos rfl, find_none h]
  simp
 ·rw [if_neg e, show List.find? (fun y => y.f.num == j) [x] = none by simp; omega, Option.or_none]
theorem hasV_new (xs : List FdL) (m : Nat) (h : ∀ y ∈ xs, y.f.num < m) : hasV xs m = 0 := by
 unfold hasV
 rw [find_none h]
theorem hasN_le (l : List FdV) (j : Nat) : hasN l j ≤ 1 := by
 unfold hasN
 split <;> decide
theorem fd_at {w : World} {B : Option Addr} {n d : Nat} {l : List FdL} {k : Nat} {x : FdL} (h : Rd w (.slice B n d) 4 n (cellsF l)) (hk : l[k]? = some x) : ∃ b o, B = some ⟨b, o, none⟩ ∧ b < w.heap.size ∧ ∀ w', Below w.heap.size w w' →
  w'.cell? ⟨b, o + k * 4, none⟩ = some (.int .i64 (x.f.num : Int)) ∧ w'.cell? ⟨b, o + k * 4 + 1, none⟩ = some (.bool x.f.whole) ∧ w'.cell? ⟨b, o + k * 4 + 2, none⟩ = some (.int .u64 (x.f.n : Int)) ∧ w'.cell? ⟨b, o + k * 4 + 3, none⟩ = some (.slice x.A x.f.b.length x.c) := by
 have gt : ∀ j, j < 4 → (cellsF l)[k * 4 + j]? = x.cells[j]? := fun j hj => flat_get FdL.cells 4 (fun _ => rfl) l k j x hk hj
 obtain ⟨b, o, rfl, hb, h0⟩ := rd_atG h (k := k * 4) ((gt 0 (by omega)).trans rfl)
 have get : ∀ j u, j < 4 → x.cells[j]? = some u → w.cell? ⟨b, o + k * 4 + j, none⟩ = some u := fun j u hj hu => by
  obtain ⟨b', o', e, _, h1⟩ := rd_atG h (k := k * 4 + j) (u := u) ((gt j hj).trans hu)
  injection e with e
  injection e with e1 e2 _
  subst e1 e2
  rw [Nat.add_assoc]
  exact h1
 refine ⟨b, o, rfl, hb, fun w' hw => ?_⟩
 have k1 : ∀ j, w'.cell? ⟨b, j, none⟩ = w.cell? ⟨b, j, none⟩ := fun j => hw.cell (p := ⟨b, j, none⟩) hb
 exact ⟨(k1 _).trans (get 0 _ (by omega) rfl), (k1 _).trans (get 1 _ (by omega) rfl), (k1 _).trans (get 2 _ (by omega) rfl), (k1 _).trans (get 3 _ (by omega) rfl)⟩
theorem szField : (Tryz.prog.info? 93).map (·.size) = some 4 := by kernel_rfl
theorem oneF {a n : Int} {b : Bool} {A : Option Addr} {m c : Nat} : ∀ v ∈ [Value.int .i64 a, .bool b, .int .u64 n, .slice A m c], v.oneCell' = true := by
 intro v hv
 simp only [List.mem_cons, List.not_mem_nil, or_false] at hv
 rcases hv with rfl | rfl | rfl | rfl <;> rfl
def SgD (w : World) : SgQ → Ending → World → Prop
 | .ok x, e, w' => ∃ (y : Sg) (G : List Chunk), e = .returned (.tuple #[y.val, .int .i64 0]) ∧ y.p = x ∧ SgIn G y ∧ St w NoB w' G
 | .bad k, e, w' => e = .returned (.tuple #[.agg #[.slice none 0 0, .slice none 0 0, .slice none 0 0, .slice none 0 0, .slice none 0 0], .int .i64 (k : Int)]) ∧ Below w.heap.size w w'
theorem sgB_bad {l : List UInt8} {k : Nat} (h : fds l = .bad k) : sgB l = .bad k := by unfold sgB; rw [h]
theorem sgB_none {l : List UInt8} {fs : List FdV} (h : fds l = .ok fs) (h2 : sgR fs = none) : sgB l = .bad 3 := by unfold sgB; rw [h]; show (match sgR fs with | none => _ | some x => _) = _; rw [h2]
theorem sgB_some {l : List UInt8} {fs : List FdV} {x : Sp} (h : fds l = .ok fs) (h2 : sgR fs = some x) : sgB l = .ok x := by unfold sgB; rw [h]; show (match sgR fs with | none => _ | some x => _) = _; rw [h2]
theorem sgR_no {fs : List FdV} (h : ¬ (rise 0 fs = true ∧ hasN fs 1 + hasN fs 2 + hasN fs 3 = 3 ∧ hasN fs 4 = hasN fs 5)) : sgR fs = none := by unfold sgR; rw [if_neg h]
theorem signedOf_any (A : Option Addr) (n c : Nat) (l : List UInt8) (w : World) (hl : l.length = n) (hn : n ≤ 65536) (hr : Rd w (.slice A n c) 1 n (bvs l)) : Calls Tryz.prog 114 #[.slice A n c] w (SgD w (sgB l)) := by
 have HS := hide ((St.init w NoB).alloc #[.slice none 0 0, .slice none 0 0, .slice none 0 0, .slice none 0 0, .slice none 0 0] 32)
 have HF := fields_walk _ A c l (by omega) (hl ▸ hr.st HS.out)
 rw [hl] at HF
 cases hf : fds l with
 | bad k =>
  rw [sgB_bad hf]
  rw [hf] at HF
  have HC := hide HF
  have hk : k = 2 ∨ k = 3 := fds_bads l k hf
  have d0 : ((k : Int) != 0) = true := by simp; omega
  have d0' : decide ((k : Int) = 0) = false := by simp; omega
  clear HF hr hk
  go_enter Tryz.func114, Tryz.ntmps114
  go_wp2_with (first
   | (go_at_call 64; (with_reducible refine HC.out.mono ?_); rintro e w2 ⟨rfl, hb⟩; have HS := hide (HS.out.call hb); clear hb)
   | (refine wl_storeC rfl rfl HS.out 0 rfl (vs := [.slice none 0 0, .slice none 0 0, .slice none 0 0, .slice none 0 0, .slice none 0 0]) szSigned (Nat.le_refl _) rfl rfl one5 ?_; intro w7 hS7; have HS7 := hide hS7; clear hS7))
  refine bodyPost_ret (results_cell_tmp_row rfl _ _ w.heap.size _ _ _ _ rfl (HS7.out.heap 0 rfl) Tryz.underlying32 rfl (by kernel_rfl)) rfl ?_
  exact ⟨rfl, HS7.out.below⟩
 | ok fs =>
  rw [hf] at HF
  have HC := hide HF
  have HFS := hide hf
  clear HF hr hf
  go_enter Tryz.func114, Tryz.ntmps114
  go_upto_region 4 with (go_at_call 64; (with_reducible refine HC.out.mono ?_); rintro e w2 ⟨xs, B, d, rfl, hx, hS2⟩; have HS : Hid (St w NoB w2 (.cells w.heap.size #[.slice none 0 0, .slice none 0 0, .slice none 0 0, .slice none 0 0, .slice none 0 0] 32 :: .row (.slice B xs.length d) 93 4 xs.length (cellsF xs) :: chunksF xs)) := hide (St.rot _ [_] (HS.out.join hS2)); clear hS2)
  obtain ⟨m, hm⟩ : ∃ m, xs.length = m := ⟨_, rfl⟩
  rw [hm] at HS ⊢
  have HM := hide hm
  have HX := hide hx
  have hm6 : m ≤ 65536 := by
   have h1 := fds_len l fs HFS.out
   rw [← HX.out, List.length_map, HM.out] at h1
   omega
  have hA := (HS.out.alloc #[.slice none 0 0, .slice none 0 0, .slice none 0 0, .slice none 0 0, .slice none 0 0, .slice none 0 0] 194).alloc #[.int .i64 0, .int .i64 0, .int .i64 0, .int .i64 0, .int .i64 0, .int .i64 0] 149
  rw [size_alloc1] at hA
  have HSL := hide hA
  clear hA HS hx hm
  go_wp2_with fail
  generalize w2.heap.size = gp at HSL ⊢
  go_loopw [8, 22] (fun lv iv wr => ∃ (k last : Nat), k ≤ m ∧ iv = .int .i64 (k : Int) ∧ lv = .int .i64 (last : Int) ∧ Hid (last ≤ 5 ∧ (∀ y ∈ xs.take k, y.f.num ≤ last) ∧ rise 0 (xs.map FdL.f) = rise last ((xs.drop k).map FdL.f)) ∧ Hid (St w NoB wr (.cells (gp + 1) (arr6 fun j => .int .i64 (hasV (xs.take k) j : Int)) 149 :: .cells gp (arr6 fun j => (lookV (xs.take k) j).v) 194 :: .cells w.heap.size #[.slice none 0 0, .slice none 0 0, .slice none 0 0, .slice none 0 0, .slice none 0 0] 32 :: .row (.slice B m d) 93 4 m (cellsF xs) :: chunksF xs))) (fun _ i _ => (m - intOf i).toNat)
  case atStart => exact ⟨0, 0, by omega, rfl, rfl, ⟨by omega, fun y hy => absurd hy List.not_mem_nil, rfl⟩, HSL⟩
  case round =>
   clear HSL
   obtain ⟨k, last, hk, rfl, rfl, HI, HS⟩ := hrel
   by_cases hlt : k < m
   ·have e0 : decide ((k : Int) < (m : Int)) = true := by simp; omega
    have e0' : decide (k < m) = true := by simp; omega
    have kn : (k : Int) < (m : Int) := by omega
    have kl : k < xs.length := by have := HM.out; omega
    have hlk : xs[k]? = some xs[k] := List.getElem?_eq_getElem kl
    obtain ⟨b, o, rfl, hb8, hc⟩ := fd_at (HS.out.rd 3 rfl) hlk
    obtain ⟨k0, k1, k2, k3⟩ := hc _ (Below.refl _ _)
    have HTK := hide (show xs.take (k + 1) = xs.take k ++ [xs[k]] by rw [List.take_add_one, hlk]; rfl)
    have HDK := hide (show rise last ((xs.drop k).map FdL.f) = (xs[k].f.whole && (decide (xs[k].f.num ≤ 5) && (decide (last < xs[k].f.num) && rise xs[k].f.num ((xs.drop (k + 1)).map FdL.f)))) by rw [List.drop_eq_getElem_cons kl]; rfl)
    generalize xs[k] = y at k0 k1 k2 k3 HTK HDK
    obtain ⟨⟨num, whole, fn, fb⟩, X, xc⟩ := y
    replace HTK : Hid (xs.take (k + 1) = xs.take k ++ [⟨⟨num, whole, fn, fb⟩, X, xc⟩]) := HTK
    replace HDK : Hid (rise last ((xs.drop k).map FdL.f) = (whole && (decide (num ≤ 5) && (decide (last < num) && rise num ((xs.drop (k + 1)).map FdL.f))))) := HDK
    have hl5 : last ≤ 5 := HI.out.1
    clear hc hlk kl
    go_upto_region 10 with (refine wl_storeC rfl rfl (HS.out.alloc _ _) 0 rfl (vs := [.int .i64 (num : Int), .bool whole, .int .u64 (fn : Int), .slice X fb.length xc]) szField (Nat.le_refl _) rfl rfl oneF ?_; intro w5 hS5; have HS5 := hide hS5; clear hS5)
    have q0 : _ = some (Value.int .i64 (num : Int)) := HS5.out.cell 0 rfl 0
    have q1 : _ = some (Value.bool whole) := HS5.out.cell 0 rfl 1
    have q3 : _ = some (Value.slice X fb.length xc) := HS5.out.cell 0 rfl 3
    clear k0 k1 k2 k3
    by_cases hg : whole = true ∧ num ≤ 5 ∧ last < num
    ·obtain ⟨rfl, h5, hln⟩ := hg
     have HLT : Hid (∀ y ∈ xs.take k, y.f.num < num) := hide (fun y hy => by have := HI.out.2.1 y hy; omega)
     have HRI : Hid (rise 0 (xs.map FdL.f) = rise num ((xs.drop (k + 1)).map FdL.f)) := hide (by rw [HI.out.2.2, HDK.out]; simp [h5, hln])
     have d2 : decide ((5 : Int) < (num : Int)) = false := by simp; omega
     have d2' : decide (5 < num) = false := by simp; omega
     have d3 : decide ((num : Int) ≤ (last : Int)) = false := by simp; omega
     have d3' : decide (num ≤ last) = false := by simp; omega
     have h6 : (num : Int) < 6 := by omega
     have h6' : num < 6 := by omega
     have p1 : w5.cell? ⟨gp, num, none⟩ = some (lookV (xs.take k) num).v := (HS5.out.cell 2 rfl num).trans (arr6_get _ (by omega))
     have f1 := HS5.out.free 2 rfl num
     go_upto_region 14 with fail
     have HS6 := hide (HS5.out.setCell 2 rfl num (.slice X fb.length xc))
     clear p1 f1 q0 q1 q3
     generalize World.setCell w5 _ _ = w6 at HS6 ⊢
     have q0 : _ = some (Value.int .i64 (num : Int)) := HS6.out.cell 0 rfl 0
     have g1 : w6.cell? ⟨gp + 1, num, none⟩ = some (.int .i64 0) := (HS6.out.cell 1 rfl num).trans ((arr6_get _ (by omega)).trans (by rw [hasV_new _ _ HLT.out]; rfl))
     have g2 := HS6.out.free 1 rfl num
     go_wp2_with fail
     have hS7 : St w NoB _ (.cells (gp + 1) ((arr6 fun j => .int .i64 (hasV (xs.take k) j : Int)).setIfInBounds num (.int .i64 1)) 149 :: .cells gp ((arr6 fun j => (lookV (xs.take k) j).v).setIfInBounds num (.slice X fb.length xc)) 194 :: .cells w.heap.size #[.slice none 0 0, .slice none 0 0, .slice none 0 0, .slice none 0 0, .slice none 0 0] 32 :: .row (.slice (some ⟨b, o, none⟩) m d) 93 4 m (cellsF xs) :: chunksF xs) := (HS6.out.setCell 1 rfl num (.int .i64 1)).tail
     rw [arr6_set _ h6', arr6_set _ h6'] at hS7
     have e1 : (fun j => if j = num then Value.int .i64 1 else .int .i64 (hasV (xs.take k) j : Int)) = fun j => .int .i64 (hasV (xs.take (k + 1)) j : Int) := by
      funext j
      rw [HTK.out, hasV_snoc _ _ HLT.out]
      by_cases e : j = num
      ·subst e; rw [if_pos rfl, if_pos rfl]; rfl
      ·rw [if_neg e, if_neg e]
     have e2 : (fun j => if j = num then Value.slice X fb.length xc else (lookV (xs.take k) j).v) = fun j => (lookV (xs.take (k + 1)) j).v := by
      funext j
      rw [HTK.out, lookV_snoc _ _ HLT.out]
      by_cases e : j = num
      ·subst e; rw [if_pos rfl, if_pos rfl]; rfl
      ·rw [if_neg e, if_neg e]
     rw [e1, e2] at hS7
     have HS7 := hide hS7
     clear e1 e2 hS7 HS6 HS5 g1 g2
     go_roundw
     case rel => exact ⟨k + 1, num, by omega, by go_num, rfl, hide ⟨h5, (fun y hy => by
       rw [HTK.out] at hy
       rcases List.mem_append.1 hy with hy | hy
       ·exact Nat.le_of_lt (HLT.out y hy)
       ·rw [List.mem_singleton.1 hy]; exact Nat.le_refl _), HRI.out⟩, HS7⟩
     case measure => (simp [intOf]) <;> omega
    ·have hb : whole = false ∨ (whole = true ∧ 5 < num) ∨ (whole = true ∧ ¬ 5 < num ∧ num ≤ last) := by
      cases whole
      ·exact .inl rfl
      ·exact .inr (by by_cases h : 5 < num; exact .inl ⟨rfl, h⟩; exact .inr ⟨rfl, h, by have : ¬ (num ≤ 5 ∧ last < num) := fun h => hg ⟨rfl, h⟩; omega⟩)
     have HNO : Hid (sgB l = .bad 3) := hide (sgB_none HFS.out (sgR_no (fun h => by
      have h1 := h.1
      rw [← HX.out, HI.out.2.2, HDK.out] at h1
      simp at h1
      exact hg ⟨h1.1, h1.2.1, h1.2.2.1⟩)))
     clear hg HDK HTK
     have d2 : (whole = true → decide ((5 : Int) < (num : Int)) = decide (5 < num)) := fun _ => by simp; omega
     rcases hb with rfl | ⟨rfl, h5⟩ | ⟨rfl, h5, h6⟩
     ·go_wp2_with (refine wl_storeC rfl rfl HS5.out 3 rfl (vs := [.slice none 0 0, .slice none 0 0, .slice none 0 0, .slice none 0 0, .slice none 0 0]) szSigned (Nat.le_refl _) rfl rfl one5 ?_; intro w7 hS7; have HS7 := hide hS7; clear hS7)
      refine bodyPost_ret (results_cell_tmp_row rfl _ _ w.heap.size _ _ _ _ rfl (HS7.out.heap 3 rfl) Tryz.underlying32 rfl (by kernel_rfl)) rfl ?_
      rw [HNO.out]
      exact ⟨rfl, HS7.out.below⟩
     ·have d2 : decide ((5 : Int) < (num : Int)) = true := by simp; omega
      have d2' : decide (5 < num) = true := by simp; omega
      go_wp2_with (refine wl_storeC rfl rfl HS5.out 3 rfl (vs := [.slice none 0 0, .slice none 0 0, .slice none 0 0, .slice none 0 0, .slice none 0 0]) szSigned (Nat.le_refl _) rfl rfl one5 ?_; intro w7 hS7; have HS7 := hide hS7; clear hS7)
      refine bodyPost_ret (results_cell_tmp_row rfl _ _ w.heap.size _ _ _ _ rfl (HS7.out.heap 3 rfl) Tryz.underlying32 rfl (by kernel_rfl)) rfl ?_
      rw [HNO.out]
      exact ⟨rfl, HS7.out.below⟩
     ·have d2 : decide ((5 : Int) < (num : Int)) = false := by simp; omega
      have d2' : decide (5 < num) = false := by simp; omega
      have d3 : decide ((num : Int) ≤ (last : Int)) = true := by simp; omega
      have d3' : decide (num ≤ last) = true := by simp; omega
      go_wp2_with (refine wl_storeC rfl rfl HS5.out 3 rfl (vs := [.slice none 0 0, .slice none 0 0, .slice none 0 0, .slice none 0 0, .slice none 0 0]) szSigned (Nat.le_refl _) rfl rfl one5 ?_; intro w7 hS7; have HS7 := hide hS7; clear hS7)
      refine bodyPost_ret (results_cell_tmp_row rfl _ _ w.heap.size _ _ _ _ rfl (HS7.out.heap 3 rfl) Tryz.underlying32 rfl (by kernel_rfl)) rfl ?_
      rw [HNO.out]
      exact ⟨rfl, HS7.out.below⟩
   ·obtain rfl : k = m := by omega
    have e0 : decide ((k : Int) < (k : Int)) = false := by simp
    have e0' : decide (k < k) = false := by simp
    have htk : xs.take k = xs := List.take_of_length_le (by rw [HM.out]; exact Nat.le_refl _)
    have hri : rise 0 (xs.map FdL.f) = true := by rw [HI.out.2.2, List.drop_of_length_le (by rw [HM.out]; exact Nat.le_refl _)]; rfl
    rw [htk] at HS
    clear HI
    have HN : Hid (∀ j, hasN fs j = hasV xs j) := hide (fun j => by rw [has_map, HX.out])
    have HLK : Hid (∀ j, look fs j = (lookV xs j).b) := hide (fun j => by rw [look_map, HX.out])
    have hle : ∀ j, hasV xs j ≤ 1 := fun j => by rw [has_map]; exact hasN_le _ _
    have c1 : wr.cell? ⟨gp + 1, 1, none⟩ = some (.int .i64 (hasV xs 1 : Int)) := HS.out.cell 0 rfl 1
    have c2 : wr.cell? ⟨gp + 1, 2, none⟩ = some (.int .i64 (hasV xs 2 : Int)) := HS.out.cell 0 rfl 2
    have c3 : wr.cell? ⟨gp + 1, 3, none⟩ = some (.int .i64 (hasV xs 3 : Int)) := HS.out.cell 0 rfl 3
    have c4 : wr.cell? ⟨gp + 1, 4, none⟩ = some (.int .i64 (hasV xs 4 : Int)) := HS.out.cell 0 rfl 4
    have c5 : wr.cell? ⟨gp + 1, 5, none⟩ = some (.int .i64 (hasV xs 5 : Int)) := HS.out.cell 0 rfl 5
    have HR : Hid (rise 0 fs = true) := hide (by rw [← HX.out]; exact hri)
    have HQ : Hid (sgR fs = if hasV xs 1 + hasV xs 2 + hasV xs 3 = 3 ∧ hasV xs 4 = hasV xs 5 then some ⟨(lookV xs 1).b, (lookV xs 2).b, (lookV xs 3).b, (lookV xs 4).b, (lookV xs 5).b⟩ else none) := hide (by
     unfold sgR
     rw [HN.out, HN.out, HN.out, HN.out, HN.out, HLK.out, HLK.out, HLK.out, HLK.out, HLK.out]
     by_cases hh : hasV xs 1 + hasV xs 2 + hasV xs 3 = 3 ∧ hasV xs 4 = hasV xs 5
     ·rw [if_pos hh, if_pos ⟨HR.out, hh⟩]
     ·rw [if_neg hh, if_neg (fun h => hh h.2)])
    have a1 := hle 1
    have a2 := hle 2
    have a3 := hle 3
    have a4 := hle 4
    have a5 := hle 5
    clear hle hri htk HN HLK HR
    have s1 : wr.cell? ⟨gp, 1, none⟩ = some (lookV xs 1).v := HS.out.cell 1 rfl 1
    have s2 : wr.cell? ⟨gp, 2, none⟩ = some (lookV xs 2).v := HS.out.cell 1 rfl 2
    have s3 : wr.cell? ⟨gp, 3, none⟩ = some (lookV xs 3).v := HS.out.cell 1 rfl 3
    have s4 : wr.cell? ⟨gp, 4, none⟩ = some (lookV xs 4).v := HS.out.cell 1 rfl 4
    have s5 : wr.cell? ⟨gp, 5, none⟩ = some (lookV xs 5).v := HS.out.cell 1 rfl 5
    have HCH : Hid (∀ j, (lookV xs j).ch ∈ pc0.ch :: chunksF xs) := hide (fun j => look_ch j (List.mem_cons_self ..) fun x hx => List.mem_cons_of_mem _ (by unfold chunksF; rw [List.mem_reverse]; exact List.mem_map_of_mem hx))
    have HC1 := hide (HCH.out 1)
    have HC2 := hide (HCH.out 2)
    have HC3 := hide (HCH.out 3)
    have HC4 := hide (HCH.out 4)
    have HC5 := hide (HCH.out 5)
    generalize hasV xs 1 = x1 at *
    generalize hasV xs 2 = x2 at *
    generalize hasV xs 3 = x3 at *
    generalize hasV xs 4 = x4 at *
    generalize hasV xs 5 = x5 at *
    clear HCH
    generalize lookV xs 1 = p1 at s1 HQ HC1
    generalize lookV xs 2 = p2 at s2 HQ HC2
    generalize lookV xs 3 = p3 at s3 HQ HC3
    generalize lookV xs 4 = p4 at s4 HQ HC4
    generalize lookV xs 5 = p5 at s5 HQ HC5
    obtain ⟨E1, f1, y1⟩ := p1
    obtain ⟨E2, f2, y2⟩ := p2
    obtain ⟨E3, f3, y3⟩ := p3
    obtain ⟨E4, f4, y4⟩ := p4
    obtain ⟨E5, f5, y5⟩ := p5
    replace s1 : wr.cell? ⟨gp, 1, none⟩ = some (.slice E1 y1.length f1) := s1
    replace s2 : wr.cell? ⟨gp, 2, none⟩ = some (.slice E2 y2.length f2) := s2
    replace s3 : wr.cell? ⟨gp, 3, none⟩ = some (.slice E3 y3.length f3) := s3
    replace s4 : wr.cell? ⟨gp, 4, none⟩ = some (.slice E4 y4.length f4) := s4
    replace s5 : wr.cell? ⟨gp, 5, none⟩ = some (.slice E5 y5.length f5) := s5
    by_cases hs : x1 + x2 + x3 = 3
    ·have d1 : decide ((x1 : Int) + (x2 : Int) + (x3 : Int) < 3) = false := by simp; omega
     have d1' : decide (x1 + x2 + x3 < 3) = false := by simp; omega
     by_cases h45 : x4 = x5
     ·have HY := hide (sgB_some HFS.out (HQ.out.trans (if_pos ⟨hs, h45⟩)))
      subst h45
      clear hs HQ
      go_wp2_with (refine wl_storeC rfl rfl HS.out 2 rfl (vs := [.slice E1 y1.length f1, .slice E2 y2.length f2, .slice E3 y3.length f3, .slice E4 y4.length f4, .slice E5 y5.length f5]) szSigned (Nat.le_refl _) rfl rfl one5 ?_; intro w7 hS7; have HS7 := hide hS7; clear hS7)
      refine bodyPost_ret (results_cell_tmp_row rfl _ _ w.heap.size _ _ _ _ rfl (HS7.out.heap 2 rfl) Tryz.underlying32 rfl (by kernel_rfl)) rfl ?_
      rw [HY.out]
      refine ⟨⟨⟨E1, f1, y1⟩, ⟨E2, f2, y2⟩, ⟨E3, f3, y3⟩, ⟨E4, f4, y4⟩, ⟨E5, f5, y5⟩⟩, _, rfl, rfl, fun c hc => ?_, HS7.out.row (Below.refl _ _) (World.ownsRow_nil _ _ 5 1)⟩
      have h1 : c ∈ pc0.ch :: chunksF xs := by
       simp only [Sg.chs, List.mem_cons, List.not_mem_nil, or_false] at hc
       rcases hc with rfl | rfl | rfl | rfl | rfl
       ·exact HC1.out
       ·exact HC2.out
       ·exact HC3.out
       ·exact HC4.out
       ·exact HC5.out
      rcases List.mem_cons.1 h1 with h1 | h1
      ·rw [h1]; exact List.mem_cons_self ..
      ·show c ∈ _ :: _ :: _ :: _ :: _ :: chunksF xs
       (iterate 5 apply List.mem_cons_of_mem)
       exact h1
     ·have HNO := hide (sgB_none HFS.out (HQ.out.trans (if_neg (fun h => h45 h.2))))
      have d2 : ((x4 : Int) != (x5 : Int)) = true := by simp; omega
      have d2' : (x4 != x5) = true := by simp; omega
      have d3 : decide ((x4 : Int) = (x5 : Int)) = false := by simp; omega
      have d3' : decide (x4 = x5) = false := by simp; omega
      clear hs HQ h45
      go_wp2_with (refine wl_storeC rfl rfl HS.out 2 rfl (vs := [.slice none 0 0, .slice none 0 0, .slice none 0 0, .slice none 0 0, .slice none 0 0]) szSigned (Nat.le_refl _) rfl rfl one5 ?_; intro w7 hS7; have HS7 := hide hS7; clear hS7)
      refine bodyPost_ret (results_cell_tmp_row rfl _ _ w.heap.size _ _ _ _ rfl (HS7.out.heap 2 rfl) Tryz.underlying32 rfl (by kernel_rfl)) rfl ?_
      rw [HNO.out]
      exact ⟨rfl, HS7.out.below⟩
    ·have HNO := hide (sgB_none HFS.out (HQ.out.trans (if_neg (fun h => hs h.1))))
     have d1 : decide ((x1 : Int) + (x2 : Int) + (x3 : Int) < 3) = true := by simp; omega
     have d1' : decide (x1 + x2 + x3 < 3) = true := by simp; omega
     clear hs HQ
     go_wp2_with (refine wl_storeC rfl rfl HS.out 2 rfl (vs := [.slice none 0 0, .slice none 0 0, .slice none 0 0, .slice none 0 0, .slice none 0 0]) szSigned (Nat.le_refl _) rfl rfl one5 ?_; intro w7 hS7; have HS7 := hide hS7; clear hS7)
     refine bodyPost_ret (results_cell_tmp_row rfl _ _ w.heap.size _ _ _ _ rfl (HS7.out.heap 2 rfl) Tryz.underlying32 rfl (by kernel_rfl)) rfl ?_
     rw [HNO.out]
     exact ⟨rfl, HS7.out.below⟩
end Go.Proofs.YtnohmgpmmhlloaaGreatDoor.S6

namespace Go.Proofs.YtnohmgpmmhlloaaGreatDoor
open Go.RowKit
set_option linter.unusedSimpArgs false
section
variable {P : Program} {ops : Array Oper} {Q : Exit → Act → World → Prop} {restT : List (Nat × Nat)} {i : Nat} {o : Oper} {a : Act} {w : World} {W0 : World} {F : List (Nat × Nat)} {fc : Array Value} {fe : TypeId} {suf : STr}
theorem wpX_callH {f : FuncId} {xs : List Operand} {ts : Array TypeId} {vs : List Value} {R : World → Ending → World → Prop} (ho : ops[i]? = some o) (hw : Region.wanted o (yielded ops a.tmps) = true)
  (hop : o.op = .call { callee := .value (.func f), args := xs.toArray, argTypes := ts }) (hf : ∀ (args : Array Value) (w : World), (callFunc f args).run P w = .ok (.enter f args) w)
  (hx : xs.map a.eval = vs) (hc : ∀ x, From w x → Calls P f vs.toArray x (R x)) (h : ∀ x e w', From w x → R x e w' → ∃ v, e = .returned v ∧ Below x.heap.size x w' ∧ XGo P ops Q F fc fe suf W0 restT (a.put o.dst v) w') : XGo P ops Q F fc fe suf W0 ((i, 2) :: restT) a w :=
 wpX_call ho hw fun x hx' K hK => wp_call hop hf hx (hc x hx') fun e w' hr => by
  obtain ⟨v, he, hb, hk⟩ := h x e w' hx' hr
  exact ⟨v, he, hK _ _ ⟨hb, hk⟩⟩
end
theorem rd_halves {w : World} {C : Option Addr} {c : Nat} {g : List UInt8} (hl : g.length = 64) (h : Rd w (.slice C 64 c) 1 64 (bvs g)) : ∃ b o, C = some ⟨b, o, none⟩ ∧ 64 ≤ c ∧ Rd w (.slice (some ⟨b, o, none⟩) 32 c) 1 32 (bvs (g.take 32)) ∧ Rd w (.slice (some ⟨b, o + 32, none⟩) 32 (c - 32)) 1 32 (bvs (g.drop 32)) := by
 obtain ⟨b, o, rfl⟩ := S1.rd_some h (by decide)
 have h2 := rd_mid h 32 64 (by decide) (by decide)
 rw [List.take_of_length_le (by rw [List.length_drop, hl]; exact Nat.le_refl _)] at h2
 exact ⟨b, o, rfl, rd_cap h, rd_take h 32 (by decide), h2⟩
theorem mayB {A : Option Addr} {n c : Nat} {l : List UInt8} {b : Bool} (w : World) (hm : S3.mayS l = b) (hl : l.length = n) (hr : Rd w (.slice A n c) 1 n (bvs l)) : Calls Tryz.prog 39 #[.slice A n c] w fun e w' => e = .returned (.bool b) ∧ Below w.heap.size w w' := by
 subst hm
 exact S3.may_walk A n c l w hl hr
theorem ver_none {p m g : List UInt8} (h : fromL p = none) : verL p m g = false := by unfold verL; rw [h]
theorem ver_long {p m g : List UInt8} {P : Ed} (h : fromL p = some P) (hg : g.length ≠ 64) : verL p m g = false := by unfold verL; rw [h]; show (decide (g.length = 64) && _ && _) = false; rw [decide_eq_false hg]; rfl
theorem ver_may {p m g : List UInt8} {P : Ed} (h : fromL p = some P) (hm : S3.mayS (g.drop 32) = false) : verL p m g = false := by unfold verL; rw [h]; show (_ && S3.mayS (g.drop 32) && _) = false; rw [hm, Bool.and_false]; rfl
theorem ver_right {p m g : List UInt8} {P : Ed} (h : fromL p = some P) (hg : g.length = 64) (hm : S3.mayS (g.drop 32) = true) : verL p m g = rightL P p m g := by unfold verL; rw [h]; show (decide (g.length = 64) && S3.mayS (g.drop 32) && _) = _; rw [hm, decide_eq_true hg]; rfl
theorem enBaseMc (args : Array Value) (w : World) : (callFunc 35 args).run Tryz.prog w = .ok (.enter 35 args) w := by kernel_rfl
theorem enMulMc (args : Array Value) (w : World) : (callFunc 36 args).run Tryz.prog w = .ok (.enter 36 args) w := by kernel_rfl
theorem enNegMc (args : Array Value) (w : World) : (callFunc 42 args).run Tryz.prog w = .ok (.enter 42 args) w := by kernel_rfl
theorem enAddMc (args : Array Value) (w : World) : (callFunc 41 args).run Tryz.prog w = .ok (.enter 41 args) w := by kernel_rfl
theorem verify_any (A B C : Option Addr) (n c1 m c2 k c3 : Nat) (p x g : List UInt8) (w : World) (hp : p.length = n) (hx : x.length = m) (hg : g.length = k) (hn : n ≤ 1000) (hm : m ≤ 100000)
  (hrp : Rd w (.slice A n c1) 1 n (bvs p)) (hrx : Rd w (.slice B m c2) 1 m (bvs x)) (hrg : Rd w (.slice C k c3) 1 k (bvs g)) :
  Calls Tryz.prog 12 #[.slice A n c1, .slice B m c2, .slice C k c3] w fun e w' => e = .returned (.bool (verL p x g)) ∧ Below w.heap.size w w' := by
 have HS := hide (St.init w NoB)
 have HRP := hide hrp
 have HRX := hide hrx
 have HLP := hide hp
 have HLX := hide hx
 cases hf : fromL p with
 | none =>
  have HF := hide hf
  have HV := hide (ver_none (m := x) (g := g) hf)
  clear hrp hrx hrg hp hx hg hf hn hm
  go_enter Tryz.func12, Tryz.ntmps12
  have M0 := True.intro
  go_wp2_with (first | (clear M2; refine wl_storeR rfl rfl rfl rfl HS.out rowP .head (by first | exact arr_zP | exact PtV.arr ‹_›) (by first | exact PtV.arr ‹_› | exact arr_zP) ?_; intro wz hS9; have HS := hide hS9; clear hS9; (try simp only [Act.put, nq1, nq2, nq3, nq4, nq5, nq6]); have M3 := True.intro) | (clear M1; refine wl_allocR rfl rfl HS.out newP ?_; intro gp wz hS9; have HS := hide hS9; clear hS9; (try simp only [Act.put, nq1, nq2, nq3, nq4, nq5, nq6]); have M2 := True.intro) | (clear M0; go_at_call 38; (with_reducible refine (from_none _ HF.out HLP.out HRP.out).mono ?_); rintro e wy ⟨zp, hzp, rfl, hb⟩; have HS := hide (HS.out.call hb); have M1 := True.intro))
  go_ret
  exact ⟨by rw [HV.out] <;> rfl, HS.out.below⟩
 | some P =>
  have HF := hide hf
  by_cases h64 : k = 64
  ·subst h64
   obtain ⟨b, o, rfl, hc64, hr1, hr2⟩ := rd_halves hg hrg
   have HR1 := hide hr1
   have HR2 := hide hr2
   have HL1 := hide (show (g.take 32).length = 32 by rw [List.length_take, hg]; rfl)
   have HL2 := hide (show (g.drop 32).length = 32 by rw [List.length_drop, hg])
   have hcc : (64 : Int) ≤ (c3 : Int) := by omega
   have hcc2 : (32 : Int) ≤ (c3 : Int) := by omega
   have hcc4 : ¬ c3 = 32 := by omega
   cases hmy : S3.mayS (g.drop 32) with
   | false =>
    have HMY := hide hmy
    have HV := hide (ver_may (m := x) hf hmy)
    clear hrp hrx hrg hp hx hg hf hmy hr1 hr2
    go_enter Tryz.func12, Tryz.ntmps12
    have M0 := True.intro
    go_wp2_with (first | (clear M3; go_at_call 39; (with_reducible refine (mayB _ HMY.out HL2.out (HR2.out.below HS.out.below)).mono ?_); rintro e wy ⟨rfl, hb⟩; have HS := hide (HS.out.call hb); have M4 := True.intro) | (clear M2; refine wl_storeR rfl rfl rfl rfl HS.out rowP .head (by first | exact arr_zP | exact PtV.arr ‹_›) (by first | exact PtV.arr ‹_› | exact arr_zP) ?_; intro wz hS9; have HS := hide hS9; clear hS9; (try simp only [Act.put, nq1, nq2, nq3, nq4, nq5, nq6]); have M3 := True.intro) | (clear M1; refine wl_allocR rfl rfl HS.out newP ?_; intro gp wz hS9; have HS := hide hS9; clear hS9; (try simp only [Act.put, nq1, nq2, nq3, nq4, nq5, nq6]); have M2 := True.intro) | (clear M0; go_at_call 38; (with_reducible refine (from_some _ HF.out HLP.out HRP.out).mono ?_); rintro e wy ⟨zp, hzp, rfl, hb⟩; have HS := hide (HS.out.call hb); have M1 := True.intro))
    go_ret
    exact ⟨by rw [HV.out] <;> rfl, HS.out.below⟩
   | true =>
    have HMY := hide hmy
    have HV := hide ((ver_right (m := x) hf hg hmy).trans rfl)
    clear hrp hrx hrg hp hx hg hf hmy hr1 hr2
    go_enter Tryz.func12, Tryz.ntmps12
    have M0 := True.intro
    go_upto_region 4 with (first | (clear M3; go_at_call 39; (with_reducible refine (mayB _ HMY.out HL2.out (HR2.out.below HS.out.below)).mono ?_); rintro e wy ⟨rfl, hb⟩; have HS := hide (HS.out.call hb); have M4 := True.intro) | (clear M2; refine wl_storeR rfl rfl rfl rfl HS.out rowP .head (by first | exact arr_zP | exact PtV.arr ‹_›) (by first | exact PtV.arr ‹_› | exact arr_zP) ?_; intro wz hS9; have HS := hide hS9; clear hS9; (try simp only [Act.put, nq1, nq2, nq3, nq4, nq5, nq6]); have M3 := True.intro) | (clear M1; refine wl_allocR rfl rfl HS.out newP ?_; intro gp wz hS9; have HS := hide hS9; clear hS9; (try simp only [Act.put, nq1, nq2, nq3, nq4, nq5, nq6]); have M2 := True.intro) | (clear M0; go_at_call 38; (with_reducible refine (from_some _ HF.out HLP.out HRP.out).mono ?_); rintro e wy ⟨zp, hzp, rfl, hb⟩; have HS := hide (HS.out.call hb); have M1 := True.intro))
    have HS := hide HS.out.drew
    refine wp_region_T [(0, 1), (1, 1), (2, 1), (3, 1), (4, 1), (5, 1)] (by kernel_rfl) (by kernel_rfl) (fun _ _ _ _ h => h) ?_
    generalize wy.drew = wq at HS ⊢
    (refine wpT_pure (v := ?_) rfl rfl ?_ ?_; rotate_left; (intro wx; go_simp; try go_bits) <;> (with_reducible rfl)); (try simp only [Act.put, nq1, nq2, nq3, nq4, nq5, nq6])
    (refine wpT_pure (v := ?_) rfl rfl ?_ ?_; rotate_left; (intro wx; go_simp; try go_bits) <;> (with_reducible rfl)); (try simp only [Act.put, nq1, nq2, nq3, nq4, nq5, nq6])
    (refine wpT_pure (v := ?_) rfl rfl ?_ ?_; rotate_left; (intro wx; go_simp; try go_bits) <;> (with_reducible rfl)); (try simp only [Act.put, nq1, nq2, nq3, nq4, nq5, nq6])
    (refine wpT_pure (v := ?_) rfl rfl ?_ ?_; rotate_left; (intro wx; go_simp; try go_bits) <;> (with_reducible rfl)); (try simp only [Act.put, nq1, nq2, nq3, nq4, nq5, nq6])
    (refine wpT_pure (v := ?_) rfl rfl ?_ ?_; rotate_left; (intro wx; go_simp; try go_bits) <;> (with_reducible rfl)); (try simp only [Act.put, nq1, nq2, nq3, nq4, nq5, nq6])
    (refine wpT_pure (v := ?_) rfl rfl ?_ ?_; rotate_left; (intro wx; go_simp; try go_bits) <;> (with_reducible rfl)); (try simp only [Act.put, nq1, nq2, nq3, nq4, nq5, nq6])
    refine wpT_nil ?_
    go_upto_region 6 with (go_at_call 40; (with_reducible refine (sum3 _ HL1.out HLP.out HLX.out (by omega) (HR1.out.below HS.out.below) (HRP.out.below HS.out.below) (HRX.out.below HS.out.below)).mono ?_); rintro e wy ⟨Bh, dh, rfl, hb, ho⟩; have HS := hide ((HS.out.skip _).row hb ho); clear ho)
    have HS := hide HS.out.drew
    refine wp_region_XE [(8, 12)] [(1, 1), (3, 0), (4, 1), (0, 2), (2, 2), (5, 2), (6, 2), (7, 2)] (.op 9 2 (.nil)) zP 63 (by kernel_rfl) (by kernel_rfl) (by kernel_rfl) (by intro p hp; simp only [List.mem_cons, List.not_mem_nil, or_false] at hp; subst hp; exact flOp_of rfl rfl rfl (fun ev x => run_allocR rfl newP ev x)) (fun _ _ _ _ h => h) ?_
    generalize wy.drew = W0 at HS ⊢
    have hX := Below.refl W0.heap.size W0
    (refine wpX_pure (v := ?_) rfl rfl ?_ ?_; rotate_left; (intro wx; go_simp; try go_bits) <;> (with_reducible rfl)); (try simp only [Act.put, nq1, nq2, nq3, nq4, nq5, nq6])
    refine wpX_loadP rfl rfl rfl rfl HS.out (.tail _ (.head _)) rowP (.all (PtV.arr hzp)) ?_; (try simp only [Act.put, nq1, nq2, nq3, nq4, nq5, nq6])
    (refine wpX_pure (v := ?_) rfl rfl ?_ ?_; rotate_left; (intro wx; go_simp; try go_bits) <;> (with_reducible rfl)); (try simp only [Act.put, nq1, nq2, nq3, nq4, nq5, nq6])
    refine wpX_callH rfl rfl rfl enBaseMc rfl (fun x hx => baseP x) ?_; rintro xw e wy hx ⟨z1, hz1, rfl, hb⟩; refine ⟨_, rfl, hb, ?_⟩; have hX := bnx (bnx hX hx) hb; (try simp only [Act.put, nq1, nq2, nq3, nq4, nq5, nq6])
    refine wpX_callH rfl rfl rfl enMulMc rfl (fun x hx => mulP_any _ _ _ _ x (PtN.v hz1) HL2.out (by omega) (HR2.out.below (bnx HS.out.below (bnx hX hx)))) ?_; rintro xw e wy hx ⟨z2, hz2, rfl, hb⟩; refine ⟨_, rfl, hb, ?_⟩; have hX := bnx (bnx hX hx) hb; (try simp only [Act.put, nq1, nq2, nq3, nq4, nq5, nq6])
    refine wpX_callH rfl rfl rfl enMulMc rfl (fun x hx => mulP_any _ _ _ _ x hzp (sumS_len _) (by omega) ((HS.out.rd 0 rfl).below (bnx hX hx))) ?_; rintro xw e wy hx ⟨z3, hz3, rfl, hb⟩; refine ⟨_, rfl, hb, ?_⟩; have hX := bnx (bnx hX hx) hb; (try simp only [Act.put, nq1, nq2, nq3, nq4, nq5, nq6])
    refine wpX_callH rfl rfl rfl enNegMc rfl (fun x hx => negP x (PtN.v hz3)) ?_; rintro xw e wy hx ⟨z4, hz4, rfl, hb⟩; refine ⟨_, rfl, hb, ?_⟩; have hX := bnx (bnx hX hx) hb; (try simp only [Act.put, nq1, nq2, nq3, nq4, nq5, nq6])
    refine wpX_callH rfl rfl rfl enAddMc rfl (fun x hx => addP x (PtN.v hz2) (PtN.v hz4)) ?_; rintro xw e wy hx ⟨z5, hz5, rfl, hb⟩; refine ⟨_, rfl, hb, ?_⟩; have hX := bnx (bnx hX hx) hb; (try simp only [Act.put, nq1, nq2, nq3, nq4, nq5, nq6])
    refine wpX_nil ?_; intro G xz hx0 hx hF; have hS9 := HS.out.floats hx0 hF _ (by decide) (fun _ h => h); simp only [List.map_cons, List.map_nil, List.cons_append, List.nil_append] at hS9; have HS := hide hS9; have HX := hide hx0; have HG := hide hF.at_; clear hS9 hF hx0 hx; simp only [putsE, List.foldl_cons, List.foldl_nil]; (try simp only [Act.put, nq1, nq2, nq3, nq4, nq5, nq6])
    refine wpS_storeF rfl rfl rfl rfl rfl HS.out HX.out (HG.out 8 (by simp)).1 rowP (.head) arr_zP (PtN.arr hz5) ?_; intro wz hS9 hX9; have HS := hide hS9; have HX := hide hX9; clear hS9 hX9; (try simp only [Act.put, nq1, nq2, nq3, nq4, nq5, nq6])
    refine wpS_nil ?_
    have M0 := True.intro
    go_wp2_with (first | (clear M2; go_at_call 43; (with_reducible refine (equal_walk _ _ 32 _ _ _ _ _ (packL_len _) HL1.out (by decide) (HS.out.rd 0 rfl) (HR1.out.below HS.out.below)).mono ?_); rintro e wy ⟨rfl, hb⟩; have HS := hide (HS.out.call hb); have M3 := True.intro) | (clear M1; go_at_call 37; (with_reducible refine (bytesP32 _ (PtN.v hz5)).mono ?_); rintro e wy ⟨Bw, dw, rfl, hb, ho⟩; have HS := hide (HS.out.row hb ho); clear ho; have M2 := True.intro) | (clear M0; refine wl_loadP rfl rfl rfl HS.out (.head _) rowP (.all (PtN.arr hz5)) ?_; (try simp only [Act.put, nq1, nq2, nq3, nq4, nq5, nq6]); have M1 := True.intro))
    go_ret
    exact ⟨by rw [HV.out] <;> rfl, HS.out.below⟩
  ·have HV := hide (ver_long (m := x) hf (show g.length ≠ 64 by rw [hg]; exact h64))
   have d1 : ((k : Int) != 64) = true := by simp; omega
   have d2 : decide ((k : Int) = 64) = false := by simp; omega
   clear hrp hrx hrg hp hx hg hf h64
   go_enter Tryz.func12, Tryz.ntmps12
   have M0 := True.intro
   go_wp2_with (first | (clear M2; refine wl_storeR rfl rfl rfl rfl HS.out rowP .head (by first | exact arr_zP | exact PtV.arr ‹_›) (by first | exact PtV.arr ‹_› | exact arr_zP) ?_; intro wz hS9; have HS := hide hS9; clear hS9; (try simp only [Act.put, nq1, nq2, nq3, nq4, nq5, nq6]); have M3 := True.intro) | (clear M1; refine wl_allocR rfl rfl HS.out newP ?_; intro gp wz hS9; have HS := hide hS9; clear hS9; (try simp only [Act.put, nq1, nq2, nq3, nq4, nq5, nq6]); have M2 := True.intro) | (clear M0; go_at_call 38; (with_reducible refine (from_some _ HF.out HLP.out HRP.out).mono ?_); rintro e wy ⟨zp, hzp, rfl, hb⟩; have HS := hide (HS.out.call hb); have M1 := True.intro))
   go_ret
   exact ⟨by rw [HV.out] <;> rfl, HS.out.below⟩
end Go.Proofs.YtnohmgpmmhlloaaGreatDoor

namespace Go.Proofs.YtnohmgpmmhlloaaGreatDoor
open Go.RowKit
set_option linter.unusedSimpArgs false

structure QtN (v : Array Value) (P : Ed) : Prop where
 ex : ∃ A a b c d, v = quad a b c d ∧ NA a A.X ∧ NA b A.Y ∧ NA c A.Z ∧ NA d A.T ∧ Rp A P
theorem QtN.arr {v : Array Value} {P : Ed} (h : QtN v P) : Arr 64 v := by
 obtain ⟨A, a, b, c, d, rfl, h2, h3, h4, h5, _⟩ := h.ex
 exact quad_arr h2.arr h3.arr h4.arr h5.arr rfl
end Go.Proofs.YtnohmgpmmhlloaaGreatDoor

namespace Go.Proofs.YtnohmgpmmhlloaaGreatDoor
open Go.RowKit
set_option linter.unusedSimpArgs false
end Go.Proofs.YtnohmgpmmhlloaaGreatDoor

namespace Go.Proofs.YtnohmgpmmhlloaaGreatDoor
open Go.RowKit
set_option linter.unusedSimpArgs false

end Go.Proofs.YtnohmgpmmhlloaaGreatDoor

namespace Go.Proofs.YtnohmgpmmhlloaaGreatDoor
open Go.RowKit
set_option linter.unusedSimpArgs false

end Go.Proofs.YtnohmgpmmhlloaaGreatDoor

namespace Go.Proofs.YtnohmgpmmhlloaaGreatDoor
open Go.RowKit
set_option linter.unusedSimpArgs false

section
variable {P : Program} {ops : Array Oper} {Q : Exit → Act → World → Prop} {rest : List Oper} {o : Oper} {a : Act} {w0 w : World} {M : Nat → Prop} {H : List Chunk} {t e : TypeId} {n g off : Nat} {x : Operand} {cs part : Array Value}
end
end Go.Proofs.YtnohmgpmmhlloaaGreatDoor

namespace Go.Proofs.YtnohmgpmmhlloaaGreatDoor
open Go.RowKit
set_option linter.unusedSimpArgs false

end Go.Proofs.YtnohmgpmmhlloaaGreatDoor

namespace Go.Proofs.YtnohmgpmmhlloaaGreatDoor
open Go.RowKit
set_option linter.unusedSimpArgs false

end Go.Proofs.YtnohmgpmmhlloaaGreatDoor

namespace Go.Proofs.YtnohmgpmmhlloaaGreatDoor
open Go.RowKit
set_option linter.unusedSimpArgs false

def xb (c : Nat) : Nat := if c < 128 then c + 128 else c - 128
end Go.Proofs.YtnohmgpmmhlloaaGreatDoor

namespace Go.Proofs.YtnohmgpmmhlloaaGreatDoor
open Go.RowKit
set_option linter.unusedSimpArgs false
def ob (c : Nat) : Nat := if c < 128 then c + 128 else c
end Go.Proofs.YtnohmgpmmhlloaaGreatDoor

namespace Go.Proofs.YtnohmgpmmhlloaaGreatDoor.S3
open Go.RowKit
set_option linter.unusedSimpArgs false

theorem rd_at' {w : World} {B : Option Addr} {n d : Nat} {xs : List Value} {k : Nat} {u : Value} (h : Rd w (.slice B n d) 1 n xs) (hk : xs[k]? = some u) : ∃ b o, B = some ⟨b, o, none⟩ ∧ w.cell? ⟨b, o + k, none⟩ = some u := by
 rcases h.cases with ⟨_, _, h0⟩ | ⟨b, o, sp, c', hv, _, _, _, hl, h4, hc⟩
 ·rw [h0] at hk; simp at hk
 ·injection hv with hv1 _ _
  have hkl : k < xs.length := (List.getElem?_eq_some_iff.1 hk).1
  have := h4 (by omega)
  subst this hv1
  exact ⟨b, o, rfl, hc k u hk⟩
def ivs (xs : List Int) : List Value := xs.map (.int .i64 ·)
theorem ivs_len (xs : List Int) : (ivs xs).length = xs.length := by simp [ivs]
def dv : List Int → Int
 | [] => 0
 | x :: xs => x + 256 * dv xs
theorem wl_run {P : Program} {ops : Array Oper} {rest : List Oper} {o : Oper} {a : Act} {w : World} {Q : Exit → Act → World → Prop} (hgd : o.guard = none) {v : Value} (hrun : (execOp a.eval o).run P w = .ok (.value v) w)
  (h : wpList P ops Q rest (a.put o.dst v) w) : wpList P ops Q (o :: rest) a w :=
 wpList_plain hgd fun K hK => by
  unfold Oper.wp
  rw [hrun, Oper.upon_value]
  exact hK _ _ h
section
variable {P : Program} {ops : Array Oper} {rest : List Oper} {o : Oper} {a : Act} {w : World} {Q : Exit → Act → World → Prop}
end
end Go.Proofs.YtnohmgpmmhlloaaGreatDoor.S3

namespace Go.Proofs.YtnohmgpmmhlloaaGreatDoor.S3
open Go.RowKit
set_option linter.unusedSimpArgs false

theorem bval_bit (l : List UInt8) {q r : Nat} {c : UInt8} (hc : l[q]? = some c) (hr : r < 8) : c.toNat / 2 ^ r % 2 = bval l / 2 ^ (8 * q + r) % 2 := by
 have hq := (List.getElem?_eq_some_iff.1 hc).1
 have h1 : bval l = bval (l.take q) + 256 ^ q * (c.toNat + 256 * bval (l.drop (q + 1))) := by
  have e := bval_append (l.take q) (l.drop q)
  rw [List.take_append_drop, List.length_take, Nat.min_eq_left (by omega)] at e
  rw [e, List.drop_eq_getElem_cons hq]
  rw [List.getElem?_eq_getElem hq] at hc
  injection hc with hc
  rw [hc, bval]
 have h2 := bval_lt (l.take q)
 rw [List.length_take, Nat.min_eq_left (by omega)] at h2
 have hp : (2 : Nat) ^ (8 * q + r) = 256 ^ q * 2 ^ r := by rw [Nat.pow_add, Nat.pow_mul]
 rw [hp, ← Nat.div_div_eq_div_mul, h1, Nat.add_mul_div_left _ _ (Nat.pos_of_ne_zero (by omega)), Nat.div_eq_of_lt h2, Nat.zero_add]
 generalize bval (l.drop (q + 1)) = R
 generalize c.toNat = C
 match r, hr with
 | 0, _ => omega
 | 1, _ => omega
 | 2, _ => omega
 | 3, _ => omega
 | 4, _ => omega
 | 5, _ => omega
 | 6, _ => omega
 | 7, _ => omega
end Go.Proofs.YtnohmgpmmhlloaaGreatDoor.S3

namespace Go.Proofs.YtnohmgpmmhlloaaGreatDoor.S3
open Go.RowKit
set_option linter.unusedSimpArgs false

theorem bnx {w0 w w' : World} (h : Below w0.heap.size w0 w) (h2 : Below w.heap.size w w') : Below w0.heap.size w0 w' := h.trans (h2.mono h.size)
end Go.Proofs.YtnohmgpmmhlloaaGreatDoor.S3

namespace Go.Proofs.YtnohmgpmmhlloaaGreatDoor.S3
open Go.RowKit
set_option linter.unusedSimpArgs false

end Go.Proofs.YtnohmgpmmhlloaaGreatDoor.S3

namespace Go.Proofs.YtnohmgpmmhlloaaGreatDoor.S1
open Go.RowKit
set_option linter.unusedSimpArgs false

def lenOf : Value → Nat
 | .slice _ n _ => n
 | _ => 0
end Go.Proofs.YtnohmgpmmhlloaaGreatDoor.S1

namespace Go.Proofs.YtnohmgpmmhlloaaGreatDoor
open Go.RowKit
set_option linter.unusedSimpArgs false
end Go.Proofs.YtnohmgpmmhlloaaGreatDoor

namespace Go.Proofs.YtnohmgpmmhlloaaGreatDoor
open Go.RowKit
set_option linter.unusedSimpArgs false
end Go.Proofs.YtnohmgpmmhlloaaGreatDoor

namespace Go.Proofs.YtnohmgpmmhlloaaGreatDoor
open Go.RowKit
set_option linter.unusedSimpArgs false
end Go.Proofs.YtnohmgpmmhlloaaGreatDoor

namespace Go.Proofs.YtnohmgpmmhlloaaGreatDoor
open Go.RowKit
set_option linter.unusedSimpArgs false
end Go.Proofs.YtnohmgpmmhlloaaGreatDoor

namespace Go.Proofs.YtnohmgpmmhlloaaGreatDoor
open Go.RowKit
set_option linter.unusedSimpArgs false
end Go.Proofs.YtnohmgpmmhlloaaGreatDoor

namespace Go.Proofs.YtnohmgpmmhlloaaGreatDoor
open Go.RowKit
set_option linter.unusedSimpArgs false
noncomputable def sameSp (x y : Sp) : Bool := @decide (x = y) (Classical.propDecidable _)
theorem sameSp_yes {x y : Sp} (h : x = y) : sameSp x y = true := @decide_eq_true _ (Classical.propDecidable _) h
theorem sameSp_no {x y : Sp} (h : x ≠ y) : sameSp x y = false := @decide_eq_false _ (Classical.propDecidable _) h
theorem sameSp_of {x y : Sp} (h : sameSp x y = true) : x = y := @of_decide_eq_true _ (Classical.propDecidable _) h
theorem sameSp_not {x y : Sp} (h : sameSp x y = false) : x ≠ y := @of_decide_eq_false _ (Classical.propDecidable _) h
noncomputable def sameSl (x y : List Sp) : Bool := @decide (x = y) (Classical.propDecidable _)
theorem sameSl_yes {x y : List Sp} (h : x = y) : sameSl x y = true := @decide_eq_true _ (Classical.propDecidable _) h
theorem sameSl_no {x y : List Sp} (h : x ≠ y) : sameSl x y = false := @decide_eq_false _ (Classical.propDecidable _) h
theorem sameSl_of {x y : List Sp} (h : sameSl x y = true) : x = y := @of_decide_eq_true _ (Classical.propDecidable _) h
theorem sameSl_not {x y : List Sp} (h : sameSl x y = false) : x ≠ y := @of_decide_eq_false _ (Classical.propDecidable _) h
noncomputable def sameTp (x y : Tp) : Bool := @decide (x = y) (Classical.propDecidable _)
theorem sameTp_yes {x y : Tp} (h : x = y) : sameTp x y = true := @decide_eq_true _ (Classical.propDecidable _) h
theorem sameTp_no {x y : Tp} (h : x ≠ y) : sameTp x y = false := @decide_eq_false _ (Classical.propDecidable _) h
theorem eq_of_b {a b : List UInt8} (h : (a == b) = true) : a = b := by simpa using h
theorem ne_of_b {a b : List UInt8} (h : (a == b) = false) : a ≠ b := by simpa using h
theorem eqB_any (A B : Option Addr) (n m c d : Nat) (l k : List UInt8) (b : Bool) (w : World) (hb : (l == k) = b) (hr1 : Rd w (.slice A n c) 1 n (bvs l)) (hr2 : Rd w (.slice B m d) 1 m (bvs k)) :
  Calls Tryz.prog 54 #[.slice A n c, .slice B m d] w fun e w' => e = .returned (.bool b) ∧ w = w' := by
 have cv1 := run_str (P := Tryz.prog) Tryz.underlying22 Tryz.underlying5 Tryz.underlying9 hr1
 have cv2 := run_str (P := Tryz.prog) Tryz.underlying22 Tryz.underlying5 Tryz.underlying9 hr2
 clear hr1 hr2
 go_enter Tryz.func54, Tryz.ntmps54
 go_wp2_with fail
 go_ret
 exact ⟨rfl, rfl⟩
theorem sameSg_core (A1 A2 A3 A4 A5 B1 B2 B3 B4 B5 : Option Addr) (na1 ca1 na2 ca2 na3 ca3 na4 ca4 na5 ca5 nb1 cb1 nb2 cb2 nb3 cb3 nb4 cb4 nb5 cb5 : Nat) (l1 l2 l3 l4 l5 k1 k2 k3 k4 k5 : List UInt8) (w : World) (ha1 : Rd w (.slice A1 na1 ca1) 1 na1 (bvs l1)) (ha2 : Rd w (.slice A2 na2 ca2) 1 na2 (bvs l2)) (ha3 : Rd w (.slice A3 na3 ca3) 1 na3 (bvs l3)) (ha4 : Rd w (.slice A4 na4 ca4) 1 na4 (bvs l4)) (ha5 : Rd w (.slice A5 na5 ca5) 1 na5 (bvs l5)) (hb1 : Rd w (.slice B1 nb1 cb1) 1 nb1 (bvs k1)) (hb2 : Rd w (.slice B2 nb2 cb2) 1 nb2 (bvs k2)) (hb3 : Rd w (.slice B3 nb3 cb3) 1 nb3 (bvs k3)) (hb4 : Rd w (.slice B4 nb4 cb4) 1 nb4 (bvs k4)) (hb5 : Rd w (.slice B5 nb5 cb5) 1 nb5 (bvs k5)) :
  Calls Tryz.prog 56 #[.agg #[.slice A1 na1 ca1, .slice A2 na2 ca2, .slice A3 na3 ca3, .slice A4 na4 ca4, .slice A5 na5 ca5], .agg #[.slice B1 nb1 cb1, .slice B2 nb2 cb2, .slice B3 nb3 cb3, .slice B4 nb4 cb4, .slice B5 nb5 cb5]] w fun e w' => e = .returned (.bool (sameSp ⟨l1, l2, l3, l4, l5⟩ ⟨k1, k2, k3, k4, k5⟩)) ∧ Below w.heap.size w w' := by
 have hS0 := ((St.init w NoB).alloc #[.slice A1 na1 ca1, .slice A2 na2 ca2, .slice A3 na3 ca3, .slice A4 na4 ca4, .slice A5 na5 ca5] 32).alloc #[.slice B1 nb1 cb1, .slice B2 nb2 cb2, .slice B3 nb3 cb3, .slice B4 nb4 cb4, .slice B5 nb5 cb5] 32
 rw [size_alloc1] at hS0
 have HS := hide hS0
 clear hS0
 have HA1 := hide (ha1.below HS.out.below)
 have HA2 := hide (ha2.below HS.out.below)
 have HA3 := hide (ha3.below HS.out.below)
 have HA4 := hide (ha4.below HS.out.below)
 have HA5 := hide (ha5.below HS.out.below)
 have HB1 := hide (hb1.below HS.out.below)
 have HB2 := hide (hb2.below HS.out.below)
 have HB3 := hide (hb3.below HS.out.below)
 have HB4 := hide (hb4.below HS.out.below)
 have HB5 := hide (hb5.below HS.out.below)
 clear ha1 ha2 ha3 ha4 ha5 hb1 hb2 hb3 hb4 hb5
 have ta1 : _ = some (Value.slice A1 na1 ca1) := HS.out.cell 1 rfl 0
 have ta2 : _ = some (Value.slice A2 na2 ca2) := HS.out.cell 1 rfl 1
 have ta3 : _ = some (Value.slice A3 na3 ca3) := HS.out.cell 1 rfl 2
 have ta4 : _ = some (Value.slice A4 na4 ca4) := HS.out.cell 1 rfl 3
 have ta5 : _ = some (Value.slice A5 na5 ca5) := HS.out.cell 1 rfl 4
 have tb1 : _ = some (Value.slice B1 nb1 cb1) := HS.out.cell 0 rfl 0
 have tb2 : _ = some (Value.slice B2 nb2 cb2) := HS.out.cell 0 rfl 1
 have tb3 : _ = some (Value.slice B3 nb3 cb3) := HS.out.cell 0 rfl 2
 have tb4 : _ = some (Value.slice B4 nb4 cb4) := HS.out.cell 0 rfl 3
 have tb5 : _ = some (Value.slice B5 nb5 cb5) := HS.out.cell 0 rfl 4
 cases e1 : (l1 == k1) with
 | false =>
  go_enter Tryz.func56, Tryz.ntmps56
  have M0 := True.intro
  go_wp2_with (first
   | (clear M0; go_at_call 54; (with_reducible refine (eqB_any _ _ _ _ _ _ _ _ _ _ e1 HA1.out HB1.out).mono ?_); rintro e wy ⟨rfl, rfl⟩; have M1 := True.intro))
  go_ret
  exact ⟨congrArg (fun b => Ending.returned (.bool b)) (sameSp_no (fun h => ne_of_b e1 (congrArg Sp.b h))).symm, HS.out.below⟩
 | true =>
  cases e2 : (l2 == k2) with
  | false =>
   go_enter Tryz.func56, Tryz.ntmps56
   have M0 := True.intro
   go_wp2_with (first
    | (clear M1; go_at_call 54; (with_reducible refine (eqB_any _ _ _ _ _ _ _ _ _ _ e2 HA2.out HB2.out).mono ?_); rintro e wy ⟨rfl, rfl⟩; have M2 := True.intro)
    | (clear M0; go_at_call 54; (with_reducible refine (eqB_any _ _ _ _ _ _ _ _ _ _ e1 HA1.out HB1.out).mono ?_); rintro e wy ⟨rfl, rfl⟩; have M1 := True.intro))
   go_ret
   exact ⟨congrArg (fun b => Ending.returned (.bool b)) (sameSp_no (fun h => ne_of_b e2 (congrArg Sp.n h))).symm, HS.out.below⟩
  | true =>
   cases e3 : (l3 == k3) with
   | false =>
    go_enter Tryz.func56, Tryz.ntmps56
    have M0 := True.intro
    go_wp2_with (first
     | (clear M2; go_at_call 54; (with_reducible refine (eqB_any _ _ _ _ _ _ _ _ _ _ e3 HA3.out HB3.out).mono ?_); rintro e wy ⟨rfl, rfl⟩; have M3 := True.intro)
     | (clear M1; go_at_call 54; (with_reducible refine (eqB_any _ _ _ _ _ _ _ _ _ _ e2 HA2.out HB2.out).mono ?_); rintro e wy ⟨rfl, rfl⟩; have M2 := True.intro)
     | (clear M0; go_at_call 54; (with_reducible refine (eqB_any _ _ _ _ _ _ _ _ _ _ e1 HA1.out HB1.out).mono ?_); rintro e wy ⟨rfl, rfl⟩; have M1 := True.intro))
    go_ret
    exact ⟨congrArg (fun b => Ending.returned (.bool b)) (sameSp_no (fun h => ne_of_b e3 (congrArg Sp.s h))).symm, HS.out.below⟩
   | true =>
    cases e4 : (l4 == k4) with
    | false =>
     go_enter Tryz.func56, Tryz.ntmps56
     have M0 := True.intro
     go_wp2_with (first
      | (clear M3; go_at_call 54; (with_reducible refine (eqB_any _ _ _ _ _ _ _ _ _ _ e4 HA4.out HB4.out).mono ?_); rintro e wy ⟨rfl, rfl⟩; have M4 := True.intro)
      | (clear M2; go_at_call 54; (with_reducible refine (eqB_any _ _ _ _ _ _ _ _ _ _ e3 HA3.out HB3.out).mono ?_); rintro e wy ⟨rfl, rfl⟩; have M3 := True.intro)
      | (clear M1; go_at_call 54; (with_reducible refine (eqB_any _ _ _ _ _ _ _ _ _ _ e2 HA2.out HB2.out).mono ?_); rintro e wy ⟨rfl, rfl⟩; have M2 := True.intro)
      | (clear M0; go_at_call 54; (with_reducible refine (eqB_any _ _ _ _ _ _ _ _ _ _ e1 HA1.out HB1.out).mono ?_); rintro e wy ⟨rfl, rfl⟩; have M1 := True.intro))
     go_ret
     exact ⟨congrArg (fun b => Ending.returned (.bool b)) (sameSp_no (fun h => ne_of_b e4 (congrArg Sp.k h))).symm, HS.out.below⟩
    | true =>
     cases e5 : (l5 == k5) with
     | false =>
      go_enter Tryz.func56, Tryz.ntmps56
      have M0 := True.intro
      go_wp2_with (first
       | (clear M4; go_at_call 54; (with_reducible refine (eqB_any _ _ _ _ _ _ _ _ _ _ e5 HA5.out HB5.out).mono ?_); rintro e wy ⟨rfl, rfl⟩; have M5 := True.intro)
       | (clear M3; go_at_call 54; (with_reducible refine (eqB_any _ _ _ _ _ _ _ _ _ _ e4 HA4.out HB4.out).mono ?_); rintro e wy ⟨rfl, rfl⟩; have M4 := True.intro)
       | (clear M2; go_at_call 54; (with_reducible refine (eqB_any _ _ _ _ _ _ _ _ _ _ e3 HA3.out HB3.out).mono ?_); rintro e wy ⟨rfl, rfl⟩; have M3 := True.intro)
       | (clear M1; go_at_call 54; (with_reducible refine (eqB_any _ _ _ _ _ _ _ _ _ _ e2 HA2.out HB2.out).mono ?_); rintro e wy ⟨rfl, rfl⟩; have M2 := True.intro)
       | (clear M0; go_at_call 54; (with_reducible refine (eqB_any _ _ _ _ _ _ _ _ _ _ e1 HA1.out HB1.out).mono ?_); rintro e wy ⟨rfl, rfl⟩; have M1 := True.intro))
      go_ret
      exact ⟨congrArg (fun b => Ending.returned (.bool b)) (sameSp_no (fun h => ne_of_b e5 (congrArg Sp.v h))).symm, HS.out.below⟩
     | true =>
      go_enter Tryz.func56, Tryz.ntmps56
      have M0 := True.intro
      go_wp2_with (first
       | (clear M4; go_at_call 54; (with_reducible refine (eqB_any _ _ _ _ _ _ _ _ _ _ e5 HA5.out HB5.out).mono ?_); rintro e wy ⟨rfl, rfl⟩; have M5 := True.intro)
       | (clear M3; go_at_call 54; (with_reducible refine (eqB_any _ _ _ _ _ _ _ _ _ _ e4 HA4.out HB4.out).mono ?_); rintro e wy ⟨rfl, rfl⟩; have M4 := True.intro)
       | (clear M2; go_at_call 54; (with_reducible refine (eqB_any _ _ _ _ _ _ _ _ _ _ e3 HA3.out HB3.out).mono ?_); rintro e wy ⟨rfl, rfl⟩; have M3 := True.intro)
       | (clear M1; go_at_call 54; (with_reducible refine (eqB_any _ _ _ _ _ _ _ _ _ _ e2 HA2.out HB2.out).mono ?_); rintro e wy ⟨rfl, rfl⟩; have M2 := True.intro)
       | (clear M0; go_at_call 54; (with_reducible refine (eqB_any _ _ _ _ _ _ _ _ _ _ e1 HA1.out HB1.out).mono ?_); rintro e wy ⟨rfl, rfl⟩; have M1 := True.intro))
      go_ret
      exact ⟨congrArg (fun b => Ending.returned (.bool b)) (sameSp_yes (by rw [eq_of_b e1, eq_of_b e2, eq_of_b e3, eq_of_b e4, eq_of_b e5])).symm, HS.out.below⟩
theorem eqFn_any (A B : Option Addr) (n m c d : Nat) (l k : List Sg) (w : World) (hl : l.length = n) (hk : k.length = m) (hn : n ≤ 1000) (hm : m ≤ 1000) (hr1 : Rd w (.slice A n c) 5 n (sgCells l)) (hr2 : Rd w (.slice B m d) 5 m (sgCells k)) (hx : ∀ x ∈ l, SgOK w x) (hy : ∀ x ∈ k, SgOK w x) :
  Calls Tryz.prog 55 #[.slice A n c, .slice B m d, .func (.func 56) #[] #[]] w fun e w' => e = .returned (.bool (sameSl (l.map Sg.p) (k.map Sg.p))) ∧ Below w.heap.size w w' := by
 by_cases h1 : n ≠ m
 ·have d1 : ((n : Int) != (m : Int)) = true := by simp; omega
  have d2 : (n != m) = true := by simp; omega
  have hne : (l.map Sg.p) ≠ (k.map Sg.p) := fun h => by
   have := congrArg List.length h
   rw [List.length_map, List.length_map] at this
   omega
  rw [sameSl_no hne]
  clear hr1 hr2 hx hy hne
  go_enter Tryz.func55, Tryz.ntmps55
  go_wp2_with fail
  go_ret
  exact ⟨rfl, Below.refl _ _⟩
 obtain rfl : n = m := Decidable.not_not.1 h1
 have HR1 := hide hr1
 have HR2 := hide hr2
 have HX := hide hx
 have HY := hide hy
 have HL := hide hl
 have HK := hide hk
 clear hr1 hr2 hx hy hl hk h1 hm
 go_enter Tryz.func55, Tryz.ntmps55
 go_wp2_with fail
 go_loopw [17] (fun iv wr => ∃ (j : Nat), j ≤ n ∧ iv = .int .i64 (j : Int) ∧ (l.take j).map Sg.p = (k.take j).map Sg.p ∧ Hid (Below w.heap.size w wr)) (fun iv _ => n - (intOf iv).toNat)
 case atStart => exact ⟨0, by omega, rfl, rfl, Below.refl _ _⟩
 case round =>
  obtain ⟨j, hj, rfl, hpr, HB⟩ := hrel
  have HPR := hide hpr
  clear hpr
  by_cases hlt : j < n
  ·have d0 : decide ((j : Int) < (n : Int)) = true := by simp; omega
   have d0' : decide (j < n) = true := by simp; omega
   have jn : (j : Int) < (n : Int) := by omega
   have hlk : l[j]? = some (l[j]'(by have := HL.out; omega)) := List.getElem?_eq_getElem _
   have hkk : k[j]? = some (k[j]'(by have := HK.out; omega)) := List.getElem?_eq_getElem _
   obtain ⟨b1, o1, rfl, h8, hc1⟩ := sg_at HR1.out hlk
   obtain ⟨b2, o2, rfl, h9, hc2⟩ := sg_at HR2.out hkk
   have HOX := hide (HX.out _ (List.mem_of_getElem? hlk))
   have HOY := hide (HY.out _ (List.mem_of_getElem? hkk))
   have HT1 := hide (show (l.take (j + 1)).map Sg.p = (l.take j).map Sg.p ++ [(l[j]'(by have := HL.out; omega)).p] by rw [List.take_add_one, hlk, List.map_append]; rfl)
   have HT2 := hide (show (k.take (j + 1)).map Sg.p = (k.take j).map Sg.p ++ [(k[j]'(by have := HK.out; omega)).p] by rw [List.take_add_one, hkk, List.map_append]; rfl)
   have HG1 := hide (show (l.map Sg.p)[j]? = some (l[j]'(by have := HL.out; omega)).p by rw [List.getElem?_map, hlk]; rfl)
   have HG2 := hide (show (k.map Sg.p)[j]? = some (k[j]'(by have := HK.out; omega)).p by rw [List.getElem?_map, hkk]; rfl)
   generalize l[j]'(_) = x at hlk hc1 HOX HT1 HG1
   generalize k[j]'(_) = y at hkk hc2 HOY HT2 HG2
   obtain ⟨⟨A1, ca1, l1⟩, ⟨A2, ca2, l2⟩, ⟨A3, ca3, l3⟩, ⟨A4, ca4, l4⟩, ⟨A5, ca5, l5⟩⟩ := x
   obtain ⟨⟨B1, cb1, k1⟩, ⟨B2, cb2, k2⟩, ⟨B3, cb3, k3⟩, ⟨B4, cb4, k4⟩, ⟨B5, cb5, k5⟩⟩ := y
   clear hlk hkk
   have HS := hide (St.init wr NoB)
   obtain ⟨x0, x1, x2, x3, x4⟩ := hc1 _ HB.out
   have M0 := True.intro
   go_upto_region 6 with (clear M0; refine wl_storeC rfl rfl (HS.out.alloc _ _) 0 rfl (vs := [.slice A1 l1.length ca1, .slice A2 l2.length ca2, .slice A3 l3.length ca3, .slice A4 l4.length ca4, .slice A5 l5.length ca5]) szSigned (Nat.le_refl _) rfl rfl one5 ?_; intro w5 hS5; have HS := hide hS5; clear hS5)
   clear x0 x1 x2 x3 x4
   obtain ⟨y0, y1, y2, y3, y4⟩ := hc2 _ (bnx HB.out HS.out.below)
   have M0 := True.intro
   go_upto_region 7 with (clear M0; refine wl_storeC rfl rfl (HS.out.alloc _ _) 0 rfl (vs := [.slice B1 k1.length cb1, .slice B2 k2.length cb2, .slice B3 k3.length cb3, .slice B4 k4.length cb4, .slice B5 k5.length cb5]) szSigned (Nat.le_refl _) rfl rfl one5 ?_; intro w6 hS5; have HS := hide hS5; clear hS5)
   clear y0 y1 y2 y3 y4 hc1 hc2
   have HBW := hide (bnx HB.out HS.out.below)
   have x0 : _ = some (Value.slice A1 l1.length ca1) := HS.out.cell 1 rfl 0
   have x1 : _ = some (Value.slice A2 l2.length ca2) := HS.out.cell 1 rfl 1
   have x2 : _ = some (Value.slice A3 l3.length ca3) := HS.out.cell 1 rfl 2
   have x3 : _ = some (Value.slice A4 l4.length ca4) := HS.out.cell 1 rfl 3
   have x4 : _ = some (Value.slice A5 l5.length ca5) := HS.out.cell 1 rfl 4
   have HEA1 : Hid (Rd w6 (.slice A1 l1.length ca1) 1 l1.length (bvs l1)) := hide (HOX.out.on HBW.out).b
   have HEA2 : Hid (Rd w6 (.slice A2 l2.length ca2) 1 l2.length (bvs l2)) := hide (HOX.out.on HBW.out).n
   have HEA3 : Hid (Rd w6 (.slice A3 l3.length ca3) 1 l3.length (bvs l3)) := hide (HOX.out.on HBW.out).s
   have HEA4 : Hid (Rd w6 (.slice A4 l4.length ca4) 1 l4.length (bvs l4)) := hide (HOX.out.on HBW.out).k
   have HEA5 : Hid (Rd w6 (.slice A5 l5.length ca5) 1 l5.length (bvs l5)) := hide (HOX.out.on HBW.out).v
   have y0 : _ = some (Value.slice B1 k1.length cb1) := HS.out.cell 0 rfl 0
   have y1 : _ = some (Value.slice B2 k2.length cb2) := HS.out.cell 0 rfl 1
   have y2 : _ = some (Value.slice B3 k3.length cb3) := HS.out.cell 0 rfl 2
   have y3 : _ = some (Value.slice B4 k4.length cb4) := HS.out.cell 0 rfl 3
   have y4 : _ = some (Value.slice B5 k5.length cb5) := HS.out.cell 0 rfl 4
   have HEB1 : Hid (Rd w6 (.slice B1 k1.length cb1) 1 k1.length (bvs k1)) := hide (HOY.out.on HBW.out).b
   have HEB2 : Hid (Rd w6 (.slice B2 k2.length cb2) 1 k2.length (bvs k2)) := hide (HOY.out.on HBW.out).n
   have HEB3 : Hid (Rd w6 (.slice B3 k3.length cb3) 1 k3.length (bvs k3)) := hide (HOY.out.on HBW.out).s
   have HEB4 : Hid (Rd w6 (.slice B4 k4.length cb4) 1 k4.length (bvs k4)) := hide (HOY.out.on HBW.out).k
   have HEB5 : Hid (Rd w6 (.slice B5 k5.length cb5) 1 k5.length (bvs k5)) := hide (HOY.out.on HBW.out).v
   cases eb : sameSp ⟨l1, l2, l3, l4, l5⟩ ⟨k1, k2, k3, k4, k5⟩ with
   | false =>
    go_wp2_with (go_at_call 56; (with_reducible refine (sameSg_core _ _ _ _ _ _ _ _ _ _ _ _ _ _ _ _ _ _ _ _ _ _ _ _ _ _ _ _ _ _ _ _ _ _ _ _ _ _ _ _ _ HEA1.out HEA2.out HEA3.out HEA4.out HEA5.out HEB1.out HEB2.out HEB3.out HEB4.out HEB5.out).mono ?_); rintro e w7 ⟨rfl, hb⟩; rw [eb]; have HS := hide (HS.out.call hb))
    go_ret
    exact ⟨congrArg (fun b => Ending.returned (.bool b)) (sameSl_no (fun h => sameSp_not eb (by
     have h1 := HG1.out
     rw [h, HG2.out] at h1
     exact (Option.some.inj h1).symm))).symm, bnx HB.out HS.out.below⟩
   | true =>
    have HEQ := hide (sameSp_of eb)
    go_wp2_with (go_at_call 56; (with_reducible refine (sameSg_core _ _ _ _ _ _ _ _ _ _ _ _ _ _ _ _ _ _ _ _ _ _ _ _ _ _ _ _ _ _ _ _ _ _ _ _ _ _ _ _ _ HEA1.out HEA2.out HEA3.out HEA4.out HEA5.out HEB1.out HEB2.out HEB3.out HEB4.out HEB5.out).mono ?_); rintro e w7 ⟨rfl, hb⟩; rw [eb]; have HS := hide (HS.out.call hb))
    go_roundw
    case rel => exact ⟨j + 1, by omega, by go_num, (by rw [HT1.out, HT2.out, HPR.out]; exact congrArg (fun z => List.map Sg.p (List.take j k) ++ [z]) HEQ.out), bnx HB.out HS.out.below⟩
    case measure => (simp [intOf]) <;> omega
  ·obtain rfl : j = n := by omega
   have d0 : decide ((j : Int) < (j : Int)) = false := by simp
   have d0' : decide (j < j) = false := by simp
   have hp := HPR.out
   rw [List.take_of_length_le (by rw [HL.out]; omega), List.take_of_length_le (by rw [HK.out]; omega)] at hp
   have HP := hide hp
   clear hp
   go_wp2_with fail
   go_ret
   exact ⟨congrArg (fun b => Ending.returned (.bool b)) (sameSl_yes HP.out).symm, HB.out⟩
end Go.Proofs.YtnohmgpmmhlloaaGreatDoor

namespace Go.Proofs.YtnohmgpmmhlloaaGreatDoor
open Go.RowKit
set_option linter.unusedSimpArgs false
theorem same_any (A1 A2 A3 A B1 B2 B3 B : Option Addr) (m1 m2 m3 n c1 c2 c3 c p1 p2 p3 m d1 d2 d3 d : Nat) (l1 l2 l3 k1 k2 k3 : List UInt8) (l k : List Sg) (w : World) (hl : l.length = n) (hk : k.length = m) (hn : n ≤ 1000) (hm : m ≤ 1000)
  (ha1 : Rd w (.slice A1 m1 c1) 1 m1 (bvs l1)) (ha2 : Rd w (.slice A2 m2 c2) 1 m2 (bvs l2)) (ha3 : Rd w (.slice A3 m3 c3) 1 m3 (bvs l3)) (ha : Rd w (.slice A n c) 5 n (sgCells l)) (hx : ∀ x ∈ l, SgOK w x)
  (hb1 : Rd w (.slice B1 p1 d1) 1 p1 (bvs k1)) (hb2 : Rd w (.slice B2 p2 d2) 1 p2 (bvs k2)) (hb3 : Rd w (.slice B3 p3 d3) 1 p3 (bvs k3)) (hb : Rd w (.slice B m d) 5 m (sgCells k)) (hy : ∀ x ∈ k, SgOK w x) :
  Calls Tryz.prog 22 #[.agg #[.slice A1 m1 c1, .slice A n c, .slice A2 m2 c2, .slice A3 m3 c3], .agg #[.slice B1 p1 d1, .slice B m d, .slice B2 p2 d2, .slice B3 p3 d3]] w (fun e w' => e = .returned (.bool (sameTp ⟨l1, l.map Sg.p, l2, l3⟩ ⟨k1, k.map Sg.p, k2, k3⟩)) ∧ Below w.heap.size w w') := by
 have hS0 := ((St.init w NoB).alloc #[.slice A1 m1 c1, .slice A n c, .slice A2 m2 c2, .slice A3 m3 c3] 26).alloc #[.slice B1 p1 d1, .slice B m d, .slice B2 p2 d2, .slice B3 p3 d3] 26
 rw [size_alloc1] at hS0
 have HS := hide hS0
 clear hS0
 have HA1 := hide (ha1.below HS.out.below)
 have HA2 := hide (ha2.below HS.out.below)
 have HA3 := hide (ha3.below HS.out.below)
 have HA := hide (ha.below HS.out.below)
 have HB1 := hide (hb1.below HS.out.below)
 have HB2 := hide (hb2.below HS.out.below)
 have HB3 := hide (hb3.below HS.out.below)
 have HB := hide (hb.below HS.out.below)
 have HX := hide (fun x hm => (hx x hm).on HS.out.below)
 have HY := hide (fun x hm => (hy x hm).on HS.out.below)
 have HL := hide hl
 have HK := hide hk
 clear ha1 ha2 ha3 ha hx hb1 hb2 hb3 hb hy hl hk
 have ta0 : _ = some (Value.slice A1 m1 c1) := HS.out.cell 1 rfl 0
 have ta1 : _ = some (Value.slice A n c) := HS.out.cell 1 rfl 1
 have ta2 : _ = some (Value.slice A2 m2 c2) := HS.out.cell 1 rfl 2
 have ta3 : _ = some (Value.slice A3 m3 c3) := HS.out.cell 1 rfl 3
 have tb0 : _ = some (Value.slice B1 p1 d1) := HS.out.cell 0 rfl 0
 have tb1 : _ = some (Value.slice B m d) := HS.out.cell 0 rfl 1
 have tb2 : _ = some (Value.slice B2 p2 d2) := HS.out.cell 0 rfl 2
 have tb3 : _ = some (Value.slice B3 p3 d3) := HS.out.cell 0 rfl 3
 cases e1 : (l1 == k1) with
 | false =>
  go_enter Tryz.func22, Tryz.ntmps22
  have M0 := True.intro
  go_wp2_with (first
   | (clear M0; go_at_call 54; (with_reducible refine (eqB_any _ _ _ _ _ _ _ _ _ _ e1 HA1.out HB1.out).mono ?_); rintro e wy ⟨rfl, rfl⟩; have M1 := True.intro))
  go_ret
  exact ⟨congrArg (fun b => Ending.returned (.bool b)) (sameTp_no (fun h => ne_of_b e1 (congrArg Tp.r h))).symm, HS.out.below⟩
 | true =>
  cases e2 : (l2 == k2) with
  | false =>
   go_enter Tryz.func22, Tryz.ntmps22
   have M0 := True.intro
   go_wp2_with (first
    | (clear M1; go_at_call 54; (with_reducible refine (eqB_any _ _ _ _ _ _ _ _ _ _ e2 HA2.out HB2.out).mono ?_); rintro e wy ⟨rfl, rfl⟩; have M2 := True.intro)
    | (clear M0; go_at_call 54; (with_reducible refine (eqB_any _ _ _ _ _ _ _ _ _ _ e1 HA1.out HB1.out).mono ?_); rintro e wy ⟨rfl, rfl⟩; have M1 := True.intro))
   go_ret
   exact ⟨congrArg (fun b => Ending.returned (.bool b)) (sameTp_no (fun h => ne_of_b e2 (congrArg Tp.e h))).symm, HS.out.below⟩
  | true =>
   cases e3 : (l3 == k3) with
   | false =>
    go_enter Tryz.func22, Tryz.ntmps22
    have M0 := True.intro
    go_wp2_with (first
     | (clear M2; go_at_call 54; (with_reducible refine (eqB_any _ _ _ _ _ _ _ _ _ _ e3 HA3.out HB3.out).mono ?_); rintro e wy ⟨rfl, rfl⟩; have M3 := True.intro)
     | (clear M1; go_at_call 54; (with_reducible refine (eqB_any _ _ _ _ _ _ _ _ _ _ e2 HA2.out HB2.out).mono ?_); rintro e wy ⟨rfl, rfl⟩; have M2 := True.intro)
     | (clear M0; go_at_call 54; (with_reducible refine (eqB_any _ _ _ _ _ _ _ _ _ _ e1 HA1.out HB1.out).mono ?_); rintro e wy ⟨rfl, rfl⟩; have M1 := True.intro))
    go_ret
    exact ⟨congrArg (fun b => Ending.returned (.bool b)) (sameTp_no (fun h => ne_of_b e3 (congrArg Tp.z h))).symm, HS.out.below⟩
   | true =>
    cases e4 : sameSl (l.map Sg.p) (k.map Sg.p) with
    | false =>
     go_enter Tryz.func22, Tryz.ntmps22
     have M0 := True.intro
     go_wp2_with (first
      | (clear M3; go_at_call 55; (with_reducible refine (eqFn_any _ _ _ _ _ _ _ _ _ HL.out HK.out hn hm HA.out HB.out HX.out HY.out).mono ?_); rintro e wy ⟨rfl, hb⟩; rw [e4]; have HS := hide (HS.out.call hb); have M4 := True.intro)
      | (clear M2; go_at_call 54; (with_reducible refine (eqB_any _ _ _ _ _ _ _ _ _ _ e3 HA3.out HB3.out).mono ?_); rintro e wy ⟨rfl, rfl⟩; have M3 := True.intro)
      | (clear M1; go_at_call 54; (with_reducible refine (eqB_any _ _ _ _ _ _ _ _ _ _ e2 HA2.out HB2.out).mono ?_); rintro e wy ⟨rfl, rfl⟩; have M2 := True.intro)
      | (clear M0; go_at_call 54; (with_reducible refine (eqB_any _ _ _ _ _ _ _ _ _ _ e1 HA1.out HB1.out).mono ?_); rintro e wy ⟨rfl, rfl⟩; have M1 := True.intro))
     go_ret
     exact ⟨congrArg (fun b => Ending.returned (.bool b)) (sameTp_no (fun h => sameSl_not e4 (congrArg Tp.l h))).symm, HS.out.below⟩
    | true =>
     go_enter Tryz.func22, Tryz.ntmps22
     have M0 := True.intro
     go_wp2_with (first
      | (clear M3; go_at_call 55; (with_reducible refine (eqFn_any _ _ _ _ _ _ _ _ _ HL.out HK.out hn hm HA.out HB.out HX.out HY.out).mono ?_); rintro e wy ⟨rfl, hb⟩; rw [e4]; have HS := hide (HS.out.call hb); have M4 := True.intro)
      | (clear M2; go_at_call 54; (with_reducible refine (eqB_any _ _ _ _ _ _ _ _ _ _ e3 HA3.out HB3.out).mono ?_); rintro e wy ⟨rfl, rfl⟩; have M3 := True.intro)
      | (clear M1; go_at_call 54; (with_reducible refine (eqB_any _ _ _ _ _ _ _ _ _ _ e2 HA2.out HB2.out).mono ?_); rintro e wy ⟨rfl, rfl⟩; have M2 := True.intro)
      | (clear M0; go_at_call 54; (with_reducible refine (eqB_any _ _ _ _ _ _ _ _ _ _ e1 HA1.out HB1.out).mono ?_); rintro e wy ⟨rfl, rfl⟩; have M1 := True.intro))
     go_ret
     exact ⟨congrArg (fun b => Ending.returned (.bool b)) (sameTp_yes (by rw [eq_of_b e1, eq_of_b e2, eq_of_b e3, sameSl_of e4])).symm, HS.out.below⟩
end Go.Proofs.YtnohmgpmmhlloaaGreatDoor

namespace Go.Proofs.YtnohmgpmmhlloaaGreatDoor
open Go.RowKit
set_option linter.unusedSimpArgs false
def Tp.few (p : Tp) : Prop := p.r.length ≤ 200 ∧ p.e.length ≤ 200 ∧ p.z.length ≤ 200 ∧ p.l.length ≤ 100 ∧ ∀ x ∈ p.l, x.b.length ≤ 900 ∧ x.n.length ≤ 900 ∧ x.s.length ≤ 900 ∧ x.k.length ≤ 900 ∧ x.v.length ≤ 900
theorem Tp.few.sm {p : Tp} (h : p.few) : p.sm := by
 obtain ⟨h1, h2, h3, h4, h5⟩ := h
 exact ⟨by omega, by omega, by omega, by omega, fun x hx => by obtain ⟨a, b, c, d, e⟩ := h5 x hx; exact ⟨by omega, by omega, by omega, by omega, by omega⟩⟩
theorem few_mem {p : Tp} {zs : List Sg} (h : p.few) (hz : zs.map Sg.p = p.l) : ∀ x ∈ zs, x.b.b.length ≤ 900 ∧ x.n.b.length ≤ 900 ∧ x.s.b.length ≤ 900 ∧ x.k.b.length ≤ 900 ∧ x.v.b.length ≤ 900 := fun x hx => h.2.2.2.2 x.p (by rw [← hz]; exact List.mem_map_of_mem hx)
section
variable {w0 w : World} {M : Nat → Prop} {H : List Chunk} {p : Tp} {B1 X B2 B3 : Option Addr} {m1 d1 n x m2 d2 m3 d3 : Nat} {V1 Y V2 V3 : Option Addr} {M1 e1 N y M2 e2 M3 e3 : Nat}
theorem same_in (hS : St w0 M w H) (hL : Laid H p B1 m1 d1 X n x B2 m2 d2 B3 m3 d3) (hL2 : Laid H p V1 M1 e1 Y N y V2 M2 e2 V3 M3 e3) (hsm : p.few) :
  Calls Tryz.prog 22 #[.agg #[.slice B1 m1 d1, .slice X n x, .slice B2 m2 d2, .slice B3 m3 d3], .agg #[.slice V1 M1 e1, .slice Y N y, .slice V2 M2 e2, .slice V3 M3 e3]] w fun e w' => e = .returned (.bool true) ∧ Below w.heap.size w w' := by
 obtain ⟨zs, a1, a2, a3, a4, a5, r1, r2, r3, r4, hok⟩ := hL.open hS
 obtain ⟨ys, b1, b2, b3, b4, b5, s1, s2, s3, s4, hoy⟩ := hL2.open hS
 have hn : n ≤ 1000 := by have := hsm.2.2.2.1; rw [← a2, List.length_map] at this; omega
 have hm : N ≤ 1000 := by have := hsm.2.2.2.1; rw [← b2, List.length_map] at this; omega
 refine (same_any _ _ _ _ _ _ _ _ _ _ _ _ _ _ _ _ _ _ _ _ _ _ _ _ _ _ _ _ _ _ zs ys w a1 b1 hn hm r1 r2 r3 r4 hok s1 s2 s3 s4 hoy).mono fun e w' h => ?_
 rw [sameTp_yes (by rw [a2, b2])] at h
 exact h
theorem seal_in {r : Rz} (hS : St w0 M w H) (hL : Laid H p B1 m1 d1 X n x B2 m2 d2 B3 m3 d3) (hsm : p.few) (hr : sealRz p = r) (h1 : r.p.r.length = M1) (h2 : r.p.l.length = N) (h3 : r.p.e.length = M2) (h4 : r.p.z.length = M3) :
  Calls Tryz.prog 19 #[.agg #[.slice B1 m1 d1, .slice X n x, .slice B2 m2 d2, .slice B3 m3 d3]] w (TkS w r.c r.p M1 N M2 M3) := by
 obtain ⟨zs, a1, a2, a3, a4, a5, r1, r2, r3, r4, hok⟩ := hL.open hS
 obtain ⟨pr, pl, pe, pz⟩ := p
 subst a2
 have hn : n ≤ 100 := by have := hsm.2.2.2.1; rw [List.length_map] at this; omega
 have h := seal_any B1 B2 B3 X m1 m2 m3 n d1 d2 d3 x pr pe pz zs w a3 a4 a5 a1 hn (by have := hsm.1; rw [← a3]; exact Nat.le_trans this (by decide)) (by have := hsm.2.2.1; rw [← a5]; exact Nat.le_trans this (by decide)) (sm_mem hsm.sm rfl) (fun x hx => by obtain ⟨a, b, c, d, e⟩ := few_mem hsm rfl x hx; exact ⟨by omega, by omega, by omega, by omega, by omega⟩) r1 r2 r3 r4 hok
 rw [hr] at h
 exact h.mono fun _ _ h => tkS_of h h1 h2 h3 h4
theorem av_in {nx y1 y4 y5 : List UInt8} {r : Rz} {Ax E1 E4 E5 : Option Addr} {q cx n1 f1 n4 f4 n5 f5 : Nat} (hS : St w0 M w H) (hL : Laid H p B1 m1 d1 X n x B2 m2 d2 B3 m3 d3) (hsm : p.few) (hx : nx.length = q) (hg1 : y1.length = n1) (hg4 : y4.length = n4) (hg5 : y5.length = n5) (hrx : Rd w (.slice Ax q cx) 1 q (bvs nx)) (he1 : Rd w (.slice E1 n1 f1) 1 n1 (bvs y1)) (he4 : Rd w (.slice E4 n4 f4) 1 n4 (bvs y4)) (he5 : Rd w (.slice E5 n5 f5) 1 n5 (bvs y5))
  (hr : avRz p nx y1 y4 y5 = r) (h1 : r.p.r.length = M1) (h2 : r.p.l.length = N) (h3 : r.p.e.length = M2) (h4 : r.p.z.length = M3) :
  Calls Tryz.prog 17 #[.agg #[.slice B1 m1 d1, .slice X n x, .slice B2 m2 d2, .slice B3 m3 d3], .slice Ax q cx, .slice E1 n1 f1, .slice E4 n4 f4, .slice E5 n5 f5] w (TkS w r.c r.p M1 N M2 M3) := by
 obtain ⟨zs, a1, a2, a3, a4, a5, r1, r2, r3, r4, hok⟩ := hL.open hS
 obtain ⟨pr, pl, pe, pz⟩ := p
 subst a2
 have h := av_any B1 B2 B3 X Ax E1 E4 E5 m1 m2 m3 n q n1 n4 n5 d1 d2 d3 x cx f1 f4 f5 pr pe pz nx zs y1 y4 y5 w a3 a4 a5 a1 hx hg1 hg4 hg5 (by have := hsm.1; rw [← a3]; exact Nat.le_trans this (by decide)) (by have := hsm.2.2.1; rw [← a5]; exact Nat.le_trans this (by decide)) (sm_mem hsm.sm rfl) r1 r2 r3 r4 hok hrx he1 he4 he5
 rw [hr] at h
 exact h.mono fun _ _ h => tkS_of h h1 h2 h3 h4
end
end Go.Proofs.YtnohmgpmmhlloaaGreatDoor

namespace Go.Proofs.YtnohmgpmmhlloaaGreatDoor
open Go.RowKit
set_option linter.unusedSimpArgs false
def VoS (w : World) (kk vv : Nat) (k v : List UInt8) (e : Ending) (w' : World) : Prop := ∃ B d D f, e = .returned (.tuple #[.slice B kk d, .slice D vv f]) ∧ St w NoB w' [.row (.slice B kk d) 5 1 kk (bvs k), .row (.slice D vv f) 5 1 vv (bvs v)]
theorem voS_of {w : World} {k v : List UInt8} {kk vv : Nat} {e : Ending} {w' : World} (h : VoR w k v e w') (hk : k.length = kk) (hv : v.length = vv) : VoS w kk vv k v e w' := by
 subst hk hv
 exact h
theorem av_32 {p : Tp} {nx b k v : List UInt8} (hk : k.length = 32) (hv : v.length = 64) : avRz p nx b k v = addRz p nx ⟨b, [], [], k, v⟩ := by
 unfold avRz
 rw [if_neg (by omega), if_neg (by omega)]
theorem z01 : (Rz.mk 1 tp0).p.r.length = 0 := rfl
theorem z02 : (Rz.mk 1 tp0).p.l.length = 0 := rfl
theorem z03 : (Rz.mk 1 tp0).p.e.length = 0 := rfl
theorem z04 : (Rz.mk 1 tp0).p.z.length = 0 := rfl
theorem vouch_inS {A1 A2 A3 : Option Addr} {m1 m2 n c1 c2 c3 kk vv : Nat} {y p b K V : List UInt8} (w : World) (hy : y.length = m1) (hp : p.length = m2) (hb : b.length = n) (hn : n ≤ 2000) (hry : Rd w (.slice A1 m1 c1) 1 m1 (bvs y)) (hrp : Rd w (.slice A2 m2 c2) 1 m2 (bvs p)) (hrb : Rd w (.slice A3 n c3) 1 n (bvs b)) (hK : vouK y p b = K) (hV : vouV y p b = V) (hkl : K.length = kk) (hvl : V.length = vv) :
  Calls Tryz.prog 15 #[.slice A1 m1 c1, .slice A2 m2 c2, .slice A3 n c3] w (VoS w kk vv K V) := by
 subst hK hV
 exact (vouch_any A1 A2 A3 m1 m2 n c1 c2 c3 y p b w hy hp hb (by omega) hry hrp hrb).mono fun _ _ h => voS_of h hkl hvl
end Go.Proofs.YtnohmgpmmhlloaaGreatDoor

namespace Go.Proofs.YtnohmgpmmhlloaaGreatDoor.S6
set_option maxRecDepth 100000
open Go.RowKit
set_option linter.unusedSimpArgs false
def tkC (last : Nat) (f : FdV) : Nat :=
 if f.whole = false ∨ f.num < last ∨ (f.num = last ∧ f.num ≠ 1) then 3
 else if f.num = 1 then match sgB f.b with
  | .bad k => k
  | .ok _ => 0
 else if f.num = 2 then 0
 else if f.num = 3 then 0
 else 3
theorem sgB_k {b : List UInt8} {k : Nat} (h : sgB b = .bad k) : k = 2 ∨ k = 3 := by
 unfold sgB at h
 cases hf : fds b with
 | bad j => rw [hf] at h; injection h with h; subst h; exact fds_bads b _ hf
 | ok fs =>
  rw [hf] at h
  replace h : (match sgR fs with | none => SgQ.bad 3 | some x => SgQ.ok x) = .bad k := h
  cases hs : sgR fs with
  | none => rw [hs] at h; injection h with h; exact .inr h.symm
  | some x => rw [hs] at h; cases h
theorem tkF_bad {last k : Nat} {f : FdV} (h : tkC last f = k) (hk : k ≠ 0) (t : Tp) (fs : List FdV) : tkF last t (f :: fs) = ⟨k, tp0⟩ := by
 unfold tkC at h
 unfold tkF
 split at h
 ·rename_i h1
  rw [if_pos h1, ← h]
 ·rename_i h1
  rw [if_neg h1]
  split at h
  ·rename_i h2
   rw [if_pos h2]
   cases hs : sgB f.b with
   | bad j => rw [hs] at h; rw [← h]
   | ok x => rw [hs] at h; exact absurd h.symm hk
  ·rename_i h2
   rw [if_neg h2]
   split at h
   ·exact absurd h.symm hk
   ·rename_i h3
    rw [if_neg h3]
    split at h
    ·exact absurd h.symm hk
    ·rename_i h4
     rw [if_neg h4, ← h]
theorem takes_form (g : Nat) (X : Option Addr) (nb xc fn last : Nat) (num : Nat) (wh : Bool) (w : World) (h : wh = false ∨ num < last ∨ (num = last ∧ num ≠ 1)) :
  Calls Tryz.prog 65 #[.pointer (some ⟨g, 0, none⟩), .agg #[.int .i64 (num : Int), .bool wh, .int .u64 (fn : Int), .slice X nb xc], .int .i64 (last : Int)] w fun e w' => e = .returned (.int .i64 3) ∧ Below w.heap.size w w' := by
 have HS := hide ((St.init w NoB).alloc #[.int .i64 (num : Int), .bool wh, .int .u64 (fn : Int), .slice X nb xc] 93)
 have t0 : _ = some (Value.int .i64 (num : Int)) := HS.out.cell 0 rfl 0
 have t1 : _ = some (Value.bool wh) := HS.out.cell 0 rfl 1
 have h' : wh = false ∨ (wh = true ∧ num < last) ∨ (wh = true ∧ num = last ∧ num ≠ 1) := by
  cases wh
  ·exact .inl rfl
  ·rcases h with h | h | h
   ·cases h
   ·exact .inr (.inl ⟨rfl, h⟩)
   ·exact .inr (.inr ⟨rfl, h⟩)
 clear h
 rcases h' with rfl | ⟨rfl, h⟩ | ⟨rfl, rfl, h⟩
 ·go_enter Tryz.func65, Tryz.ntmps65
  go_wp2_with fail
  go_ret
  exact ⟨rfl, HS.out.below⟩
 ·have d1 : decide ((num : Int) < (last : Int)) = true := by simp; omega
  have d1' : decide (num < last) = true := by simp; omega
  go_enter Tryz.func65, Tryz.ntmps65
  go_wp2_with fail
  go_ret
  exact ⟨rfl, HS.out.below⟩
 ·have d3 : ((num : Int) != 1) = true := by simp; omega
  have d3' : decide ((num : Int) = 1) = false := by simp; omega
  go_enter Tryz.func65, Tryz.ntmps65
  go_wp2_with fail
  go_ret
  exact ⟨rfl, HS.out.below⟩
theorem takes_other (g : Nat) (X : Option Addr) (nb xc fn last : Nat) (num : Nat) (w : World) (h : 3 < num) (h2 : ¬ num < last) (h3 : num ≠ last) :
  Calls Tryz.prog 65 #[.pointer (some ⟨g, 0, none⟩), .agg #[.int .i64 (num : Int), .bool true, .int .u64 (fn : Int), .slice X nb xc], .int .i64 (last : Int)] w fun e w' => e = .returned (.int .i64 3) ∧ Below w.heap.size w w' := by
 have HS := hide ((St.init w NoB).alloc #[.int .i64 (num : Int), .bool true, .int .u64 (fn : Int), .slice X nb xc] 93)
 have t0 : _ = some (Value.int .i64 (num : Int)) := HS.out.cell 0 rfl 0
 have t1 : _ = some (Value.bool true) := HS.out.cell 0 rfl 1
 have d1 : decide ((num : Int) < (last : Int)) = false := by simp; omega
 have d1' : decide (num < last) = false := by simp; omega
 have d2 : ((num : Int) == (last : Int)) = false := by simp; omega
 have d2' : decide ((num : Int) = (last : Int)) = false := by simp; omega
 have d2'' : decide (num = last) = false := by simp; omega
 have d2b : (num == last) = false := by simp; omega
 have e1 : ((num : Int) == 1) = false := by simp; omega
 have e1' : decide ((num : Int) = 1) = false := by simp; omega
 have e2 : ((num : Int) == 2) = false := by simp; omega
 have e2' : decide ((num : Int) = 2) = false := by simp; omega
 have e3 : ((num : Int) == 3) = false := by simp; omega
 have e3' : decide ((num : Int) = 3) = false := by simp; omega
 clear h h2 h3
 go_enter Tryz.func65, Tryz.ntmps65
 go_wp2_with fail
 go_ret
 exact ⟨rfl, HS.out.below⟩
section
variable {w0 w : World} {M : Nat → Prop} {H : List Chunk}
theorem takes_seed (g : Nat) (X : Option Addr) (nb xc fn last : Nat) (r : Value) (Y : Option Addr) (n y : Nat) (e z : Value) (h : last < 2) (hS : St w0 M w (.cells g #[r, .slice Y n y, e, z] 26 :: H)) :
  Calls Tryz.prog 65 #[.pointer (some ⟨g, 0, none⟩), .agg #[.int .i64 2, .bool true, .int .u64 (fn : Int), .slice X nb xc], .int .i64 (last : Int)] w fun e9 w' => e9 = .returned (.int .i64 0) ∧ St w0 M w' (.cells g #[r, .slice Y n y, .slice X nb xc, z] 26 :: H) := by
 have HS := hide (hS.alloc #[.int .i64 2, .bool true, .int .u64 (fn : Int), .slice X nb xc] 93)
 have t0 : _ = some (Value.int .i64 2) := HS.out.cell 0 rfl 0
 have t1 : _ = some (Value.bool true) := HS.out.cell 0 rfl 1
 have t3 : _ = some (Value.slice X nb xc) := HS.out.cell 0 rfl 3
 have q : _ = some _ := HS.out.cell 1 rfl 2
 have f := HS.out.free 1 rfl 2
 clear hS
 rcases (show last = 0 ∨ last = 1 by omega) with rfl | rfl
 all_goals
  go_enter Tryz.func65, Tryz.ntmps65
  go_wp2_with fail
  go_ret
  exact ⟨rfl, (HS.out.setCell 1 rfl 2 (.slice X nb xc)).tail⟩
theorem takes_seal (g : Nat) (X : Option Addr) (nb xc fn last : Nat) (r : Value) (Y : Option Addr) (n y : Nat) (e z : Value) (h : last < 3) (hS : St w0 M w (.cells g #[r, .slice Y n y, e, z] 26 :: H)) :
  Calls Tryz.prog 65 #[.pointer (some ⟨g, 0, none⟩), .agg #[.int .i64 3, .bool true, .int .u64 (fn : Int), .slice X nb xc], .int .i64 (last : Int)] w fun e9 w' => e9 = .returned (.int .i64 0) ∧ St w0 M w' (.cells g #[r, .slice Y n y, e, .slice X nb xc] 26 :: H) := by
 have HS := hide (hS.alloc #[.int .i64 3, .bool true, .int .u64 (fn : Int), .slice X nb xc] 93)
 have t0 : _ = some (Value.int .i64 3) := HS.out.cell 0 rfl 0
 have t1 : _ = some (Value.bool true) := HS.out.cell 0 rfl 1
 have t3 : _ = some (Value.slice X nb xc) := HS.out.cell 0 rfl 3
 have q : _ = some _ := HS.out.cell 1 rfl 3
 have f := HS.out.free 1 rfl 3
 clear hS
 rcases (show last = 0 ∨ last = 1 ∨ last = 2 by omega) with rfl | rfl | rfl
 all_goals
  go_enter Tryz.func65, Tryz.ntmps65
  go_wp2_with fail
  go_ret
  exact ⟨rfl, (HS.out.setCell 1 rfl 3 (.slice X nb xc)).tail⟩
def SgX (G : List Chunk) (kk : Nat) (y : Sg) : SgQ → Prop
 | .ok x => kk = 0 ∧ y.p = x ∧ SgIn G y
 | .bad k => kk = k
theorem sgX_of {w w' : World} {q : SgQ} {e : Ending} (h : SgD w q e w') : ∃ (y : Sg) (G : List Chunk) (kk : Nat), e = .returned (.tuple #[y.val, .int .i64 (kk : Int)]) ∧ SgX G kk y q ∧ St w NoB w' G := by
 cases q with
 | ok x =>
  obtain ⟨y, G, h1, h2, h3, h4⟩ := h
  exact ⟨y, G, 0, h1, ⟨rfl, h2, h3⟩, h4⟩
 | bad k =>
  obtain ⟨h1, h2⟩ := h
  exact ⟨⟨pc0, pc0, pc0, pc0, pc0⟩, [], k, h1, rfl, (St.init w NoB).call h2⟩
theorem takes_blk (g : Nat) (X : Option Addr) (nb xc fn last : Nat) (r : Value) (Y : Option Addr) (n y : Nat) (zs : List Sg) (e z : Value) (fb : List UInt8) (hl : fb.length = nb) (hn : nb ≤ 65536) (hn2 : n ≤ 100000) (hlast : last ≤ 1) (hr : Rd w (.slice X nb xc) 1 nb (bvs fb)) (hS : St w0 M w (.cells g #[r, .slice Y n y, e, z] 26 :: .row (.slice Y n y) 32 5 n (sgCells zs) :: H)) :
  Calls Tryz.prog 65 #[.pointer (some ⟨g, 0, none⟩), .agg #[.int .i64 1, .bool true, .int .u64 (fn : Int), .slice X nb xc], .int .i64 (last : Int)] w fun e9 w' => ∃ Y' y' yy G kk, e9 = .returned (.int .i64 (kk : Nat)) ∧ SgX G kk yy (sgB fb) ∧ St w0 M w' (.cells g #[r, .slice Y' (n + 1) y', e, z] 26 :: .row (.slice Y' (n + 1) y') 32 5 (n + 1) (sgCells (zs ++ [yy])) :: (H ++ G)) := by
 have HS := hide (hS.alloc #[.int .i64 1, .bool true, .int .u64 (fn : Int), .slice X nb xc] 93)
 have HR := hide (hr.below (((Below.refl w.heap.size w).alloc (Nat.le_refl _) (.cells #[.int .i64 1, .bool true, .int .u64 (fn : Int), .slice X nb xc] 93))))
 have HC := hide (signedOf_any X nb xc fb _ hl hn HR.out)
 have t0 : _ = some (Value.int .i64 1) := HS.out.cell 0 rfl 0
 have t1 : _ = some (Value.bool true) := HS.out.cell 0 rfl 1
 have t3 : _ = some (Value.slice X nb xc) := HS.out.cell 0 rfl 3
 clear hS hr HR hl hn
 rcases (show last = 0 ∨ last = 1 by omega) with rfl | rfl
 all_goals
  go_enter Tryz.func65, Tryz.ntmps65
  have M0 := True.intro
  go_upto_region 7 with (first
   | (clear M1; refine wl_storeC rfl rfl (HS.out.alloc _ _) 0 rfl (vs := [.slice E1 y1.length f1, .slice E2 y2.length f2, .slice E3 y3.length f3, .slice E4 y4.length f4, .slice E5 y5.length f5]) szSigned (Nat.le_refl _) rfl rfl one5 ?_; intro w5 hS5; have HS5 := hide hS5; clear hS5; have M2 := True.intro)
   | (clear M0; go_at_call 114; (with_reducible refine HC.out.mono ?_); rintro e9 w2 h2; obtain ⟨⟨⟨E1, f1, y1⟩, ⟨E2, f2, y2⟩, ⟨E3, f3, y3⟩, ⟨E4, f4, y4⟩, ⟨E5, f5, y5⟩⟩, G, kk, rfl, hX, hS2⟩ := sgX_of h2; rw [Sg.val_eq]; have HS := hide (St.rot _ _ (HS.out.join hS2)); have HX := hide hX; clear hS2 hX h2; have M1 := True.intro))
  have HS : Hid (St w0 M w5 (.cells w2.heap.size #[.slice E1 y1.length f1, .slice E2 y2.length f2, .slice E3 y3.length f3, .slice E4 y4.length f4, .slice E5 y5.length f5] 32 :: .cells w.heap.size #[.int .i64 1, .bool true, .int .u64 (fn : Int), .slice X nb xc] 93 :: .cells g #[r, .slice Y n y, e, z] 26 :: .row (.slice Y n y) 32 5 n (sgCells zs) :: (H ++ G))) := HS5
  clear HS5
  refine wp_region_S (.op 0 1 (.op 1 1 (.op 2 1 (.op 3 1 (.op 4 0 (.op 5 2 (.op 6 2 (.op 7 3 (.op 8 1 (.op 9 1 (.op 10 4 (.nil)))))))))))) (by kernel_rfl) (by kernel_rfl) (fun _ _ _ _ h => h) ?_
  have HS := hide HS.out.drew
  generalize w5.drew = w6 at HS ⊢
  have t2 : _ = some (Value.slice Y n y) := HS.out.cell 2 rfl 1
  have s1 : _ = some (Value.slice E1 y1.length f1) := HS.out.cell 0 rfl 0
  have s2 : _ = some (Value.slice E2 y2.length f2) := HS.out.cell 0 rfl 1
  have s3 : _ = some (Value.slice E3 y3.length f3) := HS.out.cell 0 rfl 2
  have s4 : _ = some (Value.slice E4 y4.length f4) := HS.out.cell 0 rfl 3
  have s5 : _ = some (Value.slice E5 y5.length f5) := HS.out.cell 0 rfl 4
  have hbA := (Below.refl w6.heap.size w6).alloc (Nat.le_refl _) (.cells #[.slice E1 y1.length f1, .slice E2 y2.length f2, .slice E3 y3.length f3, .slice E4 y4.length f4, .slice E5 y5.length f5] 32)
  have M0 := True.intro
  go_wp2_with (first
   | (clear M0; refine wpS_late rfl rfl ?_; intro K hK; refine wp_append rfl tySg (HS.out.skip _) 3 rfl rfl rfl (rd_new _ [.slice E1 y1.length f1, .slice E2 y2.length f2, .slice E3 y3.length f3, .slice E4 y4.length f4, .slice E5 y5.length f5] 32 5 1 rfl (by decide)) one5 (by omega) (by decide) ?_; intro A7 c7 w7 hS7; have HS := hide hS7; clear hS7; have q8 : _ = some (Value.slice Y n y) := HS.out.cell 2 rfl 1; have g8 := HS.out.free 2 rfl 1; have M1 := True.intro)
   | (refine wpS_nil ?_)   | ((with_reducible refine fromT_refl ?_); (try simp only [Act.put, nq1, nq2, nq3, nq4, nq5, nq6]))   | ((with_reducible refine fromT_mk (by assumption) ?_); (try simp only [Act.put, nq1, nq2, nq3, nq4, nq5, nq6]))   | (refine wpS_pure (v := ?_) rfl rfl ?_ ?_; rotate_left; (intro wx; go_simp; try go_bits) <;> (with_reducible rfl); (try simp only [Act.put, nq1, nq2, nq3, nq4, nq5, nq6]))   | (refine wpS_load (v := ?_) rfl rfl rfl ?_ ?_; rotate_left; (go_simp; try go_bits) <;> (with_reducible rfl); (try simp only [Act.put, nq1, nq2, nq3, nq4, nq5, nq6]))   | (refine wpS_read (v := ?_) rfl rfl ?_ ?_; rotate_left; (intro wx hx; go_simp; try go_bits) <;> (with_reducible rfl); (try simp only [Act.put, nq1, nq2, nq3, nq4, nq5, nq6]))   | (refine wpS_call rfl rfl ?_; intro K hK)   | (refine wpS_late rfl rfl ?_; intro K hK)   | (refine wpS_any rfl rfl ?_; intro K hK)   | (refine wpS_skip rfl rfl ?_; (try simp only [Act.put, nq1, nq2, nq3, nq4, nq5, nq6])))
  have HS := hide (HS.out.setCell 2 rfl 1 (.slice A7 (n + 1) c7))
  go_ret
  refine ⟨A7, c7, ⟨⟨E1, f1, y1⟩, ⟨E2, f2, y2⟩, ⟨E3, f3, y3⟩, ⟨E4, f4, y4⟩, ⟨E5, f5, y5⟩⟩, G, kk, rfl, HX.out, ?_⟩
  rw [sgCells_app]
  exact HS.out.tail.tail
end
end Go.Proofs.YtnohmgpmmhlloaaGreatDoor.S6

namespace Go.Proofs.YtnohmgpmmhlloaaGreatDoor.S6
set_option maxRecDepth 100000
open Go.RowKit
set_option linter.unusedSimpArgs false
theorem st_front {w0 w : World} {M : Nat → Prop} {A B : List Chunk} (h : St w0 M w (A ++ B)) : St w0 M w A := by
 have key : ∀ (i : Nat) (c : Chunk), A[i]? = some c → (A ++ B)[i]? = some c := fun i c hc => by
  rw [List.getElem?_append_left (List.getElem?_eq_some_iff.1 hc).1]
  exact hc
 exact ⟨h.ext, fun i c hc => h.sat i c (key i c hc), fun i c k hc => h.own i c k (key i c hc), fun i j c d k hij hc hd => h.apart i j c d k hij (key i c hc) (key j d hd)⟩
section
variable {w0 w : World} {M : Nat → Prop} {H : List Chunk}
theorem takes_bad (g : Nat) (f : FdL) (last kk : Nat) (r : Value) (Y : Option Addr) (n y : Nat) (zs : List Sg) (e z : Value) (hc : tkC last f.f = kk) (hk : kk ≠ 0) (hn : n ≤ 100000) (hb : f.f.b.length ≤ 65536) (hf : FdL.chunk f ∈ H) (hS : St w0 M w (.cells g #[r, .slice Y n y, e, z] 26 :: .row (.slice Y n y) 32 5 n (sgCells zs) :: H)) :
  Calls Tryz.prog 65 #[.pointer (some ⟨g, 0, none⟩), .agg #[.int .i64 (f.f.num : Int), .bool f.f.whole, .int .u64 (f.f.n : Int), .slice f.A f.f.b.length f.c], .int .i64 (last : Int)] w fun e9 w' => e9 = .returned (.int .i64 (kk : Int)) ∧ St w0 M w' H := by
 obtain ⟨⟨num, wh, fn, b⟩, X, xc⟩ := f
 have hr : Rd w (.slice X b.length xc) 1 b.length (bvs b) := ch_ok (p := ⟨X, xc, b⟩) hS (List.mem_cons_of_mem _ (List.mem_cons_of_mem _ hf))
 by_cases h1 : wh = false ∨ num < last ∨ (num = last ∧ num ≠ 1)
 ·obtain rfl : kk = 3 := by rw [← hc]; exact if_pos h1
  refine (takes_form g X b.length xc fn last num wh w h1).mono ?_
  rintro e9 w' ⟨rfl, h⟩
  exact ⟨rfl, (hS.call h).tail.tail⟩
 ·have hw : wh = true := by cases wh; exact absurd (.inl rfl) h1; rfl
  subst hw
  have hnl : ¬ num < last := fun h => h1 (.inr (.inl h))
  have hne : num ≠ last ∨ num = 1 := by
   by_cases h : num = last
   ·by_cases h2 : num = 1
    ·exact .inr h2
    ·exact absurd (.inr (.inr ⟨h, h2⟩)) h1
   ·exact .inl h
  replace hc : (if num = 1 then (match sgB b with | .bad k => k | .ok _ => 0) else if num = 2 then 0 else if num = 3 then 0 else 3) = kk := by rw [← hc]; exact (if_neg h1).symm
  by_cases h2 : num = 1
  ·subst h2
   rw [if_pos rfl] at hc
   refine (takes_blk g X b.length xc fn last r Y n y zs e z b rfl hb hn (by omega) hr hS).mono ?_
   rintro e9 w' ⟨Y', y', yy, G, kk', rfl, hX, hS'⟩
   cases hs : sgB b with
   | ok x => rw [hs] at hc; exact absurd hc.symm hk
   | bad k =>
    rw [hs] at hc hX
    obtain rfl : k = kk := hc
    obtain rfl : kk' = k := hX
    exact ⟨rfl, st_front hS'.tail.tail⟩
  ·rw [if_neg h2] at hc
   by_cases h3 : num = 2
   ·rw [if_pos h3] at hc; exact absurd hc.symm hk
   ·rw [if_neg h3] at hc
    by_cases h4 : num = 3
    ·rw [if_pos h4] at hc; exact absurd hc.symm hk
    ·rw [if_neg h4] at hc
     subst hc
     have h5 : num ≠ last := by rcases hne with h | h; exact h; exact absurd h h2
     refine (takes_other g X b.length xc fn last num w (by omega) hnl h5).mono ?_
     rintro e9 w' ⟨rfl, h⟩
     exact ⟨rfl, (hS.call h).tail.tail⟩
structure TkHd (H : List Chunk) (zs : List Sg) (e z : PcV) : Prop where
 l : ∀ y ∈ zs, SgIn H y
 e : e.ch ∈ H
 z : z.ch ∈ H
theorem takes_good (g : Nat) (f : FdL) (last : Nat) (r : Value) (Y : Option Addr) (n y : Nat) (zs : List Sg) (e z : PcV) (root : List UInt8) (fs : List FdV) (hc : tkC last f.f = 0) (hn : n ≤ 100000) (hb : f.f.b.length ≤ 65536) (K : List Chunk) (hK : ∀ c ∈ K, c ∈ H) (hf : FdL.chunk f ∈ K) (hz : zs.length = n) (hH : TkHd K zs e z) (hS : St w0 M w (.cells g #[r, .slice Y n y, e.v, z.v] 26 :: .row (.slice Y n y) 32 5 n (sgCells zs) :: H)) :
  Calls Tryz.prog 65 #[.pointer (some ⟨g, 0, none⟩), .agg #[.int .i64 (f.f.num : Int), .bool f.f.whole, .int .u64 (f.f.n : Int), .slice f.A f.f.b.length f.c], .int .i64 (last : Int)] w fun e9 w' => ∃ Y' n' y' zs' e' z' G, e9 = .returned (.int .i64 0) ∧ St w0 M w' (.cells g #[r, .slice Y' n' y', PcV.v e', PcV.v z'] 26 :: .row (.slice Y' n' y') 32 5 n' (sgCells zs') :: (H ++ G)) ∧ zs'.length = n' ∧ n' ≤ n + 1 ∧ TkHd (K ++ G) zs' e' z' ∧ tkF last ⟨root, zs.map Sg.p, e.b, z.b⟩ (f.f :: fs) = tkF f.f.num ⟨root, zs'.map Sg.p, e'.b, z'.b⟩ fs := by
 obtain ⟨⟨num, wh, fn, b⟩, X, xc⟩ := f
 have hr : Rd w (.slice X b.length xc) 1 b.length (bvs b) := ch_ok (p := ⟨X, xc, b⟩) hS (List.mem_cons_of_mem _ (List.mem_cons_of_mem _ (hK _ hf)))
 have h1 : ¬ (wh = false ∨ num < last ∨ (num = last ∧ num ≠ 1)) := fun h => by
  rw [show tkC last ⟨num, wh, fn, b⟩ = 3 from if_pos h] at hc
  cases hc
 have hw : wh = true := by cases wh; exact absurd (.inl rfl) h1; rfl
 subst hw
 have hnl : ¬ num < last := fun h => h1 (.inr (.inl h))
 have hne : num ≠ last ∨ num = 1 := by
  by_cases h : num = last
  ·by_cases h2 : num = 1
   ·exact .inr h2
   ·exact absurd (.inr (.inr ⟨h, h2⟩)) h1
  ·exact .inl h
 replace hc : (if num = 1 then (match sgB b with | .bad k => k | .ok _ => 0) else if num = 2 then 0 else if num = 3 then 0 else 3) = 0 := Eq.trans (Eq.symm (if_neg h1)) hc
 have hF : ∀ t : Tp, tkF last t (⟨num, true, fn, b⟩ :: fs) = (if num = 1 then match sgB b with
   | .bad k => ⟨k, tp0⟩
   | .ok x => tkF 1 ⟨t.r, t.l ++ [x], t.e, t.z⟩ fs
  else if num = 2 then tkF 2 ⟨t.r, t.l, b, t.z⟩ fs
  else if num = 3 then tkF 3 ⟨t.r, t.l, t.e, b⟩ fs
  else ⟨3, tp0⟩) := fun t => by
  rw [tkF]
  exact if_neg h1
 rw [hF]
 by_cases h2 : num = 1
 ·subst h2
  rw [if_pos rfl] at hc
  refine (takes_blk g X b.length xc fn last r Y n y zs e.v z.v b rfl hb hn (by omega) hr hS).mono ?_
  rintro e9 w' ⟨Y', y', yy, G, kk', rfl, hX, hS'⟩
  cases hs : sgB b with
  | bad k =>
   rw [hs] at hc
   have := sgB_k hs
   replace hc : k = 0 := hc
   omega
  | ok x =>
   rw [hs] at hX
   obtain ⟨rfl, hp, hG⟩ := hX
   refine ⟨Y', n + 1, y', zs ++ [yy], e, z, G, rfl, hS', by rw [List.length_append, hz]; rfl, Nat.le_refl _, ⟨fun v hv => ?_, List.mem_append_left _ hH.e, List.mem_append_left _ hH.z⟩, ?_⟩
   ·rcases List.mem_append.1 hv with h | h
    ·exact (hH.l v h).mono fun c hc => List.mem_append_left _ hc
    ·rw [List.mem_singleton.1 h]
     exact hG.mono fun c hc => List.mem_append_right _ hc
   ·rw [if_pos rfl, List.map_append, ← hp]
    rfl
 ·rw [if_neg h2] at hc
  by_cases h3 : num = 2
  ·subst h3
   refine (takes_seed g X b.length xc fn last r Y n y e.v z.v (by rcases hne with h | h <;> omega) hS).mono ?_
   rintro e9 w' ⟨rfl, h⟩
   refine ⟨Y, n, y, zs, ⟨X, xc, b⟩, z, [], rfl, by rw [List.append_nil]; exact h, hz, Nat.le_succ _, ?_, ?_⟩
   ·rw [List.append_nil]
    exact ⟨hH.l, hf, hH.z⟩
   ·rw [if_neg h2, if_pos rfl]
  ·rw [if_neg h3] at hc
   by_cases h4 : num = 3
   ·subst h4
    refine (takes_seal g X b.length xc fn last r Y n y e.v z.v (by rcases hne with h | h <;> omega) hS).mono ?_
    rintro e9 w' ⟨rfl, h⟩
    refine ⟨Y, n, y, zs, e, ⟨X, xc, b⟩, [], rfl, by rw [List.append_nil]; exact h, hz, Nat.le_succ _, ?_, ?_⟩
    ·rw [List.append_nil]
     exact ⟨hH.l, hH.e, hf⟩
    ·rw [if_neg h2, if_neg h3, if_pos rfl]
   ·rw [if_neg h4] at hc
    cases hc
end
theorem dec_bad {raw root : List UInt8} {k : Nat} (h : fds raw = .bad k) : decRz raw root = ⟨k, tp0⟩ := by unfold decRz; rw [h]
theorem dec_ok {raw root : List UInt8} {fs : List FdV} {r : Rz} (h : fds raw = .ok fs) (h2 : tkF 0 ⟨root, [], [], []⟩ fs = r) : decRz raw root = if r.c ≠ 0 then ⟨r.c, tp0⟩ else if r.p.l.length = 0 ∨ 8 < r.p.l.length then ⟨3, tp0⟩ else ⟨0, r.p⟩ := by
 unfold decRz
 rw [h]
 show (if (tkF 0 ⟨root, [], [], []⟩ fs).c ≠ 0 then _ else _) = _
 rw [h2]
theorem dec_perm (a b c d e f : Chunk) (H : List Chunk) : (a :: b :: c :: d :: e :: f :: H).Perm (c :: a :: d :: e :: f :: b :: H) := by
 have h1 : (a :: b :: c :: d :: e :: f :: H).Perm (c :: a :: b :: d :: e :: f :: H) := (List.Perm.cons a (List.Perm.swap c b _)).trans (List.Perm.swap c a _)
 refine h1.trans (List.Perm.cons c (List.Perm.cons a ?_))
 exact (List.Perm.swap d b _).trans (List.Perm.cons d ((List.Perm.swap e b _).trans (List.Perm.cons e (List.Perm.swap f b _))))
theorem decode_any (A Ar : Option Addr) (n c nr cr : Nat) (raw root : List UInt8) (w : World) (hl : raw.length = n) (hn : n ≤ 65536) (hlr : root.length = nr) (hnr : nr ≤ 1000000) (hr : Rd w (.slice A n c) 1 n (bvs raw)) (hrr : Rd w (.slice Ar nr cr) 1 nr (bvs root)) :
  Calls Tryz.prog 26 #[.slice A n c, .slice Ar nr cr] w (TkQ w (decRz raw root)) := by
 have HS := hide ((St.init w NoB).alloc #[.slice none 0 0, .slice none 0 0, .slice none 0 0, .slice none 0 0] 26)
 have HRR := hide hrr
 have HLR := hide hlr
 have HF := fields_walk _ A c raw (by omega) (hl ▸ hr.st HS.out)
 rw [hl] at HF
 cases hf : fds raw with
 | bad k =>
  have HD := hide (dec_bad (root := root) hf)
  rw [hf] at HF
  have HC := hide HF
  have hk : k = 2 ∨ k = 3 := fds_bads raw k hf
  have d0 : ((k : Int) != 0) = true := by simp; omega
  have d0' : decide ((k : Int) = 0) = false := by simp; omega
  clear HF hr hk hrr hlr hl
  go_enter Tryz.func26, Tryz.ntmps26
  have M0 := True.intro
  go_wp2_with (first
   | (clear M2; refine wl_storeC rfl rfl (HS.out.alloc _ _) 0 rfl (vs := [.slice Br nr dr, .slice none 0 0, .slice none 0 0, .slice none 0 0]) szToken (Nat.le_refl _) rfl rfl one4 ?_; intro w5 hS5; have HS := hide hS5; clear hS5; have M3 := True.intro)
   | (clear M1; go_at_call 33; (with_reducible refine (clone_b _ HLR.out (by omega) (HRR.out.below HS.out.below)).mono ?_); rintro e w3 ⟨Br, dr, rfl, hb, ho⟩; have HS := hide (HS.out.row hb ho); clear ho hb; have M2 := True.intro)
   | (clear M0; go_at_call 64; (with_reducible refine HC.out.mono ?_); rintro e w2 ⟨rfl, hb⟩; have HS := hide (HS.out.call hb); clear hb; have M1 := True.intro))
  refine wp_loop_rounds 1 ?_
  rw [rounds_succ]
  go_wp2_with (refine wl_storeC rfl rfl HS.out 2 rfl (vs := [.slice none 0 0, .slice none 0 0, .slice none 0 0, .slice none 0 0]) szToken (Nat.le_refl _) rfl rfl one4 ?_; intro w7 hS7; have HS7 := hide hS7; clear hS7)
  refine bodyPost_ret (results_cell_tmp_row rfl _ _ w.heap.size _ _ _ _ rfl (HS7.out.heap 2 rfl) Tryz.underlying26 rfl (by kernel_rfl)) rfl ?_
  rw [HD.out]
  exact tkQ_no ⟨rfl, HS7.out.below⟩
 | ok fs =>
  rw [hf] at HF
  have HC := hide HF
  have HFS := hide hf
  clear HF hr hf hrr hlr
  go_enter Tryz.func26, Tryz.ntmps26
  have M0 := True.intro
  go_upto_region 3 with (first
   | (clear M2; refine wl_storeC rfl rfl (HS.out.alloc _ _) 0 rfl (vs := [.slice Br nr dr, .slice none 0 0, .slice none 0 0, .slice none 0 0]) szToken (Nat.le_refl _) rfl rfl one4 ?_; intro w5 hS5; have HS5 := hide hS5; clear hS5; have M3 := True.intro)
   | (clear M1; go_at_call 33; (with_reducible refine (clone_b _ HLR.out (by omega) (HRR.out.below HS.out.below)).mono ?_); rintro e w3 ⟨Br, dr, rfl, hb, ho⟩; have HS := hide (HS.out.row hb ho); clear ho hb; have M2 := True.intro)
   | (clear M0; go_at_call 64; (with_reducible refine HC.out.mono ?_); rintro e w2 ⟨xs, B, d, rfl, hx, hS2⟩; have HS : Hid (St w NoB w2 (.cells w.heap.size #[.slice none 0 0, .slice none 0 0, .slice none 0 0, .slice none 0 0] 26 :: .row (.slice B xs.length d) 93 4 xs.length (cellsF xs) :: chunksF xs)) := hide (St.rot _ [_] (HS.out.join hS2)); have HX := hide hx; clear hS2 hx; have M1 := True.intro))
  obtain ⟨m, hm⟩ : ∃ m, xs.length = m := ⟨_, rfl⟩
  rw [hm] at HS5 ⊢
  have HM := hide hm
  have hm6 : m ≤ 65536 := by
   have h1 := fds_len raw fs HFS.out
   rw [← HX.out, List.length_map, hm] at h1
   omega
  have HFB : Hid (∀ x ∈ xs, x.f.b.length ≤ 65536) := hide (fun x hx => by
   have := ((fds_inv raw.length raw fs (Nat.le_refl _) (by omega) HFS.out).2 x.f (by rw [← HX.out]; exact List.mem_map_of_mem hx)).2
   omega)
  have HSL : Hid (St w NoB w5 (.cells w3.heap.size #[.slice Br nr dr, .slice none 0 0, .slice none 0 0, .slice none 0 0] 26 :: .row (.slice none 0 0) 32 5 0 [] :: .row (.slice Br nr dr) 5 1 nr (bvs root) :: .cells w.heap.size #[.slice none 0 0, .slice none 0 0, .slice none 0 0, .slice none 0 0] 26 :: .row (.slice B m d) 93 4 m (cellsF xs) :: (pc0.ch :: chunksF xs))) := hide (by
   have h1 := (HS5.out.row (Below.refl _ _) (World.ownsRow_nil _ _ 5 1)).row (Below.refl _ _) (World.ownsRow_nil _ _ 32 5)
   exact h1.perm (dec_perm _ _ _ _ _ _ _))
  generalize w3.heap.size = gt at HSL HS5 ⊢
  clear HS5 HS hm
  go_wp2_with fail
  go_loopw [7, 9, 22] (fun ev lv iv wr => ∃ (k last cnt : Nat) (X : Option Addr) (x : Nat) (zs : List Sg) (e z : PcV) (G : List Chunk), k ≤ m ∧ iv = .int .i64 (k : Int) ∧ lv = .int .i64 (last : Int) ∧ ev = .int .i64 0 ∧ cnt ≤ k ∧ Hid (zs.length = cnt) ∧ Hid (TkHd G zs e z) ∧ Hid (∀ x ∈ xs, FdL.chunk x ∈ G) ∧ Hid (tkF 0 ⟨root, [], [], []⟩ fs = tkF last ⟨root, zs.map Sg.p, e.b, z.b⟩ ((xs.drop k).map FdL.f)) ∧ Hid (St w NoB wr (.cells gt #[.slice Br nr dr, .slice X cnt x, e.v, z.v] 26 :: .row (.slice X cnt x) 32 5 cnt (sgCells zs) :: .row (.slice Br nr dr) 5 1 nr (bvs root) :: .cells w.heap.size #[.slice none 0 0, .slice none 0 0, .slice none 0 0, .slice none 0 0] 26 :: .row (.slice B m d) 93 4 m (cellsF xs) :: G))) (fun _ _ i _ => (m - intOf i).toNat)
  case atStart => exact ⟨0, 0, 0, none, 0, [], pc0, pc0, _, by omega, rfl, rfl, rfl, by omega, rfl, ⟨fun y hy => absurd hy List.not_mem_nil, List.mem_cons_self .., List.mem_cons_self ..⟩, (fun x hx => List.mem_cons_of_mem _ (by unfold chunksF; rw [List.mem_reverse]; exact List.mem_map_of_mem hx)), (by rw [← HX.out]; rfl), HSL⟩
  case round =>
   clear HSL
   obtain ⟨k, last, cnt, X, x, zs, ez, zz, G, hk, rfl, rfl, rfl, hcnt, HZ, HH, HG, HT, HS⟩ := hrel
   by_cases hlt : k < m
   ·have e0 : decide ((k : Int) < (m : Int)) = true := by simp; omega
    have e0' : decide (k < m) = true := by simp; omega
    have kn : (k : Int) < (m : Int) := by omega
    have kl : k < xs.length := by have := HM.out; omega
    have hlk : xs[k]? = some xs[k] := List.getElem?_eq_getElem kl
    obtain ⟨b, o, rfl, hb8, hc⟩ := fd_at (HS.out.rd 4 rfl) hlk
    obtain ⟨k0, k1, k2, k3⟩ := hc _ (Below.refl _ _)
    have HDK := hide (show (xs.drop k).map FdL.f = xs[k].f :: (xs.drop (k + 1)).map FdL.f by rw [List.drop_eq_getElem_cons kl]; rfl)
    have HYB := hide (HFB.out _ (List.getElem_mem kl))
    have HYG := hide (HG.out _ (List.getElem_mem kl))
    generalize xs[k] = y at k0 k1 k2 k3 HDK HYB HYG
    rw [HDK.out] at HT
    clear hc hlk kl
    go_upto_region 7 with (refine wl_storeC rfl rfl (HS.out.alloc _ _) 0 rfl (vs := [.int .i64 (y.f.num : Int), .bool y.f.whole, .int .u64 (y.f.n : Int), .slice y.A y.f.b.length y.c]) szField (Nat.le_refl _) rfl rfl oneF ?_; intro w5 hS5; have HS5 : Hid (St w NoB w5 (.cells gt #[.slice Br nr dr, .slice X cnt x, ez.v, zz.v] 26 :: .row (.slice X cnt x) 32 5 cnt (sgCells zs) :: (.cells wr.heap.size #[.int .i64 (y.f.num : Int), .bool y.f.whole, .int .u64 (y.f.n : Int), .slice y.A y.f.b.length y.c] 93 :: .row (.slice Br nr dr) 5 1 nr (bvs root) :: .cells w.heap.size #[.slice none 0 0, .slice none 0 0, .slice none 0 0, .slice none 0 0] 26 :: .row (.slice (some ⟨b, o, none⟩) m d) 93 4 m (cellsF xs) :: G))) := hide (hS5.perm ((List.Perm.swap _ _ _).trans (List.Perm.cons _ (List.Perm.swap _ _ _)))); clear hS5)
    have q0 : _ = some (Value.int .i64 (y.f.num : Int)) := HS5.out.cell 2 rfl 0
    have q1 : _ = some (Value.bool y.f.whole) := HS5.out.cell 2 rfl 1
    have q2 : _ = some (Value.int .u64 (y.f.n : Int)) := HS5.out.cell 2 rfl 2
    have q3 : _ = some (Value.slice y.A y.f.b.length y.c) := HS5.out.cell 2 rfl 3
    clear k0 k1 k2 k3 HS
    by_cases hc : tkC last y.f = 0
    ·have HW := hide (takes_good gt y last (.slice Br nr dr) X cnt x zs ez zz root ((xs.drop (k + 1)).map FdL.f) hc (by omega) HYB.out G (fun c h => by (iterate 4 apply List.mem_cons_of_mem); exact h) HYG.out HZ.out HH.out HS5.out)
     clear hc
     go_wp2_with (go_at_call 65; (with_reducible refine HW.out.mono ?_); rintro e9 w6 ⟨X2, n2, x2, zs2, e2, z2, G2, rfl, hS6, hz2, hn2, hH2, hT2⟩; have HS6 := hide hS6; have HZ2 := hide hz2; have HH2 := hide hH2; have HT2 := hide (HT.out.trans hT2); clear hS6 hz2 hH2 hT2 q0 q1 q2 q3; have q0 : _ = some (Value.int .i64 (y.f.num : Int)) := HS6.out.cell 2 rfl 0)
     go_roundw
     case rel => exact ⟨k + 1, y.f.num, n2, X2, x2, zs2, e2, z2, G ++ G2, by omega, by go_num, rfl, rfl, by omega, HZ2, HH2, hide (fun x hx => List.mem_append_left _ (HG.out x hx)), HT2, hide (St.cut [_, _] _ _ HS6.out)⟩
     case measure => (simp [intOf]) <;> omega
    ·obtain ⟨kk, hkk⟩ : ∃ kk, tkC last y.f = kk := ⟨_, rfl⟩
     have hk0 : kk ≠ 0 := by rw [← hkk]; exact hc
     have HW := hide (takes_bad gt y last kk (.slice Br nr dr) X cnt x zs ez.v zz.v hkk hk0 (by omega) HYB.out (by (iterate 4 apply List.mem_cons_of_mem); exact HYG.out) HS5.out)
     have HD := hide ((dec_ok HFS.out (HT.out.trans (tkF_bad hkk hk0 _ _))).trans (if_pos hk0))
     have d0 : ((kk : Int) != 0) = true := by simp; omega
     have d0' : decide ((kk : Int) = 0) = false := by simp; omega
     clear hc hkk
     have M0 := True.intro
     go_wp2_with (first
      | (clear M1; refine wl_storeC rfl rfl HS6.out 2 rfl (vs := [.slice none 0 0, .slice none 0 0, .slice none 0 0, .slice none 0 0]) szToken (Nat.le_refl _) rfl rfl one4 ?_; intro w7 hS7; have HS7 := hide hS7; clear hS7)
      | (clear M0; go_at_call 65; (with_reducible refine HW.out.mono ?_); rintro e9 w6 ⟨rfl, hS6⟩; have HS6 := hide hS6; clear hS6 q0 q1 q2 q3; have M1 := True.intro))
     refine bodyPost_ret (results_cell_tmp_row rfl _ _ w.heap.size _ _ _ _ rfl (HS7.out.heap 2 rfl) Tryz.underlying26 rfl (by kernel_rfl)) rfl ?_
     rw [HD.out]
     exact tkQ_no ⟨rfl, HS7.out.below⟩
   ·obtain rfl : k = m := by omega
    have e0 : decide ((k : Int) < (k : Int)) = false := by simp
    have e0' : decide (k < k) = false := by simp
    obtain ⟨E1, f1, y1⟩ := ez
    obtain ⟨E2, f2, y2⟩ := zz
    have ht : tkF 0 ⟨root, [], [], []⟩ fs = ⟨0, ⟨root, zs.map Sg.p, y1, y2⟩⟩ := by rw [HT.out, List.drop_of_length_le (by rw [HM.out]; exact Nat.le_refl _)]; rfl
    have HD := hide (dec_ok HFS.out ht)
    clear ht HT
    have t0 : _ = some (Value.slice Br nr dr) := HS.out.cell 0 rfl 0
    have t1 : _ = some (Value.slice X cnt x) := HS.out.cell 0 rfl 1
    have t2 : _ = some (Value.slice E1 y1.length f1) := HS.out.cell 0 rfl 2
    have t3 : _ = some (Value.slice E2 y2.length f2) := HS.out.cell 0 rfl 3
    by_cases h0 : cnt = 0 ∨ 8 < cnt
    ·have HDD := hide (HD.out.trans ((if_neg (by simp)).trans (if_pos (show (zs.map Sg.p).length = 0 ∨ 8 < (zs.map Sg.p).length by rw [List.length_map, HZ.out]; exact h0))))
     rcases h0 with rfl | h0
     ·go_wp2_with (refine wl_storeC rfl rfl HS.out 3 rfl (vs := [.slice none 0 0, .slice none 0 0, .slice none 0 0, .slice none 0 0]) szToken (Nat.le_refl _) rfl rfl one4 ?_; intro w7 hS7; have HS7 := hide hS7; clear hS7)
      refine bodyPost_ret (results_cell_tmp_row rfl _ _ w.heap.size _ _ _ _ rfl (HS7.out.heap 3 rfl) Tryz.underlying26 rfl (by kernel_rfl)) rfl ?_
      rw [HDD.out]
      exact tkQ_no ⟨rfl, HS7.out.below⟩
     ·have d1 : ((cnt : Int) == 0) = false := by simp; omega
      have d1' : decide ((cnt : Int) = 0) = false := by simp; omega
      have d2 : decide ((8 : Int) < (cnt : Int)) = true := by simp; omega
      have d2' : decide (8 < cnt) = true := by simp; omega
      go_wp2_with (refine wl_storeC rfl rfl HS.out 3 rfl (vs := [.slice none 0 0, .slice none 0 0, .slice none 0 0, .slice none 0 0]) szToken (Nat.le_refl _) rfl rfl one4 ?_; intro w7 hS7; have HS7 := hide hS7; clear hS7)
      refine bodyPost_ret (results_cell_tmp_row rfl _ _ w.heap.size _ _ _ _ rfl (HS7.out.heap 3 rfl) Tryz.underlying26 rfl (by kernel_rfl)) rfl ?_
      rw [HDD.out]
      exact tkQ_no ⟨rfl, HS7.out.below⟩
    ·have HDD := hide (HD.out.trans ((if_neg (by simp)).trans (if_neg (show ¬ ((zs.map Sg.p).length = 0 ∨ 8 < (zs.map Sg.p).length) by rw [List.length_map, HZ.out]; exact h0))))
     have d1 : ((cnt : Int) == 0) = false := by simp; omega
     have d1' : decide ((cnt : Int) = 0) = false := by simp; omega
     have d2 : decide ((8 : Int) < (cnt : Int)) = false := by simp; omega
     have d2' : decide (8 < cnt) = false := by simp; omega
     go_wp2_with (refine wl_storeC rfl rfl HS.out 3 rfl (vs := [.slice Br nr dr, .slice X cnt x, .slice E1 y1.length f1, .slice E2 y2.length f2]) szToken (Nat.le_refl _) rfl rfl one4 ?_; intro w7 hS7; have HS7 := hide hS7; clear hS7)
     refine bodyPost_ret (results_cell_tmp_row rfl _ _ w.heap.size _ _ _ _ rfl (HS7.out.heap 3 rfl) Tryz.underlying26 rfl (by kernel_rfl)) rfl ?_
     rw [HDD.out]
     refine ⟨⟨⟨Br, dr, root⟩, X, x, zs, ⟨E1, f1, y1⟩, ⟨E2, f2, y2⟩⟩, _, ?_, rfl, ⟨pc_ch HLR.out 2 rfl, ?_, fun v hv c hc => ?_, ?_, ?_⟩, HS7.out⟩
     ·rw [Tk.val_eq]
      simp only [HLR.out, HZ.out]
      rfl
     ·show Chunk.row (.slice X zs.length x) _ 5 zs.length _ ∈ _
      rw [HZ.out]
      exact List.mem_of_getElem? (i := 1) rfl
     ·have hc := HH.out.l v hv c hc
      show c ∈ _ :: _ :: _ :: _ :: _ :: G
      (iterate 5 apply List.mem_cons_of_mem)
      exact hc
     ·show _ ∈ _ :: _ :: _ :: _ :: _ :: G
      (iterate 5 apply List.mem_cons_of_mem)
      exact HH.out.e
     ·show _ ∈ _ :: _ :: _ :: _ :: _ :: G
      (iterate 5 apply List.mem_cons_of_mem)
      exact HH.out.z
end Go.Proofs.YtnohmgpmmhlloaaGreatDoor.S6

namespace Go.Proofs.YtnohmgpmmhlloaaGreatDoor
open Go.RowKit
set_option linter.unusedSimpArgs false
end Go.Proofs.YtnohmgpmmhlloaaGreatDoor

namespace Go.Proofs.YtnohmgpmmhlloaaGreatDoor
open Go.RowKit
set_option linter.unusedSimpArgs false
end Go.Proofs.YtnohmgpmmhlloaaGreatDoor

namespace Go.Proofs.YtnohmgpmmhlloaaGreatDoor
open Go.RowKit
set_option linter.unusedSimpArgs false
theorem mulV_32 {l : List UInt8} (h : l.length = 32) : mulV l = bval l := by
 unfold mulV
 rw [List.take_of_length_le (by omega)]
theorem lq_eq : S3.Lq = Lq := by
 unfold S3.Lq Lq
 rfl
theorem sig_take (s m : List UInt8) : (sigL s m).take 32 = firstL s m := by
 unfold sigL
 exact List.take_left' (firstL_len s m)
theorem sig_drop (s m : List UInt8) : (sigL s m).drop 32 = S3.madL (sumS (firstL s m ++ (pubL s ++ m))) (keyA s) (sumS (keyP s ++ m)) := by
 unfold sigL
 exact List.drop_left' (firstL_len s m)
theorem sig_right (s m : List UInt8) : verL (pubL s) m (sigL s m) = true := by
 have hp : fromL (pubL s) = some (tmE Bp (mulV (keyA s))) := from_pack _
 rw [ver_right hp (sigL_len s m) (by rw [sig_drop]; exact S3.may_madL _ _ _)]
 unfold rightL
 rw [sig_take, sig_drop, mulV_32 (S3.madL_len _ _ _), S3.bval_madL, lq_eq, tmE_mod, tmE_add]
 refine decide_eq_true ?_
 show _ = packL (tmE Bp (mulV (sumS (keyP s ++ m))))
 congr 1
 rw [mulV_32 (keyA_len s), mulV_32 (sumS_len (firstL s m ++ (pubL s ++ m))), mulV_32 (sumS_len (keyP s ++ m)), ← tmE_mul, Nat.mul_comm (bval (keyA s)), ed_comm (tmE Bp (_ * _)), ed_back]
end Go.Proofs.YtnohmgpmmhlloaaGreatDoor

namespace Go.Proofs.YtnohmgpmmhlloaaGreatDoor
open Go.RowKit
noncomputable def blkOK (by_ : List UInt8) (first : Bool) (x : Sp) : Bool := verL by_ x.msg x.s && (decide (x.k.length + x.v.length = 0) || (!first && verL x.k (x.b ++ by_) x.v))
noncomputable def verF : List UInt8 → Bool → List Sp → Nat
 | _, _, [] => 0
 | by_, first, x :: l => if 65536 < x.b.length then 1 else if blkOK by_ first x = true then verF x.n false l else 9
noncomputable def endOK (p : Tp) (x : Sp) : Bool := if 0 < p.e.length then decide (p.z.length = 0) && (decide (p.e.length = 32) && decide (pubL p.e = x.n)) else verL x.n x.fin p.z
noncomputable def verT (p : Tp) : Nat := match p.l.getLast? with
 | none => 1
 | some z => if 8 < p.l.length then 4 else if verF p.r true p.l ≠ 0 then verF p.r true p.l else if endOK p z = true then 0 else 9
structure Good (p : Tp) : Prop where
 e : p.e.length = 32
 z : p.z = []
 last : ∃ z, p.l.getLast? = some z ∧ z.n = pubL p.e
 ver : verF p.r true p.l = 0
theorem blk_sign (y nx : List UInt8) (x : Sp) (first : Bool) (h : (x.k.length + x.v.length = 0) ∨ (first = false ∧ verL x.k (x.b ++ pubL y) x.v = true)) : blkOK (pubL y) first (signK y nx x) = true := by
 obtain ⟨b, n, s, k, v⟩ := x
 unfold blkOK signK
 show (verL (pubL y) (b ++ (v ++ pubL nx)) (sigL y (b ++ (v ++ pubL nx))) && (decide (k.length + v.length = 0) || (!first && verL k (b ++ pubL y) v))) = true
 rw [sig_right, Bool.true_and]
 rcases h with h | ⟨h1, h2⟩
 ·rw [decide_eq_true (show k.length + v.length = 0 from h), Bool.true_or]
 ·subst h1
  rw [show verL k (b ++ pubL y) v = true from h2]
  exact Bool.or_true _
theorem good_issue (y nx b : List UInt8) (hy : y.length = 32) (hx : nx.length = 32) (hb : b.length ≤ 65536) : Good (issueK y nx b) := by
 refine ⟨hx, rfl, ⟨_, rfl, rfl⟩, ?_⟩
 show (if 65536 < b.length then 1 else if blkOK (pubL y) true (signK y nx ⟨b, [], [], [], []⟩) = true then 0 else 9) = 0
 rw [if_neg (by omega), if_pos (blk_sign y nx _ true (.inl rfl))]
theorem verF_app : ∀ (l : List Sp) (by_ : List UInt8) (first : Bool) (x z : Sp), l.getLast? = some z → verF by_ first l = 0 → verF by_ first (l ++ [x]) = (if 65536 < x.b.length then 1 else if blkOK z.n false x = true then 0 else 9)
 | [], _, _, _, _, h, _ => by simp at h
 | [y], by_, first, x, z, h, hv => by
  obtain rfl : y = z := by simpa using h
  show verF by_ first (y :: [x]) = _
  unfold verF at hv ⊢
  by_cases c1 : 65536 < y.b.length
  ·rw [if_pos c1] at hv; cases hv
  ·rw [if_neg c1] at hv ⊢
   by_cases c2 : blkOK by_ first y = true
   ·rw [if_pos c2] at hv ⊢
    rfl
   ·rw [if_neg c2] at hv; cases hv
 | y :: y' :: l, by_, first, x, z, h, hv => by
  have ih := verF_app (y' :: l) y.n false x z (by simpa using h)
  show verF by_ first (y :: ((y' :: l) ++ [x])) = _
  rw [verF] at hv ⊢
  by_cases c1 : 65536 < y.b.length
  ·rw [if_pos c1] at hv; cases hv
  ·rw [if_neg c1] at hv ⊢
   by_cases c2 : blkOK by_ first y = true
   ·rw [if_pos c2] at hv ⊢
    exact ih hv
   ·rw [if_neg c2] at hv; cases hv
theorem good_add (p : Tp) (nx : List UInt8) (x : Sp) (h : Good p) (hx : nx.length = 32) (hb : x.b.length ≤ 65536) (hk : (x.k.length + x.v.length = 0) ∨ ∃ z, p.l.getLast? = some z ∧ verL x.k (x.b ++ z.n) x.v = true) : Good (addK p nx x) := by
 obtain ⟨z, hz, hzn⟩ := h.last
 refine ⟨hx, h.z, ⟨_, by show (p.l ++ [_]).getLast? = _; rw [List.getLast?_append]; rfl, rfl⟩, ?_⟩
 show verF p.r true (p.l ++ [signK p.e nx x]) = 0
 rw [verF_app p.l p.r true _ z hz h.ver, if_neg (by show ¬ 65536 < x.b.length; omega), hzn, if_pos]
 refine blk_sign p.e nx x false ?_
 rcases hk with hk | ⟨z', hz', hv⟩
 ·exact .inl hk
 ·rw [hz] at hz'
  injection hz' with hz'
  subst hz'
  rw [hzn] at hv
  exact .inr ⟨rfl, hv⟩
theorem ver_good (p : Tp) (h : Good p) (hn : p.l.length ≤ 8) : verT p = 0 := by
 obtain ⟨z, hz, hzn⟩ := h.last
 unfold verT
 rw [hz]
 show (if 8 < p.l.length then 4 else if verF p.r true p.l ≠ 0 then _ else if endOK p z = true then 0 else 9) = 0
 rw [if_neg (by omega), if_neg (by rw [h.ver]; simp), if_pos]
 unfold endOK
 rw [if_pos (by rw [h.e]; decide), h.e, h.z, hzn]
 simp
theorem ver_seal (p : Tp) (z : Sp) (h : Good p) (hn : p.l.length ≤ 8) (hz : p.l.getLast? = some z) : verT (sealK p z) = 0 := by
 obtain ⟨z', hz', hzn⟩ := h.last
 rw [hz] at hz'
 injection hz' with hz'
 subst hz'
 unfold verT
 rw [show (sealK p z).l.getLast? = some z from hz]
 show (if 8 < p.l.length then 4 else if verF p.r true p.l ≠ 0 then _ else if endOK (sealK p z) z = true then 0 else 9) = 0
 rw [if_neg (by omega), if_neg (by rw [h.ver]; simp), if_pos]
 unfold endOK
 rw [if_neg (by show ¬ 0 < ([] : List UInt8).length; simp), hzn]
 exact sig_right p.e z.fin
end Go.Proofs.YtnohmgpmmhlloaaGreatDoor
