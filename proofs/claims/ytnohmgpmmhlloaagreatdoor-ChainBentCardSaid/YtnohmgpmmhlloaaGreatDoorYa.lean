/-
 Joined of texts of mine,in build order: Mem,Vb,Num,Pw1,Pw2,Pw3,Pw4,Pw5,Put,Pw6,Reg,Nm,Bl,Kl,Rl,Mw,Ka,Kb,Kc. Each says what it proves at its own head.
-/
import Derived.WalkKit
import Derived.WalkSpells
import Derived.Below
import Derived.Laws.OwnMore
import Derived.Laws.Rows
import Derived.Laws.CopyOwn
import Derived.Maps.AppendAt
import Derived.Maps.Own
import Derived.Laws.BytesArg
import Derived.Deep.QuietTactic
import Derived.Test.YtnohmgpmmhlloaaGreatDoorRows
import Derived.WalkLawsBesides
import Derived.Deep.RegionLaw
import Derived.ChangeAlike
import Derived.Deep.RegionHeld3
import Derived.OrdersHeld
import Derived.Lib.Mul64
import Derived.Laws.CopyRow
import Derived.Laws.Bits64b
import Derived.Laws.Externs
set_option linter.unusedSimpArgs false
set_option linter.unusedVariables false
set_option maxRecDepth 100000
set_option maxHeartbeats 25600000
namespace Go.Proofs.YtnohmgpmmhlloaaGreatDoor
theorem Aj {p:Prop}(h:p:=by simpa using hd):p:=h
theorem Al {p:Prop}(h:p:=by simpa using he):p:=h
theorem An {p:Prop}(h:p:=by omega):p:=h
theorem Ao {p:Prop}(h:p:=by split<;>split<;>(try split)<;>(try split)<;>omega):p:=h
theorem As {p:Prop}(h:p:=by simpa using h1):p:=h
theorem Aw {p:Prop}(h:p:=by unfold maxLen;omega):p:=h
theorem A9 {p:Prop}(h:p:=by simp;omega):p:=h
theorem Bt {p:Prop}(h:p:=by kernel_rfl):p:=h
theorem Bz {p:Prop}(h:p:=by decide):p:=h
theorem B0 {p:Prop}(h:p:=by simp):p:=h
theorem Ca {p:Prop}(h:p:=by have:=HL.out;omega):p:=h
theorem Cb {p:Prop}(h:p:=by simpa using h):p:=h
theorem Cc {p:Prop}(h:p:=by rw[h] at hr;cases hr):p:=h
theorem Cd {p:Prop}(h:p:=by simpa using hr):p:=h
theorem Ce {p:Prop}(h:p:=by have:=Pq_256.2;omega):p:=h
theorem Cf {p:Prop}(h:p:=by unfold T51;omega):p:=h
theorem Cg {p:Prop}(h:p:=by go_num):p:=h
theorem Ch {p:Prop}(h:p:=by first|kernel_rfl|rfl):p:=h
theorem Ci {p:Prop}(h:p:=by rw[List.length_set];exact h1):p:=h
theorem Cj {p:Prop}(h:p:=by decide +kernel):p:=h
theorem Ck {p:Prop}(h:p:=by unfold Pq;decide):p:=h
theorem Cl {p:Prop}(h:p:=by rw[IntKind.wrap_u64];omega):p:=h
theorem Cm {p:Prop}(h:p:=by rw[List.length_take];omega):p:=h
theorem Cn {p:Prop}(h:p:=by simpa using hlt):p:=h
theorem Co {p:Prop}(h:p:=by rw[List.size_toArray,cE,HCL.out];omega):p:=h
theorem Cp {p:Prop}(h:p:=by rw[List.size_toArray,wcs_len,HUL.out];show m*2+2≤_;omega):p:=h
theorem Cq {p:Prop}(h:p:=by rw[List.length_set];exact HCL.out):p:=h
theorem Cr {p:Prop}(h:p:=by rw[aX,List.length_take,List.length_drop];omega):p:=h
theorem Cs {p:Prop}(h:p:=by unfold fullL;rw[List.length_take,List.length_append,List.length_replicate];omega):p:=h
theorem Ct {p:Prop}(h:p:=by rw[IntKind.wrap_i64];omega):p:=h
theorem Cu {p:Prop}(h:p:=by grind):p:=h
theorem Cv {p:Prop}(h:p:=by have:=HN.out;omega):p:=h
theorem Cw {p:Prop}(h:p:=by have:=HI.out;omega):p:=h
theorem Cx {p:Prop}(h:p:=by rw[hw];exact Bool.false_ne_true):p:=h
theorem Cy {p:Prop}(h:p:=by simpa[bP] using hb):p:=h
theorem Cz {p:Prop}(h:p:=by simpa using hw):p:=h
theorem C0 {p:Prop}(h:p:=by rw[if_pos hw];exact⟨v,hv,h⟩):p:=h
theorem Da {p:Prop}(h:p:=by rw[if_pos hw];exact h _ (fun _ _ h=>h)):p:=h
theorem Db {p:Prop}(h:p:=by simp[STr.len] at hf;omega):p:=h
theorem Dc {p:Prop}(h:p:=by unfold Pq;decide +kernel):p:=h
theorem Dd {p:Prop}(h:p:=by rw[bI];omega):p:=h
theorem De {p:Prop}(h:p:=by rw[hsz];kernel_rfl):p:=h
theorem Df {p:Prop}(h:p:=by assumption):p:=h
theorem Dg {p:Prop}(h:p:=by rw[hsc];kernel_rfl):p:=h
theorem Dh {p:Prop}(h:p:=by unfold gS;rw[beq_eq_false_iff_ne.2 e,Bool.or_false]):p:=h
theorem Di {p:Prop}(h:p:=by have:=(List.getElem?_eq_some_iff.1 hx).1;rw[dA] at this;exact this):p:=h
theorem Dj {p:Prop}(h:p:=by rw[List.length_take,List.length_zipWith,h,h2];omega):p:=h
theorem Dk {p:Prop}(h:p:=by rw[hS.cell 2 rfl i];exact ivs_get (zpF_get _ xs ys i x HL.out HL2.out hx)):p:=h
theorem Dl {p:Prop}(h:p:=by rw[HV.out,HKK.out,HQ.out,←HY.out,←HZ.out];omega):p:=h
theorem Dm {p:Prop}(h:p:=by rw[HDD.out,←HY.out];omega):p:=h
theorem Dn {p:Prop}(h:p:=by rw[hsr];kernel_rfl):p:=h
theorem Dp {p:Prop}(h:p:=by rw[HL.out];omega):p:=h
theorem Dq {p:Prop}(h:p:=by rw[bW HZ.out];kernel_rfl):p:=h
theorem Dr {p:Prop}(h:p:=by rw[bW HY.out];kernel_rfl):p:=h
theorem Ds {p:Prop}(h:p:=by rw[bW HN.out];kernel_rfl):p:=h
theorem Dt {p:Prop}(h:p:=by (repeat first|exact .head _|apply List.Mem.tail)):p:=h
theorem Du {p:Prop}(h:p:=by first|exact rowE|exact rowP|exact rowN|exact rowQ):p:=h
theorem Dv {p:Prop}(h:p:=by (first|exact EA.arr ‹_›|exact NA.arr ‹_›|exact arr_zE|exact arr_zN|exact arr_zP|exact arr_zQ|exact PtN.arr ‹_›|exact PtV.arr ‹_›|exact QtN.arr ‹_›|exact qE ‹_› ‹_› ‹_› ‹_›|exact qN ‹_› ‹_› ‹_› ‹_›)):p:=h
theorem Dw {p:Prop}(h:p:=by (repeat first|exact .head|apply Upd.tail)):p:=h
theorem Dx {p:Prop}(h:p:=by first|exact newE|exact newP|exact newN|exact newQ):p:=h
theorem Dy {p:Prop}(h:p:=by first|(rw[(EA.arr ‹_›).size];kernel_rfl)|(rw[(NA.arr ‹_›).size];kernel_rfl)|(rw[(qE ‹_› ‹_› ‹_› ‹_›).size];kernel_rfl)|(rw[(qN ‹_› ‹_› ‹_› ‹_›).size];kernel_rfl)|(rw[(PtN.arr ‹_›).size];kernel_rfl)|(rw[(PtV.arr ‹_›).size];kernel_rfl)|(rw[(QtN.arr ‹_›).size];kernel_rfl)):p:=h
theorem Dz {p:Prop}(h:p:=by intro p hp;simp only[List.mem_cons,List.not_mem_nil,or_false] at hp;subst hp<;>exact flOp_of rfl rfl rfl (fun ev x=>eM rfl newE ev x)):p:=h
theorem D0 {p:Prop}(h:p:=by first|exact EA.arr ‹_›|exact arr_zE):p:=h
theorem D3 {p:Prop}(h:p:=by first|exact arr_zP|exact PtN.arr ‹_›|exact PtV.arr ‹_›|exact qE ‹_› ‹_› ‹_› ‹_›):p:=h
theorem Ea {p:Prop}(h:p:=by have:=HNN.out;omega):p:=h
theorem Eb {p:Prop}(h:p:=by rw[hch];exact UInt8.toNat_lt _):p:=h
theorem Ec {p:Prop}(h:p:=by rw[hS.drew.cell 0 rfl q];exact ivs_get (fU (frL_len l i) q16)):p:=h
theorem Ee {p:Prop}(h:p:=by rw[HSTEP.out];assumption):p:=h
theorem Ef {p:Prop}(h:p:=by first|rfl|go_num):p:=h
theorem Eg {p:Prop}(h:p:=by have:=HJ.out;omega):p:=h
theorem Eh {p:Prop}(h:p:=by rw[hcs,Int.natCast_ediv,Int.natCast_pow];rfl):p:=h
theorem Ei {p:Prop}(h:p:=by have:=Nat.div_le_self ch (2^r);omega):p:=h
theorem Ej {p:Prop}(h:p:=by unfold lowL;rw[List.getD_eq_getElem?_getD,hxb,hch];rfl):p:=h
theorem Ek {p:Prop}(h:p:=by unfold gZ;rw[List.getD_eq_getElem?_getD,hxb,hch];rfl):p:=h
theorem El {p:Prop}(h:p:=by rw[HL.out];exact hlt):p:=h
theorem Em {p:Prop}(h:p:=by rw[HL.out];exact Nat.le_refl _):p:=h
theorem En {p:Prop}(h:p:=by unfold kA;kernel_rfl):p:=h
theorem Eo {p:Prop}(h:p:=by rw[cL];omega):p:=h
theorem Ep {p:Prop}(h:p:=by unfold schF;rw[←hi2,←hi7,←hi15,←hi16,←hy2,←hy7,←hy15,←hy16]):p:=h
theorem Er {p:Prop}(h:p:=by rw[p2,List.length_append,h1,h2];exact hm):p:=h
theorem Es {p:Prop}(h:p:=by rw[p2,List.length_append,List.length_append,h1,h2,h3];exact hm):p:=h
theorem Et {p:Prop}(h:p:=by have:=HM.out;omega):p:=h
theorem Eu {p:Prop}(h:p:=by rw[HM.out];exact Nat.le_refl _):p:=h
theorem Ev {p:Prop}(h:p:=by unfold aV;rw[List.mem_reverse];exact List.mem_map_of_mem hx):p:=h
theorem Ew {p:Prop}(h:p:=by first|exact arr_zP|exact PtV.arr ‹_›):p:=h
theorem Ex {p:Prop}(h:p:=by first|exact PtV.arr ‹_›|exact arr_zP):p:=h
theorem Ey {p:Prop}(h:p:=by rw[HV.out]<;>rfl):p:=h
theorem Ez {p:Prop}(h:p:=by rw[Bool.eq_iff_iff];simp;omega):p:=h
theorem E0 {p:Prop}(h:p:=by rw[Bool.eq_iff_iff];simp):p:=h
theorem E6 {p:Prop}(h:p:=by rcases hk with rfl|rfl<;>rfl):p:=h
theorem E7 {p:Prop}(h:p:=by unfold sgB;rw[h];show(match sgR fs with|none=>_|some x=>_)=_;rw[h2]):p:=h
theorem E8 {p:Prop}(h:p:=by first|exact arr_zQ|exact QtN.arr ‹_›|exact qN ‹_› ‹_› ‹_› ‹_›):p:=h
theorem E9 {p:Prop}(h:p:=by first|exact NA.arr ‹_›|exact arr_zN):p:=h
theorem Fa {p:Prop}(h:p:=by intro p hp;simp only[List.mem_cons,List.not_mem_nil,or_false] at hp;subst hp<;>exact flOp_of rfl rfl rfl (fun ev x=>eM rfl newN ev x)):p:=h
theorem Fb {p:Prop}(h:p:=by unfold ordA;kernel_rfl):p:=h
theorem Fc {p:Prop}(h:p:=by have:=HX.out;omega):p:=h
theorem Fd {p:Prop}(h:p:=by rw[List.append_nil];exact h):p:=h
theorem Fe {p:Prop}(h:p:=by (simp)<;>omega):p:=h
theorem Ff {p:Prop}(h:p:=by rcases hkb with rfl|rfl<;>rfl):p:=h
theorem Fg {p:Prop}(h:p:=by rw[HV.out,HF.out];simp):p:=h
theorem Fh {p:Prop}(h:p:=by rw[HRL.out];decide):p:=h
theorem Fi {p:Prop}(h:p:=by rw[Int.tdiv_eq_ediv_of_nonneg An];omega):p:=h
theorem Fj {p:Prop}(h:p:=by rw[Int.tmod_eq_emod_of_nonneg An];omega):p:=h
theorem Fk {p:Prop}(h:p:=by rw[if_neg Cx];exact h):p:=h
theorem Fo {p:Prop}(h:p:=by (first|exact .q0 (EA.arr ‹_›)|exact .q1 (EA.arr ‹_›) (EA.arr ‹_›)|exact .q2 (EA.arr ‹_›) (EA.arr ‹_›) (EA.arr ‹_›)|exact .q3 (EA.arr ‹_›) (EA.arr ‹_›) (EA.arr ‹_›) (EA.arr ‹_›)|exact .q0 (NA.arr ‹_›)|exact .q1 (NA.arr ‹_›) (NA.arr ‹_›)|exact .q2 (NA.arr ‹_›) (NA.arr ‹_›) (NA.arr ‹_›)|exact .q3 (NA.arr ‹_›) (NA.arr ‹_›) (NA.arr ‹_›) (NA.arr ‹_›)|exact .all Dv)):p:=h
theorem Fp {p:Prop}(h:p:=by rw[hmx];exact u64_xor_nat 18446744073709551615 b4 Bz e4):p:=h
theorem Fq {p:Prop}(h:p:=by rw[p3];exact iO w [.slice A1 m1 c1,.slice A2 m2 c2] 22 1 2 rfl Bz):p:=h
theorem Fr {p:Prop}(h:p:=by rw[p3];exact iO w [.slice A1 m1 c1,.slice A2 m2 c2,.slice A3 m3 c3] 22 1 3 rfl Bz):p:=h
theorem mG {α:Type}{a:α}{l:List α}{i:Nat}(h:l[i]?=some a):a∈l:=List.mem_of_getElem? h
theorem mC {α:Type}{a:α}{l:List α}(y:α)(h:a∈l):a∈y::l:=List.mem_cons_of_mem y h
theorem gE {α:Type}{l:List α}{i:Nat}(h:i<l.length):l[i]?=some l[i]:=List.getElem?_eq_getElem h
open Go.RowKit
theorem nq1 {α:Type}(l:List α)(i:Nat)(a:α):l.toArray.setIfInBounds i a=(l.set i a).toArray:=List.setIfInBounds_toArray l i a
theorem nq2 {α:Type}{x:α}{xs:List α}{a:α}:(x::xs).set 0 a=a::xs:=rfl
theorem nq3 {α:Type}{x:α}{xs:List α}{i:Nat}{a:α}:(x::xs).set (i+1) a=x::xs.set i a:=rfl
theorem nq4 {α:Type}{xs:List α}{i:Nat}(h:i<xs.toArray.size):xs.toArray[i]=xs[i]:=rfl
theorem nq5 {α:Type}(a:α)(xs:List α)(i:Nat)(h:i+1<(a::xs).length):(a::xs)[i+1]=xs[i]'(Nat.lt_of_succ_lt_succ h):=rfl
theorem nq6 {α:Type}(a:α)(xs:List α)(h:0<(a::xs).length):(a::xs)[0]=a:=rfl
theorem nm {a b:Prop}(h:b)(e:a=b:=by conv=>{lhs;simp only[Act.put,nq1,nq2,nq3,nq4,nq5,nq6]}):a:=e.mpr h
theorem nq:(∀(l:List Value) (i:Nat) (a:Value),l.toArray.setIfInBounds i a=(l.set i a).toArray)∧(∀(x:Value) (xs:List Value) (a:Value),(x::xs).set 0 a=a::xs)∧(∀(x:Value) (xs:List Value) (i:Nat) (a:Value),(x::xs).set (i+1) a=x::xs.set i a) ∧
  (∀(xs:List Value) (i:Nat) (h:i<xs.toArray.size),xs.toArray[i]=xs[i])∧(∀(a:Value) (xs:List Value) (i:Nat) (h:i+1<(a::xs).length),(a::xs)[i+1]=xs[i]'(Nat.lt_of_succ_lt_succ h))∧(∀(a:Value) (xs:List Value) (h:0<(a::xs).length),(a::xs)[0]=a):=
 ⟨fun l i a=>List.setIfInBounds_toArray l i a,fun _ _ _=>rfl,fun _ _ _ _=>rfl,fun _ _ _=>rfl,fun _ _ _ _=>rfl,fun _ _ _=>rfl⟩
theorem aA {p:Prop}(h:p):Hid p:=h
structure Ext (M:Nat→Prop)(w w':World):Prop where
 os:w'.os=w.os
 tape:w'.tape=w.tape
 output:w'.output=w.output
 size:w.heap.size≤w'.heap.size
 block:∀k,k<w.heap.size→¬M k→w'.heap[k]?=w.heap[k]?
def NoB:Nat→Prop:=fun _=>False
theorem Ext.refl (M:Nat→Prop)(w:World):Ext M w w:=⟨rfl,rfl,rfl,Nat.le_refl _,fun _ _ _=>rfl⟩
theorem Ext.trans {M:Nat→Prop}{a b c:World}(h:Ext M a b)(k:Ext M b c):Ext M a c:=
 ⟨k.os.trans h.os,k.tape.trans h.tape,k.output.trans h.output,Nat.le_trans h.size k.size,
  fun i hi hm=>(k.block i (Nat.lt_of_lt_of_le hi h.size) hm).trans (h.block i hi hm)⟩
theorem Ext.below {w w':World}(h:Ext NoB w w'):Below w.heap.size w w':=
 ⟨h.os,h.tape,h.output,h.size,fun k hk=>h.block k hk (fun hn=>hn)⟩
theorem ext_of_below {M:Nat→Prop}{w w':World}(h:Below w.heap.size w w'):Ext M w w':=
 ⟨h.os,h.tape,h.output,h.size,fun k hk _=>h.block k hk⟩
theorem Ext.cell {M:Nat→Prop}{w w':World}(h:Ext M w w'){p:Addr}(hp:p.block<w.heap.size)(hm:¬M p.block):w'.cell? p=w.cell? p:=
 World.cell?_of_block (w:=w) (h.block p.block hp hm)
inductive Chunk where
 | cells (g:Nat) (cur:Array Value) (e:TypeId)
 | row (v:Value) (e:TypeId) (size n:Nat) (xs:List Value)
 | obj (g:Nat) (o:Obj)
def Chunk.block:Chunk→Option Nat
 | .cells g _ _=>some g
 | .row v _ _ _ _=>v.ownBlock
 | .obj g _=>some g
def Chunk.sat (w:World):Chunk→Prop
 | .cells g cur e=>w.heap[g]?=some (.cells cur e (0,0))
 | .row v e size n xs=>w.ownsRow 0 e size v n xs
 | .obj g o=>w.heap[g]?=some o
theorem Chunk.lt {w:World}{c:Chunk}(h:c.sat w){k:Nat}(hk:c.block=some k):k<w.heap.size:=by
 cases c with
 | cells g cur e =>
  simp only[Chunk.block,Option.some.injEq] at hk
  subst hk
  exact(Array.getElem?_eq_some_iff.1 h).1
 | row v e size n xs=>exact(World.ownsRow.lt (h:w.ownsRow 0 e size v n xs) k hk).2
 | obj g o =>
  simp only[Chunk.block,Option.some.injEq] at hk
  subst hk
  exact(Array.getElem?_eq_some_iff.1 h).1
theorem Chunk.keep {w w':World}{c:Chunk}(h:c.sat w)(hb:∀k,c.block=some k→w'.heap[k]?=w.heap[k]?):c.sat w':=by
 cases c with
 | cells g cur e=>exact(hb g rfl).trans h
 | row v e size n xs =>
  obtain⟨h1,h2⟩:=(h:w.ownsRow 0 e size v n xs)
  refine⟨h1,?_⟩
  rcases h2 with h2|⟨g,cap,cur,rfl,hg,hh,hr⟩
  ·exact .inl h2
  ·exact .inr ⟨g,cap,cur,rfl,hg,(hb g rfl).trans hh,hr⟩
 | obj g o=>exact(hb g rfl).trans h
structure St (w0:World)(M:Nat→Prop)(w:World)(H:List Chunk):Prop where
 ext:Ext M w0 w
 sat:∀(i:Nat) (c:Chunk),H[i]?=some c→c.sat w
 own:∀(i:Nat) (c:Chunk) (k:Nat),H[i]?=some c→c.block=some k→w0.heap.size≤k∨M k
 apart:∀(i j:Nat) (c d:Chunk) (k:Nat),i≠j→H[i]?=some c→H[j]?=some d→c.block=some k→d.block≠some k
section
variable {w0 w w' : World} {M : Nat → Prop} {H : List Chunk}
theorem St.init (w0:World)(M:Nat→Prop):St w0 M w0 []:=
 ⟨Ext.refl _ _,fun i c h=>by simp at h,fun i c k h=>by simp at h,fun i j c d k _ h=>by simp at h⟩
theorem St.below (h:St w0 NoB w H):Below w0.heap.size w0 w:=h.ext.below
theorem St.far (h:St w0 M w H)(hE:Ext NoB w w'):St w0 M w' H:=
 ⟨h.ext.trans (ext_of_below hE.below),
  fun i c hc=>Chunk.keep (h.sat i c hc) fun k hk=>hE.block k (Chunk.lt (h.sat i c hc) hk) (fun x=>x),h.own,h.apart⟩
theorem St.call (h:St w0 M w H)(hb:Below w.heap.size w w'):St w0 M w' H:=h.far (ext_of_below hb)
theorem St.drew (h:St w0 M w H):St w0 M w.drew H:=h.call ((Below.refl _ _).drew)
theorem St.drewN (h:St w0 M w H)(n:Nat):St w0 M (w.drewN n) H:=h.call ⟨rfl,rfl,rfl,Nat.le_refl _,fun _ _=>rfl⟩
theorem St.add (h:St w0 M w H)(hb:Below w.heap.size w w'){c:Chunk}(hc:c.sat w')(hn:∀k,c.block=some k→w.heap.size≤k):St w0 M w' (c::H):=by
 have h':=h.call hb
 refine⟨h'.ext,?_,?_,?_⟩
 ·intro i d hd
  cases i with
  | zero=>simp only[List.getElem?_cons_zero,Option.some.injEq] at hd;subst hd;exact hc
  | succ i=>exact h'.sat i d Aj
 ·intro i d k hd hk
  cases i with
  | zero =>
   simp only[List.getElem?_cons_zero,Option.some.injEq] at hd
   subst hd
   exact .inl (Nat.le_trans h.ext.size (hn k hk))
  | succ i=>exact h'.own i d k Aj hk
 ·intro i j d e k hij hd he hk hk'
  cases i with
  | zero =>
   simp only[List.getElem?_cons_zero,Option.some.injEq] at hd
   subst hd
   cases j with
   | zero=>exact hij rfl
   | succ j =>
    have:=Chunk.lt (h.sat j e Al) hk'
    have:=hn k hk
    omega
  | succ i =>
   cases j with
   | zero =>
    simp only[List.getElem?_cons_zero,Option.some.injEq] at he
    subst he
    have:=Chunk.lt (h.sat i d Aj) hk
    have:=hn k hk'
    omega
   | succ j=>exact h'.apart i j d e k An Aj Al hk hk'
theorem St.alloc (h:St w0 M w H)(c:Array Value)(e:TypeId):St w0 M (w.alloc (.cells c e)) (.cells w.heap.size c e::H):=
 h.add ((Below.refl _ _).alloc (Nat.le_refl _) _) (heap_alloc_new w _) (fun k hk=>by simp only[Chunk.block,Option.some.injEq] at hk;omega)
theorem St.allocObj (h:St w0 M w H)(o:Obj):St w0 M (w.alloc o) (.obj w.heap.size o::H):=
 h.add ((Below.refl _ _).alloc (Nat.le_refl _) _) (heap_alloc_new w _) (fun k hk=>by simp only[Chunk.block,Option.some.injEq] at hk;omega)
theorem St.skip (h:St w0 M w H)(o:Obj):St w0 M (w.alloc o) H:=h.call ((Below.refl _ _).alloc (Nat.le_refl _) _)
theorem St.row (h:St w0 M w H)(hb:Below w.heap.size w w'){e:TypeId}{size n:Nat}{v:Value}{xs:List Value}(ho:w'.ownsRow w.heap.size e size v n xs) :
  St w0 M w' (.row v e size n xs::H):=by
 refine h.add hb (c:=.row v e size n xs) ?_ (fun k hk=>(ho.lt k hk).1)
 obtain⟨h1,h2⟩:=ho
 refine⟨h1,?_⟩
 rcases h2 with h2|⟨g,cap,cur,rfl,hg,hr⟩
 ·exact .inl h2
 ·exact .inr ⟨g,cap,cur,rfl,Nat.zero_le _,hr⟩
theorem St.turn (h:St w0 M w H){i:Nat}{c d:Chunk}(hi:H[i]?=some c)(hE:Ext (fun k=>c.block=some k) w w')(hd:d.sat w')
  (hn:∀k,d.block=some k→c.block=some k∨w.heap.size≤k):St w0 M w' (H.set i d):=by
 have hlt:i<H.length:=(List.getElem?_eq_some_iff.1 hi).1
 have hget:∀(j:Nat) (x:Chunk),(H.set i d)[j]?=some x→(j=i∧x=d)∨(j≠i∧H[j]?=some x):=by
  intro j x hx
  rw[List.getElem?_set] at hx
  by_cases hij:i=j
  ·subst hij
   rw[if_pos rfl,if_pos hlt] at hx
   injection hx with hx
   exact .inl ⟨rfl,hx.symm⟩
  ·rw[if_neg hij] at hx
   exact .inr ⟨fun e=>hij e.symm,hx⟩
 have hkeep:∀(j:Nat) (x:Chunk),j≠i→H[j]?=some x→x.sat w':=fun j x hj hx =>
  Chunk.keep (h.sat j x hx) fun k hk=>hE.block k (Chunk.lt (h.sat j x hx) hk) (fun hc=>h.apart j i x c k hj hx hi hk hc)
 refine⟨⟨hE.os.trans h.ext.os,hE.tape.trans h.ext.tape,hE.output.trans h.ext.output,Nat.le_trans h.ext.size hE.size,?_⟩,?_,?_,?_⟩
 ·intro k hk hm
  refine(hE.block k (Nat.lt_of_lt_of_le hk h.ext.size) fun hc=>?_).trans (h.ext.block k hk hm)
  rcases h.own i c k hi hc with h1|h1
  ·omega
  ·exact hm h1
 ·intro j x hx
  rcases hget j x hx with⟨_,rfl⟩|⟨hj,hx⟩
  ·exact hd
  ·exact hkeep j x hj hx
 ·intro j x k hx hk
  rcases hget j x hx with⟨_,rfl⟩|⟨hj,hx⟩
  ·rcases hn k hk with h1|h1
   ·exact h.own i c k hi h1
   ·exact .inl (Nat.le_trans h.ext.size h1)
  ·exact h.own j x k hx hk
 ·intro j l x y k hjl hx hy hk hk'
  rcases hget j x hx with⟨hji,hxd⟩|⟨hj,hx'⟩
  ·rcases hget l y hy with⟨hli,_⟩|⟨hl,hy'⟩
   ·omega
   ·subst hji
    subst hxd
    rcases hn k hk with h1|h1
    ·exact h.apart j l c y k hjl hi hy' h1 hk'
    ·have:=Chunk.lt (h.sat l y hy') hk'
     omega
  ·rcases hget l y hy with⟨hli,hyd⟩|⟨hl,hy'⟩
   ·subst hli
    subst hyd
    rcases hn k hk' with h1|h1
    ·exact h.apart j l x c k hjl hx' hi hk h1
    ·have:=Chunk.lt (h.sat j x hx') hk
     omega
   ·exact h.apart j l x y k hjl hx' hy' hk hk'
theorem St.heap (h:St w0 M w H)(i:Nat){g:Nat}{c:Array Value}{e:TypeId}(hi:H[i]?=some (.cells g c e)):w.heap[g]?=some (.cells c e (0,0)):=h.sat i _ hi
theorem St.cell (h:St w0 M w H)(i:Nat){g:Nat}{c:Array Value}{e:TypeId}(hi:H[i]?=some (.cells g c e))(o:Nat):w.cell? ⟨g,o,none⟩=c[o]?:=
 cell_of_row w g o c e (0,0) (h.heap i hi)
theorem St.free (h:St w0 M w H)(i:Nat){g:Nat}{c:Array Value}{e:TypeId}(hi:H[i]?=some (.cells g c e))(o:Nat):w.frozen? ⟨g,o,none⟩=false:=
 frozen_of_row w g o c e (h.heap i hi)
theorem ext_setCell (w:World)(a:Addr)(v:Value):Ext (fun k=>some a.block=some k) w (w.setCell a v):=
 ⟨rfl,rfl,rfl,B0,fun k _ hm=>heap_setCell_other w a k v (fun e=>hm (by rw[e]))⟩
theorem St.setCell (h:St w0 M w H)(i:Nat){g:Nat}{c:Array Value}{e:TypeId}(hi:H[i]?=some (.cells g c e))(o:Nat)(v:Value) :
  St w0 M (w.setCell ⟨g,o,none⟩ v) (H.set i (.cells g (c.setIfInBounds o v) e)):=
 h.turn hi (ext_setCell w ⟨g,o,none⟩ v) (heap_setCell_same w g o c e v (h.heap i hi)) (fun _ hk=>.inl hk)
theorem ext_setRow (w:World)(g:Nat)(cs:Array Value):Ext (fun k=>some g=some k) w (w.setRow g cs):=
 ⟨rfl,rfl,rfl,B0,fun k _ hm=>setRow_other w g k cs (fun e=>hm (by rw[e]))⟩
theorem St.setRow (h:St w0 M w H)(i:Nat){g:Nat}{c:Array Value}{e:TypeId}(hi:H[i]?=some (.cells g c e))(cs:Array Value) :
  St w0 M (w.setRow g cs) (H.set i (.cells g cs e)):=
 h.turn hi (ext_setRow w g cs) (setRow_heap w g c cs e _ (h.heap i hi)) (fun _ hk=>.inl hk)
theorem ext_setBlock (w:World)(g:Nat)(o:Obj):Ext (fun k=>some g=some k) w (ChangeMaps.setBlock w g o):=
 ⟨rfl,rfl,rfl,by simp[ChangeMaps.setBlock],fun k _ hm=>by
  have hne:g≠k:=fun e=>hm (by rw[e])
  simp[ChangeMaps.setBlock,Array.getElem?_setIfInBounds,hne]⟩
theorem St.setObj (h:St w0 M w H)(i:Nat){g:Nat}{o:Obj}(hi:H[i]?=some (.obj g o))(o':Obj):St w0 M (ChangeMaps.setBlock w g o') (H.set i (.obj g o')):=by
 have hg:w.heap[g]?=some o:=h.sat i _ hi
 have hlt:=(Array.getElem?_eq_some_iff.1 hg).1
 refine h.turn (d:=.obj g o') hi (ext_setBlock w g o') ?_ (fun _ hk=>.inl hk)
 show(ChangeMaps.setBlock w g o').heap[g]?=some o'
 simp[ChangeMaps.setBlock,Array.getElem?_setIfInBounds,hlt]
theorem St.grown (h:St w0 M w H)(i:Nat){e:TypeId}{size n m:Nat}{v v':Value}{xs ys:List Value}(hi:H[i]?=some (.row v e size n xs))
  (hg:w.grownBy w' v.ownBlock)(ho:w'.ownsRow 0 e size v' m ys)(hat:v'.ownBlock=v.ownBlock∨v'.ownBlock=some w.heap.size):St w0 M w' (H.set i (.row v' e size m ys)):=
 h.turn (d:=.row v' e size m ys) hi ⟨hg.os,hg.tape,hg.output,hg.size,fun k hk hm=>hg.block k hk (fun x=>hm x.symm)⟩ ho (fun k hk=>by
  rcases hat with x|x
  ·exact .inl ((show v.ownBlock=some k from x▸(show v'.ownBlock=some k from hk)))
  ·refine .inr ?_
   have:some k=some w.heap.size:=hk.symm.trans x
   injection this with this
   omega)
theorem St.pick (h:St w0 M w H)(is:List Nat)(H':List Chunk)(hn:is.Nodup)(hH:H'.length=is.length∧∀(i:Nat) (c:Chunk),H'[i]?=some c→∃j,is[i]?=some j∧H[j]?=some c):St w0 M w H':=by
 refine⟨h.ext,fun i c hc=>?_,fun i c k hc=>?_,fun i j c d k hij hc hd=>?_⟩
 ·obtain⟨j,_,hj⟩:=hH.2 i c hc
  exact h.sat j c hj
 ·obtain⟨j,_,hj⟩:=hH.2 i c hc
  exact h.own j c k hj
 ·obtain⟨i',hi',hi⟩:=hH.2 i c hc
  obtain⟨j',hj',hj⟩:=hH.2 j d hd
  refine h.apart i' j' c d k ?_ hi hj
  rintro rfl
  obtain⟨a1,a2⟩:=List.getElem?_eq_some_iff.1 hi'
  obtain⟨b1,b2⟩:=List.getElem?_eq_some_iff.1 hj'
  exact hij ((List.getElem_inj hn).1 (a2.trans b2.symm))
theorem St.pickL (h:St w0 M w H)(is:List Nat){H':List Chunk}(hn:is.Nodup)(hH:is.map (fun j=>H[j]?)=H'.map some):St w0 M w H':=by
 refine h.pick is H' hn ⟨by simpa using (congrArg List.length hH).symm,fun i c hc=>?_⟩
 have h1:(is.map (fun j=>H[j]?))[i]?=some (some c):=by rw[hH,List.getElem?_map,hc];rfl
 rw[List.getElem?_map] at h1
 cases hj:is[i]? with
 | none=>rw[hj] at h1;cases h1
 | some j =>
  rw[hj] at h1
  simp only[Option.map_some,Option.some.injEq] at h1
  exact⟨j,rfl,h1⟩
theorem St.swap {a b:Chunk}(h:St w0 M w (a::b::H)):St w0 M w (b::a::H):=by
 have key:∀(i:Nat) (c:Chunk),(b::a::H)[i]?=some c→(a::b::H)[if i=0 then 1 else if i=1 then 0 else i]?=some c:=by
  intro i c hc
  match i,hc with
  | 0,hc=>exact hc
  | 1,hc=>exact hc
  | i+2,hc=>rw[if_neg An,if_neg An];exact hc
 exact⟨h.ext,fun i c hc=>h.sat _ c (key i c hc),fun i c k hc=>h.own _ c k (key i c hc),
  fun i j c d k hij hc hd=>h.apart _ _ c d k Ao (key i c hc) (key j d hd)⟩
theorem St.mid2 {a b x:Chunk}(h:St w0 M w (a::b::x::H)):St w0 M w (a::b::H):=by
 have key:∀(i:Nat) (d:Chunk),(a::b::H)[i]?=some d→(a::b::x::H)[if i<2 then i else i+1]?=some d:=by
  intro i d hd
  match i,hd with
  | 0,hd=>exact hd
  | 1,hd=>exact hd
  | i+2,hd=>rw[if_neg An];exact hd
 exact⟨h.ext,fun i d hd=>h.sat _ d (key i d hd),fun i d k hd=>h.own _ d k (key i d hd),
  fun i j d e k hij hd he=>h.apart _ _ d e k (by split<;>split<;>omega) (key i d hd) (key j e he)⟩
theorem St.swap12 {a b c:Chunk}(h:St w0 M w (a::b::c::H)):St w0 M w (a::c::b::H):=by
 have key:∀(i:Nat) (d:Chunk),(a::c::b::H)[i]?=some d→(a::b::c::H)[if i=1 then 2 else if i=2 then 1 else i]?=some d:=by
  intro i d hd
  match i,hd with
  | 0,hd=>exact hd
  | 1,hd=>exact hd
  | 2,hd=>exact hd
  | i+3,hd=>rw[if_neg An,if_neg An];exact hd
 exact⟨h.ext,fun i d hd=>h.sat _ d (key i d hd),fun i d k hd=>h.own _ d k (key i d hd),
  fun i j d e k hij hd he=>h.apart _ _ d e k Ao (key i d hd) (key j e he)⟩
theorem St.rot3 {a b c:Chunk}(h:St w0 M w (a::b::c::H)):St w0 M w (c::b::a::H):=by
 have key:∀(i:Nat) (d:Chunk),(c::b::a::H)[i]?=some d→(a::b::c::H)[if i=0 then 2 else if i=2 then 0 else i]?=some d:=by
  intro i d hd
  match i,hd with
  | 0,hd=>exact hd
  | 1,hd=>exact hd
  | 2,hd=>exact hd
  | i+3,hd=>rw[if_neg An,if_neg An];exact hd
 exact⟨h.ext,fun i d hd=>h.sat _ d (key i d hd),fun i d k hd=>h.own _ d k (key i d hd),
  fun i j d e k hij hd he=>h.apart _ _ d e k Ao (key i d hd) (key j e he)⟩
theorem St.tail {c:Chunk}(h:St w0 M w (c::H)):St w0 M w H:=
 ⟨h.ext,fun i d hd=>h.sat (i+1) d Aj,fun i d k hd=>h.own (i+1) d k Aj,
  fun i j d e k hij hd he=>h.apart (i+1) (j+1) d e k An Aj Al⟩
theorem St.ownsRow (h:St w0 NoB w H)(i:Nat){e:TypeId}{size n:Nat}{v:Value}{xs:List Value}(hi:H[i]?=some (.row v e size n xs)):w.ownsRow w0.heap.size e size v n xs:=by
 obtain⟨h1,h2⟩:=(h.sat i _ hi:w.ownsRow 0 e size v n xs)
 refine⟨h1,?_⟩
 rcases h2 with h2|⟨g,cap,cur,rfl,hg,hr⟩
 ·exact .inl h2
 ·refine .inr ⟨g,cap,cur,rfl,?_,hr⟩
  rcases h.own i _ g hi rfl with h3|h3
  ·exact h3
  ·exact h3.elim
end
def Rd (w:World)(v:Value)(size n:Nat)(xs:List Value):Prop:=
 ∃A c,v=.slice A n c∧xs.length=n*size∧n≤c∧c≤maxLen∧(A=none→c=0) ∧
  ∀b o sp,A=some ⟨b,o,sp⟩→(0<n*size→sp=none)∧∀j u,xs[j]?=some u→w.cell? ⟨b,o+j,none⟩=some u
section
variable {w w' : World} {v : Value} {size n : Nat} {xs : List Value}
theorem Rd.len (h:Rd w v size n xs):xs.length=n*size:=by obtain⟨A,c,_,h,_⟩:=h;exact h
theorem Rd.le (h:Rd w v size n xs):n≤maxLen:=by obtain⟨A,c,_,_,h1,h2,_⟩:=h;omega
theorem Rd.keep (h:Rd w v size n xs)(hs:w.heap.size≤w'.heap.size)(hk:∀b,b<w.heap.size→v.ownBlock=some b→w'.heap[b]?=w.heap[b]?):Rd w' v size n xs:=by
 obtain⟨A,c,rfl,h1,h2,h3,h4,h5⟩:=h
 refine⟨A,c,rfl,h1,h2,h3,h4,fun b o sp hA=>?_⟩
 obtain⟨k2,k3⟩:=h5 b o sp hA
 refine⟨k2,fun j u hu=>?_⟩
 rw[World.cell?_of_block (w:=w) (a:=⟨b,o+j,none⟩) (hk b (block_lt_of_cell (k3 j u hu)) (by subst hA;rfl))]
 exact k3 j u hu
theorem Rd.below (h:Rd w v size n xs)(hb:Below w.heap.size w w'):Rd w' v size n xs:=h.keep hb.size fun b hlt _=>hb.block b hlt
theorem Rd.st {w0:World}{H:List Chunk}(h:Rd w0 v size n xs)(hS:St w0 NoB w H):Rd w v size n xs:=h.below hS.below
theorem rd_nil (w:World)(size:Nat):Rd w (.slice none 0 0) size 0 []:=⟨none,0,rfl,B0,Nat.le_refl _,Aw,fun _=>rfl,fun b o sp h=>by cases h⟩
theorem rd_own {base:Nat}{e:TypeId}(h:w.ownsRow base e size v n xs):Rd w v size n xs:=by
 obtain⟨h1,h2⟩:=h
 rcases h2 with⟨rfl,rfl⟩|⟨g,cap,cur,rfl,hg,hh,hn,hm,hc,ht⟩
 ·have:xs=[]:=List.eq_nil_of_length_eq_zero As
  subst this
  exact rd_nil w size
 ·refine⟨some ⟨g,0,none⟩,cap,rfl,h1,hn,hm,(fun h=>by cases h),fun b o sp hA=>?_⟩
  injection hA with hA
  injection hA with hb ho hsp
  subst hb ho hsp
  refine⟨fun _=>rfl,fun j u hu=>?_⟩
  rw[Nat.zero_add,cell_of_row w g j cur e (0,0) hh]
  rw[←ht,List.getElem?_take] at hu
  split at hu
  ·simpa using hu
  ·cases hu
theorem St.rd {w0:World}{M:Nat→Prop}{H:List Chunk}{e:TypeId}(h:St w0 M w H)(i:Nat)(hi:H[i]?=some (.row v e size n xs)):Rd w v size n xs:=rd_own (h.sat i _ hi)
theorem Rd.cases (h:Rd w v size n xs):(v=.slice none 0 0∧n=0∧xs=[])∨∃b o sp c,v=.slice (some ⟨b,o,sp⟩) n c∧(0<n*size→b<w.heap.size)∧n≤c∧c≤maxLen∧xs.length=n*size∧(0<n*size→sp=none)∧∀j u,xs[j]?=some u→w.cell? ⟨b,o+j,none⟩=some u:=by
 obtain⟨A,c,rfl,h1,h2,h3,h4,h5⟩:=h
 rcases A with _|⟨b,o,sp⟩
 ·have hc:=h4 rfl
  subst hc
  have hn:n=0:=An
  subst hn
  exact .inl ⟨rfl,rfl,List.eq_nil_of_length_eq_zero As⟩
 ·obtain⟨k2,k3⟩:=h5 b o sp rfl
  refine .inr ⟨b,o,sp,c,rfl,fun hn=>?_,h2,h3,h1,k2,k3⟩
  have hx:0<xs.length:=An
  exact block_lt_of_cell (k3 0 xs[0] (gE hx))
end
def bv (b:UInt8):Value:=.int .u8 (b.toNat:Int)
def bvs (l:List UInt8):List Value:=l.map bv
theorem aX (l:List UInt8):(bvs l).length=l.length:=by simp[bvs]
theorem cK (l m:List UInt8):bvs (l++m)=bvs l++bvs m:=by simp[bvs]
theorem bD (l:List UInt8):∀u∈bvs l,u.oneCell'=true:=by
 intro u hu
 simp only[bvs,List.mem_map] at hu
 obtain⟨b,_,rfl⟩:=hu
 rfl
theorem own_slice {w:World}{base:Nat}{e:TypeId}{size n:Nat}{v:Value}{xs:List Value}(h:w.ownsRow base e size v n xs):∃A c,v=.slice A n c:=by
 rcases h.2 with⟨rfl,rfl⟩|⟨g,cap,cur,rfl,_⟩
 ·exact⟨_,_,rfl⟩
 ·exact⟨_,_,rfl⟩
structure RowTy (P:Program)(t e:TypeId)(size bytes:Nat):Prop where
 under:P.underlying t=some (.slice e)
 info:∃i z,P.info? e=some i∧i.zero=some z∧i.size=size∧i.bytes=bytes∧z.cells.size=size
 pos:0<size
theorem fQ {P:Program}{t e:TypeId}{size bytes:Nat}{z:Value}(h1:P.underlying t=some (.slice e))(h2:(P.info? e).map (fun i=>(i.zero,i.size,i.bytes))=some (some z,size,bytes))(h3:z.cells.size=size)(h4:0<size):RowTy P t e size bytes:=by
 cases hi:P.info? e with
 | none=>rw[hi] at h2;cases h2
 | some i =>
  rw[hi] at h2
  simp only[Option.map_some,Option.some.injEq,Prod.mk.injEq] at h2
  exact⟨h1,⟨i,z,hi,h2.1,h2.2.1,h2.2.2,h3⟩,h4⟩
section
variable {P : Program} {w0 w : World} {M : Nat → Prop} {H : List Chunk}
theorem run_append_of_nil (base:Nat)(t ty e:TypeId)(i:TypeInfo)(size:Nat)(ht:P.underlying t=some (.slice e))(hi:P.info? e=some i)
  (v:Value)(n:Nat)(xs:List Value)(hown:w.ownsRow base e size v n xs)(c:Nat):(Builtin.append_ #[t,t] ty #[v,.slice none 0 c]).run P w=.ok v w:=by
 rcases hown.2 with⟨rfl,rfl⟩|⟨g,cap,cur,rfl,_,_,hnc,_⟩
 ·simp[Builtin.append_,run_underlying ht,sizeOf,typeInfo,hi,Builtin.lenOf,Builtin.firstCells]
 ·simp[Builtin.append_,run_underlying ht,sizeOf,typeInfo,hi,Builtin.lenOf,Builtin.firstCells,hnc,storeCells]
theorem run_append_rd (base:Nat)(t ty e:TypeId)(size bytes:Nat)(T:RowTy P t e size bytes)
  (v:Value)(n:Nat)(xs:List Value)(hown:w.ownsRow base e size v n xs){y:Value}{m:Nat}{ys:List Value}(hr:Rd w y size m ys)(h1:∀u∈ys,u.oneCell'=true)
  (h63:n+m≤maxLen)(hbytes:(n+m)*bytes≤140737488355328)(hbase:base≤w.heap.size) :
  ∃v' w',(Builtin.append_ #[t,t] ty #[v,y]).run P w=.ok v' w'∧w'.ownsRow base e size v' (n+m) (xs++ys)∧w.grownBy w' v.ownBlock∧(v'.ownBlock=v.ownBlock∨v'.ownBlock=some w.heap.size):=by
 obtain⟨ht,⟨i,z,hi,hz,hsize,hby,hzs⟩,hsz⟩:=T
 rcases hr.cases with⟨rfl,rfl,rfl⟩|⟨b,o,sp,c,rfl,hb,hnc,hcm,hl,hsp,hc⟩
 ·exact⟨v,w,run_append_of_nil base t ty e i size ht hi v n xs hown 0,by simpa using hown,World.grownBy.refl w _,.inl rfl⟩
 ·have hcells:∀j u,ys[j]?=some u→w.cell? ((⟨b,o,sp⟩:Addr).add j)=some u:=by
   intro j u hu
   have hj:j<ys.length:=(List.getElem?_eq_some_iff.1 hu).1
   have:sp=none:=hsp An
   subst this
   rw[Addr.add_lit]
   exact hc j u hu
  obtain⟨v',w',hrun,h2,h3,_,h5⟩:=run_append_own_at (P:=P) w base t ty e i z size bytes ht hi hz hsize hby hzs hsz v n xs hown ⟨b,o,sp⟩ m c ys hl hcells h1 h63 hbytes hbase
  exact⟨v',w',hrun,h2,h3,h5⟩
theorem gU {o:Oper}{a:Act}{K:Act→World→Prop}{Q:Exit→Act→World→Prop}{s x:Operand}{t e:TypeId}{size bytes:Nat}
  (ho:o.op=.call { callee:=.builtin .append,args:=#[s,x],argTypes:=#[t,t] })(T:RowTy P t e size bytes)
  (hS:St w0 M w H)(k:Nat){v:Value}{n:Nat}{xs:List Value}(hk:H[k]?=some (.row v e size n xs))(hs:a.eval s=v)
  {y:Value}{m:Nat}{ys:List Value}(hx:a.eval x=y)(hr:Rd w y size m ys)(h1:∀u∈ys,u.oneCell'=true)(hlen:n+m≤4294967296)(hby:bytes≤32768)
  (h:∀A' c' w',St w0 M w' (H.set k (.row (.slice A' (n+m) c') e size (n+m) (xs++ys)))→K (a.put o.dst (.slice A' (n+m) c')) w'):o.wp P a w K Q:=by
 have hown:w.ownsRow 0 e size v n xs:=hS.sat k _ hk
 obtain⟨v',w',hrun,h2,h3,h4⟩:=run_append_rd (P:=P) 0 t o.type e size bytes T v n xs hown hr h1 Aw (Nat.mul_le_mul hlen hby) (Nat.zero_le _)
 unfold Oper.wp execOp
 simp only[ho,resolve,invoke,builtin,Sem.run_bind,Sem.run_pure,Result.andThen_ok,List.map_toArray,List.map_cons,List.map_nil,hs,hx,hrun]
 obtain⟨A',c',rfl⟩:=own_slice h2
 exact h A' c' w' (hS.grown k hk h3 h2 h4)
theorem cQ {ops:Array Oper}{rest:List Oper}{o:Oper}{a:Act}{Q:Exit→Act→World→Prop}(hgd:o.guard=none){s x:Operand}{t e:TypeId}{size bytes:Nat}
  (ho:o.op=.call { callee:=.builtin .append,args:=#[s,x],argTypes:=#[t,t] })(T:RowTy P t e size bytes)
  (hS:St w0 M w H)(k:Nat){v:Value}{n:Nat}{xs:List Value}(hk:H[k]?=some (.row v e size n xs))(hs:a.eval s=v)
  {y:Value}{m:Nat}{ys:List Value}(hx:a.eval x=y)(hr:Rd w y size m ys)(h1:∀u∈ys,u.oneCell'=true)(hlen:n+m≤4294967296)(hby:bytes≤32768)
  (h:∀A' c' w',St w0 M w' (H.set k (.row (.slice A' (n+m) c') e size (n+m) (xs++ys)))→wpList P ops Q rest (a.put o.dst (.slice A' (n+m) c')) w'):wpList P ops Q (o::rest) a w:=
 wpList_plain hgd fun _ hK=>gU ho T hS k hk hs hx hr h1 hlen hby fun A' c' w' h2=>hK _ _ (h A' c' w' h2)
theorem step_append {yl:Nat→Option Bool}{o:Oper}{a:Act}{K:Act→World→Prop}{Q:Exit→Act→World→Prop}{E:Prop}(hw:Region.wanted o yl=true){s x:Operand}{t e:TypeId}{size bytes:Nat}
  (ho:o.op=.call { callee:=.builtin .append,args:=#[s,x],argTypes:=#[t,t] })(T:RowTy P t e size bytes)
  (hS:St w0 M w H)(k:Nat){v:Value}{n:Nat}{xs:List Value}(hk:H[k]?=some (.row v e size n xs))(hs:a.eval s=v)
  {y:Value}{m:Nat}{ys:List Value}(hx:a.eval x=y)(hr:Rd w y size m ys)(h1:∀u∈ys,u.oneCell'=true)(hlen:n+m≤4294967296)(hby:bytes≤32768)
  (h:∀A' c' w',St w0 M w' (H.set k (.row (.slice A' (n+m) c') e size (n+m) (xs++ys)))→K (a.put o.dst (.slice A' (n+m) c')) w'):if Region.wanted o yl=true then Oper.wp P o a w K Q else E:=by
 rw[if_pos hw]
 exact gU ho T hS k hk hs hx hr h1 hlen hby h
theorem bG {o:Oper}{a:Act}{K:Act→World→Prop}{Q:Exit→Act→World→Prop}{f:FuncId}{xs:List Operand}{ts:Array TypeId}{vs:List Value}{R:Ending→World→Prop}
  (ho:o.op=.call { callee:=.value (.func f),args:=xs.toArray,argTypes:=ts })(hf:∀(args:Array Value) (w:World),(callFunc f args).run P w=.ok (.enter f args) w)
  (hx:xs.map a.eval=vs)(hc:Calls P f vs.toArray w R)(h:∀e w',R e w'→∃v,e=.returned v∧K (a.put o.dst v) w'):o.wp P a w K Q:=by
 unfold Oper.wp execOp
 have hv:a.eval (.func f)=.func (.func f) #[] #[]:=rfl
 have hx':Array.map a.eval xs.toArray=vs.toArray:=by rw[←hx];simp
 simp only[ho,resolve,hv,hx',Deferred.ofValue,Sem.run_bind,Sem.run_pure,Result.andThen_ok,invoke,Array.append_empty,Array.empty_append,hf]
 refine hc.mono fun e w' hr=>?_
 obtain⟨v,rfl,hk⟩:=h e w' hr
 exact hk
theorem aO {yl:Nat→Option Bool}{o:Oper}{a:Act}{K:Act→World→Prop}{Q:Exit→Act→World→Prop}{E:Prop}{f:FuncId}{xs:List Operand}{ts:Array TypeId}{vs:List Value}{R:Ending→World→Prop}
  (hw:Region.wanted o yl=true)(ho:o.op=.call { callee:=.value (.func f),args:=xs.toArray,argTypes:=ts })(hf:∀(args:Array Value) (w:World),(callFunc f args).run P w=.ok (.enter f args) w)
  (hx:xs.map a.eval=vs)(hc:Calls P f vs.toArray w R)(h:∀e w',R e w'→∃v,e=.returned v∧K (a.put o.dst v) w'):if Region.wanted o yl=true then Oper.wp P o a w K Q else E:=by
 rw[if_pos hw]
 exact bG ho hf hx hc h
theorem bJ {ops:Array Oper}{rest:List Oper}{o:Oper}{a:Act}{Q:Exit→Act→World→Prop}(hgd:o.guard=none){s x:Operand}{t e:TypeId}{size bytes:Nat}
  (ho:o.op=.call { callee:=.builtin .append,args:=#[s,x],argTypes:=#[t,t] })(T:RowTy P t e size bytes)
  (hS:St w0 M w H)(hs:a.eval s=.slice none 0 0)
  {y:Value}{m:Nat}{ys:List Value}(hx:a.eval x=y)(hr:Rd w y size m ys)(h1:∀u∈ys,u.oneCell'=true)(hlen:m≤4294967296)(hby:bytes≤32768)
  (h:∀A' c' w',St w0 M w' (.row (.slice A' m c') e size m ys::H)→wpList P ops Q rest (a.put o.dst (.slice A' m c')) w'):wpList P ops Q (o::rest) a w:=by
 have hS':St w0 M w (.row (.slice none 0 0) e size 0 []::H):=hS.row (Below.refl _ _) (World.ownsRow_nil _ _ _ _)
 refine cQ hgd ho T hS' 0 rfl hs hx hr h1 An hby fun A' c' w' h2=>?_
 simp only[Nat.zero_add,List.nil_append,List.set_cons_zero] at h2 ⊢
 exact h A' c' w' h2
theorem iO (w:World)(us:List Value)(e:TypeId)(size n:Nat)(hl:us.length=n*size)(hn:n≤maxLen):Rd (w.alloc (.cells us.toArray e)) (.slice (some ⟨w.heap.size,0,none⟩) n n) size n us:=
 ⟨_,n,rfl,hl,Nat.le_refl _,hn,(fun h=>by cases h),fun b o sp hA=>by
  injection hA with hA
  injection hA with hb ho hsp
  subst hb ho hsp
  refine⟨fun _=>rfl,fun j u hu=>?_⟩
  rw[Nat.zero_add,World.cell?_alloc_new]
  simpa using hu⟩
theorem bQ {ops:Array Oper}{rest:List Oper}{o:Oper}{a:Act}{Q:Exit→Act→World→Prop}(hgd:o.guard=none){s x:Operand}{t e e':TypeId}{bytes:Nat}
  (ho:o.op=.call { callee:=.builtin .append,args:=#[s,x],argTypes:=#[t,t] })(T:RowTy P t e 1 bytes)
  (hS:St w0 M w H)(k:Nat){v:Value}{n:Nat}{xs:List Value}(hk:H[k]?=some (.row v e 1 n xs))(hs:a.eval s=v)
  {m:Nat}{us:List Value}(hx:a.eval x=.slice (some ⟨w.heap.size,0,none⟩) m m)(hm:us.length=m)(h1:∀u∈us,u.oneCell'=true)(hlen:n+m≤4294967296)(hby:bytes≤32768)
  (h:∀A' c' w',St w0 M w' (H.set k (.row (.slice A' (n+m) c') e 1 (n+m) (xs++us)))→wpList P ops Q rest (a.put o.dst (.slice A' (n+m) c')) w'):wpList P ops Q (o::rest) a (w.alloc (.cells us.toArray e')):=
 cQ hgd ho T (hS.skip _) k hk hs hx (iO w us e' 1 m An Aw) h1 hlen hby h
end
section
variable {P : Program} {w0 w : World} {M : Nat → Prop} {H : List Chunk}
theorem wl_appendN {ops:Array Oper}{rest:List Oper}{o:Oper}{a:Act}{Q:Exit→Act→World→Prop}(hgd:o.guard=none){s x:Operand}{t e e':TypeId}{size bytes:Nat}
  (ho:o.op=.call { callee:=.builtin .append,args:=#[s,x],argTypes:=#[t,t] })(T:RowTy P t e size bytes)
  (hS:St w0 M w H)(k:Nat){v:Value}{n:Nat}{xs:List Value}(hk:H[k]?=some (.row v e size n xs))(hs:a.eval s=v)
  {m:Nat}{us:List Value}(hx:a.eval x=.slice (some ⟨w.heap.size,0,none⟩) m m)(hm:us.length=m*size)(h1:∀u∈us,u.oneCell'=true)(hlen:n+m≤4294967296)(hby:bytes≤32768)
  (h:∀A' c' w',St w0 M w' (H.set k (.row (.slice A' (n+m) c') e size (n+m) (xs++us)))→wpList P ops Q rest (a.put o.dst (.slice A' (n+m) c')) w'):wpList P ops Q (o::rest) a (w.alloc (.cells us.toArray e')):=
 cQ hgd ho T (hS.skip _) k hk hs hx (iO w us e' size m hm Aw) h1 hlen hby h
end
section
variable {P : Program} {w0 w : World} {M : Nat → Prop} {H : List Chunk}
theorem hY {k:TypeId}{q:IntKind}(hk:P.underlying k=some (.int q))(b:Bool)(m:Nat)(n:Int)(w:World):(Instr.checkKey b (m+1) k (.int q n)).run P w=.ok () w:=by
 unfold Instr.checkKey
 simp[run_underlying hk]
theorem run_insert_int {t k e:TypeId}{q:IntKind}(ht:P.underlying t=some (.map k e))(hk:P.underlying k=some (.int q)){b clock:Nat}{es:Array MapEntry}(hb:w.heap[b]?=some (.map es clock))(n:Int)(v:Value)
  (hf:Instr.findNow (.int q) (.int q n) es.toList 0=some none) :
  (Instr.mapUpdate t (.map (some b)) (.int q n) v).run P w=.ok () (ChangeMaps.setBlock w b (.map (es.push ⟨.int q n,v,clock⟩) (clock+1))):=by
 simp[Instr.mapUpdate,hY hk _ 9999,Instr.findKey,run_underlying ht,run_underlying hk,MapKept.run_getObj_map hb,hf,MapKept.run_setObj_map _ hb,Result.andThen,ChangeMaps.setBlock]
theorem run_lookup_int {t k e:TypeId}{q:IntKind}(ht:P.underlying t=some (.map k e))(hk:P.underlying k=some (.int q)){b clock:Nat}{es:Array MapEntry}(hb:w.heap[b]?=some (.map es clock))(n:Int){z:Value}(hz:(zeroValue e).run P w=.ok z w)
  {r:Option (Nat×Value)}(hf:Instr.findNow (.int q) (.int q n) es.toList 0=some r) :
  (Instr.lookup t (.map (some b)) (.int q n) false).run P w=.ok ((r.map (·.2)).getD z) w:=by
 cases r<;>simp[Instr.lookup,hY hk _ 9999,Instr.findKey,run_underlying ht,run_underlying hk,MapKept.run_getObj_map hb,hf,hz,Result.andThen]
theorem wl_insert {ops:Array Oper}{rest:List Oper}{o:Oper}{a:Act}{Q:Exit→Act→World→Prop}(hgd:o.guard=none){m x v:Operand}{t k e:TypeId}{q:IntKind}
  (ho:o.op=.insert t m x v)(ht:P.underlying t=some (.map k e))(hk:P.underlying k=some (.int q))
  (hS:St w0 M w H)(i:Nat){b clock:Nat}{es:Array MapEntry}(hi:H[i]?=some (.obj b (.map es clock)))(hm:a.eval m=.map (some b)){n:Int}(hx:a.eval x=.int q n){y:Value}(hv:a.eval v=y)
  (hf:Instr.findNow (.int q) (.int q n) es.toList 0=some none)
  (h:∀w',St w0 M w' (H.set i (.obj b (.map (es.push ⟨.int q n,y,clock⟩) (clock+1))))→wpList P ops Q rest (a.put o.dst undef) w'):wpList P ops Q (o::rest) a w:=by
 refine wpList_plain hgd fun K' hK'=>?_
 have hrun:=run_insert_int (P:=P) ht hk (hS.sat i _ hi:w.heap[b]?=_) n y hf
 unfold Oper.wp
 simp[execOp,ho,hm,hx,hv,hrun,Result.andThen]
 exact hK' _ _ (h _ (hS.setObj i hi _))
theorem wl_lookup {ops:Array Oper}{rest:List Oper}{o:Oper}{a:Act}{Q:Exit→Act→World→Prop}(hgd:o.guard=none){m x:Operand}{t k e:TypeId}{q:IntKind}
  (ho:o.op=.lookup t m x false)(ht:P.underlying t=some (.map k e))(hk:P.underlying k=some (.int q)){z:Value}(hz:(zeroValue e).run P w=.ok z w)
  {b clock:Nat}{es:Array MapEntry}(hb:w.heap[b]?=some (.map es clock))(hm:a.eval m=.map (some b)){n:Int}(hx:a.eval x=.int q n){r:Option (Nat×Value)}
  (hf:Instr.findNow (.int q) (.int q n) es.toList 0=some r)
  (h:wpList P ops Q rest (a.put o.dst ((r.map (·.2)).getD z)) w):wpList P ops Q (o::rest) a w:=by
 refine wpList_plain hgd fun K' hK'=>?_
 have hrun:=run_lookup_int (P:=P) ht hk hb n hz hf
 unfold Oper.wp
 simp[execOp,ho,hm,hx,hrun,Result.andThen]
 exact hK' _ _ h
theorem wp_callv {o:Oper}{a:Act}{K:Act→World→Prop}{Q:Exit→Act→World→Prop}{c:Operand}{f:FuncId}{first cap:Array Value}{xs:List Operand}{ts:Array TypeId}{vs:Array Value}{R:Ending→World→Prop}
  (ho:o.op=.call { callee:=.value c,args:=xs.toArray,argTypes:=ts })(hcv:a.eval c=.func (.func f) first cap)(hf:∀(args:Array Value) (w:World),(callFunc f args).run P w=.ok (.enter f args) w)
  (hx:first++(xs.map a.eval).toArray++cap=vs)(hc:Calls P f vs w R)(h:∀e w',R e w'→∃v,e=.returned v∧K (a.put o.dst v) w'):o.wp P a w K Q:=by
 unfold Oper.wp execOp
 have hx':first++Array.map a.eval xs.toArray++cap=vs:=by rw[←hx];simp
 simp only[ho,resolve,hcv,Deferred.ofValue,Sem.run_bind,Sem.run_pure,Result.andThen_ok,invoke,hx',hf]
 refine hc.mono fun e w' hr=>?_
 obtain⟨v,rfl,hk⟩:=h e w' hr
 exact hk
end
def iI (e:TypeId)(w:World)(l:List UInt8)(r:Ending)(w':World):Prop:=∃A c,r=.returned (.slice A l.length c)∧Below w.heap.size w w'∧w'.ownsRow w.heap.size e 1 (.slice A l.length c) l.length (bvs l)
theorem dY {e:TypeId}{w w':World}{l:List UInt8}{H:List Chunk}{v:Value}{n:Nat}{xs:List Value}(hS:St w NoB w' H)(i:Nat)(hi:H[i]?=some (.row v e 1 n xs))(hx:xs=bvs l):iI e w l (.returned v) w':=by
 have ho:=hS.ownsRow i hi
 have hl:n=l.length:=by have:=ho.1;rw[hx,aX] at this;omega
 subst hx
 subst hl
 obtain⟨A,c,rfl⟩:=own_slice ho
 exact⟨A,c,rfl,hS.below,ho⟩
def RdH (w0:World)(M:Nat→Prop)(H:List Chunk)(y:Value)(size n:Nat)(xs:List Value):Prop:=∀w,St w0 M w H→Rd w y size n xs
theorem Rd.rdH {w0:World}{H:List Chunk}{y:Value}{size n:Nat}{xs:List Value}(h:Rd w0 y size n xs):RdH w0 NoB H y size n xs:=fun _ hS=>h.st hS
@[irreducible] def strOf (l:List UInt8):ByteArray:=⟨l.toArray⟩
theorem dH (l:List UInt8):strOf l=⟨l.toArray⟩:=by unfold strOf;rfl
@[go_sem] theorem strOf_toList (l:List UInt8):(strOf l).toList=l:=by
 rw[dH,ByteArray.toList_mk]
theorem aY {P:Program}{w:World}{src e dst:TypeId}(hs:P.underlying src=some (.slice e))(he:P.underlying e=some (.int .u8))(hd:P.underlying dst=some .string){v:Value}{n:Nat}{l:List UInt8}(hr:Rd w v 1 n (bvs l)) :
  (convert src dst v).run P w=.ok (.string (strOf l)) w:=by
 rw[dH]
 rcases hr.cases with⟨rfl,rfl,hl⟩|⟨b,o,sp,c,rfl,hb,hnc,hcm,hlen,hsp,hc⟩
 ·have:l=[]:=by
   have:=congrArg List.length hl
   rw[aX] at this
   exact List.eq_nil_of_length_eq_zero this
  subst this
  exact run_convert_bytes_nil w src e hs he 0 0 dst hd
 ·rw[aX] at hlen
  by_cases h0:n=0
  ·subst h0
   have:l=[]:=List.eq_nil_of_length_eq_zero An
   subst this
   rw[run_convert_bytes_string w src dst e _ 0 c hs he hd]
   simp[Conv.bytesToString,loadCells,loadCellsFrom]
   rfl
  ·have hsp':sp=none:=hsp An
   subst hsp'
   have:=run_convert_bytes_arg w src e hs he b o n c (l.map fun x=>(x.toNat:Int)) A9 (fun i hi=>by
    rw[hc i (bv (l[i]'An)) (by simp[bvs,gE (show i<l.length by omega)])]
    simp[bv,List.getD,gE (show i<l.length by omega)]) dst hd
   rw[this]
   have e:strOfNums (l.map fun x=>(x.toNat:Int))=⟨l.toArray⟩:=by
    unfold strOfNums
    congr 2
    rw[List.map_map]
    conv=>rhs;rw[←List.map_id l]
    refine List.map_congr_left fun x _=>?_
    simp
   rw[e]
end Go.Proofs.YtnohmgpmmhlloaaGreatDoor
namespace Go.Proofs.YtnohmgpmmhlloaaGreatDoor.S6
def vbF:Nat→Nat→List UInt8
 | 0,n=>[UInt8.ofNat n]
 | f+1,n=>if n<128 then [UInt8.ofNat n] else UInt8.ofNat (n%128+128)::vbF f (n/128)
@[irreducible] def vb (n:Nat):List UInt8:=vbF 9 n
theorem vbF_len (f n:Nat):(vbF f n).length≤f+1∧1≤(vbF f n).length:=by
 induction f generalizing n with
 | zero=>simp[vbF]
 | succ f ih =>
  simp only[vbF]
  split
  ·simp
  ·have:=ih (n/128);simp only[List.length_cons];omega
theorem vb_eq (n:Nat):vb n=vbF 9 n:=by unfold vb;rfl
theorem vb_len (n:Nat):(vb n).length≤10∧1≤(vb n).length:=by rw[vb_eq];exact vbF_len 9 n
end Go.Proofs.YtnohmgpmmhlloaaGreatDoor.S6
namespace Go.Proofs.YtnohmgpmmhlloaaGreatDoor
def W64 (n:Nat):Prop:=n<18446744073709551616
def I64 (n:Int):Prop:=-9223372036854775808≤n∧n≤9223372036854775807
end Go.Proofs.YtnohmgpmmhlloaaGreatDoor
namespace Go.Proofs.YtnohmgpmmhlloaaGreatDoor.S6
open Go.RowKit
theorem tyB:RowTy Tryz.prog 22 5 1 1:=fQ (z:=.int .u8 0) Tryz.underlying22 Bt rfl Bz
theorem bvs_snoc (l:List UInt8)(m:Nat)(h:m<256):bvs (l++[UInt8.ofNat m])=bvs l++[.int .u8 (m:Int)]:=by
 simp only[bvs,List.map_append,List.map_cons,List.map_nil,bv,UInt8.toNat_ofNat']
 rw[Nat.mod_eq_of_lt An]
theorem byte_or (m:Nat):bits .or .u8 ((m:Int)%256) 128=((m%128+128:Nat):Int):=by
 have e:∀a,a<256→a||| 128=a%128+128:=Cj
 rw[u8_or _ _ An An An An,show((m:Int)%256).toNat=m%256 from by omega,show(128:Int).toNat=128 from rfl,e _ An]
 omega
theorem vb_step (l:List UInt8)(n m f:Nat)(h:128≤m)(hv:l++vbF (f+1) m=vb n):(l++[UInt8.ofNat (m%128+128)])++vbF f (m/128)=vb n:=by
 rw[←hv]
 simp only[vbF]
 rw[if_neg An]
 simp
theorem vb_last (l:List UInt8)(n m f:Nat)(h:m<128)(hv:l++vbF f m=vb n):bvs l++[.int .u8 (m:Int)]=bvs (vb n):=by
 rw[←hv]
 have:vbF f m=[UInt8.ofNat m]:=by cases f<;>simp[vbF,h]
 rw[this,bvs_snoc l m An]
theorem vb_less (m f:Nat)(h:m<2^(7*(f+1)+1)):m/128<2^(7*f+1):=by
 rw[show 7*(f+1)+1=(7*f+1)+7 from by omega,Nat.pow_add] at h
 omega
theorem varint_any (n:Nat)(w:World)(hn:W64 n):Calls Tryz.prog 168 #[.int .u64 n] w (iI 5 w (vb n)):=by
 go_enter Tryz.func168,Tryz.ntmps168
 go_wp2_with fail
 go_loopw [0,3] (fun x v wr=>∃(m f:Nat) (l:List UInt8),x=.int .u64 (m:Int)∧l++vbF f m=vb n∧l.length+f=9∧m<2^(7*f+1)∧St w NoB wr [.row v 5 1 l.length (bvs l)]) (fun x _ _=>(intOf x).toNat)
 case atStart=>exact⟨n,9,[],rfl,(vb_eq n).symm,rfl,hn,(St.init w NoB).row (Below.refl _ _) (World.ownsRow_nil _ _ _ _)⟩
 case round =>
  obtain⟨m,f,l,rfl,hl,hf,hm,hS⟩:=hrel
  have HL:=aA hl
  clear hl
  have HM:=aA hm
  clear hm hn
  by_cases h:m<128
  ·go_wp2_with (at_builtin;refine bQ rfl rfl tyB hS 0 rfl rfl (us:=[_]) rfl rfl ?_ ?_ Bz ?_)
   case refine_1=>simp[Value.oneCell']
   case refine_2=>simp;omega
   clear hS
   intro A1 c1 w1 hS
   go_wp2_with fail
   go_ret
   exact dY hS 0 rfl (vb_last l n m f h HL.out)
  ·go_wp2_with (at_builtin;refine bQ rfl rfl tyB hS 0 rfl rfl (us:=[_]) rfl rfl ?_ ?_ Bz ?_)
   case refine_1=>simp[Value.oneCell']
   case refine_2=>simp;omega
   clear hS
   intro A1 c1 w1 hS
   go_wp2_with fail
   go_roundw
   case rel =>
    cases f with
    | zero =>
     have:=HM.out
     omega
    | succ f =>
     refine⟨m/128,f,l++[UInt8.ofNat (m%128+128)],Cg,vb_step l n m f An HL.out,A9,vb_less m f HM.out,?_⟩
     rw[byte_or,←bvs_snoc l (m%128+128) An] at hS
     simpa using hS
   case measure=>simp[intOf];omega
def mayB (n:Int):Bool:=decide (1≤n)&&decide (n≤100)
theorem gG (n:Int)(w:World):Calls Tryz.prog 152 #[.int .i64 n] w fun e w'=>e=.returned (.bool (mayB n))∧w=w':=by
 unfold mayB
 go_enter Tryz.func152,Tryz.ntmps152
 go_wp2
 all_goals go_ret
 all_goals (refine⟨?_,rfl⟩;simp;try omega)
theorem tag_eq (num wire:Int)(h1:1≤num)(h2:num≤100)(h3:wire=0∨wire=2) :
  bits .or .u64 (IntKind.u64.wrap (IntKind.u64.wrap num*8)) (IntKind.u64.wrap wire)=((8*num.toNat+wire.toNat:Nat):Int):=by
 simp only[IntKind.wrap_u64]
 obtain⟨n,rfl⟩:=Int.eq_ofNat_of_zero_le (show 0≤num from by omega)
 have e1:(n:Int)%18446744073709551616*8%18446744073709551616=((8*n:Nat):Int):=An
 have e2:∀k,(8*n)||| k=8*n+k∨8≤k:=fun k=>by
  by_cases h:k<8
  ·exact .inl (nat_join 3 (8*n) k An An)
  ·exact .inr An
 rcases h3 with rfl|rfl
 ·have:=u64_or_nat (8*n) 0 An An
  rw[e1]
  exact this.trans B0
 ·have:=u64_or_nat (8*n) 2 An An
  rw[e1]
  refine this.trans ?_
  have:=e2 2
  simp only[Int.toNat_natCast]
  rw[this.resolve_right An]
  rfl
theorem enVarint (args:Array Value)(w:World):(callFunc 168 args).run Tryz.prog w=.ok (.enter 168 args) w:=Bt
@[irreducible] def putI (num:Int)(n:Nat):List UInt8:=if mayB num then vb (8*num.toNat)++vb n else []
@[irreducible] def cJ (num:Int)(b:List UInt8):List UInt8:=if mayB num&&decide (b.length≤65536) then vb (8*num.toNat+2)++(vb b.length++b) else []
theorem mayB_of (num:Int)(h:mayB num=true):1≤num∧num≤100:=by
 unfold mayB at h
 simpa using h
theorem raw_no {w0 w:World}{M:Nat→Prop}{H:List Chunk}(g:Nat)(num:Int)(A:Option Addr)(n c:Nat)(hm:mayB num=false)(hS:St w0 M w H) :
  Calls Tryz.prog 147 #[.pointer (some ⟨g,0,none⟩),.int .i64 num,.slice A n c] w fun e w'=>e=.returned (.tuple #[])∧St w0 M w' H:=by
 go_enter Tryz.func147,Tryz.ntmps147
 go_wp2_with (go_at_call 152;refine(gG _ _).mono ?_;rintro e w' ⟨rfl,rfl⟩)
 refine bodyPost_ret (results_none rfl _ _ _) rfl ?_
 exact⟨rfl,hS⟩
theorem bytes_any {w:World}(g:Nat)(v:Value)(l:List UInt8)(hl:l.length≤1000000)(hc:w.cell? ⟨g,0,none⟩=some v)(hr:Rd w v 1 l.length (bvs l)) :
  Calls Tryz.prog 61 #[.pointer (some ⟨g,0,none⟩)] w (iI 5 w l):=by
 have hS:=St.init w NoB
 have HL:=aA hl
 have HR:=aA hr
 clear hl hr
 go_enter Tryz.func61,Tryz.ntmps61
 go_wp2_with (at_builtin;refine bJ rfl rfl tyB hS rfl rfl HR.out (bD _) Ca Bz ?_;intro A c w1 hS1)
 go_ret
 exact dY hS1 0 rfl rfl
structure PutV where
 num:Int
 whole:Bool
 n:Nat
 A:Option Addr
 c:Nat
 b:List UInt8
def PutV.cells (p:PutV):List Value:=[.int .i64 p.num,.bool p.whole,.int .u64 p.n,.slice p.A p.b.length p.c]
def cellsP (ps:List PutV):List Value:=ps.flatMap PutV.cells
structure PutsAt (w:World)(v:Value)(ps:List PutV):Prop where
 rd:Rd w v 4 ps.length (cellsP ps)
 each:∀p∈ps,Rd w (.slice p.A p.b.length p.c) 1 p.b.length (bvs p.b)∧W64 p.n∧I64 p.num∧p.b.length≤140737488351232
theorem flat_get {α β:Type}(f:α→List β)(m:Nat)(hm:∀a,(f a).length=m):∀(l:List α) (k j:Nat) (a:α),l[k]?=some a→j<m→(l.flatMap f)[k*m+j]?=(f a)[j]?
 | [],k,j,a,h,_=>by simp at h
 | x::l,0,j,a,h,hj=>by
  simp only[List.getElem?_cons_zero,Option.some.injEq] at h
  subst h
  rw[List.flatMap_cons,Nat.zero_mul,Nat.zero_add,List.getElem?_append_left (by rw[hm];exact hj)]
 | x::l,k+1,j,a,h,hj=>by
  rw[List.flatMap_cons,List.getElem?_append_right (by rw[hm];rw[Nat.succ_mul];omega),hm,show(k+1)*m+j - m=k*m+j from by rw[Nat.succ_mul];omega]
  exact flat_get f m hm l k j a Cb hj
theorem PutsAt.below {w w':World}{v:Value}{ps:List PutV}(h:PutsAt w v ps)(hb:Below w.heap.size w w'):PutsAt w' v ps:=
 ⟨h.rd.below hb,fun p hp=>⟨(h.each p hp).1.below hb,(h.each p hp).2⟩⟩
theorem putI_yes (num:Int)(n:Nat)(h:mayB num=true):putI num n=vb (8*num.toNat)++vb n:=by unfold putI;rw[if_pos h]
theorem putR_yes (num:Int)(b:List UInt8)(h:mayB num=true)(hb:b.length≤65536):cJ num b=vb (8*num.toNat+2)++(vb b.length++b):=by unfold cJ;rw[if_pos (by rw[h];simpa using hb)]
theorem putR_no (num:Int)(b:List UInt8)(h:mayB num=false):cJ num b=[]:=by unfold cJ;rw[if_neg (by rw[h];simp)]
end Go.Proofs.YtnohmgpmmhlloaaGreatDoor.S6
namespace Go.Proofs.YtnohmgpmmhlloaaGreatDoor
open Go.RowKit
section
variable {P : Program} {ops : Array Oper} {Q : Exit → Act → World → Prop} {md : Region.Mode}
def wpG (P:Program)(md:Region.Mode)(ops:Array Oper)(Q:Exit→Act→World→Prop):Nat→(World→Prop)→Array Bool→Act→World→Prop
 | 0,_,listed,a,w=>Region.ready md ops listed=[]∧Q .normal a w
 | fuel+1,S,listed,a,w =>
  (Region.ready md ops listed=[]→Q .normal a w) ∧
  ∀i∈Region.ready md ops listed,wpOp P ops Q i (fun a' w'=>∃S':World→Prop,(∀x,S' x→S x)∧S' w'∧wpG P md ops Q fuel S' (listed.setIfInBounds i true) a' w') a w
theorem wpAny_of_G:∀(fuel:Nat) (S:World→Prop) (listed:Array Bool) (a:Act) (w:World),wpG P md ops Q fuel S listed a w→wpAny P md ops Q fuel listed a w
 | 0,_,_,_,_,h=>h
 | fuel+1,_,_,_,_,h=>⟨h.1,fun i hi=>wpOp_mono (fun a' w' ⟨S',_,_,h'⟩=>wpAny_of_G fuel S' _ a' w' h') (h.2 i hi)⟩
theorem wpG_first {i:Nat}{oi:Oper}{v:Value}(hi:ops[i]?=some oi)(hsel:∀(j:Nat) (o:Oper) cs b,ops[j]?=some o→o.op≠.select cs b)
  (hQ:∀c a w,Q (.panic c) (a.put oi.dst v) w→Q (.panic c) a w) :
  ∀(fuel:Nat) (S:World→Prop) (listed:Array Bool) (a:Act) (w:World),
   (∀j oj,ops[j]?=some oj→j≠i→listed.getD j true=false→(∀e∈oj.after,Region.binds md e=true→e.on≠i)→oi.apart ops oj=true) →
   i∈Region.ready md ops listed→YieldsIf P ops S oi v a→S w →
   wpG P md ops Q fuel S (listed.setIfInBounds i true) (a.put oi.dst v) w→wpG P md ops Q (fuel+1) S listed a w:=by
 intro fuel
 induction fuel with
 | zero =>
  intro S listed a w _ hr hy hS H
  refine⟨fun h=>Cc,fun j hj=>?_⟩
  by_cases hji:j=i
  ·subst hji;exact hy.wpOp hi hS ⟨S,fun _ h=>h,hS,H⟩
  ·have:=ready_mono hj hji
   rw[H.1] at this
   cases this
 | succ fuel ih =>
  intro S listed a w hfree hr hy hS H
  refine⟨fun h=>Cc,fun j hj=>?_⟩
  by_cases hji:j=i
  ·subst hji;exact hy.wpOp hi hS ⟨S,fun _ h=>h,hS,H⟩
  ·have h1:=H.2 j (ready_mono hj hji)
   obtain⟨hjun,oj,hoj,hall⟩:=mem_ready.1 hj
   have hnot:∀e∈oj.after,Region.binds md e=true→e.on≠i:=fun e he hb heq=>by
    have h1:=hall e he hb
    have h0:=(mem_ready.1 hr).1
    rw[heq] at h1
    rcases Nat.lt_or_ge i listed.size with h'|h'
    ·simp[h'] at h0 h1;rw[h0] at h1;cases h1
    ·simp[Array.getElem?_eq_none h'] at h1
   have h2:=wpOp_putIf hoj (hfree j oj hoj hji hjun hnot) (fun cs b=>hsel i oi cs b hi) (fun cs b=>hsel j oj cs b hoj) hQ hy h1
   have hfree':∀k ok,ops[k]?=some ok→k≠i→(listed.setIfInBounds j true).getD k true=false →
     (∀e∈ok.after,Region.binds md e=true→e.on≠i)→oi.apart ops ok=true:=fun k ok hk hki hun hno=>by
    refine hfree k ok hk hki ?_ hno
    by_cases hjk:j=k
    ·subst hjk;exact hjun
    ·rw[getD_set_ne true hjk] at hun;exact hun
   refine wpOp_mono (fun a' w' h3=>?_) h2
   obtain⟨hy',S',hSS,hS',H'⟩:=h3
   refine⟨S',hSS,hS',ih S' (listed.setIfInBounds j true) a' w' hfree' (ready_mono hr (Ne.symm hji)) ?_ hS' ?_⟩
   ·rcases hy' with⟨k1,k2⟩|k
    ·exact .inl ⟨k1,fun x hx=>k2 x (hSS x hx)⟩
    ·exact .inr k
   ·rw[Array.setIfInBounds_comm _ _ hji]
    exact H'
theorem wpG_take {i:Nat}{oi:Oper}{v:Value}{fuel:Nat}{S:World→Prop}{listed:Array Bool}{a:Act}{w:World}(hi:ops[i]?=some oi)
  (hs:Region.noSelect ops=true)(hf:Region.free md ops listed i=true)(hr:(Region.ready md ops listed).contains i=true)
  (hQ:∀c a w,Q (.panic c) (a.put oi.dst v) w→Q (.panic c) a w)(hS:S w)(hy:YieldsIf P ops S oi v a)
  (h:wpG P md ops Q fuel S (listed.setIfInBounds i true) (a.put oi.dst v) w):wpG P md ops Q (fuel+1) S listed a w:=
 wpG_first hi (Region.noSelect_spec hs) hQ fuel S listed a w (Region.free_spec hi hf) Cd hy hS h
theorem gT (i:Nat){oi:Oper}{v:Value}{fuel:Nat}{S:World→Prop}{listed:Array Bool}{a:Act}{w:World}(hS:S w)(h:wpG P md ops Q fuel S (listed.setIfInBounds i true) (a.put oi.dst v) w)(hi:ops[i]?=some oi:=by exact rfl)(hs:Region.noSelect ops=true:=by kernel_rfl)(hf:Region.free md ops listed i=true:=by kernel_rfl)(hr:(Region.ready md ops listed).contains i=true:=by kernel_rfl)(hQ:∀c a w,Q (.panic c) (a.put oi.dst v) w→Q (.panic c) a w:=by exact fun _ _ _ h=>h)(hy:YieldsIf P ops S oi v a:=by exact Or.inl ⟨Ch,by (intro wx hx;go_simp)<;>(with_reducible rfl)⟩):wpG P md ops Q (fuel+1) S listed a w:=wpG_take hi hs hf hr hQ hS hy h
theorem cD {i:Nat}{oi:Oper}{fuel:Nat}{S:World→Prop}{listed:Array Bool}{a:Act}{w:World}(hr:Region.ready md ops listed=[i])(hi:ops[i]?=some oi)
  (h:∀K:Act→World→Prop,(∀(S':World→Prop) a' w',(∀x,S' x→S x)→S' w'→wpG P md ops Q fuel S' (listed.setIfInBounds i true) a' w'→K a' w') →
   if Region.wanted oi (yielded ops a.tmps)=true then oi.wp P a w K Q else K (a.put oi.dst undef) w):wpG P md ops Q (fuel+1) S listed a w:=by
 refine⟨(fun h0=>by rw[h0] at hr;cases hr),fun j hj=>?_⟩
 rw[hr] at hj
 obtain rfl:j=i:=by simpa using hj
 have h1:=h (fun a' w'=>∃S':World→Prop,(∀x,S' x→S x)∧S' w'∧wpG P md ops Q fuel S' (listed.setIfInBounds j true) a' w') (fun S' a' w' k1 k2 k3=>⟨S',k1,k2,k3⟩)
 unfold wpOp
 simp only[hi]
 split
 ·rename_i hw
  rw[if_pos hw] at h1
  exact .inl h1
 ·rename_i hw
  rw[if_neg hw] at h1
  exact h1
theorem cX {listed:Array Bool}{S:World→Prop}{a:Act}{w:World}(hr:Region.ready md ops listed=[])(h:Q .normal a w) :
  ∀fuel,wpG P md ops Q fuel S listed a w
 | 0=>⟨hr,h⟩
 | _+1=>⟨fun _=>h,by rw[hr];simp⟩
theorem eT {id:Nat}{a:Act}{w:World}(S:World→Prop)(hm:P.follows .mixedOrders=true)
  (h:wpG P .any ops Q ops.size S (Array.replicate ops.size false) a w.drew):(Code.region id ops true).wp P Q a w:=
 wp_region_any hm (wpAny_of_G _ _ _ _ _ h)
end
def aC (W:World)(x:World):Prop:=Below W.heap.size W x
theorem aC.refl (W:World):aC W W:=Below.refl _ _
theorem fR {w:World}:aC w w:=aC.refl w
theorem aC.next {W V:World}(h:Below W.heap.size W V):∀x,aC V x→aC W x:=fun _ hx=>h.trans (hx.mono h.size)
def uv (x:Nat):Value:=.int .u64 (x:Int)
def uvs (xs:List Nat):List Value:=xs.map uv
theorem cE (xs:List Nat):(uvs xs).length=xs.length:=by simp[uvs]
theorem aR {xs:List Nat}{k x:Nat}(h:xs[k]?=some x):(uvs xs).toArray[k]?=some (.int .u64 (x:Int)):=by
 simp only[uvs,List.getElem?_toArray,List.getElem?_map,h];rfl
theorem bH (xs:List Nat)(k y:Nat):(uvs xs).toArray.setIfInBounds k (.int .u64 (y:Int))=(uvs (xs.set k y)).toArray:=by
 simp[uvs,List.map_set,uv]
theorem uvs_one (xs:List Nat):∀v∈uvs xs,v.oneCell'=true:=by
 intro v hv
 simp only[uvs,List.mem_map] at hv
 obtain⟨x,_,rfl⟩:=hv
 rfl
def lv:List Nat→Nat
 | []=>0
 | x::xs=>x+18446744073709551616*lv xs
theorem lv_append:∀(xs:List Nat) (ys:List Nat),lv (xs++ys)=lv xs+18446744073709551616^xs.length*lv ys
 | [],ys=>by simp[lv]
 | x::xs,ys=>by
  simp only[List.cons_append,lv,lv_append xs ys,List.length_cons]
  rw[Nat.pow_succ,Nat.mul_add,Nat.add_assoc,←Nat.mul_assoc,Nat.mul_comm (18446744073709551616^xs.length) 18446744073709551616]
theorem gH {xs:List Nat}{k x:Nat}(h:xs[k]?=some x):lv (xs.take (k+1))=lv (xs.take k)+x*18446744073709551616^k:=by
 have hk:=(List.getElem?_eq_some_iff.1 h).1
 rw[List.take_add_one,h,Option.toList_some,lv_append,List.length_take,Nat.min_eq_left An]
 simp only[lv,Nat.mul_zero,Nat.add_zero]
 rw[Nat.mul_comm]
theorem lv_take_set (xs:List Nat)(k y:Nat)(hk:k<xs.length):lv ((xs.set k y).take (k+1))=lv (xs.take k)+y*18446744073709551616^k:=by
 have h:(xs.set k y)[k]?=some y:=by simp[hk]
 rw[gH h,List.take_set_of_le (Nat.le_refl k)]
theorem dQ (xs:List Nat)(k y:Nat):(xs.set k y).drop (k+1)=xs.drop (k+1):=by
 rw[List.drop_set_of_lt An]
def aT (xs:List Nat):Prop:=∀x∈xs,x<18446744073709551616
theorem cG {xs:List Nat}(h:aT xs){k x:Nat}(hx:xs[k]?=some x):x<18446744073709551616:=h x (mG hx)
theorem fH {xs:List Nat}(h:aT xs)(k y:Nat)(hy:y<18446744073709551616):aT (xs.set k y):=fun x hx=>by
 rcases List.mem_or_eq_of_mem_set hx with h1|h1
 ·exact h x h1
 ·omega
theorem lv_lt:∀(xs:List Nat),aT xs→lv xs<18446744073709551616^xs.length
 | [],_=>by simp[lv]
 | x::xs,h=>by
  have h1:=lv_lt xs fun y hy=>h y (mC _ hy)
  have h2:=h x (List.mem_cons_self ..)
  simp only[lv,List.length_cons,Nat.pow_succ]
  have:=Nat.mul_le_mul_left 18446744073709551616 h1
  rw[Nat.mul_comm (18446744073709551616^xs.length)]
  omega
theorem lv_get_le:∀(xs:List Nat) (k x:Nat),xs[k]?=some x→x*18446744073709551616^k≤lv xs
 | [],k,x,h=>by simp at h
 | y::xs,0,x,h=>by
  simp only[List.getElem?_cons_zero,Option.some.injEq] at h
  subst h
  simp[lv]
 | y::xs,k+1,x,h=>by
  have:=lv_get_le xs k x Cb
  simp only[lv,Nat.pow_succ]
  rw[←Nat.mul_assoc,Nat.mul_comm _ 18446744073709551616]
  have:=Nat.mul_le_mul_left 18446744073709551616 this
  omega
theorem lv_set:∀(xs:List Nat) (k x y:Nat),xs[k]?=some x→lv (xs.set k y)+x*18446744073709551616^k=lv xs+y*18446744073709551616^k
 | [],k,x,y,h=>by simp at h
 | z::xs,0,x,y,h=>by
  simp only[List.getElem?_cons_zero,Option.some.injEq] at h
  subst h
  simp[lv]
  omega
 | z::xs,k+1,x,y,h=>by
  have:=lv_set xs k x y Cb
  simp only[List.set_cons_succ,lv,Nat.pow_succ]
  have e:=congrArg (18446744073709551616*·) this
  simp only[Nat.mul_add] at e
  rw[show x*(18446744073709551616^k*18446744073709551616)=18446744073709551616*(x*18446744073709551616^k) from by rw[←Nat.mul_assoc,Nat.mul_comm _ 18446744073709551616],
   show y*(18446744073709551616^k*18446744073709551616)=18446744073709551616*(y*18446744073709551616^k) from by rw[←Nat.mul_assoc,Nat.mul_comm _ 18446744073709551616]]
  omega
@[irreducible] def sbD (x y b:Nat):Nat:=(x+18446744073709551616 - y - b)%18446744073709551616
@[irreducible] def sbB (x y b:Nat):Nat:=if x<y+b then 1 else 0
@[irreducible] def adS (x y c:Nat):Nat:=(x+y+c)%18446744073709551616
@[irreducible] def adC (x y c:Nat):Nat:=(x+y+c)/18446744073709551616
@[irreducible] def muH (x y:Nat):Nat:=x*y/18446744073709551616
@[irreducible] def muL (x y:Nat):Nat:=x*y%18446744073709551616
theorem sb_spec (x y b:Nat)(hx:x<18446744073709551616)(hy:y<18446744073709551616)(hb:b≤1) :
  sbD x y b+y+b=x+sbB x y b*18446744073709551616∧sbD x y b<18446744073709551616∧sbB x y b≤1:=by
 unfold sbD sbB
 split<;>omega
theorem ad_spec (x y c:Nat)(hx:x<18446744073709551616)(hy:y<18446744073709551616)(hc:c≤1) :
  adS x y c+adC x y c*18446744073709551616=x+y+c∧adS x y c<18446744073709551616∧adC x y c≤1:=by
 unfold adS adC
 omega
theorem mu_spec (x y:Nat)(hx:x<18446744073709551616)(hy:y<18446744073709551616) :
  muL x y+muH x y*18446744073709551616=x*y∧muL x y<18446744073709551616∧muH x y≤18446744073709551614:=by
 unfold muL muH
 have:x*y≤18446744073709551615*18446744073709551615:=Nat.mul_le_mul An An
 generalize x*y=z at *
 omega
section
variable {P : Program} {w0 w : World} {M : Nat → Prop} {H : List Chunk}
theorem rd_cells (hS:St w0 M w H)(i:Nat){g:Nat}{xs:List Value}{e:TypeId}(hi:H[i]?=some (.cells g xs.toArray e))(n:Nat)(hn:xs.length=n)(hm:n≤maxLen):Rd w (.slice (some ⟨g,0,none⟩) n n) 1 n xs:=
 ⟨some ⟨g,0,none⟩,n,rfl,An,Nat.le_refl _,hm,(fun h=>by cases h),fun b o sp hA=>by
  injection hA with hA
  injection hA with hb ho hsp
  subst hb ho hsp
  refine⟨fun _=>rfl,fun j u hu=>?_⟩
  rw[Nat.zero_add,hS.cell i hi j]
  simpa using hu⟩
theorem _root_.Go.World.ownsRow.base_le {w:World}{base base':Nat}{e:TypeId}{size n:Nat}{v:Value}{xs:List Value}(h:w.ownsRow base e size v n xs)(hb:base'≤base):w.ownsRow base' e size v n xs:=by
 obtain⟨h1,h2⟩:=h
 refine⟨h1,?_⟩
 rcases h2 with h2|⟨g,cap,cur,rfl,hg,hr⟩
 ·exact .inl h2
 ·exact .inr ⟨g,cap,cur,rfl,Nat.le_trans hb hg,hr⟩
theorem step_copy {yl:Nat→Option Bool}{o:Oper}{a:Act}{K:Act→World→Prop}{Q:Exit→Act→World→Prop}{E:Prop}(hw:Region.wanted o yl=true){d s:Operand}{dT sT elem:TypeId}
  (ho:o.op=.call { callee:=.builtin .copy,args:=#[d,s],argTypes:=#[dT,sT] })(hu:P.underlying dT=some (.slice elem))(hsz:(P.info? elem).map (·.size)=some 1)
  (hS:St w0 M w H)(i:Nat){g:Nat}{cur:Array Value}{e:TypeId}(hi:H[i]?=some (.cells g cur e)){dn dc m:Nat}(hd:a.eval d=.slice (some ⟨g,0,none⟩) dn dc)
  {y:Value}{ys:List Value}(hx:a.eval s=y)(hr:Rd w y 1 m ys)(hm:m≤dn)(hpos:0<m)(hfit:dn≤cur.size)(h1:∀u∈ys,u.oneCell'=true)
  (h:∀w',St w0 M w' (H.set i (.cells g (ys++cur.toList.drop m).toArray e))→K (a.put o.dst (goInt m)) w'):if Region.wanted o yl=true then Oper.wp P o a w K Q else E:=by
 rw[if_pos hw]
 rcases hr.cases with⟨_,h0,_⟩|⟨b,off,sp,c,rfl,hb,hnc,hcm,hl,hsp,hc⟩
 ·omega
 obtain rfl:sp=none:=hsp An
 have hl':ys.length=m:=An
 have hrun:=run_copy_row (P:=P) w dT sT o.type elem g 0 dn dc ⟨b,off,none⟩ m c cur e ys hu hsz (hS.heap i hi) (by rw[hl'];exact(Nat.min_eq_left hm).symm) (fun j v hv=>by rw[Addr.add_lit];exact hc j v hv) An h1
 unfold Oper.wp execOp
 simp only[ho,resolve,invoke,builtin,Sem.run_bind,Sem.run_pure,Result.andThen_ok,List.map_toArray,List.map_cons,List.map_nil,hd,hx,hrun]
 rw[hl']
 have:=hS.setRow i hi (cur.toList.take 0++ys++cur.toList.drop (0+ys.length)).toArray
 rw[List.take_zero,List.nil_append,Nat.zero_add,hl'] at this
 simp only[List.take_zero,List.nil_append,Nat.zero_add,hl']
 exact h _ this
theorem step_run {yl:Nat→Option Bool}{o:Oper}{a:Act}{K:Act→World→Prop}{Q:Exit→Act→World→Prop}{E:Prop}(hw:Region.wanted o yl=true){v:Value}{w w':World}
  (hrun:(execOp a.eval o).run P w=.ok (.value v) w')(h:K (a.put o.dst v) w'):if Region.wanted o yl=true then Oper.wp P o a w K Q else E:=by
 rw[if_pos hw]
 unfold Oper.wp
 rw[hrun,Oper.upon_value]
 exact h
theorem eS {yl:Nat→Option Bool}{o:Oper}{a:Act}{K:Act→World→Prop}{Q:Exit→Act→World→Prop}{E:Prop}(hw:Region.wanted o yl=true){t:TypeId}{p x:Operand}
  (ho:o.op=.store t p x)(hS:St w0 M w H)(i:Nat){g:Nat}{c:Array Value}{e:TypeId}(hi:H[i]?=some (.cells g c e)){cs:Array Value}
  (hp:a.eval p=.pointer (some ⟨g,0,none⟩))(hx:a.eval x=.agg cs)(ht:(P.info? t).map (·.size)=some cs.size)(hc:c.size=cs.size)(h1:cs.all (·.oneCell')=true)
  (h:∀w',St w0 M w' (H.set i (.cells g cs e))→K (a.put o.dst undef) w'):if Region.wanted o yl=true then Oper.wp P o a w K Q else E:=by
 rw[if_pos hw]
 exact wp_store_row t p x ho g cs hp hx e c (hS.heap i hi) ht hc h1 (h _ (hS.setRow i hi cs))
theorem step_alloc {yl:Nat→Option Bool}{o:Oper}{a:Act}{K:Act→World→Prop}{Q:Exit→Act→World→Prop}{E:Prop}(hw:Region.wanted o yl=true){zs:Array Value}{e:TypeId}
  (hrun:∀w,(execOp a.eval o).run P w=.ok (.value (.pointer (some ⟨w.heap.size,0,none⟩))) (w.alloc (.cells zs e)))(hS:St w0 M w H)
  (h:∀g w',St w0 M w' (.cells g zs e::H)→Below w.heap.size w w'→K (a.put o.dst (.pointer (some ⟨g,0,none⟩))) w'):if Region.wanted o yl=true then Oper.wp P o a w K Q else E:=
 step_run hw (hrun w) (h w.heap.size _ (hS.alloc zs e) ((Below.refl _ _).alloc (Nat.le_refl _) _))
theorem bO {yl:Nat→Option Bool}{o:Oper}{a:Act}{K:Act→World→Prop}{Q:Exit→Act→World→Prop}{E:Prop}(hw:Region.wanted o yl=true){t:TypeId}{p x:Operand}
  (ho:o.op=.store t p x)(ht:(P.info? t).map (·.size)=some 1)(hS:St w0 M w H)(i:Nat){g:Nat}{c:Array Value}{e:TypeId}(hi:H[i]?=some (.cells g c e))(k:Nat)(hk:k<c.size)
  (hp:a.eval p=.pointer (some ⟨g,k,none⟩)){v:Value}(hx:a.eval x=v)(hv:v.oneCell'=true)
  (h:∀w',St w0 M w' (H.set i (.cells g (c.setIfInBounds k v) e))→K (a.put o.dst undef) w'):if Region.wanted o yl=true then Oper.wp P o a w K Q else E:=by
 rw[if_pos hw]
 have hc:=hS.cell i hi k
 rw[Array.getElem?_eq_getElem hk] at hc
 have hf:=hS.free i hi k
 have hrun:(storeVar t ⟨g,k,none⟩ v).run P w=.ok () (w.setCell ⟨g,k,none⟩ v):=by
  cases hq:P.info? t with
  | none=>rw[hq] at ht;cases ht
  | some j =>
   rw[hq] at ht
   simp only[Option.map_some,Option.some.injEq] at ht
   have hst:∀m,(store (⟨g,k,none⟩:Addr) v m).run P w=.ok () (w.setCell ⟨g,k,none⟩ v):=fun m=>by rw[run_store P w _ v m hv,hc];simp[hf]
   cases v<;>first
    |(cases hv;done)
    |(simp[storeVar,sizeOf,typeInfo,hq,Value.cells,ht,storeCells];rw[Addr.add_zero'];exact hst _)
 unfold Oper.wp execOp
 simp only[ho,hp,hx,Instr.storeAt,Instr.sureAddr,Sem.run_bind,Sem.run_pure,Result.andThen_ok,hrun]
 exact h _ (hS.setCell i hi k v)
end
theorem size_alloc1 (w:World)(o:Obj):(w.alloc o).heap.size=w.heap.size+1:=by
 show(w.heap.push o).size=_
 simp
theorem aB {P:Program}{fn:Func}{p u:Tmp}{ty:TypeId}(h:fn.results=#[.cell p ty,.tmp u])(tmps:Array Value)(w:World)(g:Nat)(t:TypeId)(cs:Array Value)(fr:Nat×Nat)(d:TypeDesc)
  (hp:tmps.getD p undef=.pointer (some ⟨g,0,none⟩))(hg:w.heap[g]?=some (.cells cs t fr))
  (hu:P.underlying ty=some d)(hd:(match d with|.struct _|.array _ _=>true|_=>false)=true)(hi:(P.info? ty).map (·.size)=some cs.size) :
  (results fn tmps).run P w=.ok (.tuple #[.agg cs,tmps.getD u undef]) w:=by
 have hp':tmps[p]?.getD undef=.pointer (some ⟨g,0,none⟩):=by simpa using hp
 simp[results,h,hp',asAddr,run_loadVar_row w g t ty cs fr d hg hu hd hi]
def bval:List UInt8→Nat
 | []=>0
 | c::l=>c.toNat+256*bval l
def leB:Nat→Nat→List UInt8
 | 0,_=>[]
 | k+1,n=>UInt8.ofNat (n%256)::leB k (n/256)
theorem leB_len:∀(k n:Nat),(leB k n).length=k
 | 0,_=>rfl
 | k+1,n=>by simp[leB,leB_len k]
theorem bval_lt:∀l:List UInt8,bval l<256^l.length
 | []=>by simp[bval]
 | c::l=>by
  have:=bval_lt l
  have:=UInt8.toNat_lt c
  simp only[bval,List.length_cons,Nat.pow_succ]
  omega
theorem bval_leB:∀(k n:Nat),bval (leB k n)=n%256^k
 | 0,n=>by simp[leB,bval,Nat.mod_one]
 | k+1,n=>by
  simp only[leB,bval,bval_leB k,Nat.pow_succ]
  rw[UInt8.toNat_ofNat',Nat.mod_eq_of_lt An,Nat.mul_comm (256^k) 256,Nat.mod_mul]
theorem leB_bval:∀l:List UInt8,leB l.length (bval l)=l
 | []=>rfl
 | c::l=>by
  have hc:=UInt8.toNat_lt c
  simp only[bval,List.length_cons,leB]
  rw[show(c.toNat+256*bval l)%256=c.toNat from by omega,show(c.toNat+256*bval l)/256=bval l from by omega,leB_bval l]
  simp
theorem bval_append:∀(l m:List UInt8),bval (l++m)=bval l+256^l.length*bval m
 | [],m=>by simp[bval]
 | c::l,m=>by
  simp only[List.cons_append,bval,bval_append l m,List.length_cons,Nat.pow_succ]
  rw[Nat.mul_add,Nat.add_assoc,←Nat.mul_assoc,Nat.mul_comm 256 (256^l.length)]
theorem iH {l:List UInt8}{k:Nat}{c:UInt8}(h:l[k]?=some c):bval (l.take (k+1))=bval (l.take k)+c.toNat*256^k:=by
 have hk:=(List.getElem?_eq_some_iff.1 h).1
 rw[List.take_add_one,h,Option.toList_some,bval_append,List.length_take,Nat.min_eq_left An]
 simp only[bval,Nat.mul_zero,Nat.add_zero]
 rw[Nat.mul_comm]
theorem leB_add:∀(k m x r:Nat),x<256^k→leB (k+m) (x+256^k*r)=leB k x++leB m r
 | 0,m,x,r,h=>by
  have:x=0:=by simpa using h
  simp[leB,this]
 | k+1,m,x,r,h=>by
  rw[show k+1+m=(k+m)+1 from by omega]
  simp only[leB,List.cons_append]
  have e1:(x+256^(k+1)*r)%256=x%256:=by
   rw[Nat.pow_succ,Nat.mul_comm (256^k) 256,Nat.mul_assoc]
   omega
  have e2:(x+256^(k+1)*r)/256=x/256+256^k*r:=by
   rw[Nat.pow_succ,Nat.mul_comm (256^k) 256,Nat.mul_assoc]
   omega
  rw[e1,e2,leB_add k m (x/256) r]
  rw[Nat.pow_succ] at h
  omega
theorem leB_zero:∀k:Nat,leB k 0=List.replicate k 0
 | 0=>rfl
 | k+1=>by
  simp only[leB,List.replicate_succ]
  rw[show 0/256=0 from rfl,leB_zero k]
  rfl
theorem bval_zeros (k:Nat):bval (List.replicate k 0)=0:=by rw[←leB_zero,bval_leB];simp
def spB (xs:List Nat):List UInt8:=xs.flatMap (leB 8)
theorem spB_len (xs:List Nat):(spB xs).length=8*xs.length:=by
 induction xs with
 | nil=>rfl
 | cons x xs ih=>rw[spB,List.flatMap_cons,List.length_append,leB_len];unfold spB at ih;rw[ih,List.length_cons];omega
theorem spB_eq:∀(xs:List Nat),aT xs→spB xs=leB (8*xs.length) (lv xs)
 | [],_=>rfl
 | x::xs,h=>by
  have hx:=h x (List.mem_cons_self ..)
  rw[spB,List.flatMap_cons]
  have:=spB_eq xs fun y hy=>h y (mC _ hy)
  unfold spB at this
  rw[this,List.length_cons,show 8*(xs.length+1)=8+8*xs.length from by omega,lv,show(18446744073709551616:Nat)=256^8 from by decide,leB_add 8 _ x _ (by simpa using hx)]
theorem spB_take (xs:List Nat)(k x:Nat)(h:xs[k]?=some x):spB (xs.take (k+1))=spB (xs.take k)++leB 8 x:=by
 unfold spB
 rw[List.take_add_one,h]
 simp
def fv (T:Nat):List Nat→Nat
 | []=>0
 | x::xs=>x+T*fv T xs
theorem fv_append (T:Nat):∀(xs ys:List Nat),fv T (xs++ys)=fv T xs+T^xs.length*fv T ys
 | [],ys=>by simp[fv]
 | x::xs,ys=>by
  simp only[List.cons_append,fv,fv_append T xs ys,List.length_cons]
  rw[Nat.pow_succ,Nat.mul_add,Nat.add_assoc,←Nat.mul_assoc,Nat.mul_comm (T^xs.length) T]
theorem eE {T:Nat}{xs:List Nat}{k x:Nat}(h:xs[k]?=some x):fv T (xs.take (k+1))=fv T (xs.take k)+x*T^k:=by
 have hk:=(List.getElem?_eq_some_iff.1 h).1
 rw[List.take_add_one,h,Option.toList_some,fv_append,List.length_take,Nat.min_eq_left An]
 simp only[fv,Nat.mul_zero,Nat.add_zero]
 rw[Nat.mul_comm]
theorem gI (T:Nat)(xs:List Nat)(k y:Nat)(hk:k<xs.length):fv T ((xs.set k y).take (k+1))=fv T (xs.take k)+y*T^k:=by
 have h:(xs.set k y)[k]?=some y:=by simp[hk]
 rw[eE h,List.take_set_of_le (Nat.le_refl k)]
theorem carry_step (T:Nat)(l cur:List Nat)(k o x m o':Nat)(hk:k<cur.length)(hx:l[k]?=some x)(hm:m+o'*T=x+o)
  (h:fv T (cur.take k)+o*T^k=fv T (l.take k)):fv T ((cur.set k m).take (k+1))+o'*T^(k+1)=fv T (l.take (k+1)):=by
 rw[gI T cur k _ hk,eE hx,←h,Nat.pow_succ]
 have h2:=congrArg (·*T^k) hm
 simp only[Nat.add_mul] at h2
 rw[show o'*(T^k*T)=o'*T*T^k from by rw[Nat.mul_comm (T^k),Nat.mul_assoc]]
 omega
theorem fv_set0 (T x y:Nat)(xs:List Nat):fv T ((x::xs).set 0 (x+y))=fv T (x::xs)+y:=by
 simp only[List.set_cons_zero,fv]
 omega
abbrev T51:Nat:=2251799813685248
@[irreducible] def Pq:Nat:=57896044618658097711785492504343953926634992332820282019728792003956564819949
theorem Pq_eq:T51^5=Pq+19:=by unfold Pq T51;decide
theorem Pq_256:Pq<256^32∧1000000<Pq:=Ck
def ev (xs:List Nat):Nat:=fv T51 xs%Pq
theorem ev_lt (xs:List Nat):ev xs<Pq:=Nat.mod_lt _ Ce
def Red (xs:List Nat):Prop:=xs.length=5∧∀(k x:Nat),xs[k]?=some x→x<T51+(if k=0 then 38 else 0)
theorem fold_ev (x o V:Nat)(xs:List Nat)(h:fv T51 (x::xs)+o*T51^5=V):ev ((x::xs).set 0 (x+19*o))=V%Pq:=by
 unfold ev
 rw[fv_set0,←h,Pq_eq,Nat.mul_add,←Nat.add_assoc,Nat.add_right_comm,Nat.mul_comm o 19,Nat.add_mul_mod_self_right]
def Pass (B:Nat)(l:List Nat)(k o:Nat)(cur:List Nat):Prop:=
 cur.length=5∧cur.drop k=l.drop k∧fv T51 (cur.take k)+o*T51^k=fv T51 (l.take k)∧(∀(j x:Nat),j<k→cur[j]?=some x→x<T51)∧o≤B
theorem pass_start (B:Nat)(l:List Nat)(hl:l.length=5):Pass B l 0 0 l:=⟨hl,rfl,B0,fun _ _ h=>absurd h An,An⟩
theorem pass_get {B:Nat}{l:List Nat}{k o:Nat}{cur:List Nat}(h:Pass B l k o cur)(hk:k<5)(hl:l.length=5):∃x,l[k]?=some x∧cur[k]?=some x:=by
 obtain⟨x,hx⟩:∃x,l[k]?=some x:=⟨l[k],gE _⟩
 refine⟨x,hx,?_⟩
 have:=congrArg (·[0]?) h.2.1
 simpa[List.getElem?_drop,hx] using this
theorem pass_next {B:Nat}{l:List Nat}{k o x:Nat}{cur:List Nat}(h:Pass B l k o cur)(hk:k<5)(hx:l[k]?=some x)(hB:B<T51)(hxB:x<B*T51) :
  Pass B l (k+1) ((x+o)/T51) (cur.set k ((x+o)%T51)):=by
 obtain⟨h1,h2,h3,h4,h5⟩:=h
 refine⟨Ci,?_,?_,?_,?_⟩
 ·rw[dQ,←List.drop_drop,h2,List.drop_drop]
 ·refine carry_step T51 l cur k o x _ _ An hx ?_ h3
  have:=Nat.div_add_mod (x+o) T51
  rw[Nat.mul_comm] at this
  omega
 ·intro j y hj hy
  by_cases hjk:j=k
  ·subst hjk
   rw[List.getElem?_set_self An] at hy
   injection hy with hy
   rw[←hy]
   exact Nat.mod_lt _ Bz
  ·rw[List.getElem?_set_ne An] at hy
   exact h4 j y An hy
 ·have:x+o<(B+1)*T51:=by rw[Nat.add_mul];omega
  have:=(Nat.div_lt_iff_lt_mul Bz).2 this
  omega
theorem pass_end {B:Nat}{l:List Nat}{o:Nat}{cur:List Nat}(h:Pass B l 5 o cur)(hl:l.length=5) :
  ∃x xs,cur=x::xs∧xs.length=4∧x<T51∧(∀y∈xs,y<T51)∧ev (cur.set 0 (x+19*o))=ev l∧o≤B:=by
 obtain⟨h1,_,h3,h4,h5⟩:=h
 match cur,h1 with
 | x::xs,h1 =>
  have hxs:xs.length=4:=As
  refine⟨x,xs,rfl,hxs,h4 0 x An rfl,fun y hy=>?_,?_,h5⟩
  ·obtain⟨j,hj⟩:=List.getElem?_of_mem hy
   have:=(List.getElem?_eq_some_iff.1 hj).1
   exact h4 (j+1) y An hj
  ·rw[List.take_of_length_le An,List.take_of_length_le An] at h3
   exact fold_ev x o _ xs h3
section
variable {P : Program} {ops : Array Oper} {Q : Exit → Act → World → Prop} {md : Region.Mode} {lt : Nat → Bool}
def wpM (P:Program)(md:Region.Mode)(ops:Array Oper)(Q:Exit→Act→World→Prop)(lt:Nat→Bool):Nat→(World→Prop)→Array Bool→Act→World→Prop
 | 0,_,listed,a,w=>Region.ready md ops listed=[]∧Q .normal a w
 | fuel+1,S,listed,a,w =>
  (Region.ready md ops listed=[]→Q .normal a w) ∧
  ∀i∈Region.ready md ops listed,wpOp P ops Q i (fun a' w'=>(lt i=true∧wpAny P md ops Q fuel (listed.setIfInBounds i true) a' w') ∨
   (lt i=false∧∃S':World→Prop,(∀x,S' x→S x)∧S' w'∧wpM P md ops Q lt fuel S' (listed.setIfInBounds i true) a' w')) a w
theorem wpAny_of_M:∀(fuel:Nat) (S:World→Prop) (listed:Array Bool) (a:Act) (w:World),wpM P md ops Q lt fuel S listed a w→wpAny P md ops Q fuel listed a w
 | 0,_,_,_,_,h=>h
 | fuel+1,_,_,_,_,h=>⟨h.1,fun i hi=>wpOp_mono (fun a' w' h'=>by
   rcases h' with⟨_,h'⟩|⟨_,S',_,_,h'⟩
   ·exact h'
   ·exact wpAny_of_M fuel S' _ a' w' h') (h.2 i hi)⟩
def lateB (md:Region.Mode)(ops:Array Oper)(lt:Nat→Bool)(i:Nat):Bool:=
 (List.range ops.size).all fun j=>!lt j||j==i||match ops[j]? with
  | some oj=>oj.after.any (fun e=>Region.binds md e&&e.on==i)
  | none=>true
theorem lateB_spec {i j:Nat}{oj:Oper}(h:lateB md ops lt i=true)(hj:ops[j]?=some oj)(hl:lt j=true)(hne:j≠i):∃e∈oj.after,Region.binds md e=true∧e.on=i:=by
 simp only[lateB,List.all_eq_true,List.mem_range] at h
 have h1:=h j (Array.getElem?_eq_some_iff.1 hj).1
 simp only[hl,hj,Bool.not_true,Bool.false_or,Bool.or_eq_true,beq_iff_eq,hne,false_or] at h1
 obtain⟨e,he,hb⟩:=Array.any_eq_true'.1 h1
 simp only[Bool.and_eq_true,beq_iff_eq] at hb
 exact⟨e,he,hb.1,hb.2⟩
theorem wpM_first {i:Nat}{oi:Oper}{v:Value}(hi:ops[i]?=some oi)(hsel:∀(j:Nat) (o:Oper) cs b,ops[j]?=some o→o.op≠.select cs b)
  (hQ:∀c a w,Q (.panic c) (a.put oi.dst v) w→Q (.panic c) a w) :
  ∀(fuel:Nat) (S:World→Prop) (listed:Array Bool) (a:Act) (w:World),
   (∀j oj,ops[j]?=some oj→j≠i→listed.getD j true=false→(∀e∈oj.after,Region.binds md e=true→e.on≠i)→oi.apart ops oj=true) →
   i∈Region.ready md ops listed→((lateB md ops lt i=true∧YieldsIf P ops S oi v a)∨Yields P ops oi v a)→S w →
   wpM P md ops Q lt fuel S (listed.setIfInBounds i true) (a.put oi.dst v) w→lt i=false→wpM P md ops Q lt (fuel+1) S listed a w:=by
 intro fuel
 induction fuel with
 | zero =>
  intro S listed a w _ hr hy hS H hli
  refine⟨fun h=>Cc,fun j hj=>?_⟩
  by_cases hji:j=i
  ·subst hji
   have hy':YieldsIf P ops S oi v a:=by
    rcases hy with⟨_,h⟩|h
    ·exact h
    ·exact h.yieldsIf
   exact hy'.wpOp hi hS (.inr ⟨hli,S,fun _ h=>h,hS,H⟩)
  ·have:=ready_mono hj hji
   rw[H.1] at this
   cases this
 | succ fuel ih =>
  intro S listed a w hfree hr hy hS H hli
  have hyS:YieldsIf P ops S oi v a:=by
   rcases hy with⟨_,h⟩|h
   ·exact h
   ·exact h.yieldsIf
  refine⟨fun h=>Cc,fun j hj=>?_⟩
  by_cases hji:j=i
  ·subst hji;exact hyS.wpOp hi hS (.inr ⟨hli,S,fun _ h=>h,hS,H⟩)
  ·have h1:=H.2 j (ready_mono hj hji)
   obtain⟨hjun,oj,hoj,hall⟩:=mem_ready.1 hj
   have hnot:∀e∈oj.after,Region.binds md e=true→e.on≠i:=fun e he hb heq=>by
    have h1:=hall e he hb
    have h0:=(mem_ready.1 hr).1
    rw[heq] at h1
    rcases Nat.lt_or_ge i listed.size with h'|h'
    ·simp[h'] at h0 h1;rw[h0] at h1;cases h1
    ·simp[Array.getElem?_eq_none h'] at h1
   have hfree':∀k ok,ops[k]?=some ok→k≠i→(listed.setIfInBounds j true).getD k true=false →
     (∀e∈ok.after,Region.binds md e=true→e.on≠i)→oi.apart ops ok=true:=fun k ok hk hki hun hno=>by
    refine hfree k ok hk hki ?_ hno
    by_cases hjk:j=k
    ·subst hjk;exact hjun
    ·rw[getD_set_ne true hjk] at hun;exact hun
   cases hlj:lt j
   ·simp only[hlj,Bool.false_eq_true,false_and,false_or,true_and] at h1 ⊢
    rcases hy with⟨hlb,hy⟩|hy
    ·have h2:=wpOp_putIf hoj (hfree j oj hoj hji hjun hnot) (fun cs b=>hsel i oi cs b hi) (fun cs b=>hsel j oj cs b hoj) hQ hy h1
     refine wpOp_mono (fun a' w' h3=>?_) h2
     obtain⟨hy',S',hSS,hS',H'⟩:=h3
     refine⟨S',hSS,hS',ih S' (listed.setIfInBounds j true) a' w' hfree' (ready_mono hr (Ne.symm hji)) (.inl ⟨hlb,?_⟩) hS' ?_ hli⟩
     ·rcases hy' with⟨k1,k2⟩|k
      ·exact .inl ⟨k1,fun x hx=>k2 x (hSS x hx)⟩
      ·exact .inr k
     ·rw[Array.setIfInBounds_comm _ _ hji]
      exact H'
    ·have h2:=wpOp_put hoj (hfree j oj hoj hji hjun hnot) (fun cs b=>hsel i oi cs b hi) (fun cs b=>hsel j oj cs b hoj) hQ hy h1
     refine wpOp_mono (fun a' w' h3=>?_) h2
     obtain⟨hy',S',hSS,hS',H'⟩:=h3
     refine⟨S',hSS,hS',ih S' (listed.setIfInBounds j true) a' w' hfree' (ready_mono hr (Ne.symm hji)) (.inr hy') hS' ?_ hli⟩
     rw[Array.setIfInBounds_comm _ _ hji]
     exact H'
   ·simp only[hlj,Bool.true_eq_false,false_and,or_false,true_and] at h1 ⊢
    rcases hy with⟨hlb,hy⟩|hy
    ·obtain⟨e,he,hb,hon⟩:=lateB_spec hlb hoj hlj hji
     exact absurd hon (hnot e he hb)
    ·have h2:=wpOp_put hoj (hfree j oj hoj hji hjun hnot) (fun cs b=>hsel i oi cs b hi) (fun cs b=>hsel j oj cs b hoj) hQ hy h1
     refine wpOp_mono (fun a' w' h3=>?_) h2
     obtain⟨hy',H'⟩:=h3
     refine wpAny_first hi hsel hQ fuel (listed.setIfInBounds j true) a' w' hfree' (ready_mono hr (Ne.symm hji)) hy' ?_
     rw[Array.setIfInBounds_comm _ _ hji]
     exact H'
theorem fM {i:Nat}{oi:Oper}{v:Value}{fuel:Nat}{S:World→Prop}{listed:Array Bool}{a:Act}{w:World}(hi:ops[i]?=some oi)
  (hs:Region.noSelect ops=true)(hf:Region.free md ops listed i=true)(hr:(Region.ready md ops listed).contains i=true)
  (hQ:∀c a w,Q (.panic c) (a.put oi.dst v) w→Q (.panic c) a w)(hS:S w)(hli:lt i=false)(hlb:lateB md ops lt i=true)(hy:YieldsIf P ops S oi v a)
  (h:wpM P md ops Q lt fuel S (listed.setIfInBounds i true) (a.put oi.dst v) w):wpM P md ops Q lt (fuel+1) S listed a w:=
 wpM_first hi (Region.noSelect_spec hs) hQ fuel S listed a w (Region.free_spec hi hf) Cd (.inl ⟨hlb,hy⟩) hS h hli
theorem mT (i:Nat){oi:Oper}{v:Value}{fuel:Nat}{S:World→Prop}{listed:Array Bool}{a:Act}{w:World}(hS:S w)(h:wpM P md ops Q lt fuel S (listed.setIfInBounds i true) (a.put oi.dst v) w)(hi:ops[i]?=some oi:=by exact rfl)(hs:Region.noSelect ops=true:=by kernel_rfl)(hf:Region.free md ops listed i=true:=by kernel_rfl)(hr:(Region.ready md ops listed).contains i=true:=by kernel_rfl)(hQ:∀c a w,Q (.panic c) (a.put oi.dst v) w→Q (.panic c) a w:=by exact fun _ _ _ h=>h)(hli:lt i=false:=by exact rfl)(hlb:lateB md ops lt i=true:=by kernel_rfl)(hy:YieldsIf P ops S oi v a:=by exact Or.inl ⟨Ch,by (intro wx hx;go_simp)<;>(with_reducible rfl)⟩):wpM P md ops Q lt (fuel+1) S listed a w:=fM hi hs hf hr hQ hS hli hlb hy h
theorem eK {i:Nat}{oi:Oper}{v:Value}{fuel:Nat}{S:World→Prop}{listed:Array Bool}{a:Act}{w:World}(hi:ops[i]?=some oi)
  (hs:Region.noSelect ops=true)(hf:Region.free md ops listed i=true)(hr:(Region.ready md ops listed).contains i=true)
  (hQ:∀c a w,Q (.panic c) (a.put oi.dst v) w→Q (.panic c) a w)(hS:S w)(hli:lt i=false)(hy:Yields P ops oi v a)
  (h:wpM P md ops Q lt fuel S (listed.setIfInBounds i true) (a.put oi.dst v) w):wpM P md ops Q lt (fuel+1) S listed a w:=
 wpM_first hi (Region.noSelect_spec hs) hQ fuel S listed a w (Region.free_spec hi hf) Cd (.inr hy) hS h hli
theorem mU (i:Nat){oi:Oper}{v:Value}{fuel:Nat}{S:World→Prop}{listed:Array Bool}{a:Act}{w:World}(hS:S w)(h:wpM P md ops Q lt fuel S (listed.setIfInBounds i true) (a.put oi.dst v) w)(hi:ops[i]?=some oi:=by exact rfl)(hs:Region.noSelect ops=true:=by kernel_rfl)(hf:Region.free md ops listed i=true:=by kernel_rfl)(hr:(Region.ready md ops listed).contains i=true:=by kernel_rfl)(hQ:∀c a w,Q (.panic c) (a.put oi.dst v) w→Q (.panic c) a w:=by exact fun _ _ _ h=>h)(hli:lt i=false:=by exact rfl)(hy:Yields P ops oi v a:=by exact Or.inl ⟨Ch,by (intro wx;go_simp)<;>(with_reducible rfl)⟩):wpM P md ops Q lt (fuel+1) S listed a w:=eK hi hs hf hr hQ hS hli hy h
theorem cC {i:Nat}{oi:Oper}{fuel:Nat}{S:World→Prop}{listed:Array Bool}{a:Act}{w:World}(hr:Region.ready md ops listed=[i])(hi:ops[i]?=some oi)(hli:lt i=false)
  (h:∀K:Act→World→Prop,(∀(S':World→Prop) a' w',(∀x,S' x→S x)→S' w'→wpM P md ops Q lt fuel S' (listed.setIfInBounds i true) a' w'→K a' w') →
   if Region.wanted oi (yielded ops a.tmps)=true then oi.wp P a w K Q else K (a.put oi.dst undef) w):wpM P md ops Q lt (fuel+1) S listed a w:=by
 refine⟨(fun h0=>by rw[h0] at hr;cases hr),fun j hj=>?_⟩
 rw[hr] at hj
 obtain rfl:j=i:=by simpa using hj
 have h1:=h (fun a' w'=>(lt j=true∧wpAny P md ops Q fuel (listed.setIfInBounds j true) a' w')∨(lt j=false∧∃S':World→Prop,(∀x,S' x→S x)∧S' w'∧wpM P md ops Q lt fuel S' (listed.setIfInBounds j true) a' w'))
  (fun S' a' w' k1 k2 k3=>.inr ⟨hli,S',k1,k2,k3⟩)
 unfold wpOp
 simp only[hi]
 split
 ·rename_i hw
  rw[if_pos hw] at h1
  exact .inl h1
 ·rename_i hw
  rw[if_neg hw] at h1
  exact h1
theorem aZ {i:Nat}{oi:Oper}{fuel:Nat}{S:World→Prop}{listed:Array Bool}{a:Act}{w:World}(hr:Region.ready md ops listed=[i])(hi:ops[i]?=some oi)(hli:lt i=true)
  (h:∀K:Act→World→Prop,(∀a' w',wpAny P md ops Q fuel (listed.setIfInBounds i true) a' w'→K a' w') →
   if Region.wanted oi (yielded ops a.tmps)=true then oi.wp P a w K Q else K (a.put oi.dst undef) w):wpM P md ops Q lt (fuel+1) S listed a w:=by
 refine⟨(fun h0=>by rw[h0] at hr;cases hr),fun j hj=>?_⟩
 rw[hr] at hj
 obtain rfl:j=i:=by simpa using hj
 have h1:=h (fun a' w'=>(lt j=true∧wpAny P md ops Q fuel (listed.setIfInBounds j true) a' w')∨(lt j=false∧∃S':World→Prop,(∀x,S' x→S x)∧S' w'∧wpM P md ops Q lt fuel S' (listed.setIfInBounds j true) a' w'))
  (fun a' w' k=>.inl ⟨hli,k⟩)
 unfold wpOp
 simp only[hi]
 split
 ·rename_i hw
  rw[if_pos hw] at h1
  exact .inl h1
 ·rename_i hw
  rw[if_neg hw] at h1
  exact h1
theorem wpM_two {i j:Nat}{oi oj:Oper}{fuel:Nat}{S:World→Prop}{listed:Array Bool}{a:Act}{w:World}(hr:Region.ready md ops listed=[i,j])(hi:ops[i]?=some oi)(hj:ops[j]?=some oj)(hli:lt i=false)(hlj:lt j=false)
  (h1:∀K:Act→World→Prop,(∀(S':World→Prop) a' w',(∀x,S' x→S x)→S' w'→wpM P md ops Q lt fuel S' (listed.setIfInBounds i true) a' w'→K a' w') →
   if Region.wanted oi (yielded ops a.tmps)=true then oi.wp P a w K Q else K (a.put oi.dst undef) w)
  (h2:∀K:Act→World→Prop,(∀(S':World→Prop) a' w',(∀x,S' x→S x)→S' w'→wpM P md ops Q lt fuel S' (listed.setIfInBounds j true) a' w'→K a' w') →
   if Region.wanted oj (yielded ops a.tmps)=true then oj.wp P a w K Q else K (a.put oj.dst undef) w):wpM P md ops Q lt (fuel+1) S listed a w:=by
 refine⟨(fun h0=>by rw[h0] at hr;cases hr),fun k hk=>?_⟩
 rw[hr] at hk
 have key:∀(k:Nat) (ok:Oper),ops[k]?=some ok→lt k=false→(∀K:Act→World→Prop,(∀(S':World→Prop) a' w',(∀x,S' x→S x)→S' w'→wpM P md ops Q lt fuel S' (listed.setIfInBounds k true) a' w'→K a' w') →
   if Region.wanted ok (yielded ops a.tmps)=true then ok.wp P a w K Q else K (a.put ok.dst undef) w) →
   wpOp P ops Q k (fun a' w'=>(lt k=true∧wpAny P md ops Q fuel (listed.setIfInBounds k true) a' w')∨(lt k=false∧∃S':World→Prop,(∀x,S' x→S x)∧S' w'∧wpM P md ops Q lt fuel S' (listed.setIfInBounds k true) a' w')) a w:=by
  intro k ok hk hl h
  have h1:=h (fun a' w'=>(lt k=true∧wpAny P md ops Q fuel (listed.setIfInBounds k true) a' w')∨(lt k=false∧∃S':World→Prop,(∀x,S' x→S x)∧S' w'∧wpM P md ops Q lt fuel S' (listed.setIfInBounds k true) a' w')) (fun S' a' w' k1 k2 k3=>.inr ⟨hl,S',k1,k2,k3⟩)
  unfold wpOp
  simp only[hk]
  split
  ·rename_i hw
   rw[if_pos hw] at h1
   exact .inl h1
  ·rename_i hw
   rw[if_neg hw] at h1
   exact h1
 rcases List.mem_cons.1 hk with rfl|hk
 ·exact key _ _ hi hli h1
 ·obtain rfl:k=j:=by simpa using hk
  exact key _ _ hj hlj h2
theorem wpAny_one {i:Nat}{oi:Oper}{fuel:Nat}{listed:Array Bool}{a:Act}{w:World}(hr:Region.ready md ops listed=[i])(hi:ops[i]?=some oi)
  (h:∀K:Act→World→Prop,(∀a' w',wpAny P md ops Q fuel (listed.setIfInBounds i true) a' w'→K a' w') →
   if Region.wanted oi (yielded ops a.tmps)=true then oi.wp P a w K Q else K (a.put oi.dst undef) w):wpAny P md ops Q (fuel+1) listed a w:=by
 refine⟨(fun h0=>by rw[h0] at hr;cases hr),fun j hj=>?_⟩
 rw[hr] at hj
 obtain rfl:j=i:=by simpa using hj
 have h1:=h (wpAny P md ops Q fuel (listed.setIfInBounds j true)) (fun a' w' k=>k)
 unfold wpOp
 simp only[hi]
 split
 ·rename_i hw
  rw[if_pos hw] at h1
  exact .inl h1
 ·rename_i hw
  rw[if_neg hw] at h1
  exact h1
theorem cW {id:Nat}{a:Act}{w:World}(hm:P.follows .mixedOrders=true)
  (h:wpG P .any ops Q ops.size (aC w.drew) (Array.replicate ops.size false) a w.drew):(Code.region id ops true).wp P Q a w:=
 eT (aC w.drew) hm h
theorem wp_region_MF {id:Nat}{a:Act}{w:World}(lt:Nat→Bool)(hm:P.follows .mixedOrders=true)
  (h:wpM P .any ops Q lt ops.size (aC w.drew) (Array.replicate ops.size false) a w.drew):(Code.region id ops true).wp P Q a w:=
 wp_region_any hm (wpAny_of_M _ _ _ _ _ h)
theorem aW {id:Nat}{a:Act}{w:World}(lt:Nat→Bool)(S:World→Prop)(hm:P.follows .mixedOrders=true)
  (h:wpM P .any ops Q lt ops.size S (Array.replicate ops.size false) a w.drew):(Code.region id ops true).wp P Q a w:=
 wp_region_any hm (wpAny_of_M _ _ _ _ _ h)
end
theorem add64_run0 (x y:Nat)(w:World):(callFunc 124 #[.int .u64 (x:Int),.int .u64 (y:Int),.int .u64 ((0:Nat):Int)]).run Tryz.prog w =
  .ok (.value (.tuple #[.int .u64 (((x+y+0)%18446744073709551616:Nat):Int),.int .u64 (((x+y+0)/18446744073709551616:Nat):Int)])) w:=by kernel_rfl
theorem add64_run1 (x y:Nat)(w:World):(callFunc 124 #[.int .u64 (x:Int),.int .u64 (y:Int),.int .u64 ((1:Nat):Int)]).run Tryz.prog w =
  .ok (.value (.tuple #[.int .u64 (((x+y+1)%18446744073709551616:Nat):Int),.int .u64 (((x+y+1)/18446744073709551616:Nat):Int)])) w:=by kernel_rfl
theorem add64_run (x y b:Nat)(hb:b≤1)(w:World):(callFunc 124 #[.int .u64 (x:Int),.int .u64 (y:Int),.int .u64 (b:Int)]).run Tryz.prog w =
  .ok (.value (.tuple #[.int .u64 (((x+y+b)%18446744073709551616:Nat):Int),.int .u64 (((x+y+b)/18446744073709551616:Nat):Int)])) w:=by
 have:b=0∨b=1:=by omega
 rcases this with h|h
 ·rw[h];exact add64_run0 x y w
 ·rw[h];exact add64_run1 x y w
theorem add_any (x y c:Nat)(hc:c≤1):∀w,(callFunc 124 #[.int .u64 (x:Int),.int .u64 (y:Int),.int .u64 (c:Int)]).run Tryz.prog w=.ok (.value (.tuple #[.int .u64 (adS x y c:Int),.int .u64 (adC x y c:Int)])) w:=fun w=>by
 have:=add64_run x y c hc w
 unfold adS adC
 exact this
theorem add0_any (x y:Nat):∀w,(callFunc 124 #[.int .u64 (x:Int),.int .u64 (y:Int),.int .u64 0]).run Tryz.prog w=.ok (.value (.tuple #[.int .u64 (adS x y 0:Int),.int .u64 (adC x y 0:Int)])) w:=fun w=>by
 exact add_any x y 0 An w
theorem tyU64:(Tryz.prog.info? 51).map (·.size)=some 1:=Bt
theorem iR (xs:List Nat)(h:xs.length=4)(k:Nat)(hk:k<4):∃x,xs[k]?=some x:=⟨xs[k],gE _⟩
namespace Mul64
theorem maskN (a:Nat)(ha:a<18446744073709551616):bits .and .u64 (a:Int) 4294967295=((a%4294967296:Nat):Int):=by
 have h:=u64_and_nat a 4294967295 ha An
 have e:a &&& 4294967295=a%4294967296:=Nat.and_two_pow_sub_one_eq_mod a 32
 rw[e] at h
 exact h
theorem divN (a:Nat):(a:Int)/4294967296=((a/4294967296:Nat):Int):=An
theorem mulN (a b:Nat):(a:Int)*(b:Int)=((a*b:Nat):Int):=(Int.natCast_mul a b).symm
theorem addN (a b:Nat):(a:Int)+(b:Int)=((a+b:Nat):Int):=(Int.natCast_add a b).symm
theorem wrapN (a:Nat)(ha:a<18446744073709551616):IntKind.u64.wrap (a:Int)=(a:Int):=Cl
theorem wrapM (a:Nat):IntKind.u64.wrap (a:Int)=((a%18446744073709551616:Nat):Int):=Cl
end Mul64
theorem mul_any (x y:Nat)(w:World)(hx:x<18446744073709551616)(hy:y<18446744073709551616) :
  Calls Tryz.prog 145 #[.int .u64 (x:Int),.int .u64 (y:Int)] w fun e w'=>e=.returned (.tuple #[.int .u64 (muH x y:Int),.int .u64 (muL x y:Int)])∧w=w':=by
 unfold muH muL
 obtain⟨bd,bt,bw,hhi⟩:=Lib.mul64_hi x y hx hy
 have ba:=Lib.half_mul_le (a:=x/4294967296) (b:=y/4294967296) An An
 have bb:=Lib.half_mul_le (a:=x/4294967296) (b:=y%4294967296) An An
 have bc:=Lib.half_mul_le (a:=x%4294967296) (b:=y/4294967296) An An
 have ba':x/4294967296*(y/4294967296)<18446744073709551616:=An
 have bb':x/4294967296*(y%4294967296)<18446744073709551616:=An
 have bc':x%4294967296*(y/4294967296)<18446744073709551616:=An
 have bh1:x/4294967296*(y/4294967296)+(x/4294967296*(y%4294967296)+x%4294967296*(y%4294967296)/4294967296)/4294967296<18446744073709551616:=An
 have bh:x/4294967296*(y/4294967296)+(x/4294967296*(y%4294967296)+x%4294967296*(y%4294967296)/4294967296)/4294967296+((x/4294967296*(y%4294967296)+x%4294967296*(y%4294967296)/4294967296)%4294967296+x%4294967296*(y/4294967296))/4294967296<18446744073709551616:=An
 have HX:=aA hx
 have HY:=aA hy
 have BD:=aA bd
 have BT:=aA bt
 have BW:=aA bw
 have HH:=aA hhi
 have BA:=aA ba'
 have BB:=aA bb'
 have BC:=aA bc'
 have BH1:=aA bh1
 have BH:=aA bh
 clear hx hy bd bt bw hhi ba bb bc ba' bb' bc' bh1 bh
 go_enter Tryz.func145,Tryz.ntmps145
 go_wp2
 simp only[Mul64.maskN x HX.out,Mul64.maskN y HY.out,Mul64.divN,Mul64.mulN,Mul64.addN,Mul64.wrapN _ BD.out,Mul64.wrapN _ BB.out,Mul64.wrapN _ BT.out,Mul64.maskN _ BT.out,Mul64.wrapN _ BC.out,Mul64.wrapN _ BW.out,Mul64.wrapN _ BA.out,Mul64.wrapN _ BH1.out,Mul64.wrapN _ BH.out,Mul64.wrapM (x*y)]
 rw[HH.out]
 go_ret2
 exact⟨rfl,rfl⟩
theorem enMul (args:Array Value)(w:World):(callFunc 145 args).run Tryz.prog w=.ok (.enter 145 args) w:=Bt
open Go.RowKit
theorem and_mask (n:Nat)(h:n<18446744073709551616):bits .and .u64 (n:Int) 2251799813685247=((n%T51:Nat):Int):=by
 rw[show bits .and .u64 (n:Int) 2251799813685247=((n &&& 2251799813685247:Nat):Int) from u64_and_nat n 2251799813685247 h An,show n &&& 2251799813685247=n%T51 from Nat.and_two_pow_sub_one_eq_mod n 51]
def capB (i:Nat):Nat:=if i=0 then 4096 else 2
theorem capB_le (i:Nat):capB i≤4096:=by unfold capB;split<;>omega
def CarOut (w:World)(g:Nat)(l:List Nat)(i:Nat)(cur:List Nat)(wr:World):Prop:=
 cur.length=5∧ev cur=ev l∧(i<2→∀(k x:Nat),cur[k]?=some x→x<capB i*T51)∧(i=2→Red cur) ∧
  St w NoB wr [.cells g (uvs cur).toArray 59,.cells (g+1) #[.int .u64 0,.int .u64 0,.int .u64 0,.int .u64 0,.int .u64 0] 61]
theorem car_next (n x z oo:Nat)(rest:List Nat)(h4:rest.length=4)(hx:x<T51)(hy:∀y∈rest,y<T51)(ho:oo≤capB n)(hz:z=x+19*oo)(hn:n<2) :
  (z::rest).length=5∧(n+1<2→∀(k y:Nat),(z::rest)[k]?=some y→y<capB (n+1)*T51)∧(n+1=2→Red (z::rest)):=by
 refine⟨by simpa using h4,fun h k y hk=>?_,fun h=>⟨by simpa using h4,fun k y hk=>?_⟩⟩
 ·obtain rfl:n=0:=by omega
  have e1:capB 0=4096:=rfl
  have e2:capB (0+1)=2:=rfl
  rw[e1] at ho
  rw[e2]
  unfold T51 at hx hy ⊢
  cases k with
  | zero=>simp only[List.getElem?_cons_zero,Option.some.injEq] at hk;omega
  | succ k=>have:=hy y (mG hk);omega
 ·obtain rfl:n=1:=by omega
  have e1:capB 1=2:=rfl
  rw[e1] at ho
  unfold T51 at hx hy ⊢
  cases k with
  | zero=>simp only[List.getElem?_cons_zero,Option.some.injEq] at hk;rw[if_pos rfl];omega
  | succ k=>have:=hy y (mG hk);rw[if_neg An];omega
theorem carried_walk (l:List Nat)(w:World)(hl:l.length=5)(hb:∀(k x:Nat),l[k]?=some x→x<4096*T51) :
  Calls Tryz.prog 125 #[.agg (uvs l).toArray] w fun e w'=>∃rs:List Nat,ev rs=ev l∧Red rs∧e=.returned (.agg (uvs rs).toArray)∧Below w.heap.size w w':=by
 have hS0:=((St.init w NoB).alloc (uvs l).toArray 59).alloc #[.int .u64 0,.int .u64 0,.int .u64 0,.int .u64 0,.int .u64 0] 61
 have HS0:=aA hS0.swap
 have HL:=aA hl
 have HB:=aA hb
 clear hS0 hl hb
 go_enter Tryz.func125,Tryz.ntmps125
 go_wp2_with fail
 go_loopw [5] (fun i wr=>∃(n:Nat) (cur:List Nat),n≤2∧i=.int .i64 (n:Int)∧CarOut w w.heap.size l n cur wr) (fun i _=>2 - (intOf i).toNat)
 case atStart =>
  have hS:=HS0.out
  simp only[size_alloc1] at hS
  exact⟨0,l,An,rfl,HL.out,rfl,fun _=>HB.out,fun h=>absurd h An,hS⟩
 case round =>
  obtain⟨n,cur,hn,rfl,hcl,hev,hbd,hred,hS⟩:=hrel
  have HSO:=aA hS
  have HCL:=aA hcl
  have HEV:=aA hev
  have HBD:=aA hbd
  have HRED:=aA hred
  clear hS hcl hev hbd hred
  by_cases hlt:n<2
  ·go_wp2_with fail
   go_loopw [3,7] (fun o i wr=>∃(k oo:Nat) (xs:List Nat),k≤5∧i=.int .i64 (k:Int)∧o=.int .u64 (oo:Int)∧Pass (capB n) cur k oo xs ∧
    St w NoB wr [.cells w.heap.size (uvs xs).toArray 59,.cells (w.heap.size+1) #[.int .u64 0,.int .u64 0,.int .u64 0,.int .u64 0,.int .u64 0] 61]) (fun _ i _=>5 - (intOf i).toNat)
   case atStart=>exact⟨0,0,cur,An,rfl,rfl,pass_start _ _ HCL.out,HSO.out⟩
   case round =>
    obtain⟨k,oo,xs,hk,rfl,rfl,hP,hS⟩:=hrel
    have hcap:=capB_le n
    by_cases hk5:k<5
    ·obtain⟨x,hx1,hx2⟩:=pass_get hP hk5 HCL.out
     have hxB:=HBD.out hlt k x hx1
     have hx63:x<9223372036854775808:=by
      have:capB n*T51≤4096*T51:=Nat.mul_le_mul_right _ hcap
      unfold T51 at this hxB
      omega
     have hoo:oo≤4096:=by have:=hP.2.2.2.2;omega
     have c0:wr.cell? ⟨w.heap.size,k,none⟩=some (.int .u64 (x:Int)):=by rw[hS.cell 0 rfl k];exact aR hx2
     have f0:=hS.free 0 rfl k
     have HN:=aA (pass_next hP hk5 hx1 Cf hxB)
     obtain⟨s,hs⟩:∃s,s=x+oo:=⟨_,rfl⟩
     have e1:IntKind.u64.wrap ((x:Int)+(oo:Int))=(s:Int):=by rw[IntKind.wrap_u64,hs];omega
     have e2:=and_mask s An
     rw[←hs] at HN
     have hs':=(hS.setCell 0 rfl k (.int .u64 (s:Int))).setCell 0 rfl k (.int .u64 ((s%T51:Nat):Int))
     simp only[List.set_cons_zero,bH,List.set_set] at hs'
     have HS':=aA hs'
     obtain⟨m,hm⟩:∃m,m=s%T51:=⟨_,rfl⟩
     rw[←hm] at HS' HN e2
     clear hs' hP hx1 hx2 hxB hx63 hs hm hS hcap
     go_wp2_with fail
     go_roundw
     case rel=>exact⟨k+1,s/T51,xs.set k m,An,Cg,rfl,HN.out,HS'.out⟩
     case measure=>simp[intOf];omega
    ·obtain rfl:k=5:=by omega
     obtain⟨x,rest,rfl,hr4,hxT,hyT,hev2,ho⟩:=pass_end hP HCL.out
     have c0:wr.cell? ⟨w.heap.size,0,none⟩=some (.int .u64 (x:Int)):=by rw[hS.cell 0 rfl 0];rfl
     have f0:=hS.free 0 rfl 0
     obtain⟨z,hz⟩:∃z,z=x+19*oo:=⟨_,rfl⟩
     rw[←hz] at hev2
     have hN:=aA (car_next n x z oo rest hr4 hxT hyT ho hz hlt)
     have hoo:oo≤4096:=An
     have e3:IntKind.u64.wrap (19*(oo:Int))=19*(oo:Int):=Cl
     have e4:IntKind.u64.wrap ((x:Int)+19*(oo:Int))=(z:Int):=by rw[IntKind.wrap_u64,hz];unfold T51 at hxT;omega
     have hs':=hS.setCell 0 rfl 0 (.int .u64 (z:Int))
     simp only[List.set_cons_zero,bH] at hs'
     have HS':=aA hs'
     have HE2:=aA hev2
     clear hs' hP hS hcap hxT hyT hev2 ho hz hr4 hoo
     go_wp2_with fail
     go_roundw
     case rel=>exact⟨n+1,z::rest,An,Cg,hN.out.1,HE2.out.trans HEV.out,hN.out.2.1,hN.out.2.2,HS'.out⟩
     case measure=>simp[intOf];omega
  ·obtain rfl:n=2:=by omega
   have hred:=HRED.out rfl
   have HRD:=aA hred
   match cur,hred.1,HSO,HRD,HEV with
   | [a0,a1,a2,a3,a4],_,HSO,HRD,HEV =>
    have hS':St w NoB wr [.cells w.heap.size #[.int .u64 (a0:Int),.int .u64 (a1:Int),.int .u64 (a2:Int),.int .u64 (a3:Int),.int .u64 (a4:Int)] 59,.cells (w.heap.size+1) #[.int .u64 0,.int .u64 0,.int .u64 0,.int .u64 0,.int .u64 0] 61]:=HSO.out
    have n0:wr.cell? ⟨w.heap.size,0,none⟩=some (.int .u64 (a0:Int)):=hS'.cell 0 rfl 0
    have n1:wr.cell? ⟨w.heap.size,1,none⟩=some (.int .u64 (a1:Int)):=hS'.cell 0 rfl 1
    have n2:wr.cell? ⟨w.heap.size,2,none⟩=some (.int .u64 (a2:Int)):=hS'.cell 0 rfl 2
    have n3:wr.cell? ⟨w.heap.size,3,none⟩=some (.int .u64 (a3:Int)):=hS'.cell 0 rfl 3
    have n4:wr.cell? ⟨w.heap.size,4,none⟩=some (.int .u64 (a4:Int)):=hS'.cell 0 rfl 4
    have r0:wr.cell? ⟨w.heap.size+1,0,none⟩=some (.int .u64 0):=hS'.cell 1 rfl 0
    have r1:wr.cell? ⟨w.heap.size+1,1,none⟩=some (.int .u64 0):=hS'.cell 1 rfl 1
    have r2:wr.cell? ⟨w.heap.size+1,2,none⟩=some (.int .u64 0):=hS'.cell 1 rfl 2
    have r3:wr.cell? ⟨w.heap.size+1,3,none⟩=some (.int .u64 0):=hS'.cell 1 rfl 3
    have r4:wr.cell? ⟨w.heap.size+1,4,none⟩=some (.int .u64 0):=hS'.cell 1 rfl 4
    have f0:=hS'.free 1 rfl 0
    have f1:=hS'.free 1 rfl 1
    have f2:=hS'.free 1 rfl 2
    have f3:=hS'.free 1 rfl 3
    have f4:=hS'.free 1 rfl 4
    have HS:=aA (((((hS'.setCell 1 rfl 0 (.int .u64 (a0:Int))).setCell 1 rfl 1 (.int .u64 (a1:Int))).setCell 1 rfl 2 (.int .u64 (a2:Int))).setCell 1 rfl 3 (.int .u64 (a3:Int))).setCell 1 rfl 4 (.int .u64 (a4:Int)))
    clear hS' hred HSO HRED HBD hn hlt HCL HB
    go_wp2_with fail
    refine bodyPost_ret (results_cell_row rfl _ _ (w.heap.size+1) _ _ _ _ rfl (HS.out.heap 1 rfl) Tryz.underlying61 rfl Bt) rfl ?_
    exact⟨[a0,a1,a2,a3,a4],HEV.out,HRD.out,rfl,HS.out.below⟩
theorem list5 {xs:List Nat}(h:xs.length=5):∃a b c d e,xs=[a,b,c,d,e]:=by
 match xs,h with
 | [a,b,c,d,e],_=>exact⟨a,b,c,d,e,rfl⟩
def Low (xs:List Nat):Prop:=∀(k x:Nat),xs[k]?=some x→x<4096*T51
theorem red_low {xs:List Nat}(h:Red xs):Low xs:=fun k x hx=>by
 have:=h.2 k x hx
 unfold T51 at this ⊢
 split at this<;>omega
theorem fB (a b c d e:Nat)(w:World)(hb:Low [a,b,c,d,e]) :
  Calls Tryz.prog 125 #[(.agg #[.int .u64 (a:Int),.int .u64 (b:Int),.int .u64 (c:Int),.int .u64 (d:Int),.int .u64 (e:Int)])] w fun r w'=>∃a' b' c' d' e':Nat,ev [a',b',c',d',e']=ev [a,b,c,d,e]∧Red [a',b',c',d',e']∧r=.returned (.agg #[.int .u64 (a':Int),.int .u64 (b':Int),.int .u64 (c':Int),.int .u64 (d':Int),.int .u64 (e':Int)])∧Below w.heap.size w w':=by
 refine(carried_walk [a,b,c,d,e] w rfl hb).mono ?_
 rintro r w' ⟨rs,h1,h2,h3,h4⟩
 obtain⟨a',b',c',d',e',rfl⟩:=list5 h2.1
 exact⟨a',b',c',d',e',h1,h2,h3,h4⟩
theorem fv_bound (T:Nat):∀xs:List Nat,(∀x∈xs,x<T)→fv T xs<T^xs.length
 | [],_=>by simp[fv]
 | x::xs,h=>by
  have h1:=fv_bound T xs fun y hy=>h y (mC _ hy)
  have h2:=h x (List.mem_cons_self ..)
  simp only[fv,List.length_cons,Nat.pow_succ]
  have:=Nat.mul_le_mul_left T (Nat.succ_le_of_lt h1)
  rw[Nat.mul_comm (T^xs.length)]
  rw[Nat.succ_eq_add_one,Nat.mul_add,Nat.mul_one] at this
  omega
theorem red_bound {xs:List Nat}(h:Red xs):fv T51 xs<T51^5+38:=by
 obtain⟨a,b,c,d,e,rfl⟩:=list5 h.1
 have h0:=h.2 0 a rfl
 have h1:=fv_bound T51 [b,c,d,e] (fun x hx=>by
  obtain⟨j,hj⟩:=List.getElem?_of_mem hx
  have:=h.2 (j+1) x hj
  rwa [if_neg An,Nat.add_zero] at this)
 rw[if_pos rfl] at h0
 rw[show([b,c,d,e]:List Nat).length=4 from rfl] at h1
 rw[show fv T51 [a,b,c,d,e]=a+T51*fv T51 [b,c,d,e] from rfl,show T51^5=T51^4*T51 from rfl]
 generalize fv T51 [b,c,d,e]=f at *
 have:=Nat.mul_le_mul_left T51 (Nat.succ_le_of_lt h1)
 rw[Nat.succ_eq_add_one,Nat.mul_add,Nat.mul_one,Nat.mul_comm T51 (T51^4)] at this
 generalize T51*f=u at *
 generalize T51^4*T51=v at *
 omega
def Over (l:List Nat)(k o:Nat):Prop:=o≤19∧∃r,r<T51^k∧fv T51 (l.take k)+19=r+o*T51^k
theorem over_start (l:List Nat):Over l 0 19:=⟨An,0,B0,by simp[fv]⟩
theorem over_next {l:List Nat}{k o x:Nat}(h:Over l k o)(hx:l[k]?=some x)(hB:x<2*T51):Over l (k+1) ((x+o)/T51):=by
 obtain⟨h1,r,h2,h3⟩:=h
 refine⟨?_,r+(x+o)%T51*T51^k,?_,?_⟩
 ·have:(x+o)/T51<3:=(Nat.div_lt_iff_lt_mul Bz).2 (by unfold T51 at hB ⊢;omega)
  omega
 ·have h4:(x+o)%T51+1≤T51:=Nat.mod_lt _ Bz
  have:=Nat.mul_le_mul_right (T51^k) h4
  rw[Nat.add_mul,Nat.one_mul] at this
  rw[Nat.pow_succ,Nat.mul_comm (T51^k)]
  omega
 ·rw[eE hx]
  have h4:=Nat.div_add_mod (x+o) T51
  have h5:=congrArg (·*T51^k) h4
  simp only[Nat.add_mul] at h5
  rw[Nat.pow_succ,show(x+o)/T51*(T51^k*T51)=T51*((x+o)/T51)*T51^k from by rw[Nat.mul_comm (T51^k),←Nat.mul_assoc,Nat.mul_comm ((x+o)/T51)]]
  omega
theorem over_end {l:List Nat}{o:Nat}(h:Over l 5 o)(hr:Red l):o≤1:=by
 obtain⟨_,r,h2,h3⟩:=h
 have h4:=red_bound hr
 rw[List.take_of_length_le (by rw[hr.1];omega)] at h3
 have h5:57<T51^5:=by unfold T51;decide
 generalize T51^5=v at *
 rcases Nat.lt_or_ge o 2 with h|h
 ·omega
 ·have:=Nat.mul_le_mul_right v h
  omega
theorem low_all {xs:List Nat}{o B:Nat}{l:List Nat}(h:Pass B l 5 o xs):∀x∈xs,x<T51:=fun x hx=>by
 obtain⟨j,hj⟩:=List.getElem?_of_mem hx
 exact h.2.2.2.1 j x (by have:=(List.getElem?_eq_some_iff.1 hj).1;rw[h.1] at this;omega) hj
theorem least_end {a b c d e o c' B:Nat}{xs:List Nat}(ho:Over [a,b,c,d,e] 5 o)(hr:Red [a,b,c,d,e])(hP:Pass B [a+19*o,b,c,d,e] 5 c' xs):fv T51 xs=ev [a,b,c,d,e]:=by
 have h1:=over_end ho hr
 obtain⟨_,r,h2,h3⟩:=ho
 obtain⟨hl,_,h4,_,_⟩:=id hP
 have h5:=fv_bound T51 xs (low_all hP)
 have h6:=red_bound hr
 rw[hl] at h5
 rw[List.take_of_length_le An,List.take_of_length_le B0] at h4
 rw[List.take_of_length_le B0] at h3
 have e1:fv T51 [a+19*o,b,c,d,e]=fv T51 [a,b,c,d,e]+19*o:=by simp only[fv];omega
 rw[e1] at h4
 have h7:57<T51^5:=by unfold T51;decide
 have hp:=Pq_eq
 have hp2:=Pq_256.2
 unfold ev
 generalize fv T51 [a,b,c,d,e]=f at *
 generalize fv T51 xs=g at *
 generalize T51^5=v at *
 have h8:o=0∨o=1:=An
 rcases h8 with rfl|rfl
 ·have:c'=0:=by
   rcases Nat.eq_zero_or_pos c' with h|h
   ·exact h
   ·have:=Nat.mul_le_mul_right v h
    omega
  subst this
  rw[Nat.mod_eq_of_lt An]
  omega
 ·have:c'=1:=by
   rcases Nat.lt_trichotomy c' 1 with h|h|h
   ·have:c'=0:=by omega
    subst this
    omega
   ·exact h
   ·have:=Nat.mul_le_mul_right v h
    omega
  subst this
  rw[show f=(f - Pq)+Pq from by omega,Nat.add_mod_right,Nat.mod_eq_of_lt An]
  omega
abbrev z5:Array Value:=#[.int .u64 0,.int .u64 0,.int .u64 0,.int .u64 0,.int .u64 0]
theorem fld_run (a b c d e:Nat)(w:World):(Instr.field 61 (.agg #[.int .u64 (a:Int),.int .u64 (b:Int),.int .u64 (c:Int),.int .u64 (d:Int),.int .u64 (e:Int)]) 0).run Tryz.prog w=.ok (.agg #[.int .u64 (a:Int),.int .u64 (b:Int),.int .u64 (c:Int),.int .u64 (d:Int),.int .u64 (e:Int)]) w:=Bt
theorem least_walk (a b c d e:Nat)(w:World)(hb:Low [a,b,c,d,e]) :
  Calls Tryz.prog 126 #[(.agg #[.int .u64 (a:Int),.int .u64 (b:Int),.int .u64 (c:Int),.int .u64 (d:Int),.int .u64 (e:Int)])] w fun r w'=>∃a' b' c' d' e':Nat,fv T51 [a',b',c',d',e']=ev [a,b,c,d,e]∧(∀x∈[a',b',c',d',e'],x<T51)∧r=.returned (.agg #[.int .u64 (a':Int),.int .u64 (b':Int),.int .u64 (c':Int),.int .u64 (d':Int),.int .u64 (e':Int)])∧Below w.heap.size w w':=by
 have HC:=aA (fun W=>fB a b c d e W hb)
 have hS0:=((St.init w NoB).alloc #[.int .u64 (a:Int),.int .u64 (b:Int),.int .u64 (c:Int),.int .u64 (d:Int),.int .u64 (e:Int)] 61).alloc #[.int .u64 0,.int .u64 0,.int .u64 0,.int .u64 0,.int .u64 0] 59
 have HS0:=aA hS0
 clear hS0 hb
 go_enter Tryz.func126,Tryz.ntmps126
 go_wp2_with (go_at_call 125;refine(HC.out _).mono ?_;rintro r w1 ⟨a1,b1,c1,d1,e1,hev,hred,rfl,hb1⟩;have fl:=fld_run a1 b1 c1 d1 e1)
 have hS1:=((HS0.out.call hb1).alloc #[.int .u64 (a1:Int),.int .u64 (b1:Int),.int .u64 (c1:Int),.int .u64 (d1:Int),.int .u64 (e1:Int)] 59)
 simp only[size_alloc1] at hS1
 have HS1:=aA (hS1.pickL (H':=[.cells w1.heap.size (uvs [a1,b1,c1,d1,e1]).toArray 59,.cells (w.heap.size+1) #[.int .u64 0,.int .u64 0,.int .u64 0,.int .u64 0,.int .u64 0] 59]) [0,1] Bz rfl)
 have HEV:=aA hev
 have HRD:=aA hred
 clear hS1 HS0 hev hred HC
 go_loopw [4,12] (fun o i wr=>∃(k oo:Nat),k≤5∧i=.int .i64 (k:Int)∧o=.int .u64 (oo:Int)∧Over [a1,b1,c1,d1,e1] k oo ∧
  St w NoB wr [.cells w1.heap.size (uvs [a1,b1,c1,d1,e1]).toArray 59,.cells (w.heap.size+1) #[.int .u64 0,.int .u64 0,.int .u64 0,.int .u64 0,.int .u64 0] 59]) (fun _ i _=>5 - (intOf i).toNat)
 case atStart=>exact⟨0,19,An,rfl,rfl,over_start _,HS1.out⟩
 case round =>
  obtain⟨k,oo,hk,rfl,rfl,hO,hS⟩:=hrel
  by_cases hk5:k<5
  ·obtain⟨x,hx⟩:∃x,[a1,b1,c1,d1,e1][k]?=some x:=⟨_,gE (by simpa using hk5)⟩
   have hx2:x<2*T51:=by have:=HRD.out.2 k x hx;unfold T51 at this ⊢;split at this<;>omega
   have c0:wr.cell? ⟨w1.heap.size,k,none⟩=some (.int .u64 (x:Int)):=by rw[hS.cell 0 rfl k];exact aR hx
   have HN:=aA (over_next hO hx hx2)
   have hoo:=hO.1
   obtain⟨s,hs⟩:∃s,s=x+oo:=⟨_,rfl⟩
   have e1:IntKind.u64.wrap ((x:Int)+(oo:Int))=(s:Int):=by rw[IntKind.wrap_u64,hs];unfold T51 at hx2;omega
   rw[←hs] at HN
   have HSK:=aA hS
   clear hS hO hx hx2 hoo hs
   go_wp2_with fail
   go_roundw
   case rel=>exact⟨k+1,s/T51,An,Cg,rfl,HN.out,HSK.out⟩
   case measure=>simp[intOf];omega
  ·obtain rfl:k=5:=by omega
   have c0:wr.cell? ⟨w1.heap.size,0,none⟩=some (.int .u64 (a1:Int)):=by rw[hS.cell 0 rfl 0];rfl
   have f0:=hS.free 0 rfl 0
   have hoo:=hO.1
   have ha:=HRD.out.2 0 a1 rfl
   rw[if_pos rfl] at ha
   obtain⟨z,hz⟩:∃z,z=a1+19*oo:=⟨_,rfl⟩
   have e3:IntKind.u64.wrap (19*(oo:Int))=19*(oo:Int):=Cl
   have e4:IntKind.u64.wrap ((a1:Int)+19*(oo:Int))=(z:Int):=by rw[IntKind.wrap_u64,hz];unfold T51 at ha;omega
   have hlow:∀(k x:Nat),[z,b1,c1,d1,e1][k]?=some x→x<2*T51:=fun k x hx=>by
    cases k with
    | zero=>simp only[List.getElem?_cons_zero,Option.some.injEq] at hx;unfold T51 at ha ⊢;omega
    | succ k=>have:=HRD.out.2 (k+1) x hx;rw[if_neg An] at this;unfold T51 at this ⊢;omega
   have hs':=hS.setCell 0 rfl 0 (.int .u64 (z:Int))
   simp only[List.set_cons_zero,bH] at hs'
   have HS':=aA hs'
   have HO:=aA hO
   have HLOW:=aA hlow
   have HZ:=aA hz
   clear hs' hS hO hoo ha hlow hz
   go_wp2_with fail
   go_loopw [6,28] (fun o i wr=>∃(k cc:Nat) (xs:List Nat),k≤5∧i=.int .i64 (k:Int)∧o=.int .u64 (cc:Int)∧Pass 2 [z,b1,c1,d1,e1] k cc xs ∧
    St w NoB wr [.cells w1.heap.size (uvs xs).toArray 59,.cells (w.heap.size+1) #[.int .u64 0,.int .u64 0,.int .u64 0,.int .u64 0,.int .u64 0] 59]) (fun _ i _=>5 - (intOf i).toNat)
   case atStart=>exact⟨0,0,[z,b1,c1,d1,e1],An,rfl,rfl,pass_start _ _ rfl,HS'.out⟩
   case round =>
    obtain⟨k,cc,xs,hk,rfl,rfl,hP,hS⟩:=hrel
    by_cases hk5:k<5
    ·obtain⟨x,hx1,hx2⟩:=pass_get hP hk5 rfl
     have hxB:=HLOW.out k x hx1
     have hcc:cc≤2:=hP.2.2.2.2
     have c1':wr.cell? ⟨w1.heap.size,k,none⟩=some (.int .u64 (x:Int)):=by rw[hS.cell 0 rfl k];exact aR hx2
     have f1:=hS.free 0 rfl k
     have HN:=aA (pass_next hP hk5 hx1 Cf hxB)
     obtain⟨s,hs⟩:∃s,s=x+cc:=⟨_,rfl⟩
     have e1':IntKind.u64.wrap ((x:Int)+(cc:Int))=(s:Int):=by rw[IntKind.wrap_u64,hs];unfold T51 at hxB;omega
     have e2:=and_mask s (by unfold T51 at hxB;omega)
     rw[←hs] at HN
     have hs':=(hS.setCell 0 rfl k (.int .u64 (s:Int))).setCell 0 rfl k (.int .u64 ((s%T51:Nat):Int))
     simp only[List.set_cons_zero,bH,List.set_set] at hs'
     have HS2:=aA hs'
     obtain⟨m,hm⟩:∃m,m=s%T51:=⟨_,rfl⟩
     rw[←hm] at HS2 HN e2
     clear hs' hP hx1 hx2 hxB hs hm hS hcc
     go_wp2_with fail
     go_roundw
     case rel=>exact⟨k+1,s/T51,xs.set k m,An,Cg,rfl,HN.out,HS2.out⟩
     case measure=>simp[intOf];omega
    ·obtain rfl:k=5:=by omega
     obtain⟨a0,a2,a3,a4,a5,rfl⟩:=list5 hP.1
     rw[HZ.out] at hP
     have HV:=aA (least_end HO.out HRD.out hP)
     have HA:=aA (low_all hP)
     have hS':St w NoB wr [.cells w1.heap.size #[.int .u64 (a0:Int),.int .u64 (a2:Int),.int .u64 (a3:Int),.int .u64 (a4:Int),.int .u64 (a5:Int)] 59,.cells (w.heap.size+1) #[.int .u64 0,.int .u64 0,.int .u64 0,.int .u64 0,.int .u64 0] 59]:=hS
     have n0:wr.cell? ⟨w1.heap.size,0,none⟩=some (.int .u64 (a0:Int)):=hS'.cell 0 rfl 0
     have n1:wr.cell? ⟨w1.heap.size,1,none⟩=some (.int .u64 (a2:Int)):=hS'.cell 0 rfl 1
     have n2:wr.cell? ⟨w1.heap.size,2,none⟩=some (.int .u64 (a3:Int)):=hS'.cell 0 rfl 2
     have n3:wr.cell? ⟨w1.heap.size,3,none⟩=some (.int .u64 (a4:Int)):=hS'.cell 0 rfl 3
     have n4:wr.cell? ⟨w1.heap.size,4,none⟩=some (.int .u64 (a5:Int)):=hS'.cell 0 rfl 4
     have r0:wr.cell? ⟨w.heap.size+1,0,none⟩=some (.int .u64 0):=hS'.cell 1 rfl 0
     have r1:wr.cell? ⟨w.heap.size+1,1,none⟩=some (.int .u64 0):=hS'.cell 1 rfl 1
     have r2:wr.cell? ⟨w.heap.size+1,2,none⟩=some (.int .u64 0):=hS'.cell 1 rfl 2
     have r3:wr.cell? ⟨w.heap.size+1,3,none⟩=some (.int .u64 0):=hS'.cell 1 rfl 3
     have r4:wr.cell? ⟨w.heap.size+1,4,none⟩=some (.int .u64 0):=hS'.cell 1 rfl 4
     have f0:=hS'.free 1 rfl 0
     have f1:=hS'.free 1 rfl 1
     have f2:=hS'.free 1 rfl 2
     have f3:=hS'.free 1 rfl 3
     have f4:=hS'.free 1 rfl 4
     have HS:=aA (((((hS'.setCell 1 rfl 0 (.int .u64 (a0:Int))).setCell 1 rfl 1 (.int .u64 (a2:Int))).setCell 1 rfl 2 (.int .u64 (a3:Int))).setCell 1 rfl 3 (.int .u64 (a4:Int))).setCell 1 rfl 4 (.int .u64 (a5:Int)))
     clear hS' hS hP HS'
     go_wp2_with fail
     refine bodyPost_ret (results_cell_row rfl _ _ (w.heap.size+1) _ _ _ _ rfl (HS.out.heap 1 rfl) Tryz.underlying59 rfl Bt) rfl ?_
     exact⟨a0,a2,a3,a4,a5,HV.out.trans HEV.out,HA.out,rfl,HS.out.below⟩
theorem least_any (a b c d e:Nat)(w:World)(hb:Low [a,b,c,d,e]) :
  Calls Tryz.prog 126 #[(.agg #[.int .u64 (a:Int),.int .u64 (b:Int),.int .u64 (c:Int),.int .u64 (d:Int),.int .u64 (e:Int)])] w fun r w'=>∃a' b' c' d' e':Nat,fv T51 [a',b',c',d',e']=ev [a,b,c,d,e]∧(∀x∈[a',b',c',d',e'],x<T51)∧r=.returned (.agg #[.int .u64 (a':Int),.int .u64 (b':Int),.int .u64 (c':Int),.int .u64 (d':Int),.int .u64 (e':Int)])∧Below w.heap.size w w':=least_walk a b c d e w hb
theorem glue (k x y:Nat)(hk:k≤64)(hx:x<2^k):bits .or .u64 (x:Int) (IntKind.u64.wrap ((y:Int)*((2^k:Nat):Int)))=((x+y%2^(64 - k)*2^k:Nat):Int):=by
 have e1:2^(64 - k)*2^k=18446744073709551616:=by rw[←Nat.pow_add,show 64 - k+k=64 from by omega]
 have e2:y*2^k%18446744073709551616=y%2^(64 - k)*2^k:=by rw[←e1,Nat.mul_mod_mul_right]
 have e3:y%2^(64 - k)*2^k<18446744073709551616:=by rw[←e2];exact Nat.mod_lt _ An
 have e4:IntKind.u64.wrap ((y:Int)*((2^k:Nat):Int))=((y%2^(64 - k)*2^k:Nat):Int):=by
  rw[←e2,IntKind.wrap_u64]
  rfl
 have e5:2^k≤18446744073709551616:=Nat.pow_le_pow_right (n:=2) An hk
 rw[e4,u64_or_nat _ _ An e3,Nat.or_comm,Nat.mul_comm _ (2^k),←Nat.two_pow_add_eq_or_of_lt hx,Nat.add_comm]
@[irreducible] def g0 (a b:Nat):Nat:=a+b%8192*2251799813685248
@[irreducible] def g1 (b c:Nat):Nat:=b/8192+c%67108864*274877906944
@[irreducible] def g2 (c d:Nat):Nat:=c/67108864+d%549755813888*33554432
@[irreducible] def g3 (d e:Nat):Nat:=d/549755813888+e%4503599627370496*4096
theorem g_words (a b c d e:Nat)(ha:a<T51)(hb:b<T51)(hc:c<T51)(hd:d<T51)(he:e<T51):aT [g0 a b,g1 b c,g2 c d,g3 d e]:=by
 unfold T51 at *
 intro x hx
 simp only[List.mem_cons,List.not_mem_nil,or_false] at hx
 unfold g0 g1 g2 g3 at hx
 omega
theorem hor (T m P W S x0 x1 Y:Nat)(h1:T=m*P)(h2:S*m=W):S*(x0+m*x1+T*Y)=x0*S+W*(x1+Y*P):=by
 subst h1 h2
 simp only[Nat.mul_add]
 rw[Nat.mul_comm S x0,←Nat.mul_assoc S m x1,show S*(m*P*Y)=S*m*(Y*P) from by rw[Nat.mul_comm Y P];simp only[Nat.mul_assoc]]
 omega
theorem g_sum (a b0 b1 c0 c1 d0 d1 e T P Q R W m1 m2 m3:Nat)(h1:T=m1*P)(h2:T*m1=W)(h3:T=m2*Q)(h4:P*m2=W)(h5:T=m3*R)(h6:Q*m3=W) :
  a+T*(b0+m1*b1+T*(c0+m2*c1+T*(d0+m3*d1+T*e)))=(a+b0*T)+W*((b1+c0*P)+W*((c1+d0*Q)+W*(d1+e*R))):=by
 rw[hor T m1 P W T b0 b1 _ h1 h2,Nat.mul_comm _ P,hor T m2 Q W P c0 c1 _ h3 h4,Nat.mul_comm _ Q,hor T m3 R W Q d0 d1 _ h5 h6]
 simp only[Nat.add_assoc]
theorem g_val (a b c d e:Nat)(he:e<T51):lv [g0 a b,g1 b c,g2 c d,g3 d e]=fv T51 [a,b,c,d,e]:=by
 have:=g_sum a (b%8192) (b/8192) (c%67108864) (c/67108864) (d%549755813888) (d/549755813888) e T51 274877906944 33554432 4096 18446744073709551616 8192 67108864 549755813888 Bz Bz Bz Bz Bz Bz
 rw[Nat.mod_add_div,Nat.mod_add_div,Nat.mod_add_div] at this
 simp only[lv,fv,Nat.mul_zero,Nat.add_zero]
 rw[this]
 unfold g0 g1 g2 g3
 rw[Nat.mod_eq_of_lt (show e<4503599627370496 from by unfold T51 at he;omega)]
theorem gl0 (a b:Nat)(h:a<T51):bits .or .u64 (a:Int) (IntKind.u64.wrap ((b:Int)*2251799813685248))=((g0 a b:Nat):Int):=by unfold g0;exact glue 51 a b An h
theorem gl1 (b c:Nat)(h:b<T51):bits .or .u64 ((b:Int)/8192) (IntKind.u64.wrap ((c:Int)*274877906944))=((g1 b c:Nat):Int):=by
 unfold g1
 exact glue 38 (b/8192) c An (by unfold T51 at h;omega)
theorem gl2 (b c:Nat)(h:b<T51):bits .or .u64 ((b:Int)/67108864) (IntKind.u64.wrap ((c:Int)*33554432))=((g2 b c:Nat):Int):=by
 unfold g2
 exact glue 25 (b/67108864) c An (by unfold T51 at h;omega)
theorem gl3 (b c:Nat)(h:b<T51):bits .or .u64 ((b:Int)/549755813888) (IntKind.u64.wrap ((c:Int)*4096))=((g3 b c:Nat):Int):=by
 unfold g3
 exact glue 12 (b/549755813888) c An (by unfold T51 at h;omega)
theorem ixw0 (x y z u:Nat)(W:World):(Instr.index 119 (.agg #[.int .u64 (x:Int),.int .u64 (y:Int),.int .u64 (z:Int),.int .u64 (u:Int)]) (.int .i64 ((0:Nat):Int))).run Tryz.prog W=.ok (.int .u64 (x:Int)) W:=Bt
theorem ixw1 (x y z u:Nat)(W:World):(Instr.index 119 (.agg #[.int .u64 (x:Int),.int .u64 (y:Int),.int .u64 (z:Int),.int .u64 (u:Int)]) (.int .i64 ((1:Nat):Int))).run Tryz.prog W=.ok (.int .u64 (y:Int)) W:=Bt
theorem ixw2 (x y z u:Nat)(W:World):(Instr.index 119 (.agg #[.int .u64 (x:Int),.int .u64 (y:Int),.int .u64 (z:Int),.int .u64 (u:Int)]) (.int .i64 ((2:Nat):Int))).run Tryz.prog W=.ok (.int .u64 (z:Int)) W:=Bt
theorem ixw3 (x y z u:Nat)(W:World):(Instr.index 119 (.agg #[.int .u64 (x:Int),.int .u64 (y:Int),.int .u64 (z:Int),.int .u64 (u:Int)]) (.int .i64 ((3:Nat):Int))).run Tryz.prog W=.ok (.int .u64 (u:Int)) W:=Bt
theorem ixw (x y z u k v:Nat)(h:[x,y,z,u][k]?=some v)(W:World):(Instr.index 119 (.agg #[.int .u64 (x:Int),.int .u64 (y:Int),.int .u64 (z:Int),.int .u64 (u:Int)]) (.int .i64 (k:Int))).run Tryz.prog W=.ok (.int .u64 (v:Int)) W:=by
 match k,h with
 | 0,h=>injection h with h;rw[←h];exact ixw0 x y z u W
 | 1,h=>injection h with h;rw[←h];exact ixw1 x y z u W
 | 2,h=>injection h with h;rw[←h];exact ixw2 x y z u W
 | 3,h=>injection h with h;rw[←h];exact ixw3 x y z u W
theorem bvs_snoc (l:List UInt8)(m:Nat)(h:m<256):bvs (l++[UInt8.ofNat m])=bvs l++[.int .u8 (m:Int)]:=by
 simp only[bvs,List.map_append,List.map_cons,List.map_nil,bv,UInt8.toNat_ofNat']
 rw[Nat.mod_eq_of_lt An]
theorem tyB:RowTy Tryz.prog 22 5 1 1:=fQ (z:=.int .u8 0) Tryz.underlying22 Bt rfl Bz
def SpRel (w:World)(xs:List Nat)(v i:Value)(wr:World):Prop:=
 ∃(k:Nat) (B:Option Addr) (d:Nat) (l:List UInt8),k≤4∧i=.int .i64 (k:Int)∧v=.slice B l.length d∧l=spB (xs.take k)∧St w NoB wr [.row (.slice B l.length d) 5 1 l.length (bvs l)]
def SpRel2 (w:World)(T:List UInt8)(v x i:Value)(wr:World):Prop:=
 ∃(j f y:Nat) (B:Option Addr) (d:Nat) (l:List UInt8),i=.int .i64 (j:Int)∧x=.int .u64 (y:Int)∧j+f=8∧v=.slice B l.length d∧l++leB f y=T∧St w NoB wr [.row (.slice B l.length d) 5 1 l.length (bvs l)]
theorem bytes_walk (a b c d e:Nat)(w:World)(hb:Low [a,b,c,d,e]) :
  Calls Tryz.prog 84 #[(.agg #[.int .u64 (a:Int),.int .u64 (b:Int),.int .u64 (c:Int),.int .u64 (d:Int),.int .u64 (e:Int)])] w (iI 5 w (leB 32 (ev [a,b,c,d,e]))):=by
 have HC:=aA (fun W=>least_any a b c d e W hb)
 have hS0:=((St.init w NoB).alloc #[.int .u64 (a:Int),.int .u64 (b:Int),.int .u64 (c:Int),.int .u64 (d:Int),.int .u64 (e:Int)] 61)
 have HS0:=aA hS0
 clear hS0 hb
 go_enter Tryz.func84,Tryz.ntmps84
 go_wp2_with (go_at_call 126;refine(HC.out _).mono ?_;rintro r w1 ⟨a1,b1,c1,d1,e1,hev,hlow,rfl,hb1⟩;have ha:=hlow a1 B0;have hb:=hlow b1 B0;have hc:=hlow c1 B0;have hd:=hlow d1 B0;have he:=hlow e1 B0;have HW:=aA (g_words a1 b1 c1 d1 e1 ha hb hc hd he);have HV:=aA (g_val a1 b1 c1 d1 e1 he);have q0:=gl0 a1 b1 ha;have q1:=gl1 b1 c1 hb;have q2:=gl2 c1 d1 hc;have q3:=gl3 d1 e1 hd;obtain⟨x0,h0⟩:∃x,x=g0 a1 b1:=⟨_,rfl⟩;obtain⟨x1,h1⟩:∃x,x=g1 b1 c1:=⟨_,rfl⟩;obtain⟨x2,h2⟩:∃x,x=g2 c1 d1:=⟨_,rfl⟩;obtain⟨x3,h3⟩:∃x,x=g3 d1 e1:=⟨_,rfl⟩;rw[←h0,←h1,←h2,←h3] at HW HV;rw[←h0] at q0;rw[←h1] at q1;rw[←h2] at q2;rw[←h3] at q3;clear h0 h1 h2 h3 ha hb hc hd he hlow)
 have HS1:=aA ((((HS0.out.call hb1).skip (.cells #[.int .u64 (a1:Int),.int .u64 (b1:Int),.int .u64 (c1:Int),.int .u64 (d1:Int),.int .u64 (e1:Int)] 59)).row (Below.refl _ _) (World.ownsRow_nil _ _ 5 1)).pickL (H':=[.row (.slice none 0 0) 5 1 0 []]) [0] Bz rfl)
 have HEV:=aA hev
 clear q0 q1 q2 q3 HS0 hev HC
 obtain⟨ws,hws⟩:∃ws,ws=[x0,x1,x2,x3]:=⟨_,rfl⟩
 have HWS:=aA hws
 have hwl:ws.length=4:=by rw[hws];rfl
 rw[←hws] at HW HV
 have HWL:=aA hwl
 clear hws hwl
 go_loopw [4,37] (fun v i wr=>SpRel w ws v i wr) (fun _ i _=>4 - (intOf i).toNat)
 case atStart=>exact⟨0,none,0,[],An,rfl,rfl,rfl,HS1.out⟩
 case round =>
  obtain⟨k,B,d',l,hk,rfl,rfl,hl,hS⟩:=hrel
  by_cases hlt:k<4
  ·obtain⟨x,hx⟩:∃x,ws[k]?=some x:=⟨ws[k]'(by rw[HWL.out];exact hlt),gE _⟩
   have hix:=ixw x0 x1 x2 x3 k x (by rw[←HWS.out];exact hx)
   have hT:=spB_take ws k x hx
   rw[←hl] at hT
   have HT:=aA hT
   have hll:l.length=8*k:=by rw[hl,spB_len,List.length_take,HWL.out];omega
   have HLL:=aA hll
   have HSK:=aA hS
   have dk:decide ((k:Int)<4)=true:=A9
   clear hS hT hl hx hll
   go_wp2_with fail
   go_loopw [4,6,40] (fun v x i wr=>SpRel2 w (spB (ws.take (k+1))) v x i wr) (fun _ _ i _=>8 - (intOf i).toNat)
   case atStart=>exact⟨0,8,x,B,d',l,rfl,rfl,rfl,rfl,HT.out.symm,HSK.out⟩
   case round =>
    obtain⟨j,f,y,B2,d2,l2,rfl,rfl,hjf,rfl,hl2,hS2⟩:=hrel
    have HL2:=aA hl2
    have hbd:l2.length≤8*k+8:=by
     have:=congrArg List.length hl2
     rw[spB_len,List.length_append,List.length_take,HWL.out] at this
     omega
    clear hl2 HSK hix
    by_cases hj:j<8
    ·go_wp2_with (at_builtin;refine bQ rfl rfl tyB hS2 0 rfl rfl (us:=[_]) rfl rfl ?_ ?_ Bz ?_;(intro u hu;simp only[List.mem_singleton] at hu;subst hu;rfl);(simp only[List.length_singleton];omega);intro B3 d3 w3 hS3)
     go_roundw
     case rel =>
      cases f with
      | zero=>omega
      | succ f =>
       refine⟨j+1,f,y/256,B3,d3,l2++[UInt8.ofNat (y%256)],Cg,B0,An,B0,?_,?_⟩
       ·rw[←HL2.out]
        simp[leB]
       ·rw[bvs_snoc _ _ An,List.length_append,List.length_singleton]
        exact hS3
     case measure=>simp[intOf];omega
    ·obtain rfl:f=0:=by omega
     have h8:j=8:=An
     subst h8
     have hfin:=HL2.out
     simp only[leB,List.append_nil] at hfin
     have HFIN:=aA hfin
     clear hfin
     go_wp2_with fail
     go_roundw
     case rel=>exact⟨k+1,B2,d2,l2,An,Cg,rfl,HFIN.out,hS2⟩
     case measure=>simp[intOf];omega
  ·obtain rfl:k=4:=by omega
   have hfin:l=leB 32 (ev [a,b,c,d,e]):=by
    rw[hl,List.take_of_length_le (by rw[HWL.out];omega),spB_eq ws HW.out,HWL.out,HV.out,HEV.out]
   have HFIN:=aA hfin
   clear hl hfin
   go_wp2_with fail
   go_ret
   exact dY hS 0 rfl (by rw[HFIN.out])
end Go.Proofs.YtnohmgpmmhlloaaGreatDoor
