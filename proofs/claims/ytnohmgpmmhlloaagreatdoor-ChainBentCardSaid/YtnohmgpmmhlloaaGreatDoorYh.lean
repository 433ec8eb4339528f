/-
 Joined of texts of mine,in build order: Hg,Hh,Ma,Rs,Ab,Aa,Ac,Ad,Mb,Af,Ae,Ag,Ah,Ai,Am,Ak,Ap,Aq,Ar,At,Au,Oi,Av. Each says what it proves at its own head.
-/
import Derived.Deep.Onto
import Derived.Lib.AppendZerosOnto
import Derived.Lib.Overlaps
import Derived.Deep.DeepCutAuto
import Derived.Test.YtnohmgpmmhlloaaGreatDoorYg
set_option linter.unusedSimpArgs false
set_option linter.unusedVariables false
set_option maxRecDepth 100000
set_option maxHeartbeats 25600000
namespace Go.Proofs.YtnohmgpmmhlloaaGreatDoor.S1
open Go.RowKit
theorem ixh0 (x0 x1 x2 x3 x4 x5 x6 x7:Nat)(W:World):(Instr.index 170 (.agg #[.int .u64 (x0:Int),.int .u64 (x1:Int),.int .u64 (x2:Int),.int .u64 (x3:Int),.int .u64 (x4:Int),.int .u64 (x5:Int),.int .u64 (x6:Int),.int .u64 (x7:Int)]) (.int .i64 ((0:Nat):Int))).run Tryz.prog W=.ok (.int .u64 (x0:Int)) W:=Bt
theorem ixh1 (x0 x1 x2 x3 x4 x5 x6 x7:Nat)(W:World):(Instr.index 170 (.agg #[.int .u64 (x0:Int),.int .u64 (x1:Int),.int .u64 (x2:Int),.int .u64 (x3:Int),.int .u64 (x4:Int),.int .u64 (x5:Int),.int .u64 (x6:Int),.int .u64 (x7:Int)]) (.int .i64 ((1:Nat):Int))).run Tryz.prog W=.ok (.int .u64 (x1:Int)) W:=Bt
theorem ixh2 (x0 x1 x2 x3 x4 x5 x6 x7:Nat)(W:World):(Instr.index 170 (.agg #[.int .u64 (x0:Int),.int .u64 (x1:Int),.int .u64 (x2:Int),.int .u64 (x3:Int),.int .u64 (x4:Int),.int .u64 (x5:Int),.int .u64 (x6:Int),.int .u64 (x7:Int)]) (.int .i64 ((2:Nat):Int))).run Tryz.prog W=.ok (.int .u64 (x2:Int)) W:=Bt
theorem ixh3 (x0 x1 x2 x3 x4 x5 x6 x7:Nat)(W:World):(Instr.index 170 (.agg #[.int .u64 (x0:Int),.int .u64 (x1:Int),.int .u64 (x2:Int),.int .u64 (x3:Int),.int .u64 (x4:Int),.int .u64 (x5:Int),.int .u64 (x6:Int),.int .u64 (x7:Int)]) (.int .i64 ((3:Nat):Int))).run Tryz.prog W=.ok (.int .u64 (x3:Int)) W:=Bt
theorem ixh4 (x0 x1 x2 x3 x4 x5 x6 x7:Nat)(W:World):(Instr.index 170 (.agg #[.int .u64 (x0:Int),.int .u64 (x1:Int),.int .u64 (x2:Int),.int .u64 (x3:Int),.int .u64 (x4:Int),.int .u64 (x5:Int),.int .u64 (x6:Int),.int .u64 (x7:Int)]) (.int .i64 ((4:Nat):Int))).run Tryz.prog W=.ok (.int .u64 (x4:Int)) W:=Bt
theorem ixh5 (x0 x1 x2 x3 x4 x5 x6 x7:Nat)(W:World):(Instr.index 170 (.agg #[.int .u64 (x0:Int),.int .u64 (x1:Int),.int .u64 (x2:Int),.int .u64 (x3:Int),.int .u64 (x4:Int),.int .u64 (x5:Int),.int .u64 (x6:Int),.int .u64 (x7:Int)]) (.int .i64 ((5:Nat):Int))).run Tryz.prog W=.ok (.int .u64 (x5:Int)) W:=Bt
theorem ixh6 (x0 x1 x2 x3 x4 x5 x6 x7:Nat)(W:World):(Instr.index 170 (.agg #[.int .u64 (x0:Int),.int .u64 (x1:Int),.int .u64 (x2:Int),.int .u64 (x3:Int),.int .u64 (x4:Int),.int .u64 (x5:Int),.int .u64 (x6:Int),.int .u64 (x7:Int)]) (.int .i64 ((6:Nat):Int))).run Tryz.prog W=.ok (.int .u64 (x6:Int)) W:=Bt
theorem ixh7 (x0 x1 x2 x3 x4 x5 x6 x7:Nat)(W:World):(Instr.index 170 (.agg #[.int .u64 (x0:Int),.int .u64 (x1:Int),.int .u64 (x2:Int),.int .u64 (x3:Int),.int .u64 (x4:Int),.int .u64 (x5:Int),.int .u64 (x6:Int),.int .u64 (x7:Int)]) (.int .i64 ((7:Nat):Int))).run Tryz.prog W=.ok (.int .u64 (x7:Int)) W:=Bt
theorem ixh (x0 x1 x2 x3 x4 x5 x6 x7 k v:Nat)(h:[x0,x1,x2,x3,x4,x5,x6,x7][k]?=some v)(W:World):(Instr.index 170 (.agg #[.int .u64 (x0:Int),.int .u64 (x1:Int),.int .u64 (x2:Int),.int .u64 (x3:Int),.int .u64 (x4:Int),.int .u64 (x5:Int),.int .u64 (x6:Int),.int .u64 (x7:Int)]) (.int .i64 (k:Int))).run Tryz.prog W=.ok (.int .u64 (v:Int)) W:=by
 match k,h with
 | 0,h=>have h9:x0=v:=Option.some.inj h;rw[←h9];exact ixh0 x0 x1 x2 x3 x4 x5 x6 x7 W
 | 1,h=>have h9:x1=v:=Option.some.inj h;rw[←h9];exact ixh1 x0 x1 x2 x3 x4 x5 x6 x7 W
 | 2,h=>have h9:x2=v:=Option.some.inj h;rw[←h9];exact ixh2 x0 x1 x2 x3 x4 x5 x6 x7 W
 | 3,h=>have h9:x3=v:=Option.some.inj h;rw[←h9];exact ixh3 x0 x1 x2 x3 x4 x5 x6 x7 W
 | 4,h=>have h9:x4=v:=Option.some.inj h;rw[←h9];exact ixh4 x0 x1 x2 x3 x4 x5 x6 x7 W
 | 5,h=>have h9:x5=v:=Option.some.inj h;rw[←h9];exact ixh5 x0 x1 x2 x3 x4 x5 x6 x7 W
 | 6,h=>have h9:x6=v:=Option.some.inj h;rw[←h9];exact ixh6 x0 x1 x2 x3 x4 x5 x6 x7 W
 | 7,h=>have h9:x7=v:=Option.some.inj h;rw[←h9];exact ixh7 x0 x1 x2 x3 x4 x5 x6 x7 W
theorem infoB:(Tryz.prog.info? 5).map (fun i=>(i.zero,i.size,i.bytes))=some (some (.int .u8 0),1,1):=Bt
def zsL (n:Nat):Nat:=(240 - (n+1)%128)%128
def padL (n:Nat):List UInt8:=[128]++List.replicate (zsL n) 0++(beL 8 0++beL 8 (8*n))
def outL (s:List Nat):List UInt8:=s.flatMap (beL 8)
def shaL (l:List UInt8):List UInt8:=outL (stO (l++padL l.length))
theorem outL_len (s:List Nat):(outL s).length=8*s.length:=by
 induction s with
 | nil=>rfl
 | cons x s ih=>show(beL 8 x++outL s).length=_;rw[List.length_append,beL_len,ih,List.length_cons];omega
theorem outL_take (s:List Nat)(k x:Nat)(h:s[k]?=some x):outL (s.take (k+1))=outL (s.take k)++beL 8 x:=by
 obtain⟨hk,hx⟩:=List.getElem?_eq_some_iff.1 h
 unfold outL
 rw[List.take_succ_eq_append_getElem hk,List.flatMap_append,hx]
 simp
theorem shaL_len (l:List UInt8):(shaL l).length=64:=by unfold shaL;rw[outL_len,(stO_ok _).1]
theorem enBehind (args:Array Value)(w:World):(callFunc 134 args).run Tryz.prog w=.ok (.enter 134 args) w:=Bt
theorem enWrite (args:Array Value)(w:World):(callFunc 96 args).run Tryz.prog w=.ok (.enter 96 args) w:=Bt
theorem step_callv {P:Program}{w:World}{yl:Nat→Option Bool}{o:Oper}{a:Act}{K:Act→World→Prop}{Q:Exit→Act→World→Prop}{E:Prop}(hw:Region.wanted o yl=true){c:Operand}{f:FuncId}{first cap:Array Value}{xs:List Operand}{ts:Array TypeId}{vs:Array Value}{R:Ending→World→Prop}
  (ho:o.op=.call { callee:=.value c,args:=xs.toArray,argTypes:=ts })(hcv:a.eval c=.func (.func f) first cap)(hf:∀(args:Array Value) (w:World),(callFunc f args).run P w=.ok (.enter f args) w)
  (hx:first++(xs.map a.eval).toArray++cap=vs)(hc:Calls P f vs w R)(h:∀e w',R e w'→∃v,e=.returned v∧K (a.put o.dst v) w'):if Region.wanted o yl=true then Oper.wp P o a w K Q else E:=by
 rw[if_pos hw]
 exact wp_callv ho hcv hf hx hc h
theorem _root_.Go.Proofs.YtnohmgpmmhlloaaGreatDoor.St.cut3 {w0 w:World}{M:Nat→Prop}{H:List Chunk}{a b x:Chunk}(h:St w0 M w (a::b::x::H)):St w0 M w (a::b::H):=h.mid2
def Sn (g n:Nat)(x:World):Prop:=x.cell? ⟨g,9,none⟩=some (.int .u64 (n:Int))
def SumRel (w0:World)(M:Nat→Prop)(H:List Chunk)(s:List Nat)(v iv:Value)(wr:World):Prop:=
 ∃(j:Nat) (B:Option Addr) (d:Nat),j≤8∧iv=.int .i64 (j:Int)∧v=.slice B (8*j) d∧St w0 M wr (.row (.slice B (8*j) d) 5 1 (8*j) (bvs (outL (s.take j)))::H)
theorem sum_ro (g:Nat)(A:Option Addr)(c:Nat)(l:List UInt8)(w:World)(hn:l.length≤900000)(hC0:w.heap[g]?=some (.cells (cI (stO l) (.slice A (l.length%128) c) l.length) 173 (0,0)))
  (hR0:Rd w (.slice A (l.length%128) c) 1 (l.length%128) (bvs (rsO l))) :
  Calls Tryz.prog 98 #[.pointer (some ⟨g,0,none⟩)] w (Sum64 w (shaL l)):=by
 obtain⟨n,hnn⟩:∃n,n=l.length:=⟨_,rfl⟩
 obtain⟨a0,a1,a2,a3,a4,a5,a6,a7,hs8⟩:=list8 (stO_ok l).1
 have hC:w.heap[g]?=some (.cells (cI [a0,a1,a2,a3,a4,a5,a6,a7] (.slice A (n%128) c) n) 173 (0,0)):=by
  have:=hC0
  rw[hs8,←hnn] at this
  exact this
 have m0:w.cell? ⟨g,0,none⟩=some (.int .u64 (a0:Int)):=cell_of_row w g 0 _ _ (0,0) hC
 have m1:w.cell? ⟨g,1,none⟩=some (.int .u64 (a1:Int)):=cell_of_row w g 1 _ _ (0,0) hC
 have m2:w.cell? ⟨g,2,none⟩=some (.int .u64 (a2:Int)):=cell_of_row w g 2 _ _ (0,0) hC
 have m3:w.cell? ⟨g,3,none⟩=some (.int .u64 (a3:Int)):=cell_of_row w g 3 _ _ (0,0) hC
 have m4:w.cell? ⟨g,4,none⟩=some (.int .u64 (a4:Int)):=cell_of_row w g 4 _ _ (0,0) hC
 have m5:w.cell? ⟨g,5,none⟩=some (.int .u64 (a5:Int)):=cell_of_row w g 5 _ _ (0,0) hC
 have m6:w.cell? ⟨g,6,none⟩=some (.int .u64 (a6:Int)):=cell_of_row w g 6 _ _ (0,0) hC
 have m7:w.cell? ⟨g,7,none⟩=some (.int .u64 (a7:Int)):=cell_of_row w g 7 _ _ (0,0) hC
 have m8:w.cell? ⟨g,8,none⟩=some (.slice A (n%128) c):=cell_of_row w g 8 _ _ (0,0) hC
 have m9:w.cell? ⟨g,9,none⟩=some (.int .u64 (n:Int)):=cell_of_row w g 9 _ _ (0,0) hC
 have HSA:=aA ((St.init w NoB).alloc #[.int .u64 (a0:Int),.int .u64 (a1:Int),.int .u64 (a2:Int),.int .u64 (a3:Int),.int .u64 (a4:Int),.int .u64 (a5:Int),.int .u64 (a6:Int),.int .u64 (a7:Int),.slice A (n%128) c,.int .u64 (n:Int)] 173)
 have HN:Hid (l.length=n):=aA hnn.symm
 have hn9:n≤900000:=An
 have HS8:=aA hs8
 have hgl:g<w.heap.size:=(Array.getElem?_eq_some_iff.1 hC0).1
 have HGL:=aA hgl
 have HR0:=aA hR0
 have HM9:=aA m9
 clear hC hnn hs8 hn hC0 hR0
 go_enter Tryz.func98,Tryz.ntmps98
 go_upto_region 6 with(at_builtin;refine bJ rfl rfl tyB HSA.out rfl rfl (by have h:=HR0.out.below (HSA.out.below);rw[HN.out] at h;exact h) (bD _) An Bz ?_;intro A2 c2 w2 hS2;have q8:=hS2.free 1 rfl 8;have z8:w2.cell? ⟨w.heap.size,8,none⟩=some (.slice A (n%128) c):=hS2.cell 1 rfl 8;have HS3:=aA (hS2.setCell 1 rfl 8 (.slice A2 (n%128) c2));clear hS2)
 generalize w.heap.size=g2 at HS3 ⊢
 generalize w2.setCell ⟨g2,8,none⟩ (.slice A2 (n%128) c2)=w3 at HS3 ⊢
 have hS3:St w NoB w3 (.row (.slice A2 (n%128) c2) 5 1 (n%128) (bvs (rsO l))::.cells g2 (cI [a0,a1,a2,a3,a4,a5,a6,a7] (.slice A2 (n%128) c2) n) 173::([]:List Chunk)):=HS3.out
 rw[←HS8.out,←HN.out] at hS3
 have HS4:Hid (St w NoB w3 (HCk g2 A2 c2 l::HRk A2 c2 l::([]:List Chunk))):=aA hS3.swap
 clear m0 m1 m2 m3 m4 m5 m6 m7 m8 m9 hgl q8 z8 hS3 HS3 HSA
 have hg2:g2<w3.heap.size:=Chunk.lt (HS4.out.sat 0 _ rfl) rfl
 have HS5:=aA (HS4.out.skip (.cells #[.int .u8 128] 5))
 have HR5:=aA (show Rd (w3.alloc (.cells #[.int .u8 128] 5)) (.slice (some ⟨w3.heap.size,0,none⟩) 1 1) 1 1 (bvs [128]) from iO w3 [.int .u8 128] 5 1 1 rfl Bz)
 have HNE:Hid ((Value.slice (some ⟨w3.heap.size,0,none⟩) 1 1).ownBlock≠some g2):=aA (fun h=>by have h2:w3.heap.size=g2:=Option.some.inj h;omega)
 have HWR:=aA (write_msg g2 A2 c2 l (some ⟨w3.heap.size,0,none⟩) 1 1 [128] _ rfl (by rw[HN.out];omega) HS5.out HR5.out (fun _=>HNE.out))
 go_upto_region 7 with(go_at_call 96;refine HWR.out.mono ?_;rintro e w4 ⟨rfl,A4,c4,hS4⟩)
 obtain⟨l1,hl1⟩:∃l1,l1=l++[128]:=⟨_,rfl⟩
 rw[←hl1] at hS4
 have hl1n:l1.length=n+1:=by rw[hl1,List.length_append,HN.out];rfl
 have z8:w4.cell? ⟨g2,8,none⟩=some (.slice A4 ((n+1)%128) c4):=by
  have:=(hS4.cell 0 rfl 8).trans (bX (stO_ok l1).1)
  rwa [hl1n] at this
 have HS6:=aA hS4
 have HL1:=aA hl1
 have HL1N:=aA hl1n
 obtain⟨z,hz⟩:∃z,z=zsL n:=⟨_,rfl⟩
 have hzm1:((240:Int) - (((n+1)%128:Nat):Int))%128=(z:Int):=by rw[hz];unfold zsL;omega
 have hzm2:((240:Int) - (((n+1)%128:Nat):Int)).tmod 128=(z:Int):=by rw[Int.tmod_eq_emod_of_nonneg An];exact hzm1
 have hz127:z≤127:=by rw[hz];unfold zsL;omega
 have hr127:(n+1)%128≤127:=An
 generalize (n+1)%128=r4 at z8 hzm1 hzm2 hr127
 have HZ:=aA hz
 clear hS4 hl1 hl1n hz hg2 HS5 HR5 HNE HWR HS4
 go_upto_region 8 with(first
  |(have _q:=hb5;go_at_call 96;refine(write_msg (H:=.row (.slice (some ⟨gz,0,none⟩) z z) 5 1 z (bvs (List.replicate z 0))::([]:List Chunk)) g2 A4 c4 l1 (some ⟨gz,0,none⟩) z z (List.replicate z 0) _ List.length_replicate (by rw[HL1N.out];omega) (St.swap12 (St.swap HS7.out)) (HS7.out.rd 0 rfl) (fun _ h=>by have h2:gz=g2:=Option.some.inj h;exact HS7.out.apart 0 1 _ _ gz Bz rfl rfl rfl (by rw[h2];rfl))).mono ?_;rintro e w6 ⟨rfl,A6,c6,hS8⟩)
  |(refine wl_makeB (n:=z) rfl rfl Tryz.underlying22 infoB HS6.out rfl rfl An ?_;intro gz w5 hS7 hb5;have HS7:=aA hS7;clear hS7))
 obtain⟨l2,hl2⟩:∃l2,l2=l1++List.replicate z 0:=⟨_,rfl⟩
 rw[←hl2] at hS8
 have HL2:=aA hl2
 have hl2n:l2.length≤900200:=by rw[hl2,List.length_append,HL1N.out,List.length_replicate];omega
 replace hS8:St w NoB w6 (HCk g2 A6 c6 l2::HRk A6 c6 l2::([]:List Chunk)):=St.cut3 hS8
 have HS8:=aA hS8
 have HD:=aA hS8.drew
 have hg26:g2<w6.heap.size:=Chunk.lt (hS8.sat 0 _ rfl) rfl
 have HG26:=aA hg26
 have HC9:Hid (Sn g n w6.drew):=aA ((HD.out.below.cell (p:=⟨g,9,none⟩) HGL.out).trans HM9.out)
 have c9:∀z,Sn g n z→z.cell? ⟨g,9,none⟩=some (.int .u64 (n:Int)):=fun z hz=>hz
 have hx1:(n:Int)/2305843009213693952=0:=An
 have hx2:IntKind.u64.wrap ((n:Int)*8)=((8*n:Nat):Int):=Cl
 have h8n:8*n<W1:=by unfold W1;omega
 obtain⟨n8,hn8⟩:∃n8,n8=8*n:=⟨_,rfl⟩
 rw[←hn8] at hx2 h8n
 have HN8:=aA hn8
 have HL2N:=aA hl2n
 clear z8 hzm1 hzm2 hr127 hb5 _q hl2 hl2n hS8 hg26 hn8
 refine eT (Sn g n) Bt ?_
 (refine gT 0 (v:=?_) HC9.out ?_;(try refine nm ?_));(refine gT 1 (v:=?_) HC9.out ?_;(try refine nm ?_));(refine gT 2 (v:=?_) HC9.out ?_;(try refine nm ?_));(refine gT 3 (v:=?_) HC9.out ?_;(try refine nm ?_));(refine gT 4 (v:=?_) HC9.out ?_;(try refine nm ?_));(refine gT 5 (v:=?_) HC9.out ?_;(try refine nm ?_));(refine gT 7 (v:=?_) HC9.out ?_;(try refine nm ?_));(refine gT 8 (v:=?_) HC9.out ?_;(try refine nm ?_));(refine gT 9 (v:=?_) HC9.out ?_;(try refine nm ?_));(refine gT 10 (v:=?_) HC9.out ?_;(try refine nm ?_));(refine gT 11 (v:=?_) HC9.out ?_;(try refine nm ?_))
 (refine cD (i:=6) Bt rfl ?_;intro K hK;(try refine nm ?_))
 refine aO rfl rfl enBehind rfl (show Calls Tryz.prog _ _ _ (fun e w'=>∃B' d',e=.returned (.slice B' 8 d')∧St w6.drew NoB w' [.row (.slice B' 8 d') 5 1 8 (bvs (beL 8 0))]) from behind_any (w0:=w6.drew) (M:=NoB) (H:=[]) none 0 0 0 [] w6.drew rfl Bz Bz ((St.init w6.drew NoB).row (Below.refl _ _) (World.ownsRow_nil _ _ _ 1))) ?_
 rintro e v1 ⟨B1,d1,rfl,hT1⟩
 have F1:Sn g n v1:=by rw[Sn,hT1.below.cell (p:=⟨g,9,none⟩) (Nat.lt_of_lt_of_le HGL.out HD.out.below.size)];exact HC9.out
 refine⟨_,rfl,hK (Sn g n) _ _ (fun _ h=>h) F1 ?_⟩
 clear hK K
 (try refine nm ?_)
 (refine cD (i:=12) Bt rfl ?_;intro K hK;(try refine nm ?_))
 refine aO rfl rfl enBehind rfl (show Calls Tryz.prog _ _ _ (fun e w'=>∃B' d',e=.returned (.slice B' 16 d')∧St w6.drew NoB w' [.row (.slice B' 16 d') 5 1 16 (bvs (beL 8 0++beL 8 n8))]) from behind_any (w0:=w6.drew) (M:=NoB) (H:=[]) B1 d1 8 n8 (beL 8 0) v1 rfl Bz h8n hT1) ?_
 rintro e v2 ⟨B2,d2,rfl,hT2⟩
 have F2:Sn g n v2:=by rw[Sn,hT2.below.cell (p:=⟨g,9,none⟩) (Nat.lt_of_lt_of_le HGL.out HD.out.below.size)];exact HC9.out
 refine⟨_,rfl,hK (Sn g n) _ _ (fun _ h=>h) F2 ?_⟩
 clear hK K
 (try refine nm ?_)
 (refine cD (i:=13) Bt rfl ?_;intro K hK;(try refine nm ?_))
 refine step_callv rfl rfl rfl enWrite rfl (write_msg (H:=([]:List Chunk)) g2 A6 c6 l2 B2 d2 16 (beL 8 0++beL 8 n8) v2 (by rw[List.length_append,beL_len,beL_len]) (by have:=HL2N.out;omega) (HD.out.call hT2.below) (hT2.rd 0 rfl) (fun _ h=>by
  have h2:w6.heap.size≤g2:=by
   rcases hT2.own 0 _ g2 rfl h with h3|h3
   ·exact h3
   ·exact h3.elim
  have:=HG26.out
  omega)) ?_
 rintro e v3 ⟨rfl,A8,c8,hS9⟩
 have F3:Sn g n v3:=(hS9.below.cell (p:=⟨g,9,none⟩) HGL.out).trans HM9.out
 refine⟨_,rfl,hK (Sn g n) _ _ (fun _ h=>h) F3 ?_⟩
 clear hK K
 (try refine nm ?_)
 refine cX Bt ?_ _
 clear c9 hx1 hx2 F1 F2 F3
 have hmsg:l2++(beL 8 0++beL 8 n8)=l++padL l.length:=by
  rw[HN.out,HL2.out,HL1.out,HZ.out,HN8.out]
  unfold padL
  simp only[List.append_assoc]
 rw[hmsg] at hS9
 obtain⟨s,hs⟩:∃s,s=stO (l++padL l.length):=⟨_,rfl⟩
 have hsh:shaL l=outL s:=by unfold shaL;rw[hs]
 have hs8:s.length=8:=by rw[hs];exact(stO_ok _).1
 have hsw:aT s:=by rw[hs];exact(stO_ok _).2
 obtain⟨b0,b1,b2,b3,b4,b5,b6,b7,hsb⟩:=list8 hs8
 have hC:v3.heap[g2]?=some (.cells (cI [b0,b1,b2,b3,b4,b5,b6,b7] (.slice A8 ((l++padL l.length).length%128) c8) (l++padL l.length).length) 173 (0,0)):=by
  have:=hS9.sat 0 _ rfl
  unfold HCk at this
  rw[←hs,hsb] at this
  exact this
 have p0:v3.cell? ⟨g2,0,none⟩=some (.int .u64 (b0:Int)):=cell_of_row v3 g2 0 _ _ (0,0) hC
 have p1:v3.cell? ⟨g2,1,none⟩=some (.int .u64 (b1:Int)):=cell_of_row v3 g2 1 _ _ (0,0) hC
 have p2:v3.cell? ⟨g2,2,none⟩=some (.int .u64 (b2:Int)):=cell_of_row v3 g2 2 _ _ (0,0) hC
 have p3:v3.cell? ⟨g2,3,none⟩=some (.int .u64 (b3:Int)):=cell_of_row v3 g2 3 _ _ (0,0) hC
 have p4:v3.cell? ⟨g2,4,none⟩=some (.int .u64 (b4:Int)):=cell_of_row v3 g2 4 _ _ (0,0) hC
 have p5:v3.cell? ⟨g2,5,none⟩=some (.int .u64 (b5:Int)):=cell_of_row v3 g2 5 _ _ (0,0) hC
 have p6:v3.cell? ⟨g2,6,none⟩=some (.int .u64 (b6:Int)):=cell_of_row v3 g2 6 _ _ (0,0) hC
 have p7:v3.cell? ⟨g2,7,none⟩=some (.int .u64 (b7:Int)):=cell_of_row v3 g2 7 _ _ (0,0) hC
 have HSB:=aA hsb
 have HSH:=aA hsh
 have HSW:=aA hsw
 have HS10:Hid (St w NoB v3 (.row (.slice none 0 0) 5 1 0 []::([]:List Chunk))):=aA (hS9.tail.tail.row (Below.refl _ _) (World.ownsRow_nil _ _ _ 1))
 clear hS9 hmsg hs hsh hs8 hsb hC hT1 hT2 hsw h8n
 go_wp2_with fail
 clear p0 p1 p2 p3 p4 p5 p6 p7
 go_loopw [5,47] (fun v i wr=>SumRel w NoB (([]:List Chunk)) s v i wr) (fun _ i _=>8 - (intOf i).toNat)
 case atStart=>exact⟨0,none,0,An,rfl,rfl,HS10.out⟩
 case round =>
  clear HS10
  obtain⟨j,B,d,hj,rfl,rfl,hS⟩:=hrel
  by_cases hlt:j<8
  ·obtain⟨x,hx⟩:∃x,s[j]?=some x:=⟨s[j]'(by rw[HSB.out];exact hlt),gE _⟩
   have hxw:=HSW.out x (mG hx)
   have hix:=ixh b0 b1 b2 b3 b4 b5 b6 b7 j x (by rw[←HSB.out];exact hx)
   have HT:=aA (outL_take s j x hx)
   have dk:decide ((j:Int)<8)=true:=A9
   have ik:(j:Int)<8:=An
   have HBE:=aA (behind_any B d (8*j) x (outL (s.take j)) wr (by rw[outL_len,List.length_take,HSB.out];show 8*min j 8=_;omega) An hxw hS)
   clear hS hx hxw
   go_wp2_with (go_at_call 134;refine HBE.out.mono ?_;rintro e w9 ⟨B9,d9,rfl,hS9⟩;have HS9:=aA hS9;clear hS9)
   go_roundw
   case rel =>
    refine⟨j+1,B9,d9,An,Cg,rfl,?_⟩
    rw[HT.out]
    exact HS9.out
   case measure=>(simp[intOf])<;>omega
  ·obtain rfl:j=8:=by omega
   have h8:s.take 8=s:=List.take_of_length_le (by rw[HSB.out];exact Nat.le_refl _)
   rw[h8,←HSH.out] at hS
   have HS:=aA hS
   clear hS h8
   go_wp2_with fail
   go_ret
   exact⟨B,d,rfl,HS.out.below,HS.out.ownsRow 0 rfl⟩
theorem sumf_any (A:Option Addr)(m c:Nat)(l:List UInt8)(w:World)(hl:l.length=m)(hm:m≤900000)(hr:Rd w (.slice A m c) 1 m (bvs l)) :
  Calls Tryz.prog 75 #[.slice A m c] w (Sum64 w (shaL l)):=by
 have HR:=aA hr
 have HL:=aA hl
 clear hr hl
 go_enter Tryz.func75,Tryz.ntmps75
 go_wp2_with (first
  |(have _q:=q2;go_at_call 98;refine(sum_ro g A2 c2 l _ (by rw[HL.out];exact hm) (hS2.sat 0 _ rfl) (hS2.rd 1 rfl)).mono ?_;rintro e w3 ⟨B,d,rfl,hb3,hr3⟩)
  |(have _q:=hb1;go_at_call 96;refine(write_msg (H:=[]) g none 0 [] A c m l _ HL.out A9 hS1 (HR.out.below hb1) (rd_far HR.out (hg1.resolve_right (fun x=>x)))).mono ?_;rintro e w2 ⟨rfl,A2,c2,hS2⟩;have q2:True:=trivial)
  |(go_at_call 95;refine(new_any w (St.init w NoB)).mono ?_;rintro e w1 ⟨g,rfl,hS1,hb1⟩;have hg1:=hS1.own 0 _ g rfl rfl))
 go_ret
 exact⟨B,d,rfl,bnx hS2.below hb3,hr3.base_le hS2.below.size⟩
theorem rd_some {w:World}{B:Option Addr}{n d:Nat}{l:List UInt8}(h:Rd w (.slice B n d) 1 n (bvs l))(hn:0<n):∃b o,B=some ⟨b,o,none⟩:=by
 rcases h.cases with⟨_,h0,_⟩|⟨b,o,sp,c',hv,_,_,_,_,h4,_⟩
 ·omega
 ·injection hv with hv1 _ _
  have:=h4 An
  subst this hv1
  exact⟨b,o,rfl⟩
end Go.Proofs.YtnohmgpmmhlloaaGreatDoor.S1
namespace Go.Proofs.YtnohmgpmmhlloaaGreatDoor
open Go.RowKit
structure PcV where
 A:Option Addr
 c:Nat
 b:List UInt8
def PcV.cells (p:PcV):List Value:=[.slice p.A p.b.length p.c]
def iX (W:World)(p:PcV):Prop:=Rd W (.slice p.A p.b.length p.c) 1 p.b.length (bvs p.b)
def cO (ps:List PcV):List UInt8:=ps.flatMap PcV.b
theorem pcs_get {ps:List PcV}{k:Nat}{p:PcV}(h:ps[k]?=some p):(ps.flatMap PcV.cells)[k]?=some (.slice p.A p.b.length p.c):=by
 induction ps generalizing k with
 | nil=>simp at h
 | cons q ps ih =>
  cases k with
  | zero =>
   simp only[List.getElem?_cons_zero,Option.some.injEq] at h
   subst h
   rfl
  | succ k=>exact ih Cb
theorem cR {ps:List PcV}{k:Nat}{p:PcV}(h:ps[k]?=some p):cO (ps.take (k+1))=cO (ps.take k)++p.b:=by
 obtain⟨hk,hx⟩:=List.getElem?_eq_some_iff.1 h
 unfold cO
 rw[List.take_succ_eq_append_getElem hk,List.flatMap_append,hx]
 simp
theorem allL_le (ps:List PcV):∀k,(cO (ps.take k)).length≤(cO ps).length:=fun k=>by
 have:cO ps=cO (ps.take k)++cO (ps.drop k):=by unfold cO;rw[←List.flatMap_append,List.take_append_drop]
 rw[this,List.length_append]
 omega
theorem rd_cell {w:World}{B:Option Addr}{n d:Nat}{xs:List Value}{k:Nat}{u:Value}(h:Rd w (.slice B n d) 1 n xs)(hk:xs[k]?=some u):∃b o,B=some ⟨b,o,none⟩∧w.cell? ⟨b,o+k,none⟩=some u:=by
 rcases h.cases with⟨_,_,h0⟩|⟨b,o,sp,c',hv,_,_,_,hl,h4,hc⟩
 ·rw[h0] at hk;simp at hk
 ·injection hv with hv1 _ _
  have hkl:k<xs.length:=(List.getElem?_eq_some_iff.1 hk).1
  have:=h4 An
  subst this hv1
  exact⟨b,o,rfl,hc k u hk⟩
def sumS (x:List UInt8):List UInt8:=S3.redL (S1.shaL x)
def keyA (s:List UInt8):List UInt8:=S3.clampL ((S1.shaL s).take 32)
def keyP (s:List UInt8):List UInt8:=(S1.shaL s).drop 32
noncomputable def cA (s:List UInt8):List UInt8:=packL (tmE Bp (mulV (keyA s)))
noncomputable def firstL (s m:List UInt8):List UInt8:=packL (tmE Bp (mulV (sumS (keyP s++m))))
noncomputable def sigL (s m:List UInt8):List UInt8:=firstL s m++S3.madL (sumS (firstL s m++(cA s++m))) (keyA s) (sumS (keyP s++m))
noncomputable def rightL (P:Ed)(p m g:List UInt8):Bool:=decide (packL ((tmE Bp (mulV (g.drop 32))).add (tmE P (mulV (sumS (g.take 32++(p++m))))).neg)=g.take 32)
noncomputable def dX (p m g:List UInt8):Bool:=match cB p with
 | none=>false
 | some P=>decide (g.length=64)&&S3.mayS (g.drop 32)&&rightL P p m g
theorem fO (x:List UInt8):(sumS x).length=32:=S3.redL_len _
theorem keyA_len (s:List UInt8):(keyA s).length=32:=by unfold keyA;rw[S3.clampL_len,List.length_take,S1.shaL_len];rfl
theorem keyP_len (s:List UInt8):(keyP s).length=32:=by unfold keyP;rw[List.length_drop,S1.shaL_len]
theorem cM (s:List UInt8):(cA s).length=32:=dV _
theorem firstL_len (s m:List UInt8):(firstL s m).length=32:=dV _
theorem eW (s m:List UInt8):(sigL s m).length=64:=by unfold sigL;rw[List.length_append,firstL_len,S3.madL_len]
def BN (n:Nat)(w:World)(l:List UInt8)(e:Ending)(w':World):Prop:=∃B d,e=.returned (.slice B n d)∧Below w.heap.size w w'∧w'.ownsRow w.heap.size 5 1 (.slice B n d) n (bvs l)
theorem bn_of {n:Nat}{w:World}{l:List UInt8}{e:Ending}{w':World}(hl:l.length=n)(h:iI 5 w l e w'):BN n w l e w':=by
 unfold iI at h
 rw[hl] at h
 exact h
theorem redB {A:Option Addr}{n c:Nat}{l:List UInt8}(w:World)(hl:l.length=n)(hn:n≤64)(hr:Rd w (.slice A n c) 1 n (bvs l)):Calls Tryz.prog 97 #[.slice A n c] w (BN 32 w (S3.redL l)):=
 (S3.reduce_walk A n c l w hl hn hr).mono fun _ _ h=>bn_of (S3.redL_len l) (by unfold S3.redL;exact h)
theorem clampB {A:Option Addr}{c:Nat}{l:List UInt8}(w:World)(hl:l.length=32)(hr:Rd w (.slice A 32 c) 1 32 (bvs l)):Calls Tryz.prog 76 #[.slice A 32 c] w (BN 32 w (S3.clampL l)):=
 (S3.clamp_walk A c l w hl hr).mono fun _ _ h=>bn_of (by rw[S3.clampL_len,hl]) h
theorem madB {A B C:Option Addr}{ca cb cc:Nat}{a b c:List UInt8}(w:World)(hla:a.length=32)(hlb:b.length=32)(hlc:c.length=32)(ha:Rd w (.slice A 32 ca) 1 32 (bvs a))(hb:Rd w (.slice B 32 cb) 1 32 (bvs b))(hc:Rd w (.slice C 32 cc) 1 32 (bvs c)) :
  Calls Tryz.prog 107 #[.slice A 32 ca,.slice B 32 cb,.slice C 32 cc] w (BN 32 w (S3.madL a b c)):=
 (S3.muladd_walk A B C ca cb cc a b c w hla hlb hlc ha hb hc).mono fun _ _ h=>bn_of (S3.madL_len a b c) (by unfold S3.madL;exact h)
theorem sum_any (A:Option Addr)(n c:Nat)(ps:List PcV)(w:World)(hn:ps.length=n)(hm:(cO ps).length≤900000)(hr:Rd w (.slice A n c) 1 n (ps.flatMap PcV.cells))(hp:∀p∈ps,iX w p) :
  Calls Tryz.prog 40 #[.slice A n c] w (BN 32 w (sumS (cO ps))):=by
 have HR:=aA hr
 have HE:=aA hp
 have HL:=aA hn
 have HM:=aA hm
 have HM2:=aA (allL_le ps)
 have hnm:n≤maxLen:=hr.le
 unfold maxLen at hnm
 clear hr hp hn hm
 go_enter Tryz.func40,Tryz.ntmps40
 go_wp2_with (go_at_call 95;refine(S1.new_any w (St.init w NoB)).mono ?_;rintro e w1 ⟨g,rfl,hS1,hb1⟩;have hg1:=hS1.own 0 _ g rfl rfl;have HS:=aA hS1;clear hS1)
 have HG:=aA (hg1.resolve_right (fun x=>x))
 clear hg1 hb1
 go_loopw [12] (fun iv wr=>∃(k:Nat) (X:Option Addr) (x:Nat),k≤n∧iv=.int .i64 (k:Int)∧Hid (St w NoB wr [S1.HCk g X x (cO (ps.take k)),S1.HRk X x (cO (ps.take k))])) (fun iv _=>n - (intOf iv).toNat)
 case atStart=>exact⟨0,none,0,An,rfl,HS⟩
 case round =>
  clear HS
  obtain⟨k,X,x,hk,rfl,HS⟩:=hrel
  by_cases hlt:k<n
  ·obtain⟨p,hp⟩:∃p,ps[k]?=some p:=⟨ps[k]'El,gE _⟩
   obtain⟨b,o,hA,hc⟩:=rd_cell (HR.out.st HS.out) (pcs_get hp)
   subst hA
   have HT:=aA (cR hp)
   have HP:=aA (show Rd w (.slice p.A p.b.length p.c) 1 p.b.length (bvs p.b) from HE.out p (mG hp))
   have HF:=aA (S1.rd_far HP.out HG.out)
   have dk:decide ((k:Int)<(n:Int))=true:=A9
   have dk2:decide (k<n)=true:=A9
   have ik:(k:Int)<(n:Int):=An
   have HB:=aA (show(cO (ps.take k)).length+p.b.length≤1000000 by
    have h1:=HM2.out (k+1)
    have h2:=HM.out
    rw[cR hp,List.length_append] at h1
    omega)
   clear hp
   go_wp2_with (go_at_call 96;refine(S1.write_msg g X x (cO (ps.take k)) p.A p.c p.b.length p.b _ rfl HB.out HS.out (HP.out.st HS.out) HF.out).mono ?_;rintro e w3 ⟨rfl,X3,x3,hS3⟩;have HS3:=aA hS3;clear hS3)
   go_roundw
   case rel =>
    refine⟨k+1,X3,x3,An,Cg,?_⟩
    rw[HT.out]
    exact HS3
   case measure=>(simp[intOf])<;>omega
  ·obtain rfl:k=n:=by omega
   rw[List.take_of_length_le Dp] at HS
   clear hlt hk
   have dk:decide ((k:Int)<(k:Int))=false:=B0
   go_wp2_with (first
    |(go_at_call 97;refine(redB _ (S1.shaL_len _) Bz (rd_own ho)).mono ?_;rintro e w5 ⟨B5,d5,rfl,hb5,ho5⟩)
    |(go_at_call 98;refine(S1.sum_ro g X x (cO ps) _ HM.out (HS.out.sat 0 _ rfl) (HS.out.rd 1 rfl)).mono ?_;rintro e w4 ⟨B,d,rfl,hb,ho⟩))
   go_ret
   exact⟨B5,d5,rfl,bnx HS.out.below (bnx hb hb5),ho5.base_le (Nat.le_trans HS.out.below.size hb.size)⟩
theorem enClampMa (args:Array Value)(w:World):(callFunc 76 args).run Tryz.prog w=.ok (.enter 76 args) w:=Bt
theorem key_any (A:Option Addr)(n c:Nat)(l:List UInt8)(w:World)(hl:l.length=n)(hn:n≤100000)(hr:Rd w (.slice A n c) 1 n (bvs l)) :
  Calls Tryz.prog 34 #[.slice A n c] w fun e w'=>∃B d g c',e=.returned (.tuple #[.slice B 32 d,.slice (some ⟨g,32,none⟩) 32 c'])∧Below w.heap.size w w'∧Rd w' (.slice B 32 d) 1 32 (bvs (keyA l))∧Rd w' (.slice (some ⟨g,32,none⟩) 32 c') 1 32 (bvs (keyP l)):=by
 have HR:=aA hr
 have HL:=aA hl
 clear hr hl
 go_enter Tryz.func34,Tryz.ntmps34
 go_upto_region 2 with(go_at_call 75;refine(S1.sumf_any A n c l w HL.out An HR.out).mono ?_;rintro e w4 ⟨B,d,rfl,hb,ho⟩;have HS:=aA ((St.init w NoB).row hb ho);clear hb ho)
 obtain⟨g,c1,hvv,hc1,_,_,_,_⟩:=HS.out.rowOpen 0 rfl An
 injection hvv with hvv1 _ hvv3
 subst hvv1 hvv3
 have HS:=aA HS.out.drew
 have HR1:=aA (rd_take (HS.out.rd 0 rfl) 32 An)
 have HR2:=aA (rd_mid (HS.out.rd 0 rfl) 32 64 An An)
 have hx:((S1.shaL l).drop 32).take (64 - 32)=keyP l:=by unfold keyP;exact List.take_of_length_le (by rw[List.length_drop,S1.shaL_len];exact Nat.le_refl _)
 rw[hx] at HR2
 have hcc:¬d<64:=An
 have hcc2:(32:Int)≤(d:Int):=An
 have hcc3:(64:Int)≤(d:Int):=An
 refine aD [(0,1),(1,1),(3,1),(4,1),(2,2),(5,1),(6,1)] Bt Bt (fun _ _ _ _ h=>h) ?_
 (refine pT (v:=?_) rfl rfl ?_);(try refine nm ?_)
 (refine pT (v:=?_) rfl rfl ?_);(try refine nm ?_)
 (refine pT (v:=?_) rfl rfl ?_);(try refine nm ?_)
 (refine pT (v:=?_) rfl rfl ?_);(try refine nm ?_)
 refine aJ rfl rfl rfl enClampMa rfl (clampB _ (by rw[List.length_take,S1.shaL_len];rfl) HR1.out) ?_;rintro e wy ⟨B5,d5,rfl,hb,ho⟩;refine⟨_,rfl,hb,?_⟩;have HS:=aA (HS.out.row hb ho);clear ho;(try refine nm ?_)
 (refine pT (v:=?_) rfl rfl ?_);(try refine nm ?_)
 (refine pT (v:=?_) rfl rfl ?_);(try refine nm ?_)
 refine wpT_nil ?_
 go_wp2_with fail
 refine bodyPost_ret (results_tmp2 rfl _ _ _) rfl ?_
 exact⟨_,_,_,_,rfl,HS.out.below,HS.out.rd 0 rfl,HR2.out.below hb⟩
theorem St.join {w0 w w':World}{M:Nat→Prop}{H H':List Chunk}(h:St w0 M w H)(h':St w NoB w' H'):St w0 M w' (H'++H):=by
 have hk:=h.call h'.below
 have key:∀(i:Nat) (c:Chunk),(H'++H)[i]?=some c→(i<H'.length∧H'[i]?=some c)∨(H'.length≤i∧H[i - H'.length]?=some c):=fun i c hc=>by
  rw[List.getElem?_append] at hc
  split at hc
  ·rename_i hlt;exact .inl ⟨hlt,hc⟩
  ·rename_i hlt;exact .inr ⟨An,hc⟩
 have hnew:∀(i:Nat) (c:Chunk) (k:Nat),H'[i]?=some c→c.block=some k→w.heap.size≤k:=fun i c k hc hb=>by
  rcases h'.own i c k hc hb with h1|h1
  ·exact h1
  ·exact h1.elim
 have hold:∀(i:Nat) (c:Chunk) (k:Nat),H[i]?=some c→c.block=some k→k<w.heap.size:=fun i c k hc hb=>Chunk.lt (h.sat i c hc) hb
 refine⟨hk.ext,fun i c hc=>?_,fun i c k hc hb=>?_,fun i j c d k hij hc hd hb hb'=>?_⟩
 ·rcases key i c hc with⟨_,h1⟩|⟨_,h1⟩
  ·exact h'.sat i c h1
  ·exact hk.sat _ c h1
 ·rcases key i c hc with⟨_,h1⟩|⟨_,h1⟩
  ·exact .inl (Nat.le_trans h.ext.size (hnew i c k h1 hb))
  ·exact h.own _ c k h1 hb
 ·rcases key i c hc with⟨l1,h1⟩|⟨l1,h1⟩<;>rcases key j d hd with⟨l2,h2⟩|⟨l2,h2⟩
  ·exact h'.apart i j c d k hij h1 h2 hb hb'
  ·have:=hnew i c k h1 hb
   have:=hold _ d k h2 hb'
   omega
  ·have:=hold _ c k h1 hb
   have:=hnew j d k h2 hb'
   omega
  ·exact h.apart _ _ c d k An h1 h2 hb hb'
section
variable {P : Program}
end
def putC (c:Array Value)(k:Nat):List Value→Array Value
 | []=>c
 | v::vs=>putC (c.setIfInBounds k v) (k+1) vs
theorem run_storeCells {P:Program}{w0:World}{M:Nat→Prop}(g k:Nat)(e:TypeId):∀(vs:List Value) (i:Nat) (H:List Chunk) (j:Nat) (c:Array Value) (W:World),(∀v∈vs,v.oneCell'=true)→St w0 M W H→H[j]?=some (.cells g c e)→k+i+vs.length≤c.size →
  ∃W',(storeCells ⟨g,k,none⟩ vs i).run P W=.ok () W'∧St w0 M W' (H.set j (.cells g (putC c (k+i) vs) e))
 | [],i,H,j,c,W,_,hS,hj,_=>by
  refine⟨W,rfl,?_⟩
  have:H.set j (.cells g (putC c (k+i) []) e)=H:=by
   rw[putC]
   obtain⟨hlt,hx⟩:=List.getElem?_eq_some_iff.1 hj
   rw[←hx,List.set_getElem_self]
  rw[this]
  exact hS
 | v::vs,i,H,j,c,W,hv,hS,hj,hk=>by
  rw[List.length_cons] at hk
  have hc:=hS.cell j hj (k+i)
  rw[Array.getElem?_eq_getElem An] at hc
  have hf:=hS.free j hj (k+i)
  have h1:(store (⟨g,k,none⟩:Addr) v .plain).run P W=(store (⟨g,k,none⟩:Addr) v .plain).run P W:=rfl
  have hst:(store ((⟨g,k,none⟩:Addr).add i) v).run P W=.ok () (W.setCell ⟨g,k+i,none⟩ v):=by
   rw[Addr.add_lit,run_store P W _ v _ (hv v (List.mem_cons_self ..)),hc]
   simp[hf]
  obtain⟨W',hW,hS'⟩:=run_storeCells (P:=P) g k e vs (i+1) (H.set j (.cells g (c.setIfInBounds (k+i) v) e)) j (c.setIfInBounds (k+i) v) _ (fun u hu=>hv u (mC _ hu)) (hS.setCell j hj (k+i) v)
   (by rw[List.getElem?_set_self (List.getElem?_eq_some_iff.1 hj).1]) (by rw[Array.size_setIfInBounds];omega)
  refine⟨W',?_,?_⟩
  ·rw[storeCells]
   simp only[Sem.run_bind,hst,Result.andThen_ok]
   exact hW
  ·rw[List.set_set] at hS'
   exact hS'
theorem cP {P:Program}{w0 w:World}{M:Nat→Prop}{H:List Chunk}{o:Oper}{a:Act}{K:Act→World→Prop}{Q:Exit→Act→World→Prop}{t:TypeId}{x y:Operand}(ho:o.op=.store t x y)(hS:St w0 M w H)(j:Nat){g k:Nat}{c:Array Value}{e:TypeId}(hj:H[j]?=some (.cells g c e))
  {vs:List Value}(ht:(P.info? t).map (·.size)=some vs.length)(hk:k+vs.length≤c.size)(hp:a.eval x=.pointer (some ⟨g,k,none⟩))(hy:a.eval y=.agg vs.toArray)(hv:∀v∈vs,v.oneCell'=true)
  (h:∀w',St w0 M w' (H.set j (.cells g (putC c k vs) e))→K (a.put o.dst undef) w'):o.wp P a w K Q:=by
 obtain⟨W',hW,hS'⟩:=run_storeCells (P:=P) g k e vs 0 H j c w hv hS hj An
 have hrun:(storeVar t ⟨g,k,none⟩ (.agg vs.toArray)).run P w=.ok () W':=by
  cases hq:P.info? t with
  | none=>rw[hq] at ht;cases ht
  | some q =>
   rw[hq] at ht
   simp only[Option.map_some,Option.some.injEq] at ht
   simp[storeVar,sizeOf,typeInfo,hq,Value.cells,ht,hW]
 unfold Oper.wp execOp
 simp only[ho,hp,hy,Instr.storeAt,Instr.sureAddr,Sem.run_bind,Sem.run_pure,Result.andThen_ok,hrun]
 exact h _ hS'
theorem wl_storeC {P:Program}{w0 w:World}{M:Nat→Prop}{H:List Chunk}{ops:Array Oper}{more:List Oper}{o:Oper}{a:Act}{Q:Exit→Act→World→Prop}(hgd:o.guard=none){t:TypeId}{x y:Operand}(ho:o.op=.store t x y)(hS:St w0 M w H)(j:Nat){g k:Nat}{c:Array Value}{e:TypeId}(hj:H[j]?=some (.cells g c e))
  {vs:List Value}(ht:(P.info? t).map (·.size)=some vs.length)(hk:k+vs.length≤c.size)(hp:a.eval x=.pointer (some ⟨g,k,none⟩))(hy:a.eval y=.agg vs.toArray)(hv:∀v∈vs,v.oneCell'=true)
  (h:∀w',St w0 M w' (H.set j (.cells g (putC c k vs) e))→wpList P ops Q more (a.put o.dst undef) w'):wpList P ops Q (o::more) a w:=
 wpList_plain hgd fun _ hK=>cP ho hS j hj ht hk hp hy hv fun w' h2=>hK _ _ (h w' h2)
section
variable {w0 w w' : World} {M : Nat → Prop} {H : List Chunk}
end
section
variable {P : Program} {w0 w : World} {M : Nat → Prop} {H : List Chunk}
end
def PcV.v (p:PcV):Value:=.slice p.A p.b.length p.c
theorem iX.on {W W':World}{p:PcV}(h:iX W p)(hb:Below W.heap.size W W'):iX W' p:=Rd.below h hb
def pc0:PcV:=⟨none,0,[]⟩
structure Sg where
 b:PcV
 n:PcV
 s:PcV
 k:PcV
 v:PcV
def Sg.cells (x:Sg):List Value:=[x.b.v,x.n.v,x.s.v,x.k.v,x.v.v]
def Sg.val (x:Sg):Value:=.agg #[x.b.v,x.n.v,x.s.v,x.k.v,x.v.v]
theorem Sg.cells_length (x:Sg):x.cells.length=5:=rfl
theorem Sg.one (x:Sg):∀v∈x.cells,v.oneCell'=true:=by
 intro v hv
 unfold Sg.cells PcV.v at hv
 simp only[List.mem_cons,List.not_mem_nil,or_false] at hv
 rcases hv with rfl|rfl|rfl|rfl|rfl<;>rfl
structure SgOK (W:World)(x:Sg):Prop where
 b:iX W x.b
 n:iX W x.n
 s:iX W x.s
 k:iX W x.k
 v:iX W x.v
theorem SgOK.on {W W':World}{x:Sg}(h:SgOK W x)(hb:Below W.heap.size W W'):SgOK W' x:=⟨h.b.on hb,h.n.on hb,h.s.on hb,h.k.on hb,h.v.on hb⟩
def aN (l:List Sg):List Value:=l.flatMap Sg.cells
theorem sgCells_app (a b:List Sg):aN (a++b)=aN a++aN b:=by unfold aN;exact List.flatMap_append
theorem sgCells_at {l:List Sg}{k j:Nat}{x:Sg}(h:l[k]?=some x)(hj:j<5):(aN l)[k*5+j]?=x.cells[j]?:=by
 induction l generalizing k with
 | nil=>simp at h
 | cons y l ih =>
  unfold aN
  rw[List.flatMap_cons]
  cases k with
  | zero =>
   simp only[List.getElem?_cons_zero,Option.some.injEq] at h
   subst h
   rw[Nat.zero_mul,Nat.zero_add,List.getElem?_append_left (by rw[Sg.cells_length];exact hj)]
  | succ k =>
   rw[List.getElem?_append_right (by rw[Sg.cells_length];omega),Sg.cells_length,show(k+1)*5+j - 5=k*5+j from by omega]
   exact ih Cb
structure Tk where
 r:PcV
 A:Option Addr
 c:Nat
 l:List Sg
 e:PcV
 z:PcV
def Tk.row (t:Tk):Value:=.slice t.A t.l.length t.c
def Tk.cells (t:Tk):List Value:=[t.r.v,t.row,t.e.v,t.z.v]
def Tk.val (t:Tk):Value:=.agg #[t.r.v,t.row,t.e.v,t.z.v]
structure TkOK (W:World)(t:Tk):Prop where
 r:iX W t.r
 row:Rd W t.row 5 t.l.length (aN t.l)
 l:∀x∈t.l,SgOK W x
 e:iX W t.e
 z:iX W t.z
theorem TkOK.on {W W':World}{t:Tk}(h:TkOK W t)(hb:Below W.heap.size W W'):TkOK W' t:=⟨h.r.on hb,h.row.below hb,fun x hx=>(h.l x hx).on hb,h.e.on hb,h.z.on hb⟩
def tk0:Tk:=⟨pc0,none,0,[],pc0,pc0⟩
structure Sp where
 b:List UInt8
 n:List UInt8
 s:List UInt8
 k:List UInt8
 v:List UInt8
structure Tp where
 r:List UInt8
 l:List Sp
 e:List UInt8
 z:List UInt8
def Sg.p (x:Sg):Sp:=⟨x.b.b,x.n.b,x.s.b,x.k.b,x.v.b⟩
def Tk.p (t:Tk):Tp:=⟨t.r.b,t.l.map Sg.p,t.e.b,t.z.b⟩
def tp0:Tp:=⟨[],[],[],[]⟩
theorem tk0_p:tk0.p=tp0:=rfl
def Sp.msg (x:Sp):List UInt8:=x.b++(x.v++x.n)
def Sp.fin (x:Sp):List UInt8:=x.b++(x.n++x.s)
noncomputable def signK (y n:List UInt8)(x:Sp):Sp:=⟨x.b,cA n,sigL y (Sp.msg ⟨x.b,cA n,[],x.k,x.v⟩),x.k,x.v⟩
noncomputable def issueK (r n b:List UInt8):Tp:=⟨cA r,[signK r n ⟨b,[],[],[],[]⟩],n,[]⟩
noncomputable def sealK (t:Tp)(x:Sp):Tp:=⟨t.r,t.l,[],sigL t.e (Sp.fin x)⟩
theorem bY {A:Option Addr}{n c:Nat}{l:List UInt8}(w:World)(hl:l.length=n)(hn:n≤4000000000)(hr:Rd w (.slice A n c) 1 n (bvs l)):Calls Tryz.prog 33 #[.slice A n c] w (BN n w l):=by
 cases A with
 | none =>
  have h0:n=0∧c=0:=by
   obtain⟨A',c',hv,_,h1,h2,h3,_⟩:=hr
   injection hv with hv1 hv2 hv3
   subst hv1 hv3
   have:=h3 rfl
   omega
  obtain⟨rfl,rfl⟩:=h0
  have hl:l=[]:=List.eq_nil_of_length_eq_zero hl
  subst hl
  have hnil:∀W,(binOp .eql 22 (.slice none 0 0) (.slice none 0 0)).run Tryz.prog W=.ok (.bool true) W:=fun W=>by kernel_rfl
  clear hr hn
  go_enter Tryz.func33,Tryz.ntmps33
  go_wp2_with fail
  go_ret
  exact⟨none,0,rfl,Below.refl _ _,World.ownsRow_nil _ _ _ _⟩
 | some a =>
  have hS1:St w NoB (w.alloc (.cells #[] 5)) [.row (.slice (some ⟨w.heap.size,0,none⟩) 0 0) 5 1 0 []]:=(St.init w NoB).row ((Below.refl w.heap.size w).alloc (Nat.le_refl _) _) ⟨rfl,.inr ⟨w.heap.size,0,#[],rfl,Nat.le_refl _,by show(w.heap.push _)[w.heap.size]?=_;simp,Nat.le_refl _,Bz,rfl,rfl⟩⟩
  have HS1:=aA hS1
  have HR1:=aA (hr.below ((Below.refl w.heap.size w).alloc (Nat.le_refl _) (.cells #[] 5)))
  clear hS1 hr hl
  have hnil:∀W,(binOp .eql 22 (.slice (some a) n c) (.slice none 0 0)).run Tryz.prog W=.ok (.bool false) W:=fun W=>by kernel_rfl
  go_enter Tryz.func33,Tryz.ntmps33
  go_wp2_with (at_builtin;refine cQ rfl rfl tyB HS1.out 0 rfl rfl rfl HR1.out (bD l) An Bz ?_;intro A' c' w' hS2;rw[Nat.zero_add,List.nil_append] at hS2;have HS2:=aA hS2;clear hS2)
  go_ret
  exact⟨_,_,rfl,HS2.out.below,HS2.out.ownsRow 0 rfl⟩
def PcV.ch (p:PcV):Chunk:=.row p.v 5 1 p.b.length (bvs p.b)
def Sg.chs (y:Sg):List Chunk:=[y.b.ch,y.n.ch,y.s.ch,y.k.ch,y.v.ch]
theorem ch_ok {w0 w:World}{M:Nat→Prop}{H:List Chunk}{p:PcV}(h:St w0 M w H)(hc:p.ch∈H):iX w p:=by
 obtain⟨i,hi⟩:=List.getElem?_of_mem hc
 exact h.rd i hi
def SgIn (G:List Chunk)(y:Sg):Prop:=∀c∈y.chs,c∈G
theorem SgIn.ok {w0 w:World}{M:Nat→Prop}{H G:List Chunk}{y:Sg}(h:St w0 M w H)(hg:SgIn G y)(hs:∀c∈G,c∈H):SgOK w y:=
 ⟨ch_ok h (hs _ (hg _ (by simp[Sg.chs]))),ch_ok h (hs _ (hg _ (by simp[Sg.chs]))),ch_ok h (hs _ (hg _ (by simp[Sg.chs]))),ch_ok h (hs _ (hg _ (by simp[Sg.chs]))),ch_ok h (hs _ (hg _ (by simp[Sg.chs])))⟩
def SgR (w:World)(p:Sp)(e:Ending)(w':World):Prop:=∃y:Sg,e=.returned y.val∧y.p=p∧St w NoB w' y.chs
theorem fE {A1 A2 A3 A4 A5:Option Addr}{n1 n2 n3 n4 n5 c1 c2 c3 c4 c5:Nat}:∀v∈[Value.slice A1 n1 c1,.slice A2 n2 c2,.slice A3 n3 c3,.slice A4 n4 c4,.slice A5 n5 c5],v.oneCell'=true:=by
 intro v hv
 simp only[List.mem_cons,List.not_mem_nil,or_false] at hv
 rcases hv with rfl|rfl|rfl|rfl|rfl<;>rfl
theorem szSigned:(Tryz.prog.info? 32).map (·.size)=some 5:=Bt
theorem copied_core (A1:Option Addr)(n1 c1:Nat)(l1:List UInt8)(A2:Option Addr)(n2 c2:Nat)(l2:List UInt8)(A3:Option Addr)(n3 c3:Nat)(l3:List UInt8)(A4:Option Addr)(n4 c4:Nat)(l4:List UInt8)(A5:Option Addr)(n5 c5:Nat)(l5:List UInt8)(w:World)(hl1:l1.length=n1)(hn1:n1≤1000000)(hr1:Rd w (.slice A1 n1 c1) 1 n1 (bvs l1))(hl2:l2.length=n2)(hn2:n2≤1000000)(hr2:Rd w (.slice A2 n2 c2) 1 n2 (bvs l2))(hl3:l3.length=n3)(hn3:n3≤1000000)(hr3:Rd w (.slice A3 n3 c3) 1 n3 (bvs l3))(hl4:l4.length=n4)(hn4:n4≤1000000)(hr4:Rd w (.slice A4 n4 c4) 1 n4 (bvs l4))(hl5:l5.length=n5)(hn5:n5≤1000000)(hr5:Rd w (.slice A5 n5 c5) 1 n5 (bvs l5)) :
  Calls Tryz.prog 74 #[.agg #[.slice A1 n1 c1,.slice A2 n2 c2,.slice A3 n3 c3,.slice A4 n4 c4,.slice A5 n5 c5]] w (SgR w ⟨l1,l2,l3,l4,l5⟩):=by
 have hS0:=((St.init w NoB).alloc #[.slice A1 n1 c1,.slice A2 n2 c2,.slice A3 n3 c3,.slice A4 n4 c4,.slice A5 n5 c5] 32).alloc #[.slice none 0 0,.slice none 0 0,.slice none 0 0,.slice none 0 0,.slice none 0 0] 32
 rw[size_alloc1] at hS0
 have HS:=aA hS0.drew
 have HR1:=aA hr1
 have HL1:=aA hl1
 have HR2:=aA hr2
 have HL2:=aA hl2
 have HR3:=aA hr3
 have HL3:=aA hl3
 have HR4:=aA hr4
 have HL4:=aA hl4
 have HR5:=aA hr5
 have HL5:=aA hl5
 clear hS0 hr1 hl1 hr2 hl2 hr3 hl3 hr4 hl4 hr5 hl5
 have t1:=HS.out.cell 1 rfl 0
 have t2:=HS.out.cell 1 rfl 1
 have t3:=HS.out.cell 1 rfl 2
 have t4:=HS.out.cell 1 rfl 3
 have t5:=HS.out.cell 1 rfl 4
 go_enter Tryz.func74,Tryz.ntmps74
 go_wp2_with fail
 refine aD [(0,1),(1,0),(3,1),(4,0),(6,1),(7,0),(9,1),(10,0),(12,1),(13,0),(2,2),(5,2),(8,2),(11,2),(14,2),(15,1),(16,3)] Bt Bt (fun _ _ _ _ h=>h) ?_
 have M0:=True.intro
 go_wp2_with (first
  |(clear M4;go_at_call 33;(with_reducible refine(bY _ HL5.out An (HR5.out.below HS.out.below)).mono ?_);rintro e wy ⟨B5,d5,rfl,hb,ho⟩;have HS:=aA (HS.out.row hb ho);clear ho;have M5:=True.intro)
  |(clear M3;go_at_call 33;(with_reducible refine(bY _ HL4.out An (HR4.out.below HS.out.below)).mono ?_);rintro e wy ⟨B4,d4,rfl,hb,ho⟩;have HS:=aA (HS.out.row hb ho);clear ho;have M4:=True.intro)
  |(clear M2;go_at_call 33;(with_reducible refine(bY _ HL3.out An (HR3.out.below HS.out.below)).mono ?_);rintro e wy ⟨B3,d3,rfl,hb,ho⟩;have HS:=aA (HS.out.row hb ho);clear ho;have M3:=True.intro)
  |(clear M1;go_at_call 33;(with_reducible refine(bY _ HL2.out An (HR2.out.below HS.out.below)).mono ?_);rintro e wy ⟨B2,d2,rfl,hb,ho⟩;have HS:=aA (HS.out.row hb ho);clear ho;have M2:=True.intro)
  |(clear M0;go_at_call 33;(with_reducible refine(bY _ HL1.out An (HR1.out.below HS.out.below)).mono ?_);rintro e wy ⟨B1,d1,rfl,hb,ho⟩;have HS:=aA (HS.out.row hb ho);clear ho;have M1:=True.intro)
  |(refine wpT_nil ?_)|((with_reducible refine fromT_refl ?_);(try refine nm ?_))|((with_reducible refine aE Df ?_);(try refine nm ?_))|(refine aI (v:=?_) rfl rfl ?_ ?_;rotate_left;(intro wx;go_simp;try go_bits)<;>(with_reducible rfl);(try refine nm ?_))|(refine aK (v:=?_) rfl rfl rfl ?_ ?_;rotate_left;(go_simp;try go_bits)<;>(with_reducible rfl);(try refine nm ?_))|(refine aL (v:=?_) rfl rfl ?_ ?_;rotate_left;(intro wx hx;go_simp;try go_bits)<;>(with_reducible rfl);(try refine nm ?_))|(refine aM rfl rfl ?_;intro K hK)|(refine wpT_skip rfl rfl ?_;(try refine nm ?_)))
 refine wpT_late rfl rfl ?_
 intro K hK
 refine cP rfl HS.out 5 rfl (vs:=[.slice B1 n1 d1,.slice B2 n2 d2,.slice B3 n3 d3,.slice B4 n4 d4,.slice B5 n5 d5]) szSigned (Nat.le_refl _) rfl rfl fE ?_
 intro w5 hS5
 refine hK _ _ ?_
 refine wpT_nil ?_
 have HS5:=aA hS5
 clear hS5
 go_wp2_with fail
 refine bodyPost_ret (results_cell_row rfl _ _ (w.heap.size+1) _ _ _ _ rfl (HS5.out.heap 5 rfl) Tryz.underlying32 rfl Bt) rfl ?_
 obtain rfl:=HL1.out
 obtain rfl:=HL2.out
 obtain rfl:=HL3.out
 obtain rfl:=HL4.out
 obtain rfl:=HL5.out
 exact⟨⟨⟨B1,d1,l1⟩,⟨B2,d2,l2⟩,⟨B3,d3,l3⟩,⟨B4,d4,l4⟩,⟨B5,d5,l5⟩⟩,rfl,rfl,HS5.out.pickL [4,3,2,1,0] Bz rfl⟩
theorem grow_nil (k:Nat)(w:World)(hk:k≤1000000):Calls Tryz.prog 108 #[.slice none 0 0,.int .i64 (k:Int)] w fun e w'=>∃A c,e=.returned (.slice A 0 c)∧St w NoB w' [.row (.slice A 0 c) 5 1 0 []]:=by
 have HSN:=aA ((St.init w NoB).row (Below.refl _ _) (World.ownsRow_nil _ _ _ _):St w NoB w [.row (.slice none 0 0) 5 1 0 (bvs [])])
 have d0:decide ((k:Int)<0)=false:=B0
 by_cases h0:k=0
 ·subst h0
  go_enter Tryz.func108,Tryz.ntmps108
  go_wp2_with fail
  go_ret
  exact⟨none,0,rfl,HSN.out⟩
 ·have d1:decide ((0:Int)<(k:Int))=true:=by simp;omega
  have d2:(0:Int)<(k:Int):=An
  go_enter Tryz.func108,Tryz.ntmps108
  go_wp2_with (at_builtin;refine wl_appendZ rfl rfl Tryz.underlying22 Tryz.underlying3 infoB HSN.out 0 rfl rfl rfl An An ?_;intro A2 c2 w2 hS2;simp only[Nat.zero_add,List.nil_append,List.set_cons_zero] at hS2;have HS:=aA hS2;have hcp:=rd_cap (HS.out.rd 0 rfl);clear hS2)
  go_ret
  refine⟨A2,c2,rfl,?_⟩
  have:=HS.out.rowTake 0 (Nat.zero_le _)
  rwa [List.take_zero] at this
theorem concat_any (A:Option Addr)(n c:Nat)(ps:List PcV)(w:World)(hn:ps.length=n)(hm:(cO ps).length≤900000)(hr:Rd w (.slice A n c) 1 n (ps.flatMap PcV.cells))(hp:∀p∈ps,iX w p) :
  Calls Tryz.prog 50 #[.slice A n c] w (BN (cO ps).length w (cO ps)):=by
 have HR:=aA hr
 have HE:=aA hp
 have HL:=aA hn
 have HM:=aA hm
 have HM2:=aA (allL_le ps)
 have hnm:n≤maxLen:=hr.le
 unfold maxLen at hnm
 clear hr hp hn hm
 go_enter Tryz.func50,Tryz.ntmps50
 go_wp2_with fail
 go_loopw [3,11] (fun v3 iv wr=>∃(k m:Nat),k≤n∧iv=.int .i64 (k:Int)∧v3=.int .i64 (m:Int)∧m=(cO (ps.take k)).length∧w=wr) (fun _ iv _=>n - (intOf iv).toNat)
 case atStart=>exact⟨0,0,An,rfl,rfl,rfl,rfl⟩
 case round =>
  obtain⟨k,m,hk,rfl,rfl,hmm,rfl⟩:=hrel
  by_cases hlt:k<n
  ·obtain⟨p,hp⟩:∃p,ps[k]?=some p:=⟨ps[k]'El,gE _⟩
   obtain⟨b,o,hA,hc⟩:=rd_cell HR.out (pcs_get hp)
   subst hA
   have HT:=aA (cR hp)
   have dk:decide ((k:Int)<(n:Int))=true:=A9
   have dk2:decide (k<n)=true:=A9
   have ik:(k:Int)<(n:Int):=An
   have hB:m+p.b.length≤900000:=by
    have h1:=HM2.out (k+1)
    have h2:=HM.out
    rw[cR hp,List.length_append,←hmm] at h1
    omega
   have dn:decide ((m:Int)+(p.b.length:Int)<0)=false:=A9
   have HMM:=aA hmm
   clear hp hmm
   obtain⟨q,hq⟩:∃q,q=p.b.length:=⟨_,rfl⟩
   have HQ:=aA hq
   rw[←hq] at hc hB dn
   clear hq
   go_wp2_with fail
   go_roundw
   case rel=>exact⟨k+1,m+q,An,Cg,Cg,by rw[HT.out,List.length_append,HMM.out,HQ.out],by first|trivial|rfl⟩
   case measure=>(simp[intOf])<;>omega
  ·obtain rfl:k=n:=by omega
   rw[List.take_of_length_le Dp] at hmm
   clear hlt hk
   have dk:decide ((k:Int)<(k:Int))=false:=B0
   have hmb:m≤1000000:=Et
   have HMM:=aA hmm
   clear hmm
   go_wp2_with (go_at_call 108;(with_reducible refine(grow_nil m _ hmb).mono ?_);rintro e w2 ⟨A2,c2,rfl,hS2⟩;have HSN:=aA hS2;clear hS2)
   go_loopw [6,27] (fun v6 iv wr=>∃(j s:Nat) (X:Option Addr) (x:Nat),j≤k∧iv=.int .i64 (j:Int)∧v6=.slice X s x∧s=(cO (ps.take j)).length∧Hid (St w NoB wr [.row (.slice X s x) 5 1 s (bvs (cO (ps.take j)))])) (fun _ iv _=>k - (intOf iv).toNat)
   case atStart=>exact⟨0,0,A2,c2,An,rfl,rfl,rfl,HSN⟩
   case round =>
    clear HSN
    obtain⟨j,s,X,x,hj,rfl,rfl,hss,HS⟩:=hrel
    by_cases hlt:j<k
    ·obtain⟨p,hp⟩:∃p,ps[j]?=some p:=⟨ps[j]'El,gE _⟩
     obtain⟨b,o,hA,hc⟩:=rd_cell (HR.out.st HS.out) (pcs_get hp)
     subst hA
     have HT:=aA (cR hp)
     have HP:=aA (show Rd _ (.slice p.A p.b.length p.c) 1 p.b.length (bvs p.b) from HE.out p (mG hp))
     have dk1:decide ((j:Int)<(k:Int))=true:=A9
     have dk2:decide (j<k)=true:=A9
     have ik:(j:Int)<(k:Int):=An
     have HB:=aA (show s+p.b.length≤4294967296 by
      have h1:=HM2.out (j+1)
      have h2:=HM.out
      rw[cR hp,List.length_append,←hss] at h1
      omega)
     have HSS:=aA hss
     clear hp hss
     go_wp2_with (at_builtin;refine cQ rfl rfl tyB8 HS.out 0 rfl rfl rfl (HP.out.st HS.out) (bD _) HB.out Bz ?_;intro Az cz wz hS2;simp only[List.set_cons_zero] at hS2;rw[←cK,←HT.out] at hS2;have HS2:=aA hS2;clear hS2)
     go_roundw
     case rel=>exact⟨j+1,s+p.b.length,Az,cz,An,Cg,rfl,by rw[HT.out,List.length_append,HSS.out],HS2⟩
     case measure=>(simp[intOf])<;>omega
    ·obtain rfl:j=k:=by omega
     rw[List.take_of_length_le Dp] at HS hss
     clear hlt hj
     have dk1:decide ((j:Int)<(j:Int))=false:=B0
     have HSS:=aA hss
     clear hss
     go_wp2_with fail
     go_ret
     rw[←HSS.out]
     exact⟨X,x,rfl,HS.out.below,HS.out.ownsRow 0 rfl⟩
theorem len_add {a b:List UInt8}{m n:Nat}(h1:a.length=m)(h2:b.length=n):(a++b).length=m+n:=by rw[List.length_append,h1,h2]
theorem dK {a b c:List UInt8}{m n k:Nat}(h1:a.length=m)(h2:b.length=n)(h3:c.length=k):(a++(b++c)).length=m+(n+k):=by rw[List.length_append,List.length_append,h1,h2,h3]
theorem two_ps {A1 A2:Option Addr}{m1 m2 c1 c2:Nat}{x1 x2:List UInt8}{w:World}{o:Obj}(h1:x1.length=m1)(h2:x2.length=m2)(r1:Rd w (.slice A1 m1 c1) 1 m1 (bvs x1))(r2:Rd w (.slice A2 m2 c2) 1 m2 (bvs x2)) :
  ∃ps:List PcV,ps.length=2∧cO ps=x1++x2∧ps.flatMap PcV.cells=[.slice A1 m1 c1,.slice A2 m2 c2]∧∀p∈ps,iX (w.alloc o) p:=by
 subst h1 h2
 refine⟨[⟨A1,c1,x1⟩,⟨A2,c2,x2⟩],rfl,by simp[cO],rfl,fun p hp=>?_⟩
 simp only[List.mem_cons,List.not_mem_nil,or_false] at hp
 have hb:Below w.heap.size w (w.alloc o):=(Below.refl _ _).alloc (Nat.le_refl _) _
 rcases hp with rfl|rfl
 ·exact r1.below hb
 ·exact r2.below hb
theorem three_ps {A1 A2 A3:Option Addr}{m1 m2 m3 c1 c2 c3:Nat}{x1 x2 x3:List UInt8}{w:World}{o:Obj}(h1:x1.length=m1)(h2:x2.length=m2)(h3:x3.length=m3)(r1:Rd w (.slice A1 m1 c1) 1 m1 (bvs x1))(r2:Rd w (.slice A2 m2 c2) 1 m2 (bvs x2))(r3:Rd w (.slice A3 m3 c3) 1 m3 (bvs x3)) :
  ∃ps:List PcV,ps.length=3∧cO ps=x1++(x2++x3)∧ps.flatMap PcV.cells=[.slice A1 m1 c1,.slice A2 m2 c2,.slice A3 m3 c3]∧∀p∈ps,iX (w.alloc o) p:=by
 subst h1 h2 h3
 refine⟨[⟨A1,c1,x1⟩,⟨A2,c2,x2⟩,⟨A3,c3,x3⟩],rfl,by simp[cO],rfl,fun p hp=>?_⟩
 simp only[List.mem_cons,List.not_mem_nil,or_false] at hp
 have hb:Below w.heap.size w (w.alloc o):=(Below.refl _ _).alloc (Nat.le_refl _) _
 rcases hp with rfl|rfl|rfl
 ·exact r1.below hb
 ·exact r2.below hb
 ·exact r3.below hb
theorem sum2 {A1 A2:Option Addr}{m1 m2 c1 c2:Nat}{x1 x2:List UInt8}(w:World)(h1:x1.length=m1)(h2:x2.length=m2)(hm:m1+m2≤900000)(r1:Rd w (.slice A1 m1 c1) 1 m1 (bvs x1))(r2:Rd w (.slice A2 m2 c2) 1 m2 (bvs x2)) :
  Calls Tryz.prog 40 #[.slice (some ⟨w.heap.size,0,none⟩) 2 2] (w.alloc (.cells #[.slice A1 m1 c1,.slice A2 m2 c2] 22)) (BN 32 (w.alloc (.cells #[.slice A1 m1 c1,.slice A2 m2 c2] 22)) (sumS (x1++x2))):=by
 obtain⟨ps,p1,p2,p3,p4⟩:=two_ps (o:=.cells #[.slice A1 m1 c1,.slice A2 m2 c2] 22) h1 h2 r1 r2
 have:=sum_any _ 2 2 ps _ p1 Er Fq p4
 rw[p2] at this
 exact this
theorem sum3 {A1 A2 A3:Option Addr}{m1 m2 m3 c1 c2 c3:Nat}{x1 x2 x3:List UInt8}(w:World)(h1:x1.length=m1)(h2:x2.length=m2)(h3:x3.length=m3)(hm:m1+(m2+m3)≤900000)(r1:Rd w (.slice A1 m1 c1) 1 m1 (bvs x1))(r2:Rd w (.slice A2 m2 c2) 1 m2 (bvs x2))(r3:Rd w (.slice A3 m3 c3) 1 m3 (bvs x3)) :
  Calls Tryz.prog 40 #[.slice (some ⟨w.heap.size,0,none⟩) 3 3] (w.alloc (.cells #[.slice A1 m1 c1,.slice A2 m2 c2,.slice A3 m3 c3] 22)) (BN 32 (w.alloc (.cells #[.slice A1 m1 c1,.slice A2 m2 c2,.slice A3 m3 c3] 22)) (sumS (x1++(x2++x3)))):=by
 obtain⟨ps,p1,p2,p3,p4⟩:=three_ps (o:=.cells #[.slice A1 m1 c1,.slice A2 m2 c2,.slice A3 m3 c3] 22) h1 h2 h3 r1 r2 r3
 have:=sum_any _ 3 3 ps _ p1 Es Fr p4
 rw[p2] at this
 exact this
theorem pub_32 (A:Option Addr)(c:Nat)(l:List UInt8)(w:World)(hl:l.length=32)(hr:Rd w (.slice A 32 c) 1 32 (bvs l)):Calls Tryz.prog 11 #[.slice A 32 c] w (BN 32 w (cA l)):=by
 have HS:=aA (St.init w NoB)
 have HR:=aA hr
 have HL:=aA hl
 have HV:=aA (show cA l=packL (tmE Bp (mulV (keyA l))) from rfl)
 clear hr hl
 go_enter Tryz.func11,Tryz.ntmps11
 have M0:=True.intro
 go_wp2_with (first|(clear M3;go_at_call 37;(with_reducible refine(bytesP32 _ (PtN.v hz2)).mono ?_);rintro e wy ⟨B3,d3,rfl,hb,ho⟩;have HS:=aA (HS.out.row hb ho);clear ho;have M4:=True.intro)|(clear M2;go_at_call 36;(with_reducible refine(mulP_any _ _ _ _ _ (PtN.v hz1) (keyA_len _) An HRA.out).mono ?_);rintro e wy ⟨z2,hz2,rfl,hb⟩;have HS:=aA (HS.out.call hb);have M3:=True.intro)|(clear M1;go_at_call 35;(with_reducible refine(baseP _).mono ?_);rintro e wy ⟨z1,hz1,rfl,hb⟩;have HRA:=aA (HRA.out.below hb);have HS:=aA (HS.out.call hb);have M2:=True.intro)|(clear M0;go_at_call 34;(with_reducible refine(key_any _ _ _ _ _ HL.out An HR.out).mono ?_);rintro e wy ⟨Ba,da,gp,cp,rfl,hb,hra,hrp⟩;have HRA:=aA hra;clear hra hrp;have HS:=aA (HS.out.call hb);have M1:=True.intro))
 go_ret
 rw[HV.out]
 exact⟨_,_,rfl,HS.out.below,HS.out.ownsRow 0 rfl⟩
theorem sign_32 (A B:Option Addr)(c m d:Nat)(l x:List UInt8)(w:World)(hl:l.length=32)(hx:x.length=m)(hm:m≤100000)(hr:Rd w (.slice A 32 c) 1 32 (bvs l))(hrx:Rd w (.slice B m d) 1 m (bvs x)) :
  Calls Tryz.prog 49 #[.slice A 32 c,.slice B m d] w (BN 64 w (sigL l x)):=by
 have HR:=aA hr
 have HX:=aA hrx
 have HL:=aA hl
 have HLX:=aA hx
 clear hr hrx hl hx
 go_enter Tryz.func49,Tryz.ntmps49
 go_upto_region 4 with(go_at_call 34;(with_reducible refine(key_any _ _ _ _ _ HL.out An HR.out).mono ?_);rintro e w1 ⟨Ba,da,gp,cp,rfl,hb,hra,hrp⟩;have HB0:=aA hb;have HRA:=aA hra;have HRP:=aA hrp;clear hra hrp hb)
 have HS:=aA (St.init w1 NoB)
 have HX:=aA (HX.out.below HB0.out)
 have HR:=aA (HR.out.below HB0.out)
 have M0:=True.intro
 go_wp2_with (first|(clear M7;at_builtin;refine cQ rfl rfl tyB8 HS.out 3 rfl rfl rfl (HS.out.rd 0 rfl) (bD _) An Bz ?_;intro Az cz wz hS2;simp only[List.set_cons_zero,List.set_cons_succ] at hS2;rw[←cK] at hS2;have HS:=aA hS2;clear hS2;have M8:=True.intro)|(clear M6;go_at_call 107;(with_reducible refine(madB _ (fO _) (keyA_len _) (fO _) (HS.out.rd 0 rfl) (HRA.out.below HS.out.below) (HS.out.rd 3 rfl)).mono ?_);rintro e wy ⟨Bm,dm,rfl,hb,ho⟩;have HS:=aA (HS.out.row hb ho);clear ho;have M7:=True.intro)|(clear M5;go_at_call 40;(with_reducible refine(sum3 _ (dV _) (cM _) HLX.out An (HS.out.rd 1 rfl) (HS.out.rd 0 rfl) (HX.out.below HS.out.below)).mono ?_);rintro e wy ⟨Bh,dh,rfl,hb,ho⟩;have HS:=aA ((HS.out.skip _).row hb ho);clear ho;have M6:=True.intro)|(clear M4;go_at_call 11;(with_reducible refine(pub_32 _ _ _ _ HL.out (HR.out.below HS.out.below)).mono ?_);rintro e wy ⟨Bu,du,rfl,hb,ho⟩;have HS:=aA (HS.out.row hb ho);clear ho;have M5:=True.intro)|(clear M3;go_at_call 37;(with_reducible refine(bytesP32 _ (PtN.v hz2)).mono ?_);rintro e wy ⟨Bf,df,rfl,hb,ho⟩;have HS:=aA (HS.out.row hb ho);clear ho;have M4:=True.intro)|(clear M2;go_at_call 36;(with_reducible refine(mulP_any _ _ _ _ _ (PtN.v hz1) (fO _) An (HS.out.rd 0 rfl)).mono ?_);rintro e wy ⟨z2,hz2,rfl,hb⟩;have HS:=aA (HS.out.call hb);have M3:=True.intro)|(clear M1;go_at_call 35;(with_reducible refine(baseP _).mono ?_);rintro e wy ⟨z1,hz1,rfl,hb⟩;have HS:=aA (HS.out.call hb);have M2:=True.intro)|(clear M0;go_at_call 40;(with_reducible refine(sum2 _ (keyP_len _) HLX.out An HRP.out HX.out).mono ?_);rintro e wy ⟨Br,dr,rfl,hb,ho⟩;have HS:=aA ((HS.out.skip _).row hb ho);clear ho;have M1:=True.intro))
 go_ret
 refine⟨_,_,rfl,bnx HB0.out HS.out.below,?_⟩
 have ho:=HS.out.ownsRow 3 rfl
 exact ho.base_le HB0.out.size
theorem concat2 {A1 A2:Option Addr}{m1 m2 c1 c2:Nat}{x1 x2:List UInt8}(w:World)(h1:x1.length=m1)(h2:x2.length=m2)(hm:m1+m2≤900000)(r1:Rd w (.slice A1 m1 c1) 1 m1 (bvs x1))(r2:Rd w (.slice A2 m2 c2) 1 m2 (bvs x2)) :
  Calls Tryz.prog 50 #[.slice (some ⟨w.heap.size,0,none⟩) 2 2] (w.alloc (.cells #[.slice A1 m1 c1,.slice A2 m2 c2] 22)) (BN (m1+m2) (w.alloc (.cells #[.slice A1 m1 c1,.slice A2 m2 c2] 22)) (x1++x2)):=by
 obtain⟨ps,p1,p2,p3,p4⟩:=two_ps (o:=.cells #[.slice A1 m1 c1,.slice A2 m2 c2] 22) h1 h2 r1 r2
 have:=concat_any _ 2 2 ps _ p1 Er Fq p4
 rw[p2,len_add h1 h2] at this
 exact this
theorem concat3 {A1 A2 A3:Option Addr}{m1 m2 m3 c1 c2 c3:Nat}{x1 x2 x3:List UInt8}(w:World)(h1:x1.length=m1)(h2:x2.length=m2)(h3:x3.length=m3)(hm:m1+(m2+m3)≤900000)(r1:Rd w (.slice A1 m1 c1) 1 m1 (bvs x1))(r2:Rd w (.slice A2 m2 c2) 1 m2 (bvs x2))(r3:Rd w (.slice A3 m3 c3) 1 m3 (bvs x3)) :
  Calls Tryz.prog 50 #[.slice (some ⟨w.heap.size,0,none⟩) 3 3] (w.alloc (.cells #[.slice A1 m1 c1,.slice A2 m2 c2,.slice A3 m3 c3] 22)) (BN (m1+(m2+m3)) (w.alloc (.cells #[.slice A1 m1 c1,.slice A2 m2 c2,.slice A3 m3 c3] 22)) (x1++(x2++x3))):=by
 obtain⟨ps,p1,p2,p3,p4⟩:=three_ps (o:=.cells #[.slice A1 m1 c1,.slice A2 m2 c2,.slice A3 m3 c3] 22) h1 h2 h3 r1 r2 r3
 have:=concat_any _ 3 3 ps _ p1 Es Fr p4
 rw[p2,dK h1 h2 h3] at this
 exact this
theorem eD (A1:Option Addr)(n1 c1:Nat)(l1:List UInt8)(A2:Option Addr)(n2 c2:Nat)(l2:List UInt8)(A3:Option Addr)(n3 c3:Nat)(l3:List UInt8)(A4:Option Addr)(n4 c4:Nat)(l4:List UInt8)(A5:Option Addr)(n5 c5:Nat)(l5:List UInt8)(w:World)(hl1:l1.length=n1)(hn1:n1≤70000)(hr1:Rd w (.slice A1 n1 c1) 1 n1 (bvs l1))(hl2:l2.length=n2)(hn2:n2≤70000)(hr2:Rd w (.slice A2 n2 c2) 1 n2 (bvs l2))(hl3:l3.length=n3)(hn3:n3≤70000)(hr3:Rd w (.slice A3 n3 c3) 1 n3 (bvs l3))(hl4:l4.length=n4)(hn4:n4≤70000)(hr4:Rd w (.slice A4 n4 c4) 1 n4 (bvs l4))(hl5:l5.length=n5)(hn5:n5≤70000)(hr5:Rd w (.slice A5 n5 c5) 1 n5 (bvs l5)) :
  Calls Tryz.prog 73 #[.agg #[.slice A1 n1 c1,.slice A2 n2 c2,.slice A3 n3 c3,.slice A4 n4 c4,.slice A5 n5 c5]] w (BN (n1+(n5+n2)) w (l1++(l5++l2))):=by
 have hS0:=(St.init w NoB).alloc #[.slice A1 n1 c1,.slice A2 n2 c2,.slice A3 n3 c3,.slice A4 n4 c4,.slice A5 n5 c5] 32
 have HS:=aA hS0
 clear hS0
 have HR1:=aA hr1
 have HL1:=aA hl1
 have HR2:=aA hr2
 have HL2:=aA hl2
 have HR3:=aA hr3
 have HL3:=aA hl3
 have HR4:=aA hr4
 have HL4:=aA hl4
 have HR5:=aA hr5
 have HL5:=aA hl5
 clear hr1 hl1 hr2 hl2 hr3 hl3 hr4 hl4 hr5 hl5
 go_enter Tryz.func73,Tryz.ntmps73
 go_upto_region 1 with fail
 generalize World.alloc w _=wb at HS ⊢
 have t1:=HS.out.cell 0 rfl 0
 have t2:=HS.out.cell 0 rfl 1
 have t3:=HS.out.cell 0 rfl 2
 have t4:=HS.out.cell 0 rfl 3
 have t5:=HS.out.cell 0 rfl 4
 go_wp2_with (go_at_call 50;(with_reducible refine(concat3 _ HL1.out HL5.out HL2.out An (HR1.out.below HS.out.below) (HR5.out.below HS.out.below) (HR2.out.below HS.out.below)).mono ?_);rintro e wy ⟨B,d,rfl,hb,ho⟩;have HS:=aA ((HS.out.skip _).row hb ho);clear ho)
 go_ret
 exact⟨_,_,rfl,HS.out.below,HS.out.ownsRow 0 rfl⟩
theorem sealed_core (A1:Option Addr)(n1 c1:Nat)(l1:List UInt8)(A2:Option Addr)(n2 c2:Nat)(l2:List UInt8)(A3:Option Addr)(n3 c3:Nat)(l3:List UInt8)(A4:Option Addr)(n4 c4:Nat)(l4:List UInt8)(A5:Option Addr)(n5 c5:Nat)(l5:List UInt8)(w:World)(hl1:l1.length=n1)(hn1:n1≤70000)(hr1:Rd w (.slice A1 n1 c1) 1 n1 (bvs l1))(hl2:l2.length=n2)(hn2:n2≤70000)(hr2:Rd w (.slice A2 n2 c2) 1 n2 (bvs l2))(hl3:l3.length=n3)(hn3:n3≤70000)(hr3:Rd w (.slice A3 n3 c3) 1 n3 (bvs l3))(hl4:l4.length=n4)(hn4:n4≤70000)(hr4:Rd w (.slice A4 n4 c4) 1 n4 (bvs l4))(hl5:l5.length=n5)(hn5:n5≤70000)(hr5:Rd w (.slice A5 n5 c5) 1 n5 (bvs l5)) :
  Calls Tryz.prog 53 #[.agg #[.slice A1 n1 c1,.slice A2 n2 c2,.slice A3 n3 c3,.slice A4 n4 c4,.slice A5 n5 c5]] w (BN (n1+(n2+n3)) w (l1++(l2++l3))):=by
 have hS0:=(St.init w NoB).alloc #[.slice A1 n1 c1,.slice A2 n2 c2,.slice A3 n3 c3,.slice A4 n4 c4,.slice A5 n5 c5] 32
 have HS:=aA hS0
 clear hS0
 have HR1:=aA hr1
 have HL1:=aA hl1
 have HR2:=aA hr2
 have HL2:=aA hl2
 have HR3:=aA hr3
 have HL3:=aA hl3
 have HR4:=aA hr4
 have HL4:=aA hl4
 have HR5:=aA hr5
 have HL5:=aA hl5
 clear hr1 hl1 hr2 hl2 hr3 hl3 hr4 hl4 hr5 hl5
 go_enter Tryz.func53,Tryz.ntmps53
 go_upto_region 1 with fail
 generalize World.alloc w _=wb at HS ⊢
 have t1:=HS.out.cell 0 rfl 0
 have t2:=HS.out.cell 0 rfl 1
 have t3:=HS.out.cell 0 rfl 2
 have t4:=HS.out.cell 0 rfl 3
 have t5:=HS.out.cell 0 rfl 4
 go_wp2_with (go_at_call 50;(with_reducible refine(concat3 _ HL1.out HL2.out HL3.out An (HR1.out.below HS.out.below) (HR2.out.below HS.out.below) (HR3.out.below HS.out.below)).mono ?_);rintro e wy ⟨B,d,rfl,hb,ho⟩;have HS:=aA ((HS.out.skip _).row hb ho);clear ho)
 go_ret
 exact⟨_,_,rfl,HS.out.below,HS.out.ownsRow 0 rfl⟩
theorem signed_core (Ay Ax:Option Addr)(cy cx:Nat)(y nx:List UInt8)(A1:Option Addr)(n1 c1:Nat)(l1:List UInt8)(A2:Option Addr)(n2 c2:Nat)(l2:List UInt8)(A3:Option Addr)(n3 c3:Nat)(l3:List UInt8)(A4:Option Addr)(n4 c4:Nat)(l4:List UInt8)(A5:Option Addr)(n5 c5:Nat)(l5:List UInt8)(w:World)(hy:y.length=32)(hx:nx.length=32)(hry:Rd w (.slice Ay 32 cy) 1 32 (bvs y))(hrx:Rd w (.slice Ax 32 cx) 1 32 (bvs nx))(hl1:l1.length=n1)(hn1:n1≤65536)(hr1:Rd w (.slice A1 n1 c1) 1 n1 (bvs l1))(hl2:l2.length=n2)(hn2:n2≤10000)(hr2:Rd w (.slice A2 n2 c2) 1 n2 (bvs l2))(hl3:l3.length=n3)(hn3:n3≤10000)(hr3:Rd w (.slice A3 n3 c3) 1 n3 (bvs l3))(hl4:l4.length=n4)(hn4:n4≤10000)(hr4:Rd w (.slice A4 n4 c4) 1 n4 (bvs l4))(hl5:l5.length=n5)(hn5:n5≤10000)(hr5:Rd w (.slice A5 n5 c5) 1 n5 (bvs l5)) :
  Calls Tryz.prog 32 #[.slice Ay 32 cy,.slice Ax 32 cx,.agg #[.slice A1 n1 c1,.slice A2 n2 c2,.slice A3 n3 c3,.slice A4 n4 c4,.slice A5 n5 c5]] w (SgR w (signK y nx ⟨l1,l2,l3,l4,l5⟩)):=by
 have hS0:=((St.init w NoB).alloc #[.slice A1 n1 c1,.slice A2 n2 c2,.slice A3 n3 c3,.slice A4 n4 c4,.slice A5 n5 c5] 32).alloc #[.slice none 0 0,.slice none 0 0,.slice none 0 0,.slice none 0 0,.slice none 0 0] 32
 rw[size_alloc1] at hS0
 have HS:=aA hS0
 have HRY:=aA hry
 have HRX:=aA hrx
 have HLY:=aA hy
 have HLX:=aA hx
 clear hS0 hry hrx hy hx
 have HR1:=aA hr1
 have HL1:=aA hl1
 have HR2:=aA hr2
 have HL2:=aA hl2
 have HR3:=aA hr3
 have HL3:=aA hl3
 have HR4:=aA hr4
 have HL4:=aA hl4
 have HR5:=aA hr5
 have HL5:=aA hl5
 clear hr1 hl1 hr2 hl2 hr3 hl3 hr4 hl4 hr5 hl5
 have HLM:=aA (dK HL1.out HL5.out (cM nx))
 go_enter Tryz.func32,Tryz.ntmps32
 go_upto_region 2 with(go_at_call 11;(with_reducible refine(pub_32 _ _ _ _ HLX.out (HRX.out.below HS.out.below)).mono ?_);rintro e w1 ⟨Bp,dp,rfl,hb,ho⟩;have HS:=aA (HS.out.row hb ho);have q1:=HS.out.cell 2 rfl 1;have g1:=HS.out.free 2 rfl 1;clear ho hb)
 have HS:=aA (HS.out.setCell 2 rfl 1 (.slice Bp 32 dp))
 clear q1 g1
 generalize World.setCell w1 _ _=w2 at HS ⊢
 have HS:Hid (St w NoB w2 [.row (.slice Bp 32 dp) 5 1 32 (bvs (cA nx)),.cells (w.heap.size+1) #[.slice none 0 0,.slice none 0 0,.slice none 0 0,.slice none 0 0,.slice none 0 0] 32,.cells w.heap.size #[.slice A1 n1 c1,.slice Bp 32 dp,.slice A3 n3 c3,.slice A4 n4 c4,.slice A5 n5 c5] 32]):=HS
 have t1:_=some (Value.slice A1 n1 c1):=HS.out.cell 2 rfl 0
 have t2:_=some (Value.slice Bp 32 dp):=HS.out.cell 2 rfl 1
 have t3:_=some (Value.slice A3 n3 c3):=HS.out.cell 2 rfl 2
 have t4:_=some (Value.slice A4 n4 c4):=HS.out.cell 2 rfl 3
 have t5:_=some (Value.slice A5 n5 c5):=HS.out.cell 2 rfl 4
 have M0:=True.intro
 go_upto_region 3 with(first
  |(clear M1;go_at_call 49;(with_reducible refine(sign_32 _ _ _ _ _ _ _ _ HLY.out HLM.out An (HRY.out.below HS.out.below) (HS.out.rd 0 rfl)).mono ?_);rintro e w4 ⟨Bg,dg,rfl,hb,ho⟩;have HS:=aA (HS.out.row hb ho);have q2:=HS.out.cell 4 rfl 2;have g2:=HS.out.free 4 rfl 2;clear ho hb)
  |(clear M0;go_at_call 73;(with_reducible refine(eD _ _ _ _ _ _ _ _ _ _ _ _ _ _ _ _ _ _ _ _ _ HL1.out An (HR1.out.below HS.out.below) (cM _) An (HS.out.rd 0 rfl) HL3.out An (HR3.out.below HS.out.below) HL4.out An (HR4.out.below HS.out.below) HL5.out An (HR5.out.below HS.out.below)).mono ?_);rintro e w3 ⟨Bm,dm,rfl,hb,ho⟩;have HS:=aA (HS.out.row hb ho);clear ho hb;have M1:=True.intro))
 have HS:=aA (HS.out.setCell 4 rfl 2 (.slice Bg 64 dg))
 clear q2 g2 t1 t2 t3 t4 t5
 generalize World.setCell w4 _ _=w5 at HS ⊢
 have HS:Hid (St w NoB w5 [.row (.slice Bg 64 dg) 5 1 64 (bvs (sigL y (l1++(l5++cA nx)))),.row (.slice Bm (n1+(n5+32)) dm) 5 1 (n1+(n5+32)) (bvs (l1++(l5++cA nx))),.row (.slice Bp 32 dp) 5 1 32 (bvs (cA nx)),.cells (w.heap.size+1) #[.slice none 0 0,.slice none 0 0,.slice none 0 0,.slice none 0 0,.slice none 0 0] 32,.cells w.heap.size #[.slice A1 n1 c1,.slice Bp 32 dp,.slice Bg 64 dg,.slice A4 n4 c4,.slice A5 n5 c5] 32]):=HS
 have t1:_=some (Value.slice A1 n1 c1):=HS.out.cell 4 rfl 0
 have t2:_=some (Value.slice Bp 32 dp):=HS.out.cell 4 rfl 1
 have t3:_=some (Value.slice Bg 64 dg):=HS.out.cell 4 rfl 2
 have t4:_=some (Value.slice A4 n4 c4):=HS.out.cell 4 rfl 3
 have t5:_=some (Value.slice A5 n5 c5):=HS.out.cell 4 rfl 4
 go_wp2_with (first
  |(refine wl_storeC rfl rfl HS.out 8 rfl (vs:=[.slice E1 k1.length f1,.slice E2 k2.length f2,.slice E3 k3.length f3,.slice E4 k4.length f4,.slice E5 k5.length f5]) szSigned (Nat.le_refl _) rfl rfl fE ?_;intro w7 hS7;have HS7:=aA hS7;clear hS7)
  |(go_at_call 74;(with_reducible refine(copied_core _ _ _ _ _ _ _ _ _ _ _ _ _ _ _ _ _ _ _ _ _ HL1.out An (HR1.out.below HS.out.below) (cM _) An (HS.out.rd 2 rfl) (eW _ _) An (HS.out.rd 0 rfl) HL4.out An (HR4.out.below HS.out.below) HL5.out An (HR5.out.below HS.out.below)).mono ?_);rintro e w6 ⟨⟨⟨E1,f1,k1⟩,⟨E2,f2,k2⟩,⟨E3,f3,k3⟩,⟨E4,f4,k4⟩,⟨E5,f5,k5⟩⟩,rfl,hz,hSz⟩;have HS:=aA (HS.out.join hSz);clear hSz;have HZ:=aA hz;clear hz))
 refine bodyPost_ret (results_cell_row rfl _ _ (w.heap.size+1) _ _ _ _ rfl (HS7.out.heap 8 rfl) Tryz.underlying32 rfl Bt) rfl ?_
 exact⟨_,rfl,HZ.out,HS7.out.pickL [0,1,2,3,4] Bz rfl⟩
def seedW (n:UInt8):List UInt8:=n::(List.replicate 30 0++[7])
theorem fI (n:UInt8):(seedW n).length=32:=rfl
theorem seedW_set (n:UInt8):((bvs (List.replicate 32 0)).set 0 (.int .u8 (n.toNat:Int))).set 31 (.int .u8 7)=bvs (seedW n):=rfl
theorem seed24_any (n:UInt8)(w:World):Calls Tryz.prog 10 #[.int .u8 (n.toNat:Int)] w (BN 32 w (seedW n)):=by
 have HS:=aA (St.init w NoB)
 go_enter Tryz.func10,Tryz.ntmps10
 go_upto_region 2 with(refine wl_makeB (n:=32) rfl rfl Tryz.underlying22 infoB HS.out rfl rfl An ?_;intro g w1 hS2 hb2;have HS1:=aA hS2;clear hS2 hb2)
 obtain⟨g',c',hv,_,_,hcs,hfr,hset⟩:=HS1.out.rowOpen 0 rfl An
 injection hv with hv1 _ hv3
 injection hv1 with hv1
 injection hv1 with hv1
 subst hv1 hv3
 have q0:w1.cell? ⟨g,0,none⟩=some (.int .u8 0):=hcs 0 _ rfl
 have q31:w1.cell? ⟨g,31,none⟩=some (.int .u8 0):=hcs 31 _ rfl
 have f0:=hfr 0
 have f31:=hfr 31
 clear hcs hfr hset
 go_wp2_with fail
 go_ret
 have hS3:=(HS1.out.rowSet 0 rfl 0 (.int .u8 (n.toNat:Int)) An).rowSet 0 rfl 31 (.int .u8 7) An
 simp only[List.set_cons_zero] at hS3
 rw[seedW_set] at hS3
 exact⟨_,_,rfl,hS3.below,hS3.ownsRow 0 rfl⟩
theorem szToken:(Tryz.prog.info? 26).map (·.size)=some 4:=Bt
theorem dR {A1 A2 A3 A4:Option Addr}{n1 n2 n3 n4 c1 c2 c3 c4:Nat}:∀v∈[Value.slice A1 n1 c1,.slice A2 n2 c2,.slice A3 n3 c3,.slice A4 n4 c4],v.oneCell'=true:=by
 intro v hv
 simp only[List.mem_cons,List.not_mem_nil,or_false] at hv
 rcases hv with rfl|rfl|rfl|rfl<;>rfl
theorem Sg.val_eq (x:Sg):x.val=.agg #[.slice x.b.A x.b.b.length x.b.c,.slice x.n.A x.n.b.length x.n.c,.slice x.s.A x.s.b.length x.s.c,.slice x.k.A x.k.b.length x.k.c,.slice x.v.A x.v.b.length x.v.c]:=rfl
theorem Tk.val_eq (t:Tk):t.val=.agg #[.slice t.r.A t.r.b.length t.r.c,.slice t.A t.l.length t.c,.slice t.e.A t.e.b.length t.e.c,.slice t.z.A t.z.b.length t.z.c]:=rfl
theorem seed_yes (A:Option Addr)(c:Nat)(w:World):Calls Tryz.prog 31 #[.slice A 32 c] w fun e w'=>e=.returned (.bool true)∧w=w':=by
 go_enter Tryz.func31,Tryz.ntmps31
 go_wp2_with fail
 go_ret
 exact⟨rfl,rfl⟩
theorem seed_no (A:Option Addr)(n c:Nat)(w:World)(hn:n≠32):Calls Tryz.prog 31 #[.slice A n c] w fun e w'=>e=.returned (.bool false)∧w=w':=by
 have q0:((n:Int)==32)=false:=A9
 have q1:decide ((n:Int)=32)=false:=A9
 have q2:¬(n:Int)=32:=An
 clear hn
 go_enter Tryz.func31,Tryz.ntmps31
 go_wp2_with fail
 go_ret
 exact⟨rfl,rfl⟩
structure TkIn (G:List Chunk)(t:Tk):Prop where
 r:t.r.ch∈G
 row:Chunk.row t.row 32 5 t.l.length (aN t.l)∈G
 l:∀y∈t.l,SgIn G y
 e:t.e.ch∈G
 z:t.z.ch∈G
theorem TkIn.mono {G G':List Chunk}{t:Tk}(h:TkIn G t)(hs:∀c∈G,c∈G'):TkIn G' t:=⟨hs _ h.r,hs _ h.row,fun y hy c hc=>hs _ (h.l y hy c hc),hs _ h.e,hs _ h.z⟩
theorem TkIn.ok {w0 w:World}{M:Nat→Prop}{H:List Chunk}{t:Tk}(h:St w0 M w H)(hg:TkIn H t):TkOK w t:=by
 obtain⟨i,hi⟩:=List.getElem?_of_mem hg.row
 exact⟨ch_ok h hg.r,h.rd i hi,fun x hx=>SgIn.ok h (hg.l x hx) (fun c hc=>hc),ch_ok h hg.e,ch_ok h hg.z⟩
theorem pc_ch {H:List Chunk}{A:Option Addr}{n c:Nat}{l:List UInt8}(hl:l.length=n)(i:Nat)(h:H[i]?=some (.row (.slice A n c) 5 1 n (bvs l))):PcV.ch ⟨A,c,l⟩∈H:=by
 subst hl
 exact mG h
def TkG (w:World)(p:Tp)(e:Ending)(w':World):Prop:=∃(t:Tk) (G:List Chunk),e=.returned (.tuple #[t.val,.int .i64 0])∧t.p=p∧TkIn G t∧St w NoB w' G
def TkR (w:World)(p:Tp)(e:Ending)(w':World):Prop:=∃t:Tk,e=.returned (.tuple #[t.val,.int .i64 0])∧t.p=p∧TkOK w' t∧Below w.heap.size w w'
def TkE (w:World)(c:Int)(e:Ending)(w':World):Prop:=e=.returned (.tuple #[tk0.val,.int .i64 c])∧Below w.heap.size w w'
theorem issue_okG (Ay Ax A:Option Addr)(cy cx n c:Nat)(y nx l:List UInt8)(w:World)(hy:y.length=32)(hx:nx.length=32)(hl:l.length=n)(hn:n≤65536)(hry:Rd w (.slice Ay 32 cy) 1 32 (bvs y))(hrx:Rd w (.slice Ax 32 cx) 1 32 (bvs nx))(hr:Rd w (.slice A n c) 1 n (bvs l)) :
  Calls Tryz.prog 9 #[.slice Ay 32 cy,.slice Ax 32 cx,.slice A n c] w (TkG w (issueK y nx l)):=by
 have hS0:=(St.init w NoB).alloc #[.slice none 0 0,.slice none 0 0,.slice none 0 0,.slice none 0 0] 26
 have HS:=aA hS0
 have HRY:=aA hry
 have HRX:=aA hrx
 have HR:=aA hr
 have HLY:=aA hy
 have HLX:=aA hx
 have HL:=aA hl
 have d0:decide ((65536:Int)<(n:Int))=false:=A9
 clear hS0 hry hrx hr hy hx hl
 go_enter Tryz.func9,Tryz.ntmps9
 go_upto_region 3 with(go_at_call 31;(with_reducible refine(seed_yes _ _ _).mono ?_);rintro e wy ⟨rfl,rfl⟩)
 generalize World.alloc w _=wb at HS ⊢
 have M0:=True.intro
 go_wp2_with (first
  |(clear M3;refine wl_storeC rfl rfl HS.out 8 rfl (vs:=[.slice Bp 32 dp,.slice (some ⟨_,0,none⟩) 1 1,.slice Bc 32 dc,.slice none 0 0]) szToken (Nat.le_refl _) rfl rfl dR ?_;intro w7 hS7;have HS7:=aA hS7;clear hS7)
  |(clear M2;go_at_call 33;have HS:=aA (HS.out.lit [.slice E1 k1.length f1,.slice E2 k2.length f2,.slice E3 k3.length f3,.slice E4 k4.length f4,.slice E5 k5.length f5] 32 5 1 rfl Bz);(with_reducible refine(bY _ HLX.out An (HRX.out.below HS.out.below)).mono ?_);rintro e wy ⟨Bc,dc,rfl,hb,ho⟩;have HS:=aA (HS.out.row hb ho);clear ho hb;have M3:=True.intro)
  |(clear M1;go_at_call 32;(with_reducible refine(signed_core _ _ _ _ _ _ _ _ _ _ _ _ _ _ _ _ _ _ _ _ _ _ _ _ _ _ _ HLY.out HLX.out (HRY.out.below HS.out.below) (HRX.out.below HS.out.below) HL.out An (HR.out.below HS.out.below) (rfl:([]:List UInt8).length=0) An (rd_nil _ 1) (rfl:([]:List UInt8).length=0) An (rd_nil _ 1) (rfl:([]:List UInt8).length=0) An (rd_nil _ 1) (rfl:([]:List UInt8).length=0) An (rd_nil _ 1)).mono ?_);rintro e w6 ⟨⟨⟨E1,f1,k1⟩,⟨E2,f2,k2⟩,⟨E3,f3,k3⟩,⟨E4,f4,k4⟩,⟨E5,f5,k5⟩⟩,rfl,hz,hSz⟩;rw[Sg.val_eq];have HS:=aA (HS.out.join hSz);clear hSz;have HZ:=aA hz;clear hz;have M2:=True.intro)
  |(clear M0;go_at_call 11;(with_reducible refine(pub_32 _ _ _ _ HLY.out (HRY.out.below HS.out.below)).mono ?_);rintro e w1 ⟨Bp,dp,rfl,hb,ho⟩;have HS:=aA (HS.out.row hb ho);clear ho hb;have M1:=True.intro))
 refine bodyPost_ret (aB rfl _ _ w.heap.size _ _ _ _ rfl (HS7.out.heap 8 rfl) Tryz.underlying26 rfl Bt) rfl ?_
 refine⟨⟨⟨Bp,dp,cA y⟩,some ⟨w6.heap.size,0,none⟩,1,[⟨⟨E1,f1,k1⟩,⟨E2,f2,k2⟩,⟨E3,f3,k3⟩,⟨E4,f4,k4⟩,⟨E5,f5,k5⟩⟩],⟨Bc,dc,nx⟩,pc0⟩,_,?_,?_,⟨mC _ (pc_ch (cM _) 7 rfl),mC _ (mG (i:=1) rfl),fun x hx=>?_,mC _ (pc_ch HLX.out 0 rfl),List.mem_cons_self ..⟩,HS7.out.row (Below.refl _ _) (World.ownsRow_nil _ _ _ _)⟩
 ·rw[Tk.val_eq]
  simp only[cM,HLX.out]
  rfl
 ·show Tp.mk _ [_] _ _=_
  unfold issueK
  rw[←HZ.out]
  rfl
 ·obtain rfl:=List.mem_singleton.1 hx
  intro c hc
  refine mC _ ?_
  simp only[Sg.chs,List.mem_cons,List.not_mem_nil,or_false] at hc
  rcases hc with rfl|rfl|rfl|rfl|rfl
  ·exact mG (i:=2) rfl
  ·exact mG (i:=3) rfl
  ·exact mG (i:=4) rfl
  ·exact mG (i:=5) rfl
  ·exact mG (i:=6) rfl
theorem tkR_of {w:World}{p:Tp}{e:Ending}{w':World}(h:TkG w p e w'):TkR w p e w':=by
 obtain⟨t,G,h1,h2,h3,h4⟩:=h
 exact⟨t,h1,h2,h3.ok h4,h4.below⟩
theorem issue_ok (Ay Ax A:Option Addr)(cy cx n c:Nat)(y nx l:List UInt8)(w:World)(hy:y.length=32)(hx:nx.length=32)(hl:l.length=n)(hn:n≤65536)(hry:Rd w (.slice Ay 32 cy) 1 32 (bvs y))(hrx:Rd w (.slice Ax 32 cx) 1 32 (bvs nx))(hr:Rd w (.slice A n c) 1 n (bvs l)) :
  Calls Tryz.prog 9 #[.slice Ay 32 cy,.slice Ax 32 cx,.slice A n c] w (TkR w (issueK y nx l)):=(issue_okG Ay Ax A cy cx n c y nx l w hy hx hl hn hry hrx hr).mono fun _ _ h=>tkR_of h
theorem issue_bad1 (Ay Ax A:Option Addr)(m1 m2 n cy cx c:Nat)(w:World)(hne:m1≠32):Calls Tryz.prog 9 #[.slice Ay m1 cy,.slice Ax m2 cx,.slice A n c] w (TkE w 1):=by
 have HS:=aA ((St.init w NoB).alloc #[.slice none 0 0,.slice none 0 0,.slice none 0 0,.slice none 0 0] 26)
 skip
 go_enter Tryz.func9,Tryz.ntmps9
 go_wp2_with (first
  |(refine wl_storeC rfl rfl HS.out 0 rfl (vs:=[.slice none 0 0,.slice none 0 0,.slice none 0 0,.slice none 0 0]) szToken (Nat.le_refl _) rfl rfl dR ?_;intro w7 hS7;have HS7:=aA hS7;clear hS7)
  |(go_at_call 31;(with_reducible refine(seed_no _ _ _ _ hne).mono ?_);rintro e wy ⟨rfl,rfl⟩))
 refine bodyPost_ret (aB rfl _ _ w.heap.size _ _ _ _ rfl (HS7.out.heap 0 rfl) Tryz.underlying26 rfl Bt) rfl ?_
 exact⟨rfl,HS7.out.below⟩
theorem iP {w:World}{B:Option Addr}{n d sz:Nat}{xs:List Value}{k:Nat}{u:Value}(h:Rd w (.slice B n d) sz n xs)(hk:xs[k]?=some u):∃b o,B=some ⟨b,o,none⟩∧b<w.heap.size∧w.cell? ⟨b,o+k,none⟩=some u:=by
 rcases h.cases with⟨_,_,h0⟩|⟨b,o,sp,c',hv,hb,_,_,hl,h4,hc⟩
 ·rw[h0] at hk;simp at hk
 ·injection hv with hv1 _ _
  have hkl:k<xs.length:=(List.getElem?_eq_some_iff.1 hk).1
  have:=h4 An
  subst this hv1
  exact⟨b,o,rfl,hb An,hc k u hk⟩
structure Is1 (w:World)(y nx l:List UInt8)(n:Nat)(b o:Nat)(r e v1 v2 v3 v4 v5:Value):Prop where
 hb:b<w.heap.size
 r:Rd w r 1 32 (bvs (cA y))
 e:Rd w e 1 32 (bvs nx)
 c0:w.cell? ⟨b,o,none⟩=some v1
 c1:w.cell? ⟨b,o+1,none⟩=some v2
 c2:w.cell? ⟨b,o+2,none⟩=some v3
 c3:w.cell? ⟨b,o+3,none⟩=some v4
 c4:w.cell? ⟨b,o+4,none⟩=some v5
 r1:Rd w v1 1 n (bvs l)
 r2:Rd w v2 1 32 (bvs (cA nx))
 r3:Rd w v3 1 64 (bvs (sigL y (l++cA nx)))
theorem Is1.on {w w':World}{y nx l:List UInt8}{n b o:Nat}{r e v1 v2 v3 v4 v5:Value}(h:Is1 w y nx l n b o r e v1 v2 v3 v4 v5)(hb:Below w.heap.size w w'):Is1 w' y nx l n b o r e v1 v2 v3 v4 v5:=
 have k:∀j,w'.cell? ⟨b,j,none⟩=w.cell? ⟨b,j,none⟩:=fun j=>hb.cell (p:=⟨b,j,none⟩) h.hb
 ⟨Nat.lt_of_lt_of_le h.hb hb.size,h.r.below hb,h.e.below hb,(k _).trans h.c0,(k _).trans h.c1,(k _).trans h.c2,(k _).trans h.c3,(k _).trans h.c4,h.r1.below hb,h.r2.below hb,h.r3.below hb⟩
theorem issue1 (Ay Ax A:Option Addr)(cy cx n c:Nat)(y nx l:List UInt8)(w:World)(hy:y.length=32)(hx:nx.length=32)(hl:l.length=n)(hn:n≤65536)(hry:Rd w (.slice Ay 32 cy) 1 32 (bvs y))(hrx:Rd w (.slice Ax 32 cx) 1 32 (bvs nx))(hr:Rd w (.slice A n c) 1 n (bvs l)) :
  Calls Tryz.prog 9 #[.slice Ay 32 cy,.slice Ax 32 cx,.slice A n c] w fun e w'=>∃rA rc b o tc eA ec zA zc A1 c1 A2 c2 A3 c3 A4 c4 A5 c5,e=.returned (.tuple #[.agg #[.slice rA 32 rc,.slice (some ⟨b,o,none⟩) 1 tc,.slice eA 32 ec,.slice zA 0 zc],.int .i64 0])∧Below w.heap.size w w' ∧
   Is1 w' y nx l n b o (.slice rA 32 rc) (.slice eA 32 ec) (.slice A1 n c1) (.slice A2 32 c2) (.slice A3 64 c3) (.slice A4 0 c4) (.slice A5 0 c5):=
 (issue_ok Ay Ax A cy cx n c y nx l w hy hx hl hn hry hrx hr).mono fun e w' h=>by
  obtain⟨⟨⟨rA,rc,rb⟩,tA,tc,tl,⟨eA,ec,eb⟩,⟨zA,zc,zb⟩⟩,rfl,hp,hok,hb⟩:=h
  unfold issueK at hp
  obtain⟨h1,h2,h3,h4⟩:=Tp.mk.inj hp
  replace h1:rb=cA y:=h1
  replace h2:tl.map Sg.p=[signK y nx ⟨l,[],[],[],[]⟩]:=h2
  replace h3:eb=nx:=h3
  replace h4:zb=[]:=h4
  subst h1 h3 h4
  obtain⟨x,rfl,hx1⟩:∃x,tl=[x]∧x.p=signK y eb ⟨l,[],[],[],[]⟩:=by
   match tl,h2 with
   | [x],h2=>exact⟨x,rfl,by simpa using h2⟩
   | [],h2=>simp at h2
   | _::_::_,h2=>simp at h2
  obtain⟨⟨A1,c1,l1⟩,⟨A2,c2,l2⟩,⟨A3,c3,l3⟩,⟨A4,c4,l4⟩,⟨A5,c5,l5⟩⟩:=x
  obtain⟨g1,g2,g3,g4,g5⟩:=Sp.mk.inj (show Sp.mk l1 l2 l3 l4 l5=Sp.mk l (cA eb) (sigL y (l++([]++cA eb))) [] [] from hx1)
  subst g1 g2 g3 g4 g5
  have hx0:=hok.l _ (List.mem_singleton.2 rfl)
  have hrow:Rd w' (.slice tA 1 tc) 5 1 [_,_,_,_,_]:=hok.row
  obtain⟨b,o,rfl,hlt,k0⟩:=iP (k:=0) hrow rfl
  obtain⟨_,_,e1,_,k1⟩:=iP (k:=1) hrow rfl
  obtain⟨_,_,e2,_,k2⟩:=iP (k:=2) hrow rfl
  obtain⟨_,_,e3,_,k3⟩:=iP (k:=3) hrow rfl
  obtain⟨_,_,e4,_,k4⟩:=iP (k:=4) hrow rfl
  cases e1
  cases e2
  cases e3
  cases e4
  have q1:=hok.r
  have q2:=hok.e
  have q3:=hx0.b
  have q4:=hx0.n
  have q5:=hx0.s
  unfold iX at q1 q2 q3 q4 q5
  simp only[cM,eW,hx,hl] at q1 q2 q3 q4 q5
  refine⟨rA,rc,b,o,tc,eA,ec,zA,zc,A1,c1,A2,c2,A3,c3,A4,c4,A5,c5,?_,hb,⟨hlt,q1,q2,?_,?_,?_,k3,k4,q3,q4,q5⟩⟩
  ·rw[Tk.val_eq]
   simp only[cM,hx]
   rfl
  ·rw[show(Value.slice A1 n c1)=.slice A1 l1.length c1 from by rw[hl]]
   exact k0
  ·rw[show(Value.slice A2 32 c2)=.slice A2 (cA eb).length c2 from by rw[cM]]
   exact k1
  ·rw[show(Value.slice A3 64 c3)=.slice A3 (sigL y (l1++([]++cA eb))).length c3 from by rw[eW]]
   exact k2
theorem seedC (k:Nat)(hk:k<256)(w:World):Calls Tryz.prog 10 #[.int .u8 (k:Int)] w (BN 32 w (seedW (UInt8.ofNat k))):=by
 have:=seed24_any (UInt8.ofNat k) w
 rwa [show((UInt8.ofNat k).toNat:Int)=(k:Int) from by rw[UInt8.toNat_ofNat'];omega] at this
theorem awake24_any (w:World):Calls Tryz.prog 8 #[] w fun e w'=>e=.returned (.bool true)∧Below w.heap.size w w':=by
 have HS:=aA (St.init w NoB)
 have SD1:Hid (∀w,Calls Tryz.prog 10 #[.int .u8 1] w (BN 32 w (seedW 1))):=aA (fun w=>seedC 1 Bz w)
 have SD2:Hid (∀w,Calls Tryz.prog 10 #[.int .u8 2] w (BN 32 w (seedW 2))):=aA (fun w=>seedC 2 Bz w)
 have HL1:=aA (show([97]:List UInt8).length=1 from rfl)
 go_enter Tryz.func8,Tryz.ntmps8
 have M0:=True.intro
 go_upto_region 2 with(first
  |(clear M3;refine wl_storeC rfl rfl (HS.out.alloc _ _) 0 rfl (vs:=[.slice rA 32 rc,.slice (some ⟨b,o,none⟩) 1 tc,.slice eA 32 ec,.slice zA 0 zc]) szToken (Nat.le_refl _) rfl rfl dR ?_;intro w7 hS7;have HS:=aA hS7;clear hS7;have M4:=True.intro)
  |(clear M2;go_at_call 9;(with_reducible refine(issue1 _ _ _ _ _ _ _ _ _ _ _ (fI _) (fI _) HL1.out An ((HS.out.skip _).rd 1 rfl) ((HS.out.skip _).rd 0 rfl) HR0.out).mono ?_);rintro e w6 ⟨rA,rc,b,o,tc,eA,ec,zA,zc,A1,c1,A2,c2,A3,c3,A4,c4,A5,c5,rfl,hb,hI⟩;have HB6:=aA (((HS.out.skip _).call hb).below);have HI:=aA hI;have HS:=aA (St.init w6 NoB);clear hb hI;have M3:=True.intro)
  |(clear M1;go_at_call 10;(with_reducible refine(SD2.out _).mono ?_);rintro e wy ⟨B2,d2,rfl,hb,ho⟩;have HS:=aA (HS.out.row hb ho);have hcv:=Go.Joins.run_convert_bytes_const_at (P:=Tryz.prog) wy 22 5 #[.int .u8 97] 1 1 wy.heap.size rfl Tryz.underlying22 Tryz.underlying5;have HR0:Hid (Rd (wy.alloc (.cells #[.int .u8 97] 5 (1,2))) (.slice (some ⟨wy.heap.size,0,none⟩) 1 1) 1 1 (bvs [97])):=aA (rd_mark wy (bvs [97]) 5 (1,2) 1 rfl Bz);clear ho hb;have M2:=True.intro)
  |(clear M0;go_at_call 10;(with_reducible refine(SD1.out _).mono ?_);rintro e wy ⟨B1,d1,rfl,hb,ho⟩;have HS:=aA (HS.out.row hb ho);clear ho hb;have M1:=True.intro))
 have HS:Hid (St w6 NoB w7 [.cells w6.heap.size #[.slice rA 32 rc,.slice (some ⟨b,o,none⟩) 1 tc,.slice eA 32 ec,.slice zA 0 zc] 26]):=HS
 have N0:=True.intro
 go_upto_region 3 with(first
  |(clear N2;refine wl_storeC rfl rfl (HS.out.alloc _ _) 0 rfl (vs:=[.slice none 0 0,.slice none 0 0,.slice none 0 0,.slice none 0 0]) szToken (Nat.le_refl _) rfl rfl dR ?_;intro w9 hS9;have HS:=aA hS9;clear hS9;have N3:=True.intro)
  |(clear N1;go_at_call 9;(with_reducible refine(issue_bad1 _ _ _ _ _ _ _ _ _ _ (show(0:Nat)≠32 by decide)).mono ?_);rintro e w8 ⟨rfl,hb⟩;rw[show tk0.val=.agg #[.slice none 0 0,.slice none 0 0,.slice none 0 0,.slice none 0 0] from rfl];have HS:=aA (HS.out.call hb);clear hb;have N2:=True.intro)
  |(clear N0;go_at_call 10;(with_reducible refine(SD2.out _).mono ?_);rintro e wy ⟨B3,d3,rfl,hb,ho⟩;have HS:=aA (HS.out.row hb ho);clear ho hb;have N1:=True.intro))
 have c1:_=some (Value.slice (some ⟨b,o,none⟩) 1 tc):=HS.out.cell 2 rfl 1
 have c2:_=some (Value.slice eA 32 ec):=HS.out.cell 2 rfl 2
 have hI:=HI.out.on HS.out.below
 have k0:=hI.c0
 have k2:=hI.c2
 have cva:=aY (P:=Tryz.prog) Tryz.underlying22 Tryz.underlying5 Tryz.underlying9 hI.r1
 clear hI
 go_wp2_with fail
 go_ret
 exact⟨rfl,bnx HB6.out HS.out.below⟩
theorem sg_at {w:World}{B:Option Addr}{n d:Nat}{l:List Sg}{k:Nat}{x:Sg}(h:Rd w (.slice B n d) 5 n (aN l))(hk:l[k]?=some x):∃b o,B=some ⟨b,o,none⟩∧b<w.heap.size∧∀w',Below w.heap.size w w' →
  w'.cell? ⟨b,o+k*5,none⟩=some (.slice x.b.A x.b.b.length x.b.c)∧w'.cell? ⟨b,o+k*5+1,none⟩=some (.slice x.n.A x.n.b.length x.n.c)∧w'.cell? ⟨b,o+k*5+2,none⟩=some (.slice x.s.A x.s.b.length x.s.c)∧w'.cell? ⟨b,o+k*5+3,none⟩=some (.slice x.k.A x.k.b.length x.k.c)∧w'.cell? ⟨b,o+k*5+4,none⟩=some (.slice x.v.A x.v.b.length x.v.c):=by
 obtain⟨b,o,rfl,hb,h0⟩:=iP h (k:=k*5) ((sgCells_at hk (j:=0) An).trans rfl)
 have get:∀j u,j<5→x.cells[j]?=some u→w.cell? ⟨b,o+k*5+j,none⟩=some u:=fun j u hj hu=>by
  obtain⟨b',o',e,_,h1⟩:=iP h (k:=k*5+j) (u:=u) ((sgCells_at hk hj).trans hu)
  injection e with e
  injection e with e1 e2 _
  subst e1 e2
  rw[Nat.add_assoc]
  exact h1
 refine⟨b,o,rfl,hb,fun w' hw=>?_⟩
 have k1:∀j,w'.cell? ⟨b,j,none⟩=w.cell? ⟨b,j,none⟩:=fun j=>hw.cell (p:=⟨b,j,none⟩) hb
 exact⟨(k1 _).trans (get 0 _ An rfl),(k1 _).trans (get 1 _ An rfl),(k1 _).trans (get 2 _ An rfl),(k1 _).trans (get 3 _ An rfl),(k1 _).trans (get 4 _ An rfl)⟩
theorem St.rot {w0 w:World}{M:Nat→Prop}(A B:List Chunk)(h:St w0 M w (A++B)):St w0 M w (B++A):=by
 have key:∀(i:Nat) (c:Chunk),(B++A)[i]?=some c→(A++B)[if i<B.length then i+A.length else i - B.length]?=some c:=by
  intro i c hc
  rw[List.getElem?_append] at hc
  split
  ·rename_i hlt
   rw[if_pos hlt] at hc
   rw[List.getElem?_append_right An,Nat.add_sub_cancel]
   exact hc
  ·rename_i hlt
   rw[if_neg hlt] at hc
   have:=(List.getElem?_eq_some_iff.1 hc).1
   rw[List.getElem?_append_left this]
   exact hc
 have lt:∀(i:Nat) (c:Chunk),(B++A)[i]?=some c→i<B.length+A.length:=fun i c hc=>by
  have:=(List.getElem?_eq_some_iff.1 hc).1
  rwa [List.length_append] at this
 exact⟨h.ext,fun i c hc=>h.sat _ c (key i c hc),fun i c k hc=>h.own _ c k (key i c hc),
  fun i j c d k hij hc hd=>h.apart _ _ c d k (by have:=lt i c hc;have:=lt j d hd;split<;>split<;>omega) (key i c hc) (key j d hd)⟩
theorem St.cut {w0 w:World}{M:Nat→Prop}(A:List Chunk)(x:Chunk)(B:List Chunk)(h:St w0 M w (A++x::B)):St w0 M w (A++B):=by
 have key:∀(i:Nat) (c:Chunk),(A++B)[i]?=some c→(A++x::B)[if i<A.length then i else i+1]?=some c:=by
  intro i c hc
  rw[List.getElem?_append] at hc
  split
  ·rename_i hlt
   rw[if_pos hlt] at hc
   rw[List.getElem?_append_left hlt]
   exact hc
  ·rename_i hlt
   rw[if_neg hlt] at hc
   rw[List.getElem?_append_right An,show i+1 - A.length=(i - A.length)+1 from by omega,List.getElem?_cons_succ]
   exact hc
 exact⟨h.ext,fun i c hc=>h.sat _ c (key i c hc),fun i c k hc=>h.own _ c k (key i c hc),
  fun i j c d k hij hc hd=>h.apart _ _ c d k (by split<;>split<;>omega) (key i c hc) (key j d hd)⟩
theorem SgIn.mono {G G':List Chunk}{y:Sg}(h:SgIn G y)(hs:∀c∈G,c∈G'):SgIn G' y:=fun c hc=>hs c (h c hc)
theorem sgIn_self (G:List Chunk)(y:Sg):SgIn (G++y.chs) y:=fun c hc=>List.mem_append_right G hc
theorem sgIn_app {G:List Chunk}{y:Sg}(H:List Chunk)(h:SgIn G y):SgIn (G++H) y:=fun c hc=>List.mem_append_left H (h c hc)
theorem dD (args:Array Value)(w:World):(callFunc 33 args).run Tryz.prog w=.ok (.enter 33 args) w:=Bt
theorem tySg:RowTy Tryz.prog 24 32 5 120:=fQ (z:=.agg #[.slice none 0 0,.slice none 0 0,.slice none 0 0,.slice none 0 0,.slice none 0 0]) Tryz.underlying24 Bt rfl Bz
def TkO (w:World)(l1 l2 l3:List UInt8)(l:List Sg)(m1 m2 m3 n:Nat)(e:Ending)(w':World):Prop:=∃B1 d1 X x B2 d2 B3 d3 zs G,e=.returned (.agg #[.slice B1 m1 d1,.slice X n x,.slice B2 m2 d2,.slice B3 m3 d3])∧zs.length=n∧zs.map Sg.p=l.map Sg.p∧(∀y∈zs,SgIn G y) ∧
 St w NoB w' (.row (.slice X n x) 32 5 n (aN zs)::.row (.slice B1 m1 d1) 5 1 m1 (bvs l1)::.row (.slice B2 m2 d2) 5 1 m2 (bvs l2)::.row (.slice B3 m3 d3) 5 1 m3 (bvs l3)::G)
def Sp.sm (x:Sp):Prop:=x.b.length≤1000000∧x.n.length≤1000000∧x.s.length≤1000000∧x.k.length≤1000000∧x.v.length≤1000000
def Tp.sm (p:Tp):Prop:=p.r.length≤1000000∧p.e.length≤1000000∧p.z.length≤1000000∧p.l.length≤1000∧∀x∈p.l,x.sm
theorem token_core (A1 A2 A3 A:Option Addr)(m1 m2 m3 n c1 c2 c3 c:Nat)(l1 l2 l3:List UInt8)(l:List Sg)(w:World)(hl1:l1.length=m1)(hl2:l2.length=m2)(hl3:l3.length=m3)(hl:l.length=n)(hm1:m1≤1000000)(hm2:m2≤1000000)(hm3:m3≤1000000)(hn:n≤1000)
  (hr1:Rd w (.slice A1 m1 c1) 1 m1 (bvs l1))(hr2:Rd w (.slice A2 m2 c2) 1 m2 (bvs l2))(hr3:Rd w (.slice A3 m3 c3) 1 m3 (bvs l3))(hr:Rd w (.slice A n c) 5 n (aN l))(hx:∀x∈l,SgOK w x)(hs:∀x∈l,x.p.sm) :
  Calls Tryz.prog 52 #[.agg #[.slice A1 m1 c1,.slice A n c,.slice A2 m2 c2,.slice A3 m3 c3]] w (TkO w l1 l2 l3 l m1 m2 m3 n):=by
 have hS0:=((St.init w NoB).alloc #[.slice A1 m1 c1,.slice A n c,.slice A2 m2 c2,.slice A3 m3 c3] 26).alloc #[.slice none 0 0,.slice none 0 0,.slice none 0 0,.slice none 0 0] 26
 rw[size_alloc1] at hS0
 have HS:=aA hS0
 have HR1:=aA hr1
 have HR2:=aA hr2
 have HR3:=aA hr3
 have HR:=aA hr
 have HL1:=aA hl1
 have HL2:=aA hl2
 have HL3:=aA hl3
 have HL:=aA hl
 have HX:=aA hx
 have HSM:=aA hs
 clear hS0 hr1 hr2 hr3 hr hl1 hl2 hl3 hl hx hs
 go_enter Tryz.func52,Tryz.ntmps52
 go_upto_region 1 with fail
 go_cut [3] from 6 to 15 (fun p wx=>∃ob B1 d1 B2 d2 B3 d3,p=.pointer (some ⟨ob,0,none⟩)∧Hid (St w NoB wx [.row (.slice none 0 0) 32 5 0 (aN []),.cells ob #[.slice B1 m1 d1,.slice none 0 0,.slice B2 m2 d2,.slice B3 m3 d3] 26,.row (.slice B1 m1 d1) 5 1 m1 (bvs l1),.row (.slice B2 m2 d2) 5 1 m2 (bvs l2),.row (.slice B3 m3 d3) 5 1 m3 (bvs l3),.cells (w.heap.size+1) #[.slice none 0 0,.slice none 0 0,.slice none 0 0,.slice none 0 0] 26,.cells w.heap.size #[.slice A1 m1 c1,.slice A n c,.slice A2 m2 c2,.slice A3 m3 c3] 26]))
 case first =>
  generalize World.alloc (World.alloc w _) _=w2 at HS ⊢
  refine fZ (.op 0 1 (.op 1 0 (.op 3 1 (.op 4 0 (.op 6 1 (.op 7 0 (.two 2 10 (.two 5 10 (.two 8 10 (.op 9 1 (.op 10 2 (.op 11 2 (.nil)))) (.op 8 2 (.op 9 1 (.op 11 2 (.nil))))) (.op 5 2 (.op 8 2 (.op 9 1 (.op 11 2 (.nil)))))) (.op 2 2 (.op 5 2 (.op 8 2 (.op 9 1 (.op 11 2 (.nil))))))))))))) Bt Bt (fun _ _ _ _ h=>h) ?_
  have HS:=aA HS.out.drew
  generalize w2.drew=w3 at HS ⊢
  have t0:_=some (Value.slice A1 m1 c1):=HS.out.cell 1 rfl 0
  have t2:_=some (Value.slice A2 m2 c2):=HS.out.cell 1 rfl 2
  have t3:_=some (Value.slice A3 m3 c3):=HS.out.cell 1 rfl 3
  have HR1:=aA (HR1.out.below HS.out.below)
  have HR2:=aA (HR2.out.below HS.out.below)
  have HR3:=aA (HR3.out.below HS.out.below)
  have HA:=aA (St.init w3 NoB)
  (refine pS (v:=?_) rfl rfl ?_);(try refine nm ?_)
  (refine lS (v:=?_) rfl rfl rfl ?_);(try refine nm ?_)
  (refine pS (v:=?_) rfl rfl ?_);(try refine nm ?_)
  (refine lS (v:=?_) rfl rfl rfl ?_);(try refine nm ?_)
  (refine pS (v:=?_) rfl rfl ?_);(try refine nm ?_)
  (refine lS (v:=?_) rfl rfl rfl ?_);(try refine nm ?_)
  refine wpS_two ?_ ?_
  ·refine aQ rfl rfl ?_;intro K hK;refine bG rfl dD rfl (bY _ HL1.out An (HR1.out.below HA.out.below)) ?_;rintro e wy ⟨B1,d1,rfl,hb,ho⟩;refine⟨_,rfl,?_⟩;have HA:=aA (HA.out.row hb ho);clear hb ho;refine hK _ _ (aE HA.out.below ?_);(try refine nm ?_)
   refine wpS_two ?_ ?_
   ·refine aQ rfl rfl ?_;intro K hK;refine bG rfl dD rfl (bY _ HL2.out An (HR2.out.below HA.out.below)) ?_;rintro e wy ⟨B2,d2,rfl,hb,ho⟩;refine⟨_,rfl,?_⟩;have HA:=aA (HA.out.row hb ho);clear hb ho;refine hK _ _ (aE HA.out.below ?_);(try refine nm ?_)
    refine wpS_two ?_ ?_
    ·refine aQ rfl rfl ?_;intro K hK;refine bG rfl dD rfl (bY _ HL3.out An (HR3.out.below HA.out.below)) ?_;rintro e wy ⟨B3,d3,rfl,hb,ho⟩;refine⟨_,rfl,?_⟩;have HA:=aA (HA.out.row hb ho);clear hb ho;refine hK _ _ (aE HA.out.below ?_);(try refine nm ?_)
     (refine pS (v:=?_) rfl rfl ?_);(try refine nm ?_)
     refine aQ rfl rfl ?_;intro K hK;(show Oper.wp _ _ _ _ _ _);(unfold Oper.wp;go_simp);have HA:=aA (HA.out.alloc #[.slice none 0 0,.slice none 0 0,.slice none 0 0,.slice none 0 0] 26);refine hK _ _ (aE HA.out.below ?_);(try refine nm ?_)
     refine aQ rfl rfl ?_;intro K hK;refine cP rfl HA.out 0 rfl (vs:=[.slice B1 m1 d1,.slice none 0 0,.slice B2 m2 d2,.slice B3 m3 d3]) szToken (Nat.le_refl _) rfl rfl dR ?_;intro wz hS9;have HA:=aA hS9;clear hS9;refine hK _ _ (aE HA.out.below ?_);(try refine nm ?_)
     refine bC ?_
     go_wp2_with fail
     go_meet
     exact⟨_,B1,d1,B2,d2,B3,d3,rfl,aA (((HS.out.join HA.out).pickL [0,3,2,1,4,5] Bz rfl).row (Below.refl _ _) (World.ownsRow_nil _ _ _ _))⟩
    ·refine aQ rfl rfl ?_;intro K hK;(show Oper.wp _ _ _ _ _ _);(unfold Oper.wp;go_simp);have HA:=aA (HA.out.alloc #[.slice none 0 0,.slice none 0 0,.slice none 0 0,.slice none 0 0] 26);refine hK _ _ (aE HA.out.below ?_);(try refine nm ?_)
     refine aQ rfl rfl ?_;intro K hK;refine bG rfl dD rfl (bY _ HL3.out An (HR3.out.below HA.out.below)) ?_;rintro e wy ⟨B3,d3,rfl,hb,ho⟩;refine⟨_,rfl,?_⟩;have HA:=aA (HA.out.row hb ho);clear hb ho;refine hK _ _ (aE HA.out.below ?_);(try refine nm ?_)
     (refine pS (v:=?_) rfl rfl ?_);(try refine nm ?_)
     refine aQ rfl rfl ?_;intro K hK;refine cP rfl HA.out 1 rfl (vs:=[.slice B1 m1 d1,.slice none 0 0,.slice B2 m2 d2,.slice B3 m3 d3]) szToken (Nat.le_refl _) rfl rfl dR ?_;intro wz hS9;have HA:=aA hS9;clear hS9;refine hK _ _ (aE HA.out.below ?_);(try refine nm ?_)
     refine bC ?_
     go_wp2_with fail
     go_meet
     exact⟨_,B1,d1,B2,d2,B3,d3,rfl,aA (((HS.out.join HA.out).pickL [1,3,2,0,4,5] Bz rfl).row (Below.refl _ _) (World.ownsRow_nil _ _ _ _))⟩
   ·refine aQ rfl rfl ?_;intro K hK;(show Oper.wp _ _ _ _ _ _);(unfold Oper.wp;go_simp);have HA:=aA (HA.out.alloc #[.slice none 0 0,.slice none 0 0,.slice none 0 0,.slice none 0 0] 26);refine hK _ _ (aE HA.out.below ?_);(try refine nm ?_)
    refine aQ rfl rfl ?_;intro K hK;refine bG rfl dD rfl (bY _ HL2.out An (HR2.out.below HA.out.below)) ?_;rintro e wy ⟨B2,d2,rfl,hb,ho⟩;refine⟨_,rfl,?_⟩;have HA:=aA (HA.out.row hb ho);clear hb ho;refine hK _ _ (aE HA.out.below ?_);(try refine nm ?_)
    refine aQ rfl rfl ?_;intro K hK;refine bG rfl dD rfl (bY _ HL3.out An (HR3.out.below HA.out.below)) ?_;rintro e wy ⟨B3,d3,rfl,hb,ho⟩;refine⟨_,rfl,?_⟩;have HA:=aA (HA.out.row hb ho);clear hb ho;refine hK _ _ (aE HA.out.below ?_);(try refine nm ?_)
    (refine pS (v:=?_) rfl rfl ?_);(try refine nm ?_)
    refine aQ rfl rfl ?_;intro K hK;refine cP rfl HA.out 2 rfl (vs:=[.slice B1 m1 d1,.slice none 0 0,.slice B2 m2 d2,.slice B3 m3 d3]) szToken (Nat.le_refl _) rfl rfl dR ?_;intro wz hS9;have HA:=aA hS9;clear hS9;refine hK _ _ (aE HA.out.below ?_);(try refine nm ?_)
    refine bC ?_
    go_wp2_with fail
    go_meet
    exact⟨_,B1,d1,B2,d2,B3,d3,rfl,aA (((HS.out.join HA.out).pickL [2,3,1,0,4,5] Bz rfl).row (Below.refl _ _) (World.ownsRow_nil _ _ _ _))⟩
  ·refine aQ rfl rfl ?_;intro K hK;(show Oper.wp _ _ _ _ _ _);(unfold Oper.wp;go_simp);have HA:=aA (HA.out.alloc #[.slice none 0 0,.slice none 0 0,.slice none 0 0,.slice none 0 0] 26);refine hK _ _ (aE HA.out.below ?_);(try refine nm ?_)
   refine aQ rfl rfl ?_;intro K hK;refine bG rfl dD rfl (bY _ HL1.out An (HR1.out.below HA.out.below)) ?_;rintro e wy ⟨B1,d1,rfl,hb,ho⟩;refine⟨_,rfl,?_⟩;have HA:=aA (HA.out.row hb ho);clear hb ho;refine hK _ _ (aE HA.out.below ?_);(try refine nm ?_)
   refine aQ rfl rfl ?_;intro K hK;refine bG rfl dD rfl (bY _ HL2.out An (HR2.out.below HA.out.below)) ?_;rintro e wy ⟨B2,d2,rfl,hb,ho⟩;refine⟨_,rfl,?_⟩;have HA:=aA (HA.out.row hb ho);clear hb ho;refine hK _ _ (aE HA.out.below ?_);(try refine nm ?_)
   refine aQ rfl rfl ?_;intro K hK;refine bG rfl dD rfl (bY _ HL3.out An (HR3.out.below HA.out.below)) ?_;rintro e wy ⟨B3,d3,rfl,hb,ho⟩;refine⟨_,rfl,?_⟩;have HA:=aA (HA.out.row hb ho);clear hb ho;refine hK _ _ (aE HA.out.below ?_);(try refine nm ?_)
   (refine pS (v:=?_) rfl rfl ?_);(try refine nm ?_)
   refine aQ rfl rfl ?_;intro K hK;refine cP rfl HA.out 3 rfl (vs:=[.slice B1 m1 d1,.slice none 0 0,.slice B2 m2 d2,.slice B3 m3 d3]) szToken (Nat.le_refl _) rfl rfl dR ?_;intro wz hS9;have HA:=aA hS9;clear hS9;refine hK _ _ (aE HA.out.below ?_);(try refine nm ?_)
   refine bC ?_
   go_wp2_with fail
   go_meet
   exact⟨_,B1,d1,B2,d2,B3,d3,rfl,aA (((HS.out.join HA.out).pickL [3,2,1,0,4,5] Bz rfl).row (Below.refl _ _) (World.ownsRow_nil _ _ _ _))⟩
 case rest =>
  obtain⟨ob,B1,d1,B2,d2,B3,d3,rfl,HS⟩:=hcut
  have t1:_=some (Value.slice A n c):=HS.out.cell 6 rfl 1
  go_wp2_with fail
  go_loopw [19] (fun iv wr=>∃(k:Nat) (X:Option Addr) (x:Nat) (zs:List Sg) (G:List Chunk),k≤n∧iv=.int .i64 (k:Int)∧zs.length=k∧zs.map Sg.p=(l.take k).map Sg.p∧(∀y∈zs,SgIn G y)∧Hid (St w NoB wr (.row (.slice X k x) 32 5 k (aN zs)::.cells ob #[.slice B1 m1 d1,.slice X k x,.slice B2 m2 d2,.slice B3 m3 d3] 26::.row (.slice B1 m1 d1) 5 1 m1 (bvs l1)::.row (.slice B2 m2 d2) 5 1 m2 (bvs l2)::.row (.slice B3 m3 d3) 5 1 m3 (bvs l3)::.cells (w.heap.size+1) #[.slice none 0 0,.slice none 0 0,.slice none 0 0,.slice none 0 0] 26::.cells w.heap.size #[.slice A1 m1 c1,.slice A n c,.slice A2 m2 c2,.slice A3 m3 c3] 26::G))) (fun iv _=>n - (intOf iv).toNat)
  case atStart=>exact⟨0,none,0,[],[],An,rfl,rfl,rfl,fun y hy=>absurd hy List.not_mem_nil,HS⟩
  case round =>
   clear HS t1
   obtain⟨k,X,x,zs,G,hk,rfl,hzl,hzp,hzG,HS⟩:=hrel
   have HZL:=aA hzl
   have HZP:=aA hzp
   have HZG:=aA hzG
   clear hzl hzp hzG
   by_cases hlt:k<n
   ·have d0:decide ((k:Int)<(n:Int))=true:=by simp;omega
    have d1':decide (k<n)=true:=A9
    have kn:(k:Int)<(n:Int):=An
    have kl:k<l.length:=Ca
    have hlk:l[k]?=some l[k]:=gE kl
    obtain⟨b,o,rfl,hb8,hc⟩:=sg_at HR.out hlk
    obtain⟨k0,k1,k2,k3,k4⟩:=hc _ HS.out.below
    have HOX:=aA (HX.out l[k] (List.getElem_mem kl))
    have HSX:=aA (HSM.out l[k] (List.getElem_mem kl))
    have HT:=aA (show(l.take (k+1)).map Sg.p=(l.take k).map Sg.p++[(l[k]).p] by rw[List.take_add_one,hlk,List.map_append];rfl)
    generalize l[k]=y at k0 k1 k2 k3 k4 HOX HSX HT
    obtain⟨⟨E1,f1,y1⟩,⟨E2,f2,y2⟩,⟨E3,f3,y3⟩,⟨E4,f4,y4⟩,⟨E5,f5,y5⟩⟩:=y
    clear hc hlk kl
    have hx1:y1.length≤1000000:=HSX.out.1
    have hx2:y2.length≤1000000:=HSX.out.2.1
    have hx3:y3.length≤1000000:=HSX.out.2.2.1
    have hx4:y4.length≤1000000:=HSX.out.2.2.2.1
    have hx5:y5.length≤1000000:=HSX.out.2.2.2.2
    clear HSX
    go_upto_region 5 with(refine wl_storeC rfl rfl (HS.out.alloc _ _) 0 rfl (vs:=[.slice E1 y1.length f1,.slice E2 y2.length f2,.slice E3 y3.length f3,.slice E4 y4.length f4,.slice E5 y5.length f5]) szSigned (Nat.le_refl _) rfl rfl fE ?_;intro w5 hS5;have HS:=aA hS5;clear hS5)
    have HS:Hid (St w NoB w5 (.cells wr.heap.size #[.slice E1 y1.length f1,.slice E2 y2.length f2,.slice E3 y3.length f3,.slice E4 y4.length f4,.slice E5 y5.length f5] 32::.row (.slice X k x) 32 5 k (aN zs)::.cells ob #[.slice B1 m1 d1,.slice X k x,.slice B2 m2 d2,.slice B3 m3 d3] 26::.row (.slice B1 m1 d1) 5 1 m1 (bvs l1)::.row (.slice B2 m2 d2) 5 1 m2 (bvs l2)::.row (.slice B3 m3 d3) 5 1 m3 (bvs l3)::.cells (w.heap.size+1) #[.slice none 0 0,.slice none 0 0,.slice none 0 0,.slice none 0 0] 26::.cells w.heap.size #[.slice A1 m1 c1,.slice (some ⟨b,o,none⟩) n c,.slice A2 m2 c2,.slice A3 m3 c3] 26::G)):=HS
    generalize wr.heap.size=sb at HS ⊢
    clear k0 k1 k2 k3 k4
    refine fZ (.op 0 1 (.op 1 0 (.op 2 2 (.op 3 2 (.op 4 2 (.op 5 3 (.op 6 1 (.op 7 4 (.nil))))))))) Bt Bt (fun _ _ _ _ h=>h) ?_
    have HS:=aA HS.out.drew
    generalize w5.drew=w6 at HS ⊢
    have q0:_=some (Value.slice E1 y1.length f1):=HS.out.cell 0 rfl 0
    have q1:_=some (Value.slice E2 y2.length f2):=HS.out.cell 0 rfl 1
    have q2:_=some (Value.slice E3 y3.length f3):=HS.out.cell 0 rfl 2
    have q3:_=some (Value.slice E4 y4.length f4):=HS.out.cell 0 rfl 3
    have q4:_=some (Value.slice E5 y5.length f5):=HS.out.cell 0 rfl 4
    have p1:_=some (Value.slice X k x):=HS.out.cell 2 rfl 1
    have HE1:=aA (show Rd _ (.slice E1 y1.length f1) 1 y1.length (bvs y1) from(HOX.out.on HS.out.below).b)
    have HE2:=aA (show Rd _ (.slice E2 y2.length f2) 1 y2.length (bvs y2) from(HOX.out.on HS.out.below).n)
    have HE3:=aA (show Rd _ (.slice E3 y3.length f3) 1 y3.length (bvs y3) from(HOX.out.on HS.out.below).s)
    have HE4:=aA (show Rd _ (.slice E4 y4.length f4) 1 y4.length (bvs y4) from(HOX.out.on HS.out.below).k)
    have HE5:=aA (show Rd _ (.slice E5 y5.length f5) 1 y5.length (bvs y5) from(HOX.out.on HS.out.below).v)
    have M0:=True.intro
    go_wp2_with (first
     |(clear M0;go_at_call 74;(with_reducible refine(copied_core _ _ _ _ _ _ _ _ _ _ _ _ _ _ _ _ _ _ _ _ _ rfl hx1 HE1.out rfl hx2 HE2.out rfl hx3 HE3.out rfl hx4 HE4.out rfl hx5 HE5.out).mono ?_);rintro e wy ⟨⟨⟨F1,g1,z1⟩,⟨F2,g2,z2⟩,⟨F3,g3,z3⟩,⟨F4,g4,z4⟩,⟨F5,g5,z5⟩⟩,rfl,hz,hSz⟩;rw[Sg.val_eq];have hb:=hSz.below;have HS:=aA (HS.out.join hSz);clear hSz;have HZ:=aA hz;clear hz;have hbA:=hb.alloc hb.size (.cells #[.slice F1 z1.length g1,.slice F2 z2.length g2,.slice F3 z3.length g3,.slice F4 z4.length g4,.slice F5 z5.length g5] 32);have M1:=True.intro)
     |(clear M1;refine wpS_late rfl rfl ?_;intro K hK;refine gU rfl tySg (HS.out.skip _) 6 rfl rfl rfl (iO _ [.slice F1 z1.length g1,.slice F2 z2.length g2,.slice F3 z3.length g3,.slice F4 z4.length g4,.slice F5 z5.length g5] 32 5 1 rfl Bz) fE An Bz ?_;intro A7 c7 w7 hS7;have HS:=aA hS7;clear hS7;have q8:_=some (Value.slice X k x):=HS.out.cell 7 rfl 1;have g8:=HS.out.free 7 rfl 1;have M2:=True.intro)
     |(refine bC ?_)|((with_reducible refine fromT_refl ?_);(try refine nm ?_))|((with_reducible refine aE Df ?_);(try refine nm ?_))|(refine wpS_pure (v:=?_) rfl rfl ?_ ?_;rotate_left;(intro wx;go_simp;try go_bits)<;>(with_reducible rfl);(try refine nm ?_))|(refine wpS_load (v:=?_) rfl rfl rfl ?_ ?_;rotate_left;(go_simp;try go_bits)<;>(with_reducible rfl);(try refine nm ?_))|(refine wpS_read (v:=?_) rfl rfl ?_ ?_;rotate_left;(intro wx hx;go_simp;try go_bits)<;>(with_reducible rfl);(try refine nm ?_))|(refine aQ rfl rfl ?_;intro K hK)|(refine wpS_late rfl rfl ?_;intro K hK)|(refine wpS_any rfl rfl ?_;intro K hK)|(refine wpS_skip rfl rfl ?_;(try refine nm ?_)))
    have HS:=aA (HS.out.setCell 7 rfl 1 (.slice A7 (k+1) c7))
    generalize World.setCell w7 _ _=w8 at HS ⊢
    have HC:=aA (show aN (zs++[⟨⟨F1,g1,z1⟩,⟨F2,g2,z2⟩,⟨F3,g3,z3⟩,⟨F4,g4,z4⟩,⟨F5,g5,z5⟩⟩])=aN zs++[.slice F1 z1.length g1,.slice F2 z2.length g2,.slice F3 z3.length g3,.slice F4 z4.length g4,.slice F5 z5.length g5] by rw[sgCells_app];rfl)
    rw[←HC.out] at HS
    have HS:Hid (St w NoB w8 (Sg.chs ⟨⟨F1,g1,z1⟩,⟨F2,g2,z2⟩,⟨F3,g3,z3⟩,⟨F4,g4,z4⟩,⟨F5,g5,z5⟩⟩++(.cells sb #[.slice E1 y1.length f1,.slice E2 y2.length f2,.slice E3 y3.length f3,.slice E4 y4.length f4,.slice E5 y5.length f5] 32::.row (.slice A7 (k+1) c7) 32 5 (k+1) (aN (zs++[⟨⟨F1,g1,z1⟩,⟨F2,g2,z2⟩,⟨F3,g3,z3⟩,⟨F4,g4,z4⟩,⟨F5,g5,z5⟩⟩]))::.cells ob #[.slice B1 m1 d1,.slice A7 (k+1) c7,.slice B2 m2 d2,.slice B3 m3 d3] 26::.row (.slice B1 m1 d1) 5 1 m1 (bvs l1)::.row (.slice B2 m2 d2) 5 1 m2 (bvs l2)::.row (.slice B3 m3 d3) 5 1 m3 (bvs l3)::.cells (w.heap.size+1) #[.slice none 0 0,.slice none 0 0,.slice none 0 0,.slice none 0 0] 26::.cells w.heap.size #[.slice A1 m1 c1,.slice (some ⟨b,o,none⟩) n c,.slice A2 m2 c2,.slice A3 m3 c3] 26::G))):=HS
    have HS:=aA (St.rot _ _ HS.out).tail
    go_roundw
    case rel=>exact⟨k+1,A7,c7,zs++[Sg.mk (PcV.mk F1 g1 z1) (PcV.mk F2 g2 z2) (PcV.mk F3 g3 z3) (PcV.mk F4 g4 z4) (PcV.mk F5 g5 z5)],G++Sg.chs ⟨⟨F1,g1,z1⟩,⟨F2,g2,z2⟩,⟨F3,g3,z3⟩,⟨F4,g4,z4⟩,⟨F5,g5,z5⟩⟩,An,Cg,by rw[List.length_append,HZL.out];rfl,by rw[List.map_append,HZP.out,HT.out,List.map_singleton,HZ.out];rfl,(fun y hy=>by
      rcases List.mem_append.1 hy with h|h
      ·exact sgIn_app _ (HZG.out y h)
      ·rw[List.mem_singleton.1 h];exact sgIn_self G _),HS⟩
    case measure=>(simp[intOf])<;>omega
   ·obtain rfl:k=n:=by omega
    have d0:decide ((k:Int)<(k:Int))=false:=B0
    have d0':decide (k<k)=false:=B0
    have t0:_=some (Value.slice B1 m1 d1):=HS.out.cell 1 rfl 0
    have t1:_=some (Value.slice X k x):=HS.out.cell 1 rfl 1
    have t2:_=some (Value.slice B2 m2 d2):=HS.out.cell 1 rfl 2
    have t3:_=some (Value.slice B3 m3 d3):=HS.out.cell 1 rfl 3
    go_wp2_with (refine wl_storeC rfl rfl HS.out 5 rfl (vs:=[.slice B1 m1 d1,.slice X k x,.slice B2 m2 d2,.slice B3 m3 d3]) szToken (Nat.le_refl _) rfl rfl dR ?_;intro w7 hS7;have HS7:=aA hS7;clear hS7)
    refine bodyPost_ret (results_cell_row rfl _ _ (w.heap.size+1) _ _ _ _ rfl (HS7.out.heap 5 rfl) Tryz.underlying26 rfl Bt) rfl ?_
    have hzp:=HZP.out
    rw[List.take_of_length_le Dp] at hzp
    have HS:Hid (St w NoB w7 (.row (.slice X k x) 32 5 k (aN zs)::.cells ob #[.slice B1 m1 d1,.slice X k x,.slice B2 m2 d2,.slice B3 m3 d3] 26::.row (.slice B1 m1 d1) 5 1 m1 (bvs l1)::.row (.slice B2 m2 d2) 5 1 m2 (bvs l2)::.row (.slice B3 m3 d3) 5 1 m3 (bvs l3)::.cells (w.heap.size+1) #[.slice B1 m1 d1,.slice X k x,.slice B2 m2 d2,.slice B3 m3 d3] 26::.cells w.heap.size #[.slice A1 m1 c1,.slice A k c,.slice A2 m2 c2,.slice A3 m3 c3] 26::G)):=HS7
    exact⟨B1,d1,X,x,B2,d2,B3,d3,zs,G,rfl,HZL.out,hzp,HZG.out,St.cut [_,_,_,_] _ _ (St.cut [_,_,_,_] _ _ (St.cut [_] _ _ HS.out))⟩
structure Rz where
 c:Nat
 p:Tp
def TkQ (w:World)(r:Rz)(e:Ending)(w':World):Prop:=∃(t:Tk) (G:List Chunk),e=.returned (.tuple #[t.val,.int .i64 (r.c:Int)])∧t.p=r.p∧TkIn G t∧St w NoB w' G
theorem tkQ_ok {w:World}{p:Tp}{e:Ending}{w':World}(h:TkG w p e w'):TkQ w ⟨0,p⟩ e w':=by
 obtain⟨t,G,h1,h2,h3,h4⟩:=h
 exact⟨t,G,h1,h2,h3,h4⟩
theorem tk0_in (H:List Chunk):TkIn (pc0.ch::.row (.slice none 0 0) 32 5 0 []::H) tk0:=⟨List.mem_cons_self ..,mC _ (List.mem_cons_self ..),(fun y hy=>absurd hy List.not_mem_nil),List.mem_cons_self ..,List.mem_cons_self ..⟩
theorem gO {w:World}{c:Nat}{e:Ending}{w':World}(h:TkE w (c:Int) e w'):TkQ w ⟨c,tp0⟩ e w':=by
 obtain⟨h1,h2⟩:=h
 exact⟨tk0,_,h1,tk0_p,tk0_in [],(((St.init w NoB).call h2).row (Below.refl _ _) (World.ownsRow_nil _ _ _ _)).row (Below.refl _ _) (World.ownsRow_nil _ _ _ _)⟩
noncomputable def sealRz (t:Tp):Rz:=match t.l.getLast? with
 | none=>⟨1,tp0⟩
 | some x=>if t.e.length≠32 then ⟨13,tp0⟩ else ⟨0,sealK t x⟩
theorem seal_bad1 (A1 A2 A3 A:Option Addr)(m1 m2 m3 c1 c2 c3 c:Nat)(w:World) :Calls Tryz.prog 19 #[.agg #[.slice A1 m1 c1,.slice A 0 c,.slice A2 m2 c2,.slice A3 m3 c3]] w (TkE w 1):=by
 have hS0:=((St.init w NoB).alloc #[.slice A1 m1 c1,.slice A 0 c,.slice A2 m2 c2,.slice A3 m3 c3] 26).alloc #[.slice none 0 0,.slice none 0 0,.slice none 0 0,.slice none 0 0] 26
 rw[size_alloc1] at hS0
 have HS:=aA hS0
 clear hS0
 have t1:_=some (Value.slice A 0 c):=HS.out.cell 1 rfl 1
 have t2:_=some (Value.slice A2 m2 c2):=HS.out.cell 1 rfl 2
 go_enter Tryz.func19,Tryz.ntmps19
 go_wp2_with (first
  |(refine wl_storeC rfl rfl HS.out 0 rfl (vs:=[.slice none 0 0,.slice none 0 0,.slice none 0 0,.slice none 0 0]) szToken (Nat.le_refl _) rfl rfl dR ?_;intro w7 hS7;have HS7:=aA hS7;clear hS7))
 refine bodyPost_ret (aB rfl _ _ (w.heap.size+1) _ _ _ _ rfl (HS7.out.heap 0 rfl) Tryz.underlying26 rfl Bt) rfl ?_
 exact⟨rfl,HS7.out.below⟩
theorem seal_bad2 (A1 A2 A3 A:Option Addr)(m1 m2 m3 n c1 c2 c3 c:Nat)(w:World)(hn:0<n)(hne:m2≠32):Calls Tryz.prog 19 #[.agg #[.slice A1 m1 c1,.slice A n c,.slice A2 m2 c2,.slice A3 m3 c3]] w (TkE w 13):=by
 have hS0:=((St.init w NoB).alloc #[.slice A1 m1 c1,.slice A n c,.slice A2 m2 c2,.slice A3 m3 c3] 26).alloc #[.slice none 0 0,.slice none 0 0,.slice none 0 0,.slice none 0 0] 26
 rw[size_alloc1] at hS0
 have HS:=aA hS0
 clear hS0
 have t1:_=some (Value.slice A n c):=HS.out.cell 1 rfl 1
 have t2:_=some (Value.slice A2 m2 c2):=HS.out.cell 1 rfl 2
 have d2:((n:Int)==0)=false:=A9
 have d2':decide ((n:Int)=0)=false:=A9
 go_enter Tryz.func19,Tryz.ntmps19
 go_wp2_with (first
  |(refine wl_storeC rfl rfl HS.out 0 rfl (vs:=[.slice none 0 0,.slice none 0 0,.slice none 0 0,.slice none 0 0]) szToken (Nat.le_refl _) rfl rfl dR ?_;intro w7 hS7;have HS7:=aA hS7;clear hS7)
  |(go_at_call 31;(with_reducible refine(seed_no _ _ _ _ hne).mono ?_);rintro e wy ⟨rfl,rfl⟩))
 refine bodyPost_ret (aB rfl _ _ (w.heap.size+1) _ _ _ _ rfl (HS7.out.heap 0 rfl) Tryz.underlying26 rfl Bt) rfl ?_
 exact⟨rfl,HS7.out.below⟩
theorem seal_ok (A1 A2 A3 A:Option Addr)(m1 m3 n c1 c2 c3 c:Nat)(l1 l2 l3:List UInt8)(l:List Sg)(w:World)(hl1:l1.length=m1)(hl2:l2.length=32)(hl3:l3.length=m3)(hl:l.length=n+1)(hn:n≤100)(hm1:m1≤1000000)(hm3:m3≤1000000)(hs:∀x∈l,x.p.sm)(hs7:∀x∈l,x.b.b.length≤70000∧x.n.b.length≤10000∧x.s.b.length≤10000∧x.k.b.length≤10000∧x.v.b.length≤10000)
  (hr1:Rd w (.slice A1 m1 c1) 1 m1 (bvs l1))(hr2:Rd w (.slice A2 32 c2) 1 32 (bvs l2))(hr3:Rd w (.slice A3 m3 c3) 1 m3 (bvs l3))(hr:Rd w (.slice A (n+1) c) 5 (n+1) (aN l))(hok:∀x∈l,SgOK w x)(z:Sg)(hz:l[n]?=some z) :
  Calls Tryz.prog 19 #[.agg #[.slice A1 m1 c1,.slice A (n+1) c,.slice A2 32 c2,.slice A3 m3 c3]] w (TkG w (sealK ⟨l1,l.map Sg.p,l2,l3⟩ z.p)):=by
 have hS0:=((St.init w NoB).alloc #[.slice A1 m1 c1,.slice A (n+1) c,.slice A2 32 c2,.slice A3 m3 c3] 26).alloc #[.slice none 0 0,.slice none 0 0,.slice none 0 0,.slice none 0 0] 26
 rw[size_alloc1] at hS0
 have HS:=aA hS0
 clear hS0
 have HL1:=aA hl1
 have HL2:=aA hl2
 have HL3:=aA hl3
 have HL:=aA hl
 have HSS:=aA hs
 have HS7:=aA hs7
 have HR1:=aA hr1
 have HR2:=aA hr2
 have HR3:=aA hr3
 have HR:=aA hr
 have HOK:=aA hok
 have HZ:=aA hz
 clear hl1 hl2 hl3 hl hs hs7 hr1 hr2 hr3 hr hok hz
 have d2:(((n+1:Nat):Int)==0)=false:=A9
 have d2':decide (((n+1:Nat):Int)=0)=false:=A9
 have t0:_=some (Value.slice A1 m1 c1):=HS.out.cell 1 rfl 0
 have t1:_=some (Value.slice A (n+1) c):=HS.out.cell 1 rfl 1
 have t2:_=some (Value.slice A2 32 c2):=HS.out.cell 1 rfl 2
 have t3:_=some (Value.slice A3 m3 c3):=HS.out.cell 1 rfl 3
 go_enter Tryz.func19,Tryz.ntmps19
 have M0:=True.intro
 go_upto_region 6 with(first
  |(clear M1;refine wl_storeC rfl rfl HS.out 1 rfl (vs:=[.slice B1 m1 d1,.slice X (n+1) x,.slice B2 32 d2x,.slice B3 m3 d3]) szToken (Nat.le_refl _) rfl rfl dR ?_;intro w5 hS5;have HS:=aA hS5;clear hS5;have M2:=True.intro)
  |(clear M0;go_at_call 52;(with_reducible refine(token_core _ _ _ _ _ _ _ _ _ _ _ _ _ _ _ _ _ HL1.out HL2.out HL3.out HL.out hm1 An hm3 An (HR1.out.below HS.out.below) (HR2.out.below HS.out.below) (HR3.out.below HS.out.below) (HR.out.below HS.out.below) (fun x hx=>(HOK.out x hx).on HS.out.below) HSS.out).mono ?_);rintro e wy ⟨B1,d1,X,x,B2,d2x,B3,d3,zs,G,rfl,hzl,hp,hG,hSz⟩;have HS:=aA (St.rot _ _ (HS.out.join hSz));clear hSz;have HZL:=aA hzl;have HP:=aA hp;have HG:=aA hG;clear hp hG hzl;have M1:=True.intro)
  |(go_at_call 31;(with_reducible refine(seed_yes _ _ _).mono ?_);rintro e wy ⟨rfl,rfl⟩))
 have HS:Hid (St w NoB w5 (.cells (w.heap.size+1) #[.slice none 0 0,.slice none 0 0,.slice none 0 0,.slice none 0 0] 26::.cells w.heap.size #[.slice B1 m1 d1,.slice X (n+1) x,.slice B2 32 d2x,.slice B3 m3 d3] 26::.row (.slice X (n+1) x) 32 5 (n+1) (aN zs)::.row (.slice B1 m1 d1) 5 1 m1 (bvs l1)::.row (.slice B2 32 d2x) 5 1 32 (bvs l2)::.row (.slice B3 m3 d3) 5 1 m3 (bvs l3)::G)):=HS
 clear t0 t1 t2 t3
 have hzn:n<zs.length:=by rw[HZL.out];omega
 have hlk:zs[n]?=some zs[n]:=gE hzn
 have hpz:(zs[n]).p=z.p:=by
  have e1:(zs.map Sg.p)[n]?=(l.map Sg.p)[n]?:=by rw[HP.out]
  rw[List.getElem?_map,List.getElem?_map,hlk,HZ.out] at e1
  exact Option.some.inj e1
 have hmz:=HG.out _ (List.getElem_mem hzn)
 have hbz:=HS7.out z (mG HZ.out)
 generalize zs[n]=y at hlk hpz hmz
 obtain⟨⟨E1,f1,y1⟩,⟨E2,f2,y2⟩,⟨E3,f3,y3⟩,⟨E4,f4,y4⟩,⟨E5,f5,y5⟩⟩:=y
 obtain⟨⟨_,_,z1⟩,⟨_,_,z2⟩,⟨_,_,z3⟩,⟨_,_,z4⟩,⟨_,_,z5⟩⟩:=z
 obtain⟨g1,g2,g3,g4,g5⟩:=Sp.mk.inj (show Sp.mk y1 y2 y3 y4 y5=Sp.mk z1 z2 z3 z4 z5 from hpz)
 subst g1 g2 g3 g4 g5
 obtain⟨b1,b2,b3,b4,b5⟩:=(show y1.length≤70000∧y2.length≤10000∧y3.length≤10000∧y4.length≤10000∧y5.length≤10000 from hbz)
 clear hpz hbz
 obtain⟨bb,o,rfl,hb8,hc⟩:=sg_at (HS.out.rd 2 rfl) hlk
 have HSG:=aA (SgIn.ok HS.out hmz (fun c hc=>(by show c∈_::_::_::_::_::_::G;(iterate 6 apply mC);exact hc)))
 have HE1:Hid (Rd w5 (.slice E1 y1.length f1) 1 y1.length (bvs y1)):=aA HSG.out.b
 have HE2:Hid (Rd w5 (.slice E2 y2.length f2) 1 y2.length (bvs y2)):=aA HSG.out.n
 have HE3:Hid (Rd w5 (.slice E3 y3.length f3) 1 y3.length (bvs y3)):=aA HSG.out.s
 have HE4:Hid (Rd w5 (.slice E4 y4.length f4) 1 y4.length (bvs y4)):=aA HSG.out.k
 have HE5:Hid (Rd w5 (.slice E5 y5.length f5) 1 y5.length (bvs y5)):=aA HSG.out.v
 clear HSG hlk hzn
 refine aD [(0,1),(1,0),(2,1),(3,0),(4,1),(5,0),(6,1),(7,1),(8,1),(9,0),(10,2),(11,2),(12,1),(13,3)] Bt Bt (fun _ _ _ _ h=>h) ?_
 have HSD:=aA (St.init w5 NoB).drew
 have HS:=aA HS.out.drew
 obtain⟨k0,k1,k2,k3,k4⟩:=hc _ HSD.out.below
 clear hc hb8
 generalize hwd:w5.drew=w6 at HS HSD k0 k1 k2 k3 k4 ⊢
 have t1:_=some (Value.slice (some ⟨bb,o,none⟩) (n+1) x):=HS.out.cell 1 rfl 1
 have t2:_=some (Value.slice B2 32 d2x):=HS.out.cell 1 rfl 2
 have HE1:=aA (HE1.out.below HSD.out.below)
 have HE2:=aA (HE2.out.below HSD.out.below)
 have HE3:=aA (HE3.out.below HSD.out.below)
 have HE4:=aA (HE4.out.below HSD.out.below)
 have HE5:=aA (HE5.out.below HSD.out.below)
 have HM:=aA (dK (rfl:y1.length=_) (rfl:y2.length=_) (rfl:y3.length=_))
 have en:((n+1:Nat):Int) - 1=(n:Int):=An
 have en2:(n:Int)+1 - 1=(n:Int):=An
 have nn:(n:Int)<(n:Int)+1:=An
 have nn2:n<n+1:=An
 have nn3:decide ((n:Int)<(n:Int)+1)=true:=A9
 have nn4:decide (n<n+1)=true:=B0
 have M0:=True.intro
 go_upto_region 7 with(first
  |(clear M1;go_at_call 49;(with_reducible refine(sign_32 _ _ _ _ _ _ _ _ HL2.out HM.out An (HS.out.rd 5 rfl) (HS.out.rd 0 rfl)).mono ?_);rintro e w8 ⟨Bg,dg,rfl,hb,ho⟩;have HS:=aA (HS.out.row hb ho);clear ho;have q3:_=some (Value.slice B3 m3 d3):=HS.out.cell 3 rfl 3;have g3:=HS.out.free 3 rfl 3;have M2:=True.intro)
  |(clear M0;go_at_call 53;(with_reducible refine(sealed_core _ _ _ _ _ _ _ _ _ _ _ _ _ _ _ _ _ _ _ _ _ rfl b1 HE1.out rfl An HE2.out rfl An HE3.out rfl An HE4.out rfl An HE5.out).mono ?_);rintro e w7 ⟨Bm,dm,rfl,hb,ho⟩;have HS:=aA (HS.out.row hb ho);clear ho;have M1:=True.intro)
  |(refine wpT_nil ?_)|((with_reducible refine fromT_refl ?_);(try refine nm ?_))|((with_reducible refine aE Df ?_);(try refine nm ?_))|(refine aI (v:=?_) rfl rfl ?_ ?_;rotate_left;(intro wx;go_simp;try go_bits)<;>(with_reducible rfl);(try refine nm ?_))|(refine aK (v:=?_) rfl rfl rfl ?_ ?_;rotate_left;(go_simp;try go_bits)<;>(with_reducible rfl);(try refine nm ?_))|(refine aL (v:=?_) rfl rfl ?_ ?_;rotate_left;(intro wx hx;go_simp;try go_bits)<;>(with_reducible rfl);(try refine nm ?_))|(refine aM rfl rfl ?_;intro K hK)|(refine wpT_late rfl rfl ?_;intro K hK)|(refine wpT_any rfl rfl ?_;intro K hK)|(refine wpT_skip rfl rfl ?_;(try refine nm ?_)))
 have HS:=aA (HS.out.setCell 3 rfl 3 (.slice Bg 64 dg))
 clear q3 g3 t1 t2 k0 k1 k2 k3 k4
 generalize World.setCell w8 _ _=w9 at HS ⊢
 have q2:_=some (Value.slice B2 32 d2x):=HS.out.cell 3 rfl 2
 have g2:=HS.out.free 3 rfl 2
 go_upto_region 8 with fail
 have HS:=aA (HS.out.setCell 3 rfl 2 (.slice none 0 0))
 clear q2 g2
 generalize World.setCell w9 _ _=wa at HS ⊢
 have t0:_=some (Value.slice B1 m1 d1):=HS.out.cell 3 rfl 0
 have t1:_=some (Value.slice (some ⟨bb,o,none⟩) (n+1) x):=HS.out.cell 3 rfl 1
 have t2:_=some (Value.slice none 0 0):=HS.out.cell 3 rfl 2
 have t3:_=some (Value.slice Bg 64 dg):=HS.out.cell 3 rfl 3
 go_wp2_with (refine wl_storeC rfl rfl HS.out 2 rfl (vs:=[.slice B1 m1 d1,.slice (some ⟨bb,o,none⟩) (n+1) x,.slice none 0 0,.slice Bg 64 dg]) szToken (Nat.le_refl _) rfl rfl dR ?_;intro wz hS9;have HS7:=aA hS9;clear hS9)
 refine bodyPost_ret (aB rfl _ _ (w.heap.size+1) _ _ _ _ rfl (HS7.out.heap 2 rfl) Tryz.underlying26 rfl Bt) rfl ?_
 refine⟨⟨⟨B1,d1,l1⟩,some ⟨bb,o,none⟩,x,zs,pc0,⟨Bg,dg,sigL l2 (y1++(y2++y3))⟩⟩,_,?_,?_,⟨mC _ (pc_ch HL1.out 5 rfl),mC _ ?_,fun v hv=>?_,List.mem_cons_self ..,mC _ (pc_ch (eW _ _) 0 rfl)⟩,HS7.out.row (Below.refl _ _) (World.ownsRow_nil _ _ _ _)⟩
 ·rw[Tk.val_eq]
  simp only[HL1.out,HZL.out,eW]
  rfl
 ·show Tp.mk l1 (List.map Sg.p zs) [] _=_
  unfold sealK
  rw[HP.out]
  rfl
 ·show Chunk.row (.slice (some ⟨bb,o,none⟩) zs.length x) _ 5 zs.length _∈_
  rw[HZL.out]
  exact mG (i:=4) rfl
 ·intro c hc
  have hc:=HG.out v hv c hc
  show c∈_::_::_::_::_::_::_::_::_::G
  (iterate 9 apply mC)
  exact hc
theorem last_map {l:List Sg}{z:Sg}{n:Nat}(hl:l.length=n+1)(hz:l[n]?=some z):(l.map Sg.p).getLast?=some z.p:=by
 rw[List.getLast?_map,List.getLast?_eq_getElem?,hl,Nat.add_sub_cancel,hz]
 rfl
theorem seal_any (A1 A2 A3 A:Option Addr)(m1 m2 m3 n c1 c2 c3 c:Nat)(l1 l2 l3:List UInt8)(l:List Sg)(w:World)(hl1:l1.length=m1)(hl2:l2.length=m2)(hl3:l3.length=m3)(hl:l.length=n)(hn:n≤100)(hm1:m1≤1000000)(hm3:m3≤1000000)(hs:∀x∈l,x.p.sm)(hs7:∀x∈l,x.b.b.length≤70000∧x.n.b.length≤10000∧x.s.b.length≤10000∧x.k.b.length≤10000∧x.v.b.length≤10000)
  (hr1:Rd w (.slice A1 m1 c1) 1 m1 (bvs l1))(hr2:Rd w (.slice A2 m2 c2) 1 m2 (bvs l2))(hr3:Rd w (.slice A3 m3 c3) 1 m3 (bvs l3))(hr:Rd w (.slice A n c) 5 n (aN l))(hok:∀x∈l,SgOK w x) :
  Calls Tryz.prog 19 #[.agg #[.slice A1 m1 c1,.slice A n c,.slice A2 m2 c2,.slice A3 m3 c3]] w (TkQ w (sealRz ⟨l1,l.map Sg.p,l2,l3⟩)):=by
 by_cases h1:n=0
 ·subst h1
  have e:=List.eq_nil_of_length_eq_zero hl
  subst e
  exact(seal_bad1 _ _ _ _ _ _ _ _ _ _ _ _).mono fun _ _ h=>gO h
 obtain⟨m,rfl⟩:∃m,n=m+1:=⟨n - 1,An⟩
 have hz:l[m]?=some (l[m]'An):=gE An
 unfold sealRz
 show Calls _ _ _ _ (TkQ w (match (l.map Sg.p).getLast? with|none=>_|some x=>if l2.length≠32 then _ else _))
 rw[last_map hl hz]
 show Calls _ _ _ _ (TkQ w (if l2.length≠32 then _ else _))
 by_cases h2:l2.length≠32
 ·rw[if_pos h2]
  exact(seal_bad2 _ _ _ _ _ _ _ _ _ _ _ _ _ An An).mono fun _ _ h=>gO h
 rw[if_neg h2]
 obtain rfl:m2=32:=by omega
 exact(seal_ok _ _ _ _ _ _ _ _ _ _ _ _ _ _ _ _ hl1 hl2 hl3 hl An hm1 hm3 hs hs7 hr1 hr2 hr3 hr hok _ hz).mono fun _ _ h=>tkQ_ok h
end Go.Proofs.YtnohmgpmmhlloaaGreatDoor
namespace Go.Proofs.YtnohmgpmmhlloaaGreatDoor.S6
open Go.RowKit
def bU (g:Nat)(lg:Int)(v:Value)(l:List UInt8)(H:List Chunk):List Chunk:=.cells g #[v,.int .i64 lg] 84::.row v 5 1 l.length (bvs l)::H
theorem taggedW {w0 w:World}{M:Nat→Prop}{H:List Chunk}(g:Nat)(lg:Int)(v:Value)(l:List UInt8)(num wire:Int)(h1:1≤num)(h2:num≤100)(h3:wire=0∨wire=2)(hl:l.length≤1000000)
  (hS:St w0 M w (.cells g #[v,.int .i64 lg] 84::.row v 5 1 l.length (bvs l)::H)) :
  Calls Tryz.prog 167 #[.pointer (some ⟨g,0,none⟩),.int .i64 num,.int .i64 wire] w fun e w'=>e=.returned (.tuple #[]) ∧
   ∃v',St w0 M w' (.cells g #[v',.int .i64 lg] 84::.row v' 5 1 (l++vb (8*num.toNat+wire.toNat)).length (bvs (l++vb (8*num.toNat+wire.toNat)))::H):=by
 have hc:=hS.cell 0 rfl 0
 have hf:=hS.free 0 rfl 0
 simp only[List.getElem?_toArray,List.getElem?_cons_zero] at hc
 have HT:=aA (tag_eq num wire h1 h2 h3)
 have HL:=aA hl
 have H1:=aA h1
 have H2:=aA h2
 have H3:=aA h3
 clear hl h3 h1 h2
 go_enter Tryz.func167,Tryz.ntmps167
 go_wp2_with fail
 go_region_law ((try refine nm ?_);first
  |(refine aO rfl rfl enVarint (congrArg (fun x=>[Value.int IntKind.u64 x]) HT.out) (varint_any (8*num.toNat+wire.toNat) _ ?_) ?_;(have:=H1.out;have:=H2.out;have:=H3.out;unfold W64;omega);rintro e w1 ⟨A1,c1,rfl,hb,ho⟩;refine⟨_,rfl,?_⟩;have hS1:=hS.drew.row hb ho;have hc1:w1.cell? ⟨g,0,none⟩=some v:=hS1.cell 1 rfl 0)
  |(refine step_append rfl rfl tyB hS1 2 rfl rfl rfl (hS1.rd 0 rfl) (bD _) ?_ Bz ?_;(have:=HL.out;have:=(vb_len (8*num.toNat+wire.toNat)).1;omega);intro A2 c2 w2 hS2;have hc2:w2.cell? ⟨g,0,none⟩=some v:=hS2.cell 1 rfl 0;have hf2:=hS2.free 1 rfl 0))
 all_goals (
  have hS3:=(hS2.setCell 1 rfl 0 (.slice A2 (l.length+(vb (8*num.toNat+wire.toNat)).length) c2)).tail
  go_end0
  refine⟨rfl,.slice A2 (l.length+(vb (8*num.toNat+wire.toNat)).length) c2,?_⟩
  rw[List.length_append,cK]
  exact hS3)
theorem rawW_yes {w0 w:World}{M:Nat→Prop}{H:List Chunk}(g:Nat)(lg:Int)(v:Value)(l:List UInt8)(num:Int)(A:Option Addr)(c:Nat)(b:List UInt8)(hm:mayB num=true)(hl:l.length≤900000)(hb:b.length≤65536)
  (hr:RdH w0 M H (.slice A b.length c) 1 b.length (bvs b))(hS:St w0 M w (bU g lg v l H)) :
  Calls Tryz.prog 147 #[.pointer (some ⟨g,0,none⟩),.int .i64 num,.slice A b.length c] w fun e w'=>e=.returned (.tuple #[]) ∧
   ∃v',St w0 M w' (bU g lg v' (l++(vb (8*num.toNat+2)++(vb b.length++b))) H):=by
 unfold bU at hS
 obtain⟨m1,m2⟩:=mayB_of num hm
 obtain⟨t,ht⟩:∃t,t=vb (8*num.toNat+2):=⟨_,rfl⟩
 obtain⟨u,hu⟩:∃u,u=vb b.length:=⟨_,rfl⟩
 have htl:t.length≤10:=by rw[ht];exact(vb_len _).1
 have hul:u.length≤10:=by rw[hu];exact(vb_len _).1
 have T:∀W,Calls Tryz.prog 168 #[.int .u64 (b.length:Nat)] W (iI 5 W u):=fun W=>by rw[hu];exact varint_any b.length W (by unfold W64;omega)
 have G:=taggedW g lg v l num 2 m1 m2 (.inr rfl) An hS
 rw[show(2:Int).toNat=2 from rfl,←ht] at G
 rw[←ht,←hu]
 have hn':¬(65536:Int)<(b.length:Int):=An
 have TT:=aA T
 have GG:=aA G
 have HL:=aA (show l.length+t.length+u.length+b.length≤1000000 by omega)
 have RR:=aA hr
 have WW:=aA (show IntKind.u64.wrap (b.length:Int)=(b.length:Int) by rw[IntKind.wrap_u64];omega)
 clear T G ht hu hl htl m1 m2 hr hb
 go_enter Tryz.func147,Tryz.ntmps147
 go_wp2_with (first
  |(go_at_call 152;refine(gG _ _).mono ?_;rintro e w' ⟨rfl,rfl⟩)
  |(go_at_call 167;refine GG.out.mono ?_;rintro e w1 ⟨rfl,v1,hS1⟩;simp only[List.length_append] at hS1;have hc1:w1.cell? ⟨g,0,none⟩=some v1:=hS1.cell 0 rfl 0))
 go_region_law ((try refine nm ?_);first
  |(refine step_append (s:=.tmp 25) (x:=.tmp 29) rfl rfl tyB hS2 2 rfl rfl rfl (hS2.rd 0 rfl) (bD _) ?_ Bz ?_;(have:=HL.out;omega);intro A2 c2 w3 hS3;have hc3:w3.cell? ⟨g,0,none⟩=some v1:=hS3.cell 1 rfl 0;have hf3:=hS3.free 1 rfl 0)
  |(refine step_append (s:=.tmp 30) (x:=.tmp 31) rfl rfl tyB hS3 2 rfl rfl rfl (RR.out _ hS3.tail.tail.tail) (bD _) ?_ Bz ?_;(have:=HL.out;omega);intro A3 c3 w4 hS4;have hc4:w4.cell? ⟨g,0,none⟩=some v1:=hS4.cell 1 rfl 0;have hf4:=hS4.free 1 rfl 0)
  |(refine aO rfl rfl enVarint (congrArg (fun x=>[Value.int IntKind.u64 x]) WW.out) (TT.out _) ?_;rintro e w2 ⟨A1,c1,rfl,hb,ho⟩;refine⟨_,rfl,?_⟩;have hS2:=hS1.drew.row hb ho;have hc2:w2.cell? ⟨g,0,none⟩=some v1:=hS2.cell 1 rfl 0))
 all_goals (
  have hS5:=(hS4.setCell 1 rfl 0 (.slice A3 (l.length+t.length+u.length+b.length) c3)).tail
  go_end0
  refine⟨rfl,.slice A3 (l.length+t.length+u.length+b.length) c3,?_⟩
  unfold bU
  simp only[cK,List.length_append,←Nat.add_assoc,←List.append_assoc] at hS5 ⊢
  exact hS5)
theorem rawW_any {w0 w:World}{M:Nat→Prop}{H:List Chunk}(g:Nat)(lg:Int)(v:Value)(l:List UInt8)(num:Int)(A:Option Addr)(c:Nat)(b:List UInt8)(hl:l.length≤900000)(hb:b.length≤65536)
  (hr:RdH w0 M H (.slice A b.length c) 1 b.length (bvs b))(hS:St w0 M w (bU g lg v l H)) :
  Calls Tryz.prog 147 #[.pointer (some ⟨g,0,none⟩),.int .i64 num,.slice A b.length c] w fun e w'=>e=.returned (.tuple #[])∧∃v',St w0 M w' (bU g lg v' (l++cJ num b) H):=by
 cases h:mayB num
 ·rw[putR_no num b h,List.append_nil]
  exact(raw_no g num A b.length c h hS).mono fun e w' ⟨he,hs⟩=>⟨he,v,hs⟩
 ·rw[putR_yes num b h hb]
  exact rawW_yes g lg v l num A c b h hl hb hr hS
theorem cV {w0 w:World}{M:Nat→Prop}{H:List Chunk}(g:Nat)(lg:Int)(v:Value)(l:List UInt8)(num:Int)(A:Option Addr)(c:Nat)(b:List UInt8)(hl:l.length≤900000)(hb:b.length≤65536)
  (hr:RdH w0 M H (.slice A b.length c) 1 b.length (bvs b))(hS:St w0 M w (bU g lg v l H)) :
  Calls Tryz.prog 110 #[.pointer (some ⟨g,0,none⟩),.int .i64 num,.slice A b.length c] w fun e w'=>e=.returned (.tuple #[])∧∃v',St w0 M w' (bU g lg v' (l++cJ num b) H):=by
 have HC:=aA (rawW_any g lg v l num A c b hl hb hr hS)
 have d0:decide ((65536:Int)<(b.length:Int))=false:=A9
 generalize b.length=n at HC d0 ⊢
 clear hr hS hl hb
 go_enter Tryz.func110,Tryz.ntmps110
 go_wp2_with (go_at_call 147;(with_reducible refine HC.out.mono ?_);rintro e w1 ⟨rfl,v1,hS1⟩)
 go_end0
 exact⟨rfl,v1,hS1⟩
def someL (num:Int)(b:List UInt8):List UInt8:=if b.length=0 then [] else cJ num b
theorem wsome_any {w0 w:World}{M:Nat→Prop}{H:List Chunk}(g:Nat)(lg:Int)(v:Value)(l:List UInt8)(num:Int)(A:Option Addr)(c:Nat)(b:List UInt8)(hl:l.length≤900000)(hb:b.length≤65536)
  (hr:RdH w0 M H (.slice A b.length c) 1 b.length (bvs b))(hS:St w0 M w (bU g lg v l H)) :
  Calls Tryz.prog 60 #[.pointer (some ⟨g,0,none⟩),.int .i64 num,.slice A b.length c] w fun e w'=>e=.returned (.tuple #[])∧∃v',St w0 M w' (bU g lg v' (l++someL num b) H):=by
 unfold someL
 by_cases h0:b.length=0
 ·rw[if_pos h0,h0,List.append_nil]
  have HS:=aA hS
  clear hS hr hl hb h0
  go_enter Tryz.func60,Tryz.ntmps60
  go_wp2_with fail
  go_end0
  exact⟨rfl,v,HS.out⟩
 ·rw[if_neg h0]
  have HC:=aA (cV g lg v l num A c b hl hb hr hS)
  have d0:decide ((0:Int)<(b.length:Int))=true:=A9
  have d1:decide (0<b.length)=true:=A9
  generalize b.length=n at HC d0 d1 ⊢
  clear hr hS hl hb h0
  go_enter Tryz.func60,Tryz.ntmps60
  go_wp2_with (go_at_call 110;(with_reducible refine HC.out.mono ?_);rintro e w1 ⟨rfl,v1,hS1⟩)
  go_end0
  exact⟨rfl,v1,hS1⟩
end Go.Proofs.YtnohmgpmmhlloaaGreatDoor.S6
namespace Go.Proofs.YtnohmgpmmhlloaaGreatDoor
open Go.RowKit
theorem St.perm {w0 w:World}{M:Nat→Prop}{H H':List Chunk}(h:St w0 M w H)(p:H.Perm H'):St w0 M w H':=by
 have h1:H.Pairwise (fun c d=>∀k,c.block=some k→d.block≠some k):=List.pairwise_iff_getElem.2 fun i j hi hj hij k hc=>h.apart i j _ _ k An (gE hi) (gE hj) hc
 have h2:=(List.Perm.pairwise_iff (R:=fun c d:Chunk=>∀k,c.block=some k→d.block≠some k) (fun {x y} hxy k hy hx=>hxy k hx hy) p).1 h1
 refine⟨h.ext,fun i c hc=>?_,fun i c k hc hb=>?_,fun i j c d k hij hc hd hb hb'=>?_⟩
 ·obtain⟨j,hj⟩:=List.getElem?_of_mem (p.mem_iff.2 (mG hc))
  exact h.sat j c hj
 ·obtain⟨j,hj⟩:=List.getElem?_of_mem (p.mem_iff.2 (mG hc))
  exact h.own j c k hj hb
 ·obtain⟨hi,e1⟩:=List.getElem?_eq_some_iff.1 hc
  obtain⟨hj,e2⟩:=List.getElem?_eq_some_iff.1 hd
  have h3:=List.pairwise_iff_getElem.1 h2
  rcases Nat.lt_or_gt_of_ne hij with hlt|hlt
  ·have:=h3 i j hi hj hlt k
   rw[e1,e2] at this
   exact this hb hb'
  ·have:=h3 j i hj hi hlt k
   rw[e1,e2] at this
   exact this hb' hb
def Laid (G:List Chunk)(p:Tp)(B1:Option Addr)(m1 d1:Nat)(X:Option Addr)(n x:Nat)(B2:Option Addr)(m2 d2:Nat)(B3:Option Addr)(m3 d3:Nat):Prop:=
 ∃k1 k2 k3 zs,k1.length=m1∧zs.length=n∧k2.length=m2∧k3.length=m3∧Tp.mk k1 (zs.map Sg.p) k2 k3=p∧TkIn G ⟨⟨B1,d1,k1⟩,X,x,zs,⟨B2,d2,k2⟩,⟨B3,d3,k3⟩⟩
section
variable {G G' : List Chunk} {p : Tp} {B1 X B2 B3 : Option Addr} {m1 d1 n x m2 d2 m3 d3 : Nat}
theorem Laid.mono (h:Laid G p B1 m1 d1 X n x B2 m2 d2 B3 m3 d3)(hs:∀c∈G,c∈G'):Laid G' p B1 m1 d1 X n x B2 m2 d2 B3 m3 d3:=by
 obtain⟨k1,k2,k3,zs,h1,h2,h3,h4,h5,h6⟩:=h
 exact⟨k1,k2,k3,zs,h1,h2,h3,h4,h5,h6.mono hs⟩
theorem Laid.open {w0 w:World}{M:Nat→Prop}(hS:St w0 M w G)(h:Laid G p B1 m1 d1 X n x B2 m2 d2 B3 m3 d3):∃zs,zs.length=n∧zs.map Sg.p=p.l∧p.r.length=m1∧p.e.length=m2∧p.z.length=m3∧Rd w (.slice B1 m1 d1) 1 m1 (bvs p.r)∧Rd w (.slice B2 m2 d2) 1 m2 (bvs p.e)∧Rd w (.slice B3 m3 d3) 1 m3 (bvs p.z)∧Rd w (.slice X n x) 5 n (aN zs)∧∀y∈zs,SgOK w y:=by
 obtain⟨k1,k2,k3,zs,h1,h2,h3,h4,h5,h6⟩:=h
 subst h1 h2 h3 h4 h5
 have hk:=h6.ok hS
 exact⟨zs,rfl,rfl,rfl,rfl,rfl,hk.r,hk.e,hk.z,hk.row,hk.l⟩
end
def TkS (w:World)(c:Nat)(p:Tp)(m1 n m2 m3:Nat)(e:Ending)(w':World):Prop:=∃B1 d1 X x B2 d2 B3 d3 G,e=.returned (.tuple #[.agg #[.slice B1 m1 d1,.slice X n x,.slice B2 m2 d2,.slice B3 m3 d3],.int .i64 (c:Int)])∧Laid G p B1 m1 d1 X n x B2 m2 d2 B3 m3 d3∧St w NoB w' G
theorem tkS_of {w:World}{r:Rz}{e:Ending}{w':World}{m1 n m2 m3:Nat}(h:TkQ w r e w')(h1:r.p.r.length=m1)(h2:r.p.l.length=n)(h3:r.p.e.length=m2)(h4:r.p.z.length=m3):TkS w r.c r.p m1 n m2 m3 e w':=by
 obtain⟨⟨⟨B1,d1,k1⟩,X,x,zs,⟨B2,d2,k2⟩,⟨B3,d3,k3⟩⟩,G,rfl,hp,hg,hS⟩:=h
 replace hp:Tp.mk k1 (zs.map Sg.p) k2 k3=r.p:=hp
 have q1:k1.length=m1:=by rw[←h1,←hp]
 have q2:zs.length=n:=by rw[←h2,←hp];exact(List.length_map ..).symm
 have q3:k2.length=m2:=by rw[←h3,←hp]
 have q4:k3.length=m3:=by rw[←h4,←hp]
 refine⟨B1,d1,X,x,B2,d2,B3,d3,G,?_,⟨k1,k2,k3,zs,q1,q2,q3,q4,hp,hg⟩,hS⟩
 show Ending.returned (.tuple #[.agg #[.slice B1 k1.length d1,.slice X zs.length x,.slice B2 k2.length d2,.slice B3 k3.length d3],_])=_
 rw[q1,q2,q3,q4]
theorem sm_mem {p:Tp}{zs:List Sg}(h:p.sm)(hz:zs.map Sg.p=p.l):∀x∈zs,x.p.sm:=fun x hx=>h.2.2.2.2 _ (by rw[←hz];exact List.mem_map_of_mem hx)
section
variable {w0 w : World} {M : Nat → Prop} {H : List Chunk} {p : Tp}
end
theorem issue_in {Ay Ax A:Option Addr}{cy cx n c:Nat}{y nx l:List UInt8}(w:World)(hy:y.length=32)(hx:nx.length=32)(hl:l.length=n)(hn:n≤65536)(hry:Rd w (.slice Ay 32 cy) 1 32 (bvs y))(hrx:Rd w (.slice Ax 32 cx) 1 32 (bvs nx))(hr:Rd w (.slice A n c) 1 n (bvs l)) :
  Calls Tryz.prog 9 #[.slice Ay 32 cy,.slice Ax 32 cx,.slice A n c] w (TkS w 0 (issueK y nx l) 32 1 32 0):=
 (issue_okG Ay Ax A cy cx n c y nx l w hy hx hl hn hry hrx hr).mono fun _ _ h=>tkS_of (tkQ_ok h) (cM _) rfl hx rfl
end Go.Proofs.YtnohmgpmmhlloaaGreatDoor
