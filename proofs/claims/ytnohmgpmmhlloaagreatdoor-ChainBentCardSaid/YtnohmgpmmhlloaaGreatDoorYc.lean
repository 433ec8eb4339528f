/-
 Joined of texts of mine,in build order: Kq,Kr,Bp,Fm,Ba,Bb,Bq,Bc,Tx,Ty,Tz. Each says what it proves at its own head.
-/
import Derived.Laws.EntriesVeiled
import Derived.Lib.ConvBytes
import Derived.Lib.AtoiErrMem
import Derived.Test.YtnohmgpmmhlloaaGreatDoorYb
set_option linter.unusedSimpArgs false
set_option linter.unusedVariables false
set_option maxRecDepth 100000
set_option maxHeartbeats 25600000
namespace Go.Proofs.YtnohmgpmmhlloaaGreatDoor
open Go.RowKit
theorem square_walk (a b c d e:Nat)(w:World)(ha:Red [a,b,c,d,e]) :
  Calls Tryz.prog 127 #[(.agg #[.int .u64 (a:Int),.int .u64 (b:Int),.int .u64 (c:Int),.int .u64 (d:Int),.int .u64 (e:Int)])] w fun r w'=>∃p q s t u:Nat,ev [p,q,s,t,u]=ev [a,b,c,d,e]*ev [a,b,c,d,e]%Pq∧Red [p,q,s,t,u]∧r=.returned (.agg #[.int .u64 (p:Int),.int .u64 (q:Int),.int .u64 (s:Int),.int .u64 (t:Int),.int .u64 (u:Int)])∧Below w.heap.size w w':=by
 have HC:=aA (fun W=>mul_walk a b c d e a b c d e W ha ha)
 have HSE:=aA (((St.init w NoB).alloc #[.int .u64 (a:Int),.int .u64 (b:Int),.int .u64 (c:Int),.int .u64 (d:Int),.int .u64 (e:Int)] 61).alloc #[.int .u64 0,.int .u64 0,.int .u64 0,.int .u64 0,.int .u64 0] 61)
 rw[size_alloc1] at HSE
 clear ha
 go_enter Tryz.func127,Tryz.ntmps127
 go_wp2_with (go_at_call 83;refine(HC.out _).mono ?_;rintro r w2 ⟨r0,r1,r2,r3,r4,hev,hred,rfl,hb2⟩;have hS2:=HSE.out.call hb2;have z0:w2.cell? ⟨w.heap.size+1,0,none⟩=some (.int .u64 0):=hS2.cell 0 rfl 0;have z1:w2.cell? ⟨w.heap.size+1,1,none⟩=some (.int .u64 0):=hS2.cell 0 rfl 1;have z2:w2.cell? ⟨w.heap.size+1,2,none⟩=some (.int .u64 0):=hS2.cell 0 rfl 2;have z3:w2.cell? ⟨w.heap.size+1,3,none⟩=some (.int .u64 0):=hS2.cell 0 rfl 3;have z4:w2.cell? ⟨w.heap.size+1,4,none⟩=some (.int .u64 0):=hS2.cell 0 rfl 4;have y0:=hS2.free 0 rfl 0;have y1:=hS2.free 0 rfl 1;have y2:=hS2.free 0 rfl 2;have y3:=hS2.free 0 rfl 3;have y4:=hS2.free 0 rfl 4)
 have HS:=aA (((((hS2.setCell 0 rfl 0 (.int .u64 (r0:Int))).setCell 0 rfl 1 (.int .u64 (r1:Int))).setCell 0 rfl 2 (.int .u64 (r2:Int))).setCell 0 rfl 3 (.int .u64 (r3:Int))).setCell 0 rfl 4 (.int .u64 (r4:Int)))
 refine bodyPost_ret (results_cell_row rfl _ _ (w.heap.size+1) _ _ _ _ rfl (HS.out.heap 0 rfl) Tryz.underlying61 rfl Bt) rfl ?_
 exact⟨r0,r1,r2,r3,r4,hev,hred,rfl,HS.out.below⟩
def pbit (less i:Nat):Nat:=if 5≤i then 1 else (31 - less)/2^i%2
def pexp (set less:Nat):Nat→Nat
 | 0=>0
 | n+1=>2*pexp set less n+pbit less (set - 1 - n)
theorem pow_mod_two (X n m:Nat)(P:Nat):X^n%P*(X^m%P)%P=X^(n+m)%P:=by
 rw[←Nat.mul_mod,←Nat.pow_add]
theorem pexp_sq (X n:Nat):X^n%Pq*(X^n%Pq)%Pq=X^(2*n)%Pq:=by
 rw[pow_mod_two,Nat.two_mul]
def PowRel (w:World)(g set less:Nat)(a b c d e:Nat)(iv:Value)(wr:World):Prop:=
 ∃(m p q s t u:Nat),m≤set∧iv=.int .i64 ((m:Int) - 1)∧Red [p,q,s,t,u]∧ev [p,q,s,t,u]=ev [a,b,c,d,e]^pexp set less (set - m)%Pq ∧
  St w NoB wr [.cells g #[.int .u64 (p:Int),.int .u64 (q:Int),.int .u64 (s:Int),.int .u64 (t:Int),.int .u64 (u:Int)] 61,.cells (g+1) #[.func (.func 127) #[] #[],.func (.func 83) #[.agg #[.int .u64 (a:Int),.int .u64 (b:Int),.int .u64 (c:Int),.int .u64 (d:Int),.int .u64 (e:Int)]] #[]] 203,.cells (w.heap.size+1) #[.int .u64 0,.int .u64 0,.int .u64 0,.int .u64 0,.int .u64 0] 61]
theorem pbit_lo (less i:Nat)(h:i<5):pbit less i=(31 - less)/2^i%2:=by unfold pbit;rw[if_neg An]
theorem pbit_hi (less i:Nat)(h:5≤i):pbit less i=1:=by unfold pbit;rw[if_pos h]
theorem pexp_step (set less i X y:Nat)(h:i<set)(hy:y=X^pexp set less (set - (i+1))%Pq):(pbit less i=1→X%Pq=X→X*(y*y%Pq)%Pq=X^pexp set less (set - i)%Pq)∧(pbit less i=0→y*y%Pq=X^pexp set less (set - i)%Pq):=by
 have e:set - i=(set - (i+1))+1:=An
 rw[e,pexp,show set - 1 - (set - (i+1))=i from by omega,hy,pexp_sq]
 refine⟨fun h1 hX=>?_,fun h0=>by rw[h0];rfl⟩
 rw[h1,Nat.pow_succ,Nat.mul_comm,←Nat.mod_mul_mod,Nat.mod_mod,Nat.mod_mul_mod]
theorem power_walk (a b c d e set less:Nat)(w:World)(ha:Red [a,b,c,d,e])(hs1:1≤set)(hs:set≤300)(hl:less≤31) :
  Calls Tryz.prog 122 #[(.agg #[.int .u64 (a:Int),.int .u64 (b:Int),.int .u64 (c:Int),.int .u64 (d:Int),.int .u64 (e:Int)]),.int .i64 (set:Int),.int .u64 (less:Int)] w fun r w'=>∃p q s t u:Nat,ev [p,q,s,t,u]=ev [a,b,c,d,e]^pexp set less set%Pq∧Red [p,q,s,t,u]∧r=.returned (.agg #[.int .u64 (p:Int),.int .u64 (q:Int),.int .u64 (s:Int),.int .u64 (t:Int),.int .u64 (u:Int)])∧Below w.heap.size w w':=by
 have HA:=aA ha
 have H1:=aA (fun W=>small_walk 1 W An)
 have HS0:=aA (((St.init w NoB).alloc #[.int .u64 (a:Int),.int .u64 (b:Int),.int .u64 (c:Int),.int .u64 (d:Int),.int .u64 (e:Int)] 61).alloc #[.int .u64 0,.int .u64 0,.int .u64 0,.int .u64 0,.int .u64 0] 61)
 rw[size_alloc1] at HS0
 clear ha
 go_enter Tryz.func122,Tryz.ntmps122
 go_wp2_with (go_at_call 89;refine(H1.out _).mono ?_;rintro r w1 ⟨rfl,hb1⟩;have hS1:=HS0.out.call hb1;have n0:w1.cell? ⟨w.heap.size,0,none⟩=some (.int .u64 (a:Int)):=hS1.cell 1 rfl 0;have n1:w1.cell? ⟨w.heap.size,1,none⟩=some (.int .u64 (b:Int)):=hS1.cell 1 rfl 1;have n2:w1.cell? ⟨w.heap.size,2,none⟩=some (.int .u64 (c:Int)):=hS1.cell 1 rfl 2;have n3:w1.cell? ⟨w.heap.size,3,none⟩=some (.int .u64 (d:Int)):=hS1.cell 1 rfl 3;have n4:w1.cell? ⟨w.heap.size,4,none⟩=some (.int .u64 (e:Int)):=hS1.cell 1 rfl 4;have hgt:w.heap.size<w1.heap.size:=Chunk.lt (hS1.sat 1 _ rfl) rfl)
 have hSx:=(hS1.alloc #[.int .u64 1,.int .u64 0,.int .u64 0,.int .u64 0,.int .u64 0] 61).alloc #[.func (.func 127) #[] #[],.func (.func 83) #[.agg #[.int .u64 (a:Int),.int .u64 (b:Int),.int .u64 (c:Int),.int .u64 (d:Int),.int .u64 (e:Int)]] #[]] 203
 simp only[size_alloc1] at hSx
 have HSX:=aA (hSx.pickL (H':=[.cells w1.heap.size #[.int .u64 ((1:Nat):Int),.int .u64 ((0:Nat):Int),.int .u64 ((0:Nat):Int),.int .u64 ((0:Nat):Int),.int .u64 ((0:Nat):Int)] 61,.cells (w1.heap.size+1) #[.func (.func 127) #[] #[],.func (.func 83) #[.agg #[.int .u64 (a:Int),.int .u64 (b:Int),.int .u64 (c:Int),.int .u64 (d:Int),.int .u64 (e:Int)]] #[]] 203,.cells (w.heap.size+1) #[.int .u64 0,.int .u64 0,.int .u64 0,.int .u64 0,.int .u64 0] 61]) [1,0,2] Bz rfl)
 clear hSx hS1 n0 n1 n2 n3 n4 hgt hb1 HS0
 generalize w1.heap.size=g at HSX ⊢
 go_loopw [9] (fun i wr=>PowRel w g set less a b c d e i wr) (fun i _=>((intOf i)+1).toNat)
 case atStart=>exact⟨set,1,0,0,0,0,Nat.le_refl _,rfl,red_small 1 An,by rw[ev_small 1 An,Nat.sub_self,pexp,Nat.pow_zero];exact(Nat.mod_eq_of_lt Ce).symm,HSX.out⟩
 case round =>
  obtain⟨m,p,q,s,t,u,hm,rfl,hred,hev,hS⟩:=hrel
  have n0:wr.cell? ⟨g,0,none⟩=some (.int .u64 (p:Int)):=hS.cell 0 rfl 0
  have n1:wr.cell? ⟨g,1,none⟩=some (.int .u64 (q:Int)):=hS.cell 0 rfl 1
  have n2:wr.cell? ⟨g,2,none⟩=some (.int .u64 (s:Int)):=hS.cell 0 rfl 2
  have n3:wr.cell? ⟨g,3,none⟩=some (.int .u64 (t:Int)):=hS.cell 0 rfl 3
  have n4:wr.cell? ⟨g,4,none⟩=some (.int .u64 (u:Int)):=hS.cell 0 rfl 4
  have g0:wr.cell? ⟨g+1,0,none⟩=some (.func (.func 127) #[] #[]):=hS.cell 1 rfl 0
  have f0:=hS.free 0 rfl 0
  have f1:=hS.free 0 rfl 1
  have f2:=hS.free 0 rfl 2
  have f3:=hS.free 0 rfl 3
  have f4:=hS.free 0 rfl 4
  have HS:=aA hS
  cases m with
  | zero =>
   have hd:decide ((0:Int)≤((0:Nat):Int) - 1)=false:=Bz
   have z0:wr.cell? ⟨w.heap.size+1,0,none⟩=some (.int .u64 0):=hS.cell 2 rfl 0
   have z1:wr.cell? ⟨w.heap.size+1,1,none⟩=some (.int .u64 0):=hS.cell 2 rfl 1
   have z2:wr.cell? ⟨w.heap.size+1,2,none⟩=some (.int .u64 0):=hS.cell 2 rfl 2
   have z3:wr.cell? ⟨w.heap.size+1,3,none⟩=some (.int .u64 0):=hS.cell 2 rfl 3
   have z4:wr.cell? ⟨w.heap.size+1,4,none⟩=some (.int .u64 0):=hS.cell 2 rfl 4
   have y0:=hS.free 2 rfl 0
   have y1:=hS.free 2 rfl 1
   have y2:=hS.free 2 rfl 2
   have y3:=hS.free 2 rfl 3
   have y4:=hS.free 2 rfl 4
   have HEV:=aA hev
   have HR:=aA (((((hS.setCell 2 rfl 0 (.int .u64 (p:Int))).setCell 2 rfl 1 (.int .u64 (q:Int))).setCell 2 rfl 2 (.int .u64 (s:Int))).setCell 2 rfl 3 (.int .u64 (t:Int))).setCell 2 rfl 4 (.int .u64 (u:Int)))
   clear hS hev
   go_wp2_with fail
   refine bodyPost_ret (results_cell_row rfl _ _ (w.heap.size+1) _ _ _ _ rfl (HR.out.heap 2 rfl) Tryz.underlying61 rfl Bt) rfl ?_
   exact⟨p,q,s,t,u,HEV.out,hred,rfl,HR.out.below⟩
  | succ i =>
   have hie:((i+1:Nat):Int) - 1=(i:Int):=An
   rw[hie]
   have hd:decide ((0:Int)≤(i:Int))=true:=B0
   obtain⟨k1,k0⟩:=pexp_step set less i (ev [a,b,c,d,e]) (ev [p,q,s,t,u]) An hev
   have K1:=aA k1
   have K0:=aA k0
   have HC:=aA (fun W=>square_walk p q s t u W hred)
   have HI:Hid (i+1≤set):=aA hm
   clear hie hS hev k1 k0
   go_upto_region 7 with(go_at_call 127;refine(HC.out _).mono ?_;rintro r w2 ⟨r0,r1,r2,r3,r4,hev2,hred2,rfl,hb2⟩;have hS2:=HS.out.call hb2;have x0:w2.cell? ⟨g,0,none⟩=some (.int .u64 (p:Int)):=hS2.cell 0 rfl 0;have x1:w2.cell? ⟨g,1,none⟩=some (.int .u64 (q:Int)):=hS2.cell 0 rfl 1;have x2:w2.cell? ⟨g,2,none⟩=some (.int .u64 (s:Int)):=hS2.cell 0 rfl 2;have x3:w2.cell? ⟨g,3,none⟩=some (.int .u64 (t:Int)):=hS2.cell 0 rfl 3;have x4:w2.cell? ⟨g,4,none⟩=some (.int .u64 (u:Int)):=hS2.cell 0 rfl 4;have v0:=hS2.free 0 rfl 0;have v1:=hS2.free 0 rfl 1;have v2:=hS2.free 0 rfl 2;have v3:=hS2.free 0 rfl 3;have v4:=hS2.free 0 rfl 4;have HEV2:=aA hev2;have HRED2:=aA hred2;have HS2:=aA (((((hS2.setCell 0 rfl 0 (.int .u64 (r0:Int))).setCell 0 rfl 1 (.int .u64 (r1:Int))).setCell 0 rfl 2 (.int .u64 (r2:Int))).setCell 0 rfl 3 (.int .u64 (r3:Int))).setCell 0 rfl 4 (.int .u64 (r4:Int)));clear hev2 hred2 hS2 n0 n1 n2 n3 n4 f0 f1 f2 f3 f4)
   clear x0 x1 x2 x3 x4 v0 v1 v2 v3 v4 g0
   generalize (((((w2.setCell ⟨g,0,none⟩ (.int .u64 (r0:Int))).setCell ⟨g,1,none⟩ (.int .u64 (r1:Int))).setCell ⟨g,2,none⟩ (.int .u64 (r2:Int))).setCell ⟨g,3,none⟩ (.int .u64 (r3:Int))).setCell ⟨g,4,none⟩ (.int .u64 (r4:Int)))=wz at HS2 ⊢
   replace HS2:Hid (St w NoB wz [.cells g #[.int .u64 (r0:Int),.int .u64 (r1:Int),.int .u64 (r2:Int),.int .u64 (r3:Int),.int .u64 (r4:Int)] 61,.cells (g+1) #[.func (.func 127) #[] #[],.func (.func 83) #[.agg #[.int .u64 (a:Int),.int .u64 (b:Int),.int .u64 (c:Int),.int .u64 (d:Int),.int .u64 (e:Int)]] #[]] 203,.cells (w.heap.size+1) #[.int .u64 0,.int .u64 0,.int .u64 0,.int .u64 0,.int .u64 0] 61]):=HS2
   have g1:wz.cell? ⟨g+1,1,none⟩=some (.func (.func 83) #[.agg #[.int .u64 (a:Int),.int .u64 (b:Int),.int .u64 (c:Int),.int .u64 (d:Int),.int .u64 (e:Int)]] #[]):=HS2.out.cell 1 rfl 1
   have n0:wz.cell? ⟨g,0,none⟩=some (.int .u64 (r0:Int)):=HS2.out.cell 0 rfl 0
   have n1:wz.cell? ⟨g,1,none⟩=some (.int .u64 (r1:Int)):=HS2.out.cell 0 rfl 1
   have n2:wz.cell? ⟨g,2,none⟩=some (.int .u64 (r2:Int)):=HS2.out.cell 0 rfl 2
   have n3:wz.cell? ⟨g,3,none⟩=some (.int .u64 (r3:Int)):=HS2.out.cell 0 rfl 3
   have n4:wz.cell? ⟨g,4,none⟩=some (.int .u64 (r4:Int)):=HS2.out.cell 0 rfl 4
   have f0:=HS2.out.free 0 rfl 0
   have f1:=HS2.out.free 0 rfl 1
   have f2:=HS2.out.free 0 rfl 2
   have f3:=HS2.out.free 0 rfl 3
   have f4:=HS2.out.free 0 rfl 4
   by_cases h5:5≤i
   ·have d5:decide ((5:Int)≤(i:Int))=true:=by simp;omega
    have HB:=aA (pbit_hi less i h5)
    clear K0
    go_wp2_with (go_at_call 83;refine(mul_walk a b c d e r0 r1 r2 r3 r4 _ HA.out HRED2.out).mono ?_;rintro r w3 ⟨s0,s1,s2,s3,s4,hev3,hred3,rfl,hb3⟩;have hS3:=HS2.out.call hb3;have y0:w3.cell? ⟨g,0,none⟩=some (.int .u64 (r0:Int)):=hS3.cell 0 rfl 0;have y1:w3.cell? ⟨g,1,none⟩=some (.int .u64 (r1:Int)):=hS3.cell 0 rfl 1;have y2:w3.cell? ⟨g,2,none⟩=some (.int .u64 (r2:Int)):=hS3.cell 0 rfl 2;have y3:w3.cell? ⟨g,3,none⟩=some (.int .u64 (r3:Int)):=hS3.cell 0 rfl 3;have y4:w3.cell? ⟨g,4,none⟩=some (.int .u64 (r4:Int)):=hS3.cell 0 rfl 4;have u0:=hS3.free 0 rfl 0;have u1:=hS3.free 0 rfl 1;have u2:=hS3.free 0 rfl 2;have u3:=hS3.free 0 rfl 3;have u4:=hS3.free 0 rfl 4;have HEV3:=aA hev3;have HS3:=aA (((((hS3.setCell 0 rfl 0 (.int .u64 (s0:Int))).setCell 0 rfl 1 (.int .u64 (s1:Int))).setCell 0 rfl 2 (.int .u64 (s2:Int))).setCell 0 rfl 3 (.int .u64 (s3:Int))).setCell 0 rfl 4 (.int .u64 (s4:Int)));clear hev3 n0 n1 n2 n3 n4 f0 f1 f2 f3 f4 hb2 g1)
    go_roundw
    case rel =>
     refine⟨i,s0,s1,s2,s3,s4,An,rfl,hred3,?_,HS3.out⟩
     have:=HEV3.out
     rw[HEV2.out] at this
     rw[this]
     exact K1.out HB.out (Nat.mod_mod _ _)
    case measure=>(simp[intOf])<;>omega
   ·have d5:decide ((5:Int)≤(i:Int))=false:=by simp;omega
    have hb:bits .and .u64 (((31 - less)/2^i:Nat):Int) 1=((pbit less i:Nat):Int):=by
     rw[pbit_lo less i An]
     exact odd_bit _ (Nat.lt_of_le_of_lt (Nat.div_le_self _ _) An)
    have hcst:(((31 - less)/2^i:Nat):Int)=(31 - (less:Int))/2^i:=by
     rw[Int.natCast_ediv,Int.natCast_sub hl,Int.natCast_pow]
     rfl
    rw[hcst] at hb
    clear hcst
    have h2i:pbit less i=0∨pbit less i=1:=by rw[pbit_lo less i An];omega
    rcases h2i with h0|h0
    ·have HB:=aA h0
     rw[h0] at hb
     replace hb:bits .and .u64 ((31 - (less:Int))/2^i) 1=0:=hb
     clear h0
     go_wp2_with fail
     go_roundw
     case rel=>exact⟨i,r0,r1,r2,r3,r4,An,rfl,HRED2.out,by rw[HEV2.out];exact K0.out HB.out,HS2.out⟩
     case measure=>(simp[intOf])<;>omega
    ·have HB:=aA h0
     rw[h0] at hb
     replace hb:bits .and .u64 ((31 - (less:Int))/2^i) 1=1:=hb
     clear h0 K0
     go_wp2_with (go_at_call 83;refine(mul_walk a b c d e r0 r1 r2 r3 r4 _ HA.out HRED2.out).mono ?_;rintro r w3 ⟨s0,s1,s2,s3,s4,hev3,hred3,rfl,hb3⟩;have hS3:=HS2.out.call hb3;have y0:w3.cell? ⟨g,0,none⟩=some (.int .u64 (r0:Int)):=hS3.cell 0 rfl 0;have y1:w3.cell? ⟨g,1,none⟩=some (.int .u64 (r1:Int)):=hS3.cell 0 rfl 1;have y2:w3.cell? ⟨g,2,none⟩=some (.int .u64 (r2:Int)):=hS3.cell 0 rfl 2;have y3:w3.cell? ⟨g,3,none⟩=some (.int .u64 (r3:Int)):=hS3.cell 0 rfl 3;have y4:w3.cell? ⟨g,4,none⟩=some (.int .u64 (r4:Int)):=hS3.cell 0 rfl 4;have u0:=hS3.free 0 rfl 0;have u1:=hS3.free 0 rfl 1;have u2:=hS3.free 0 rfl 2;have u3:=hS3.free 0 rfl 3;have u4:=hS3.free 0 rfl 4;have HEV3:=aA hev3;have HS3:=aA (((((hS3.setCell 0 rfl 0 (.int .u64 (s0:Int))).setCell 0 rfl 1 (.int .u64 (s1:Int))).setCell 0 rfl 2 (.int .u64 (s2:Int))).setCell 0 rfl 3 (.int .u64 (s3:Int))).setCell 0 rfl 4 (.int .u64 (s4:Int)));clear hev3 n0 n1 n2 n3 n4 f0 f1 f2 f3 f4 hb2 g1)
     go_roundw
     case rel =>
      refine⟨i,s0,s1,s2,s3,s4,An,rfl,hred3,?_,HS3.out⟩
      have:=HEV3.out
      rw[HEV2.out] at this
      rw[this]
      exact K1.out HB.out (Nat.mod_mod _ _)
     case measure=>(simp[intOf])<;>omega
instance : NeZero Pq := ⟨by unfold Pq; decide⟩
abbrev FK:Type:=Fin Pq
theorem pq_pos:0<Pq:=Ce
@[irreducible] def finv (x:FK):FK:=⟨x.val^(Pq - 2)%Pq,Nat.mod_lt _ pq_pos⟩
def fbytes (l:List UInt8):FK:=⟨bval (fullL l)%Pq,Nat.mod_lt _ pq_pos⟩
theorem finv_val (x:FK):(finv x).val=x.val^(Pq - 2)%Pq:=by unfold finv;rfl
theorem fzero_val:(0:FK).val=0:=Nat.zero_mod _
theorem cZ (x y:FK):(x+y).val=(x.val+y.val)%Pq:=Fin.val_add x y
theorem cN (x y:FK):(x*y).val=x.val*y.val%Pq:=Fin.val_mul x y
theorem fsub_val (x y:FK):(x - y).val=(x.val+(Pq - y.val))%Pq:=by rw[Fin.sub_def];show(Pq - y.val+x.val)%Pq=_;rw[Nat.add_comm]
theorem iC (x:FK):(-x).val=(Pq - x.val)%Pq:=rfl
theorem inv_exp:pexp 255 20 255=Pq - 2:=Dc
theorem inv_walk (a b c d e:Nat)(w:World)(ha:Red [a,b,c,d,e]) :
  Calls Tryz.prog 82 #[(.agg #[.int .u64 (a:Int),.int .u64 (b:Int),.int .u64 (c:Int),.int .u64 (d:Int),.int .u64 (e:Int)])] w fun r w'=>∃p q s t u:Nat,ev [p,q,s,t,u]=ev [a,b,c,d,e]^(Pq - 2)%Pq∧Red [p,q,s,t,u]∧r=.returned (.agg #[.int .u64 (p:Int),.int .u64 (q:Int),.int .u64 (s:Int),.int .u64 (t:Int),.int .u64 (u:Int)])∧Below w.heap.size w w':=by
 have HC:=aA (fun W=>power_walk a b c d e 255 20 W ha Bz Bz Bz)
 rw[inv_exp] at HC
 have HSE:=aA (((St.init w NoB).alloc #[.int .u64 (a:Int),.int .u64 (b:Int),.int .u64 (c:Int),.int .u64 (d:Int),.int .u64 (e:Int)] 61).alloc #[.int .u64 0,.int .u64 0,.int .u64 0,.int .u64 0,.int .u64 0] 61)
 rw[size_alloc1] at HSE
 clear ha
 go_enter Tryz.func82,Tryz.ntmps82
 go_wp2_with (go_at_call 122;refine(HC.out _).mono ?_;rintro r w2 ⟨r0,r1,r2,r3,r4,hev,hred,rfl,hb2⟩;have hS2:=HSE.out.call hb2;have z0:w2.cell? ⟨w.heap.size+1,0,none⟩=some (.int .u64 0):=hS2.cell 0 rfl 0;have z1:w2.cell? ⟨w.heap.size+1,1,none⟩=some (.int .u64 0):=hS2.cell 0 rfl 1;have z2:w2.cell? ⟨w.heap.size+1,2,none⟩=some (.int .u64 0):=hS2.cell 0 rfl 2;have z3:w2.cell? ⟨w.heap.size+1,3,none⟩=some (.int .u64 0):=hS2.cell 0 rfl 3;have z4:w2.cell? ⟨w.heap.size+1,4,none⟩=some (.int .u64 0):=hS2.cell 0 rfl 4;have y0:=hS2.free 0 rfl 0;have y1:=hS2.free 0 rfl 1;have y2:=hS2.free 0 rfl 2;have y3:=hS2.free 0 rfl 3;have y4:=hS2.free 0 rfl 4;have HEV:=aA hev;clear hev)
 have HS:=aA (((((hS2.setCell 0 rfl 0 (.int .u64 (r0:Int))).setCell 0 rfl 1 (.int .u64 (r1:Int))).setCell 0 rfl 2 (.int .u64 (r2:Int))).setCell 0 rfl 3 (.int .u64 (r3:Int))).setCell 0 rfl 4 (.int .u64 (r4:Int)))
 refine bodyPost_ret (results_cell_row rfl _ _ (w.heap.size+1) _ _ _ _ rfl (HS.out.heap 0 rfl) Tryz.underlying61 rfl Bt) rfl ?_
 exact⟨r0,r1,r2,r3,r4,HEV.out,hred,rfl,HS.out.below⟩
theorem addE {a b c d e a' b' c' d' e':Nat}{X Y:FK}{w:World}(h:ev [a,b,c,d,e]=X.val)(r:Red [a,b,c,d,e])(h':ev [a',b',c',d',e']=Y.val)(r':Red [a',b',c',d',e']) :
  Calls Tryz.prog 90 #[(.agg #[.int .u64 (a:Int),.int .u64 (b:Int),.int .u64 (c:Int),.int .u64 (d:Int),.int .u64 (e:Int)]),(.agg #[.int .u64 (a':Int),.int .u64 (b':Int),.int .u64 (c':Int),.int .u64 (d':Int),.int .u64 (e':Int)])] w fun r w'=>∃p q s t u:Nat,ev [p,q,s,t,u]=(X+Y).val∧Red [p,q,s,t,u]∧r=.returned (.agg #[.int .u64 (p:Int),.int .u64 (q:Int),.int .u64 (s:Int),.int .u64 (t:Int),.int .u64 (u:Int)])∧Below w.heap.size w w':=by
 rw[cZ,←h,←h']
 exact add_walk _ _ _ _ _ _ _ _ _ _ w r r'
theorem subE {a b c d e a' b' c' d' e':Nat}{X Y:FK}{w:World}(h:ev [a,b,c,d,e]=X.val)(r:Red [a,b,c,d,e])(h':ev [a',b',c',d',e']=Y.val)(r':Red [a',b',c',d',e']) :
  Calls Tryz.prog 88 #[(.agg #[.int .u64 (a:Int),.int .u64 (b:Int),.int .u64 (c:Int),.int .u64 (d:Int),.int .u64 (e:Int)]),(.agg #[.int .u64 (a':Int),.int .u64 (b':Int),.int .u64 (c':Int),.int .u64 (d':Int),.int .u64 (e':Int)])] w fun r w'=>∃p q s t u:Nat,ev [p,q,s,t,u]=(X - Y).val∧Red [p,q,s,t,u]∧r=.returned (.agg #[.int .u64 (p:Int),.int .u64 (q:Int),.int .u64 (s:Int),.int .u64 (t:Int),.int .u64 (u:Int)])∧Below w.heap.size w w':=by
 rw[fsub_val,←h,←h']
 exact sub_walk _ _ _ _ _ _ _ _ _ _ w r r'
theorem mulE {a b c d e a' b' c' d' e':Nat}{X Y:FK}{w:World}(h:ev [a,b,c,d,e]=X.val)(r:Red [a,b,c,d,e])(h':ev [a',b',c',d',e']=Y.val)(r':Red [a',b',c',d',e']) :
  Calls Tryz.prog 83 #[(.agg #[.int .u64 (a:Int),.int .u64 (b:Int),.int .u64 (c:Int),.int .u64 (d:Int),.int .u64 (e:Int)]),(.agg #[.int .u64 (a':Int),.int .u64 (b':Int),.int .u64 (c':Int),.int .u64 (d':Int),.int .u64 (e':Int)])] w fun r w'=>∃p q s t u:Nat,ev [p,q,s,t,u]=(X*Y).val∧Red [p,q,s,t,u]∧r=.returned (.agg #[.int .u64 (p:Int),.int .u64 (q:Int),.int .u64 (s:Int),.int .u64 (t:Int),.int .u64 (u:Int)])∧Below w.heap.size w w':=by
 rw[cN,←h,←h']
 exact mul_walk _ _ _ _ _ _ _ _ _ _ w r r'
theorem negE {a b c d e:Nat}{X:FK}{w:World}(h:ev [a,b,c,d,e]=X.val)(r:Red [a,b,c,d,e]) :
  Calls Tryz.prog 91 #[(.agg #[.int .u64 (a:Int),.int .u64 (b:Int),.int .u64 (c:Int),.int .u64 (d:Int),.int .u64 (e:Int)])] w fun r w'=>∃p q s t u:Nat,ev [p,q,s,t,u]=(-X).val∧Red [p,q,s,t,u]∧r=.returned (.agg #[.int .u64 (p:Int),.int .u64 (q:Int),.int .u64 (s:Int),.int .u64 (t:Int),.int .u64 (u:Int)])∧Below w.heap.size w w':=by
 rw[iC,←h]
 exact neg_walk _ _ _ _ _ w r
theorem invE {a b c d e:Nat}{X:FK}{w:World}(h:ev [a,b,c,d,e]=X.val)(r:Red [a,b,c,d,e]) :
  Calls Tryz.prog 82 #[(.agg #[.int .u64 (a:Int),.int .u64 (b:Int),.int .u64 (c:Int),.int .u64 (d:Int),.int .u64 (e:Int)])] w fun r w'=>∃p q s t u:Nat,ev [p,q,s,t,u]=(finv X).val∧Red [p,q,s,t,u]∧r=.returned (.agg #[.int .u64 (p:Int),.int .u64 (q:Int),.int .u64 (s:Int),.int .u64 (t:Int),.int .u64 (u:Int)])∧Below w.heap.size w w':=by
 rw[finv_val,←h]
 exact inv_walk _ _ _ _ _ w r
theorem sameE {a b c d e a' b' c' d' e':Nat}{X Y:FK}{w:World}(h:ev [a,b,c,d,e]=X.val)(r:Red [a,b,c,d,e])(h':ev [a',b',c',d',e']=Y.val)(r':Red [a',b',c',d',e']) :
  Calls Tryz.prog 128 #[(.agg #[.int .u64 (a:Int),.int .u64 (b:Int),.int .u64 (c:Int),.int .u64 (d:Int),.int .u64 (e:Int)]),(.agg #[.int .u64 (a':Int),.int .u64 (b':Int),.int .u64 (c':Int),.int .u64 (d':Int),.int .u64 (e':Int)])] w fun r w'=>r=.returned (.bool (decide (X.val=Y.val)))∧Below w.heap.size w w':=by
 rw[←h,←h']
 exact same_walk _ _ _ _ _ _ _ _ _ _ w (red_low r) (red_low r')
theorem zeroE {a b c d e:Nat}{X:FK}{w:World}(h:ev [a,b,c,d,e]=X.val)(r:Red [a,b,c,d,e]) :
  Calls Tryz.prog 121 #[(.agg #[.int .u64 (a:Int),.int .u64 (b:Int),.int .u64 (c:Int),.int .u64 (d:Int),.int .u64 (e:Int)])] w fun r w'=>r=.returned (.bool (decide (X.val=0)))∧Below w.heap.size w w':=by
 rw[←h]
 exact iszero_walk _ _ _ _ _ w (red_low r)
theorem oddE {a b c d e:Nat}{X:FK}{w:World}(h:ev [a,b,c,d,e]=X.val)(r:Red [a,b,c,d,e]) :
  Calls Tryz.prog 85 #[(.agg #[.int .u64 (a:Int),.int .u64 (b:Int),.int .u64 (c:Int),.int .u64 (d:Int),.int .u64 (e:Int)])] w fun r w'=>r=.returned (.bool (decide (X.val%2=1)))∧Below w.heap.size w w':=by
 rw[←h]
 exact isodd_walk _ _ _ _ _ w (red_low r)
theorem smallE (n:Nat)(w:World)(h:n<4294967296) :
  Calls Tryz.prog 89 #[.int .u32 (n:Int)] w fun r w'=>∃p q s t u:Nat,ev [p,q,s,t,u]=n∧Red [p,q,s,t,u]∧r=.returned (.agg #[.int .u64 (p:Int),.int .u64 (q:Int),.int .u64 (s:Int),.int .u64 (t:Int),.int .u64 (u:Int)])∧Below w.heap.size w w':=
 (small_walk n w h).mono fun r w' hr=>⟨n,0,0,0,0,ev_small n h,red_small n h,hr.1,hr.2⟩
theorem fromE {A:Option Addr}{n c:Nat}{l:List UInt8}{w:World}(hl:l.length=n)(hn:n≤1000)(hr:Rd w (.slice A n c) 1 n (bvs l)) :
  Calls Tryz.prog 86 #[.slice A n c] w fun r w'=>∃p q s t u:Nat,ev [p,q,s,t,u]=(fbytes l).val∧Red [p,q,s,t,u]∧r=.returned (.agg #[.int .u64 (p:Int),.int .u64 (q:Int),.int .u64 (s:Int),.int .u64 (t:Int),.int .u64 (u:Int)])∧Below w.heap.size w w':=from_walk A n c l w hl hn hr
def hxN (d:Nat):Nat:=if d<10 then 48+d else 87+d
theorem lower_any (c:Nat)(h:97≤c)(h':c≤102)(w:World):Calls Tryz.prog 171 #[.int .u8 (c:Int)] w fun e w'=>e=.returned (.int .u8 (c:Int))∧w=w':=by
 have hb:bits .or .u8 (c:Int) 32=(c:Int):=by
  have:c=97∨c=98∨c=99∨c=100∨c=101∨c=102:=by omega
  rcases this with rfl|rfl|rfl|rfl|rfl|rfl<;>decide
 go_enter Tryz.func171,Tryz.ntmps171
 go_wp2_with fail
 go_ret
 exact⟨rfl,rfl⟩
def twoB (c1 c2:Nat):ByteArray:=⟨#[UInt8.ofNat c1,UInt8.ofNat c2]⟩
theorem twoB_cell (w:World)(e:TypeId)(c1 c2:Nat)(h1:c1<256)(h2:c2<256) :
  (Lib.bytesWorld w e (twoB c1 c2)).cell? ⟨w.heap.size,0,none⟩=some (.int .u8 (c1:Int))∧(Lib.bytesWorld w e (twoB c1 c2)).cell? ⟨w.heap.size,1,none⟩=some (.int .u8 (c2:Int)):=by
 have e0:=Lib.bytesWorld_cell w e (twoB c1 c2) 0 (by show 0<2;decide)
 have e1:=Lib.bytesWorld_cell w e (twoB c1 c2) 1 (by show 1<2;decide)
 refine⟨e0.trans ?_,e1.trans ?_⟩
 ·show some (Value.int .u8 ((UInt8.ofNat c1).toNat:Int))=_
  rw[UInt8.toNat_ofNat',Nat.mod_eq_of_lt An]
 ·show some (Value.int .u8 ((UInt8.ofNat c2).toNat:Int))=_
  rw[UInt8.toNat_ofNat',Nat.mod_eq_of_lt An]
theorem hx_lt {d:Nat}(h:d<16):hxN d<103:=by unfold hxN;split<;>omega
theorem parseI_hex (d1 d2:Nat)(h1:d1<16)(h2:d2<16)(w:World) :
  Calls Tryz.prog 160 #[.string (twoB (hxN d1) (hxN d2)),.int .i64 16,.int .i64 8] w fun e w'=>e=.returned (.tuple #[.int .u64 ((16*d1+d2:Nat):Int),.nilIface])∧Below w.heap.size w w':=by
 have hcv:=Lib.run_convert_string_bytes (P:=Tryz.prog) w 9 22 5 (twoB (hxN d1) (hxN d2)) Tryz.underlying9 Tryz.underlying22 Tryz.underlying5
 rw[show(twoB (hxN d1) (hxN d2)).size=2 from rfl] at hcv
 have hne:(twoB (hxN d1) (hxN d2)).toList.isEmpty=false:=by
  rw[show twoB (hxN d1) (hxN d2)=strOf [UInt8.ofNat (hxN d1),UInt8.ofNat (hxN d2)] from by rw[dH];rfl,strOf_toList]
  rfl
 obtain⟨g0,g1⟩:=twoB_cell w 5 (hxN d1) (hxN d2) (by have:=hx_lt h1;omega) (by have:=hx_lt h2;omega)
 have hB:=Lib.bytesWorld_below w 5 (twoB (hxN d1) (hxN d2))
 have HC:=aA (show ∀(c:Nat),97≤c→c≤102→∀W,Calls Tryz.prog 171 #[.int .u8 (c:Int)] W fun e w'=>e=.returned (.int .u8 (c:Int))∧W=w' from fun c a b W=>lower_any c a b W)
 generalize hs:twoB (hxN d1) (hxN d2)=s at *
 generalize grownCap w 2 0 5=cap at *
 have e1:hxN d1=if d1<10 then 48+d1 else 87+d1:=rfl
 have e2:hxN d2=if d2<10 then 48+d2 else 87+d2:=rfl
 obtain⟨c1,hc1⟩:∃c:Int,c=((hxN d1:Nat):Int):=⟨_,rfl⟩
 obtain⟨c2,hc2⟩:∃c:Int,c=((hxN d2:Nat):Int):=⟨_,rfl⟩
 obtain⟨b1,hb1⟩:∃b:Int,b=(d1:Int):=⟨_,rfl⟩
 obtain⟨b2,hb2⟩:∃b:Int,b=(d2:Int):=⟨_,rfl⟩
 rw[←hc1] at g0
 rw[←hc2] at g1
 have HE1:Hid ((b1<10∧c1=48+b1)∨(10≤b1∧c1=87+b1)):=aA (by rw[hc1,hb1,e1];split<;>omega)
 have HE2:Hid ((b2<10∧c2=48+b2)∨(10≤b2∧c2=87+b2)):=aA (by rw[hc2,hb2,e2];split<;>omega)
 have HB1:Hid (0≤b1∧b1<16):=aA An
 have HB2:Hid (0≤b2∧b2<16):=aA An
 have eres:((16*d1+d2:Nat):Int)=16*b1+b2:=An
 rw[eres]
 have HC:Hid (∀(c:Int),97≤c→c≤102→∀W,Calls Tryz.prog 171 #[.int .u8 c] W fun e w'=>e=.returned (.int .u8 c)∧W=w'):=aA (fun c a b W=>by
  obtain⟨m,rfl⟩:∃m:Nat,c=(m:Int):=⟨c.toNat,An⟩
  exact HC.out m An An W)
 clear hs hc1 hc2 hb1 hb2 eres e1 e2 h1 h2
 go_enter Tryz.func160,Tryz.ntmps160
 go_wp2_with fail
 generalize Lib.bytesWorld w 5 s=wB at g0 g1 hB ⊢
 clear hcv hne
 go_loopw [12,13,101] (fun u n i wr=>u=.bool false∧((i=.int .i64 0∧n=.int .u64 0)∨(i=.int .i64 1∧n=.int .u64 b1)∨(i=.int .i64 2∧n=.int .u64 (16*b1+b2)))∧wr=wB) (fun _ _ i _=>(2 - intOf i).toNat)
 case atStart=>exact⟨rfl,.inl ⟨rfl,rfl⟩,rfl⟩
 case round =>
  obtain⟨rfl,hcase,rfl⟩:=hrel
  rcases hcase with⟨rfl,rfl⟩|⟨rfl,rfl⟩|⟨rfl,rfl⟩
  ·rcases HE1.out with⟨k1,rfl⟩|⟨k1,rfl⟩
   ·obtain⟨l1,l2⟩:=HB1.out
    obtain⟨l3,l4⟩:=HB2.out
    have p3:((48+b1)==95)=false:=A9
    have p4:decide ((48+b1)=95)=false:=A9
    have p5:decide ((16:Int)≤b1)=false:=A9
    have p7:decide (b1<0)=false:=A9
    have p8:decide ((255:Int)<b1)=false:=A9
    have p1:decide ((48:Int)≤48+b1)=true:=A9
    have p2:decide (48+b1≤57)=true:=A9
    have q1:48+b1 - 48=b1:=An
    go_wp2_with fail
    go_roundw
    case rel=>exact⟨rfl,.inr (.inl ⟨rfl,rfl⟩),trivial⟩
    case measure=>(simp[intOf])
   ·obtain⟨l1,l2⟩:=HB1.out
    obtain⟨l3,l4⟩:=HB2.out
    have p3:((87+b1)==95)=false:=A9
    have p4:decide ((87+b1)=95)=false:=A9
    have p5:decide ((16:Int)≤b1)=false:=A9
    have p7:decide (b1<0)=false:=A9
    have p8:decide ((255:Int)<b1)=false:=A9
    have p1:decide ((48:Int)≤87+b1)=true:=A9
    have p2:decide (87+b1≤57)=false:=A9
    have p21:decide ((97:Int)≤87+b1)=true:=A9
    have p22:decide (87+b1≤122)=true:=A9
    have q1:87+b1 - 97=b1 - 10:=An
    have q2:b1 - 10+10=b1:=An
    have HL:=aA (fun W=>HC.out (87+b1) An An W)
    go_wp2_with (go_at_call 171;(with_reducible refine(HL.out _).mono ?_);rintro e w' ⟨rfl,rfl⟩)
    go_roundw
    case rel=>exact⟨rfl,.inr (.inl ⟨rfl,rfl⟩),trivial⟩
    case measure=>(simp[intOf])
  ·rcases HE2.out with⟨k1,rfl⟩|⟨k1,rfl⟩
   ·obtain⟨l1,l2⟩:=HB1.out
    obtain⟨l3,l4⟩:=HB2.out
    have p3:((48+b2)==95)=false:=A9
    have p4:decide ((48+b2)=95)=false:=A9
    have p5:decide ((16:Int)≤b2)=false:=A9
    have p6:decide ((1152921504606846976:Int)≤b1)=false:=A9
    have p7:decide (b1*16+b2<b1*16)=false:=A9
    have p8:decide ((255:Int)<b1*16+b2)=false:=A9
    have p1:decide ((48:Int)≤48+b2)=true:=A9
    have p2:decide (48+b2≤57)=true:=A9
    have q1:48+b2 - 48=b2:=An
    go_wp2_with fail
    go_roundw
    case rel=>exact⟨rfl,.inr (.inr ⟨rfl,by rw[Int.mul_comm 16 b1]⟩),trivial⟩
    case measure=>(simp[intOf])
   ·obtain⟨l1,l2⟩:=HB1.out
    obtain⟨l3,l4⟩:=HB2.out
    have p3:((87+b2)==95)=false:=A9
    have p4:decide ((87+b2)=95)=false:=A9
    have p5:decide ((16:Int)≤b2)=false:=A9
    have p6:decide ((1152921504606846976:Int)≤b1)=false:=A9
    have p7:decide (b1*16+b2<b1*16)=false:=A9
    have p8:decide ((255:Int)<b1*16+b2)=false:=A9
    have p1:decide ((48:Int)≤87+b2)=true:=A9
    have p2:decide (87+b2≤57)=false:=A9
    have p21:decide ((97:Int)≤87+b2)=true:=A9
    have p22:decide (87+b2≤122)=true:=A9
    have q1:87+b2 - 97=b2 - 10:=An
    have q2:b2 - 10+10=b2:=An
    have HL:=aA (fun W=>HC.out (87+b2) An An W)
    go_wp2_with (go_at_call 171;(with_reducible refine(HL.out _).mono ?_);rintro e w' ⟨rfl,rfl⟩)
    go_roundw
    case rel=>exact⟨rfl,.inr (.inr ⟨rfl,by rw[Int.mul_comm 16 b1]⟩),trivial⟩
    case measure=>(simp[intOf])
  ·go_wp2_with fail
   go_ret2
   exact⟨rfl,hB⟩
namespace Fm
def Pr (p:Nat):Prop:=2≤p∧∀d,d∣p→d=1∨d=p
theorem pr_gcd {p a:Nat}(h:Pr p)(ha:¬p∣a):Nat.gcd p a=1:=by
 rcases h.2 _ (Nat.gcd_dvd_left p a) with e|e
 ·exact e
 ·exact absurd (e▸Nat.gcd_dvd_right p a) ha
theorem pr_mul {p a b:Nat}(h:Pr p)(hd:p∣a*b):p∣a∨p∣b:=by
 by_cases ha:p∣a
 ·exact .inl ha
 ·exact .inr (Nat.Coprime.dvd_of_dvd_mul_left (pr_gcd h ha) hd)
def bin:Nat→Nat→Nat
 | _,0=>1
 | 0,_+1=>0
 | n+1,k+1=>bin n k+bin n (k+1)
theorem bin_gt:∀(n k:Nat),n<k→bin n k=0
 | _,0,h=>by omega
 | 0,k+1,_=>rfl
 | n+1,k+1,h=>by rw[bin,bin_gt n k An,bin_gt n (k+1) An]
theorem bin_self:∀n,bin n n=1
 | 0=>rfl
 | n+1=>by rw[bin,bin_self n,bin_gt n (n+1) An]
theorem bin_mul:∀(n k:Nat),(k+1)*bin (n+1) (k+1)=(n+1)*bin n k
 | 0,0=>rfl
 | 0,k+1=>by simp[bin]
 | n+1,0=>by
  have:=bin_mul n 0
  have e:bin (n+1+1) (0+1)=bin (n+1) 0+bin (n+1) (0+1):=rfl
  have e2:bin (n+1) 0=1:=by cases n<;>rfl
  have e3:bin n 0=1:=by cases n<;>rfl
  rw[e,e2]
  rw[e3] at this
  omega
 | n+1,k+1=>by
  have h1:=bin_mul n k
  have h2:=bin_mul n (k+1)
  have e:bin (n+1+1) (k+1+1)=bin (n+1) (k+1)+bin (n+1) (k+1+1):=rfl
  have e2:bin (n+1) (k+1)=bin n k+bin n (k+1):=rfl
  have e3:(k+1+1)*bin (n+1) (k+1)=(k+1)*bin (n+1) (k+1)+bin (n+1) (k+1):=Nat.succ_mul _ _
  have e4:(n+1+1)*bin (n+1) (k+1)=(n+1)*bin (n+1) (k+1)+bin (n+1) (k+1):=Nat.succ_mul _ _
  have e5:(n+1)*bin (n+1) (k+1)=(n+1)*bin n k+(n+1)*bin n (k+1):=by rw[e2,Nat.mul_add]
  rw[e,Nat.mul_add,h2,e3,e4,h1]
  omega
theorem bin_dvd {p k:Nat}(h:Pr p)(h0:0<k)(hk:k<p):p∣bin p k:=by
 obtain⟨k,rfl⟩:∃j,k=j+1:=⟨k - 1,An⟩
 obtain⟨n,rfl⟩:∃j,p=j+1:=⟨p - 1,An⟩
 have e:=bin_mul n k
 rcases pr_mul h (show n+1∣(k+1)*bin (n+1) (k+1) from⟨_,e⟩) with hd|hd
 ·exact absurd (Nat.le_of_dvd An hd) An
 ·exact hd
def sm (f:Nat→Nat):Nat→Nat
 | 0=>0
 | n+1=>sm f n+f n
theorem sm_add (f g:Nat→Nat):∀n,sm (fun i=>f i+g i) n=sm f n+sm g n
 | 0=>rfl
 | n+1=>by simp only[sm,sm_add f g n];omega
theorem sm_mul (c:Nat)(f:Nat→Nat):∀n,sm (fun i=>c*f i) n=c*sm f n
 | 0=>rfl
 | n+1=>by simp only[sm,sm_mul c f n,Nat.mul_add]
theorem sm_shift (f:Nat→Nat):∀n,sm f (n+1)=f 0+sm (fun i=>f (i+1)) n
 | 0=>by simp[sm]
 | n+1=>by rw[sm,sm_shift f n,sm];omega
theorem sm_congr {f g:Nat→Nat}:∀n,(∀i,i<n→f i=g i)→sm f n=sm g n
 | 0,_=>rfl
 | n+1,h=>by rw[sm,sm,sm_congr n (fun i hi=>h i An),h n An]
theorem sm_dvd {f:Nat→Nat}{p:Nat}:∀n,(∀i,i<n→p∣f i)→p∣sm f n
 | 0,_=>⟨0,rfl⟩
 | n+1,h=>Nat.dvd_add (sm_dvd n (fun i hi=>h i An)) (h n An)
theorem binom (x:Nat):∀n,(x+1)^n=sm (fun i=>bin n i*x^i) (n+1)
 | 0=>by simp[sm,bin]
 | n+1=>by
  rw[Nat.pow_succ,binom x n,Nat.mul_add,Nat.mul_one,Nat.mul_comm _ x,←sm_mul,sm_shift (fun i=>bin (n+1) i*x^i) (n+1)]
  have e1:sm (fun i=>bin (n+1) (i+1)*x^(i+1)) (n+1)=sm (fun i=>x*(bin n i*x^i)) (n+1)+sm (fun i=>bin n (i+1)*x^(i+1)) (n+1):=by
   rw[←sm_add]
   refine sm_congr _ fun i _=>?_
   rw[bin,Nat.pow_succ,Nat.add_mul]
   congr 1
   rw[←Nat.mul_assoc,Nat.mul_comm]
  have e2:sm (fun i=>bin n (i+1)*x^(i+1)) (n+1)=sm (fun i=>bin n (i+1)*x^(i+1)) n:=by
   rw[sm,bin_gt n (n+1) An]
   omega
  have e3:=sm_shift (fun i=>bin n i*x^i) n
  have e4:bin (n+1) 0*x^0=bin n 0*x^0:=by cases n<;>rfl
  rw[e1,e2,e3,e4]
  omega
theorem fermat {p:Nat}(h:Pr p):∀x,x^p%p=x%p
 | 0=>by rw[Nat.zero_pow (by have:=h.1;omega)]
 | x+1=>by
  have ih:=fermat h x
  obtain⟨n,rfl⟩:∃j,p=j+2:=⟨p - 2,by have:=h.1;omega⟩
  have b0:bin (n+2) 0=1:=rfl
  have b1:bin (n+2) (n+1+1)=1:=bin_self _
  have e:(x+1)^(n+2)=1+sm (fun i=>bin (n+2) (i+1)*x^(i+1)) (n+1)+x^(n+2):=by
   rw[binom,sm_shift,sm]
   rw[b0,b1,Nat.pow_zero,Nat.one_mul,Nat.one_mul]
   exact(Nat.add_assoc _ _ _).symm
  obtain⟨c,hc⟩:n+2∣sm (fun i=>bin (n+2) (i+1)*x^(i+1)) (n+1):=sm_dvd _ fun i hi=>Nat.dvd_trans (bin_dvd h An An) (Nat.dvd_mul_right _ _)
  rw[e,hc,Nat.add_assoc,Nat.add_comm,Nat.add_assoc,Nat.mul_add_mod]
  rw[Nat.add_mod,ih,←Nat.add_mod]
theorem fermat1 {p x:Nat}(h:Pr p)(hx:¬p∣x):x^(p - 1)%p=1:=by
 have e:=fermat h x
 obtain⟨n,rfl⟩:∃j,p=j+2:=⟨p - 2,by have:=h.1;omega⟩
 rw[show n+2 - 1=n+1 from by omega]
 have h1:1≤x^(n+1):=Nat.pos_of_ne_zero fun h0=>hx (by
  have:x=0:=Nat.eq_zero_of_not_pos fun hp=>absurd h0 (Nat.ne_of_gt (Nat.pow_pos hp))
  rw[this];exact⟨0,rfl⟩)
 have hd:n+2∣x*(x^(n+1) - 1):=by
  have hle:x≤x^(n+2):=by
   rw[Nat.pow_succ]
   exact Nat.le_mul_of_pos_left _ h1
  have:=Nat.dvd_of_mod_eq_zero (Nat.sub_mod_eq_zero_of_mod_eq e)
  rwa [Nat.mul_sub,Nat.mul_one,Nat.mul_comm,←Nat.pow_succ]
 rcases pr_mul h hd with hd|⟨c,hc⟩
 ·exact absurd hd hx
 ·rw[show x^(n+1)=1+(n+2)*c from by omega,Nat.add_mul_mod_self_left]
  exact Nat.mod_eq_of_lt An
def pm (N:Nat):Nat→Nat→Nat→Nat
 | 0,_,_=>1%N
 | f+1,a,e=>if e=0 then 1%N else if e%2=1 then a*pm N f (a*a%N) (e/2)%N else pm N f (a*a%N) (e/2)
theorem pm_eq (N:Nat):∀(f a e:Nat),e<2^f→pm N f a e=a^e%N
 | 0,a,e,h=>by
  have:e=0:=by simp at h;omega
  rw[this];rfl
 | f+1,a,e,h=>by
  have ih:=pm_eq N f (a*a%N) (e/2) (by rw[Nat.pow_succ] at h;omega)
  have e2:(a*a%N)^(e/2)%N=a^(2*(e/2))%N:=by rw[←Nat.pow_mod,←Nat.pow_two,←Nat.pow_mul]
  rw[pm,ih,e2]
  split
  ·rename_i h0;rw[h0];rfl
  ·split
   ·rw[Nat.mul_mod_mod,Nat.mul_comm,←Nat.pow_succ,show(2*(e/2)).succ=e from by omega]
   ·rw[show 2*(e/2)=e from by omega]
theorem pow_gcd {r b:Nat}(m n:Nat)(h1:b^m%r=1%r)(h2:b^n%r=1%r):b^Nat.gcd m n%r=1%r:=by
 induction m,n using Nat.gcd.induction with
 | H0 n=>rw[Nat.gcd_zero_left];exact h2
 | H1 m n hm ih =>
  rw[Nat.gcd_rec]
  refine ih ?_ h1
  have e:=h2
  rw[←Nat.div_add_mod n m,Nat.pow_add,Nat.pow_mul,Nat.mul_mod,Nat.pow_mod,h1,←Nat.pow_mod,Nat.one_pow,←Nat.mul_mod,Nat.one_mul] at e
  exact e
theorem pr_dvd:∀n,2≤n→∃r,Pr r∧r∣n:=by
 intro n
 induction n using Nat.strongRecOn with
 | ind n ih =>
  intro hn
  by_cases h:Pr n
  ·exact⟨n,h,Nat.dvd_refl n⟩
  ·have:∃d,d∣n∧d≠1∧d≠n:=Classical.byContradiction fun hx=>h ⟨hn,fun d hd=>Classical.byContradiction fun hy=>hx ⟨d,hd,fun e=>hy (.inl e),fun e=>hy (.inr e)⟩⟩
   obtain⟨d,h1,h2,h3⟩:=this
   have hle:=Nat.le_of_dvd An h1
   have hd0:d≠0:=fun e=>by rw[e] at h1;have:=Nat.eq_zero_of_zero_dvd h1;omega
   obtain⟨r,hr,hrd⟩:=ih d An An
   exact⟨r,hr,Nat.dvd_trans hrd h1⟩
theorem pock {N Q a:Nat}(hQ:Pr Q)(hQN:Q∣N - 1)(h1:a^(N - 1)%N=1)(h2:Nat.gcd (a^((N - 1)/Q)%N - 1) N=1):∀r,Pr r→r∣N→Q∣r - 1:=by
 intro r hr hrN
 refine Classical.byContradiction fun hn=>?_
 have hg:=pr_gcd hQ hn
 have hmod:∀z,z%N%r=z%r:=fun z=>Nat.mod_mod_of_dvd z hrN
 have h1r:(a^((N - 1)/Q))^Q%r=1%r:=by
  rw[←Nat.pow_mul,Nat.div_mul_cancel hQN,←hmod,h1]
 have hra:¬r∣a^((N - 1)/Q):=fun hd=>by
  have h3:=Nat.mod_eq_zero_of_dvd hd
  rw[Nat.pow_mod,h3,Nat.zero_pow (by have:=hQ.1;omega),Nat.zero_mod,Nat.mod_eq_of_lt (by have:=hr.1;omega)] at h1r
  omega
 have h2r:=fermat1 hr hra
 have h3:=pow_gcd Q (r - 1) h1r (by rw[h2r];exact(Nat.mod_eq_of_lt (by have:=hr.1;omega)).symm)
 rw[hg,Nat.pow_one,←hmod] at h3
 have hd:r∣a^((N - 1)/Q)%N - 1:=Nat.dvd_of_mod_eq_zero (Nat.sub_mod_eq_zero_of_mod_eq h3)
 have:=Nat.dvd_gcd hd hrN
 rw[h2] at this
 have:=Nat.le_of_dvd An this
 have:=hr.1
 omega
theorem pr_of {N F:Nat}(hN:2≤N)(hF:N<F*F)(h:∀r,Pr r→r∣N→F∣r - 1):Pr N:=by
 have big:∀r,Pr r→r∣N→F<r:=fun r hr hd=>by
  have:=Nat.le_of_dvd (by have:=hr.1;omega) (h r hr hd)
  have:=hr.1
  omega
 refine⟨hN,fun d hd=>Classical.byContradiction fun hx=>?_⟩
 obtain⟨e,rfl⟩:=hd
 have hd2:2≤d:=by
  rcases d with _|_|d
  ·simp at hN
  ·exact absurd (.inl rfl) hx
  ·omega
 have he2:2≤e:=by
  rcases e with _|_|e
  ·simp at hN
  ·exact absurd (.inr (Nat.mul_one d).symm) hx
  ·omega
 obtain⟨r,hr,hrd⟩:=pr_dvd d hd2
 obtain⟨s,hs,hsd⟩:=pr_dvd e he2
 have b1:=big r hr (Nat.dvd_trans hrd (Nat.dvd_mul_right _ _))
 have b2:=big s hs (Nat.dvd_trans hsd (Nat.dvd_mul_left _ _))
 have l1:=Nat.le_of_dvd An hrd
 have l2:=Nat.le_of_dvd An hsd
 have:=Nat.mul_le_mul (show F≤d by omega) (show F≤e by omega)
 omega
theorem two_dvd {Q R m:Nat}(hQ:Pr Q)(hR:Pr R)(hne:Q≠R)(h1:Q∣m)(h2:R∣m):Q*R∣m:=by
 refine Nat.Coprime.mul_dvd_of_dvd_of_dvd (pr_gcd hQ fun hd=>?_) h1 h2
 rcases hR.2 _ hd with e|e
 ·have:=hQ.1;omega
 ·exact hne e
def nd (n:Nat):Nat→Bool
 | 0=>true
 | k+1=>(decide (k<2)||decide (n%k≠0))&&nd n k
theorem nd_at (n:Nat):∀k,nd n k=true→∀d,2≤d→d<k→n%d≠0
 | 0,_,d,_,h=>by omega
 | k+1,h,d,h2,hd=>by
  rw[nd,Bool.and_eq_true,Bool.or_eq_true,decide_eq_true_eq,decide_eq_true_eq] at h
  by_cases e:d=k
  ·subst e
   rcases h.1 with h1|h1
   ·omega
   ·exact h1
  ·exact nd_at n k h.2 d h2 An
theorem eC (n:Nat)(h2:2≤n)(h:nd n n=true):Pr n:=⟨h2,fun d hd=>by
 have hle:=Nat.le_of_dvd An hd
 by_cases e:d=n
 ·exact .inr e
 ·by_cases e1:d=1
  ·exact .inl e1
  ·have h0:d≠0:=fun e=>by rw[e] at hd;have:=Nat.eq_zero_of_zero_dvd hd;omega
   exact absurd (Nat.mod_eq_zero_of_dvd hd) (nd_at n n h d An An)⟩
def step (N Q a f:Nat):Bool:=decide ((N - 1)%Q=0)&&decide (N - 1<2^f)&&decide (pm N f a (N - 1)=1)&&decide (Nat.gcd (pm N f a ((N - 1)/Q) - 1) N=1)
theorem step_ok {N Q a:Nat}(f:Nat)(hQ:Pr Q)(h:step N Q a f=true):∀r,Pr r→r∣N→Q∣r - 1:=by
 unfold step at h
 rw[Bool.and_eq_true,Bool.and_eq_true,Bool.and_eq_true,decide_eq_true_eq,decide_eq_true_eq,decide_eq_true_eq,decide_eq_true_eq] at h
 obtain⟨⟨⟨h1,h2⟩,h3⟩,h4⟩:=h
 rw[pm_eq N f a _ h2] at h3
 rw[pm_eq N f a _ (Nat.lt_of_le_of_lt (Nat.div_le_self _ _) h2)] at h4
 exact pock hQ (Nat.dvd_of_mod_eq_zero h1) h3 h4
theorem pr_one {N Q a:Nat}(f:Nat)(hQ:Pr Q)(h:step N Q a f=true)(hN:2≤N)(hF:N<Q*Q):Pr N:=pr_of hN hF (step_ok f hQ h)
theorem pr_two {N Q R a b:Nat}(f:Nat)(hQ:Pr Q)(hR:Pr R)(hne:Q≠R)(h:step N Q a f=true)(h':step N R b f=true)(hN:2≤N)(hF:N<(Q*R)*(Q*R)):Pr N:=
 pr_of hN hF fun r hr hd=>two_dvd hQ hR hne (step_ok f hQ h r hr hd) (step_ok f hR h' r hr hd)
theorem p991:Pr 991:=eC _ Bz Cj
theorem p103:Pr 103:=eC _ Bz Cj
theorem p8574133:Pr 8574133:=pr_two (a:=2) (b:=2) 25 p991 p103 Bz Cj Cj Bz Cj
theorem p127:Pr 127:=eC _ Bz Cj
theorem p1919519569386763:Pr 1919519569386763:=pr_two (a:=2) (b:=2) 52 p8574133 p127 Bz Cj Cj Bz Cj
theorem p419:Pr 419:=eC _ Bz Cj
theorem p97:Pr 97:=eC _ Bz Cj
theorem p569003:Pr 569003:=pr_two (a:=2) (b:=2) 21 p419 p97 Bz Cj Cj Bz Cj
theorem p2773320623:Pr 2773320623:=pr_one (a:=2) 33 p569003 Cj Bz Cj
theorem p72106336199:Pr 72106336199:=pr_one (a:=2) 38 p2773320623 Cj Bz Cj
theorem p75445702479781427272750846543864801:Pr 75445702479781427272750846543864801:=pr_two (a:=2) (b:=2) 117 p1919519569386763 p72106336199 Bz Cj Cj Bz Cj
theorem p41:Pr 41:=eC _ Bz Cj
theorem p7:Pr 7:=eC _ Bz Cj
theorem p1723:Pr 1723:=pr_two (a:=2) (b:=2) 12 p41 p7 Bz Cj Cj Bz Cj
theorem p430751:Pr 430751:=pr_one (a:=2) 20 p1723 Cj Bz Cj
theorem p173:Pr 173:=eC _ Bz Cj
theorem p4153:Pr 4153:=pr_one (a:=2) 14 p173 Cj Bz Cj
theorem p31757755568855353:Pr 31757755568855353:=pr_two (a:=2) (b:=2) 56 p430751 p4153 Bz Cj Cj Bz Cj
theorem p74058212732561358302231226437062788676166966415465897661863160754340907:Pr 74058212732561358302231226437062788676166966415465897661863160754340907:=pr_two (a:=2) (b:=2) 237 p75445702479781427272750846543864801 p31757755568855353 Bz Cj Cj Bz Cj
theorem p57896044618658097711785492504343953926634992332820282019728792003956564819949:Pr 57896044618658097711785492504343953926634992332820282019728792003956564819949:=pr_one (a:=2) 256 p74058212732561358302231226437062788676166966415465897661863160754340907 Cj Bz Cj
theorem pq_prime:Pr Pq:=by unfold Pq;exact p57896044618658097711785492504343953926634992332820282019728792003956564819949
end Fm
theorem fone_val:(1:FK).val=1:=by
 show 1%Pq=1
 exact Nat.mod_eq_of_lt Ce
theorem fl1 (x y:FK):x+y=y+x:=Fin.ext (by rw[cZ,cZ,Nat.add_comm])
theorem fl2 (x y:FK):x*y=y*x:=Fin.mul_comm x y
theorem fl3 (x y z:FK):x+y+z=x+(y+z):=Fin.ext (by simp only[cZ,Nat.mod_add_mod,Nat.add_mod_mod,Nat.add_assoc])
theorem fl4 (x y z:FK):x*y*z=x*(y*z):=Fin.mul_assoc x y z
theorem fl5 (x y z:FK):x*(y+z)=x*y+x*z:=Fin.ext (by rw[cN,cZ,cZ,cN,cN,Nat.mul_mod_mod,Nat.mul_add,←Nat.add_mod])
theorem fl7 (x:FK):x+-x=0:=Fin.ext (by
 have h:x.val<Pq:=x.isLt
 rw[cZ,iC,fzero_val,Nat.add_mod_mod,show x.val+(Pq - x.val)=Pq from by omega,Nat.mod_self])
theorem fl0 (x:FK):x+0=x:=Fin.ext (by rw[cZ,fzero_val,Nat.add_zero];exact Nat.mod_eq_of_lt x.isLt)
theorem fl8 (x:FK):x*1=x:=Fin.mul_one x
theorem fmul0 (x:FK):x*0=0:=(fl2 _ _).trans (Fin.zero_mul x)
theorem fneg_eq {x y:FK}(h:x+y=0):y=-x:=by
 have e:-x+(x+y)=y:=by rw[←fl3,fl1 (-x) x,fl7,fl1,fl0]
 rw[←e,h,fl0]
theorem fl6 (x y:FK):x - y+y=x:=by rw[Fin.sub_eq_add_neg,fl3,fl1 (-y) y,fl7,fl0]
theorem fl9 (x:FK):- -x=x:=(fneg_eq (show -x+x=0 by rw[fl1,fl7])).symm
theorem fneg_mul (x y:FK):x*-y=-(x*y):=fneg_eq (by rw[←fl5,fl7,fmul0])
theorem fl10 (x y:FK):-x*-y=x*y:=by rw[fneg_mul,fl2,fneg_mul,fl9,fl2]
theorem fneg_par (x:FK)(h:x≠0):(-x).val%2=1↔¬x.val%2=1:=by
 have h1:x.val≠0:=fun e=>h (Fin.ext (e.trans fzero_val.symm))
 have h2:x.val<Pq:=x.isLt
 have h3:Pq%2=1:=Ck
 rw[iC]
 generalize x.val=X at h1 h2 ⊢
 rw[Nat.mod_eq_of_lt (show Pq - X<Pq by omega)]
 omega
theorem small1 (w:World):Calls Tryz.prog 89 #[.int .u32 1] w fun r w'=>∃p q s t u:Nat,ev [p,q,s,t,u]=(1:FK).val∧Red [p,q,s,t,u]∧r=.returned (.agg #[.int .u64 (p:Int),.int .u64 (q:Int),.int .u64 (s:Int),.int .u64 (t:Int),.int .u64 (u:Int)])∧Below w.heap.size w w':=by
 rw[fone_val]
 exact smallE 1 w Bz
theorem fk_inv (x:FK)(h:x≠0):x*finv x=1:=by
 apply Fin.ext
 rw[cN,finv_val,fone_val,Nat.mul_mod_mod,Nat.mul_comm,←Nat.pow_succ,show(Pq - 2).succ=Pq - 1 from by have:=Pq_256.2;omega]
 exact Fm.fermat1 Fm.pq_prime fun hd=>h (Fin.ext (by
  rw[fzero_val]
  exact Nat.eq_zero_of_dvd_of_lt hd x.isLt))
theorem fk_mul0 {x y:FK}(h:x*y=0):x=0∨y=0:=by
 by_cases hx:x=0
 ·exact .inl hx
 ·refine .inr ?_
  have hi:=fk_inv x hx
  rw[←fl8 y,←hi,←fl4,fl2 y x,h,fl2,fmul0]
open Go.RowKit
def fpow (x:FK)(n:Nat):FK:=⟨x.val^n%Pq,Nat.mod_lt _ pq_pos⟩
theorem bT (x:FK)(n:Nat):(fpow x n).val=x.val^n%Pq:=rfl
theorem fpow_one (x:FK):fpow x 1=x:=Fin.ext (by rw[bT,Nat.pow_one,Nat.mod_eq_of_lt x.isLt])
theorem iB (x:FK)(m n:Nat):fpow x (m+n)=fpow x m*fpow x n:=Fin.ext (by rw[cN,bT,bT,bT,Nat.pow_add,←Nat.mul_mod])
theorem fpow_mul (x y:FK)(n:Nat):fpow (x*y) n=fpow x n*fpow y n:=Fin.ext (by rw[cN,bT,bT,bT,cN,←Nat.pow_mod,Nat.mul_pow,←Nat.mul_mod])
theorem fpow_pow (x:FK)(m n:Nat):fpow (fpow x m) n=fpow x (m*n):=Fin.ext (by rw[bT,bT,bT,←Nat.pow_mod,←Nat.pow_mul])
theorem fV (x:FK):fpow x 2=x*x:=by rw[show 2=1+1 from rfl,iB,fpow_one]
theorem fpow_zero' {n:Nat}(h:n≠0):fpow 0 n=0:=Fin.ext (by rw[bT,fzero_val,Nat.zero_pow An,Nat.zero_mod])
theorem fermatF {x:FK}(h:x≠0):fpow x (Pq - 1)=1:=Fin.ext (by
 rw[bT,fone_val]
 exact Fm.fermat1 Fm.pq_prime fun hd=>h (Fin.ext (by
  rw[fzero_val]
  exact Nat.eq_zero_of_dvd_of_lt hd x.isLt)))
theorem fone_ne:(1:FK)≠0:=fun e=>by
 have h:(1:FK).val=0:=by rw[e,fzero_val]
 rw[fone_val] at h
 omega
theorem fneg_zero':(-(0:FK))=0:=(fneg_eq (fl0 0)).symm
theorem feq_of_sub {x y:FK}(h:x - y=0):x=y:=by rw[←fl6 x y,h,fl1,fl0]
theorem cT {x y:FK}(h:x≠0)(h':y≠0):x*y≠0:=fun e=>(fk_mul0 e).elim h h'
theorem fF {a x y:FK}(ha:a≠0)(h:a*x=a*y):x=y:=by
 have h1:finv a*(a*x)=finv a*(a*y):=by rw[h]
 rw[←fl4,←fl4,fl2 (finv a) a,fk_inv a ha,fl2,fl8,fl2,fl8] at h1
 exact h1
theorem fsq_eq {x y:FK}(h:x*x=y*y):x=y∨x=-y:=by
 have h1:(x - y)*(x+y)=0:=Cu
 rcases fk_mul0 h1 with e|e
 ·exact .inl (feq_of_sub e)
 ·exact .inr Cu
theorem ftwo_ne:(1:FK)+1≠0:=fun e=>by
 have h:((1:FK)+1).val=0:=by rw[e,fzero_val]
 rw[cZ,fone_val,Nat.mod_eq_of_lt Ce] at h
 omega
@[irreducible] def dN:Nat:=37095705934669439343138083508754565189542113879843219016388785533085940283555
def dF:FK:=⟨dN,by unfold dN Pq;decide⟩
theorem fpow_pm (x:FK)(n f r:Nat)(hf:n<2^f)(h:Fm.pm Pq f x.val n=r):(fpow x n).val=r:=by
 rw[bT,←h,Fm.pm_eq Pq f _ _ hf]
theorem dF_val:dF.val=37095705934669439343138083508754565189542113879843219016388785533085940283555:=by unfold dF;show dN=_;unfold dN;rfl
def iN:Nat:=19681161376707505956807079304988542015446066515923890162744021073123829784752
theorem iN_lt:iN<Pq:=by unfold iN Pq;decide
def iF:FK:=⟨iN,iN_lt⟩
theorem iF_sq:iF*iF=-1:=Fin.ext (by
 rw[cN,iC,fone_val]
 show iN*iN%Pq=(Pq - 1)%Pq
 unfold iN Pq
 decide)
theorem pq_half:(Pq - 1)/2*2=Pq - 1:=Ck
theorem d_half:fpow dF ((Pq - 1)/2)=-1:=Fin.ext (by
 refine fpow_pm dF _ 256 _ Ck ?_
 rw[dF_val,iC,fone_val]
 unfold Pq
 decide +kernel)
theorem neg1_ne:(-1:FK)≠1:=fun e=>ftwo_ne (by
 have h:(1:FK)+-1=0:=fl7 1
 rwa [e] at h)
theorem d_nonsq (x:FK):x*x≠dF:=fun e=>by
 have hx:x≠0:=fun h0=>by
  have h1:=d_half
  rw[←e,h0,fmul0,fpow_zero' Ck] at h1
  exact fone_ne (by rw[←fl9 (1:FK),←h1,fneg_zero'])
 have h1:=fermatF hx
 rw[←pq_half,Nat.mul_comm,←fpow_pow,fV,e,d_half] at h1
 exact neg1_ne h1
theorem d_ne:dF≠0:=fun e=>d_nonsq 0 (by rw[e,fmul0])
@[irreducible] def cF:FK:=finv dF
theorem c_d:cF*dF=1:=by unfold cF;rw[fl2];exact fk_inv dF d_ne
theorem c_ne:cF≠0:=fun e=>fone_ne (by rw[←c_d,e,fl2,fmul0])
theorem nonsq {a b:FK}(h:a*a=dF*(b*b)):a=0∧b=0:=by
 by_cases hb:b=0
 ·subst hb
  rw[fmul0,fmul0] at h
  exact⟨(fk_mul0 h).elim id id,rfl⟩
 ·refine absurd ?_ (d_nonsq (a*finv b))
  have hi:=fk_inv b hb
  have:a*finv b*(a*finv b)=dF*(b*finv b*(b*finv b)):=by grind
  rw[this,hi,fl8,fl8]
def On (x y:FK):Prop:=x*x*(y*y)=cF*(y*y - x*x - 1)
theorem on_d {x y:FK}(h:y*y - x*x=1+dF*(x*x*(y*y))):On x y:=by
 unfold On
 have:=c_d
 grind
theorem d_on {x y:FK}(h:On x y):y*y - x*x=1+dF*(x*x*(y*y)):=by
 unfold On at h
 have:=c_d
 grind
theorem on_zero:On 0 1:=by unfold On;grind
theorem whole_plus {x1 y1 x2 y2:FK}(h1:On x1 y1)(h2:On x2 y2)(e:FK)(he:e*e=1):1+e*(dF*(x1*y1*x2*y2))≠0:=fun h=>by
 have g1:=d_on h1
 have g2:=d_on h2
 have hi:=iF_sq
 have k:dF*(x1*y1*x2*y2)=-e:=Cu
 have k2:dF*dF*(x1*x1*(y1*y1)*(x2*x2*(y2*y2)))=1:=by
  have:dF*dF*(x1*x1*(y1*y1)*(x2*x2*(y2*y2)))=(dF*(x1*y1*x2*y2))*(dF*(x1*y1*x2*y2)):=by grind
  rw[this,k];grind
 have s1:(iF*x1 - e*y1)*(iF*x1 - e*y1)=dF*(x1*y1*(iF*x2+y2)*(x1*y1*(iF*x2+y2))):=by
  have a:(iF*x1 - e*y1)*(iF*x1 - e*y1)=y1*y1 - x1*x1 - (1+1)*iF*x1*y1*e:=Cu
  have b:dF*(x1*y1*(iF*x2+y2)*(x1*y1*(iF*x2+y2)))=dF*(x1*x1*(y1*y1))*(y2*y2 - x2*x2)+(1+1)*iF*x1*y1*(dF*(x1*y1*x2*y2)):=Cu
  rw[a,b,k,g1,g2]
  grind
 have s2:(iF*x1+e*y1)*(iF*x1+e*y1)=dF*(x1*y1*(iF*x2 - y2)*(x1*y1*(iF*x2 - y2))):=by
  have a:(iF*x1+e*y1)*(iF*x1+e*y1)=y1*y1 - x1*x1+(1+1)*iF*x1*y1*e:=Cu
  have b:dF*(x1*y1*(iF*x2 - y2)*(x1*y1*(iF*x2 - y2)))=dF*(x1*x1*(y1*y1))*(y2*y2 - x2*x2) - (1+1)*iF*x1*y1*(dF*(x1*y1*x2*y2)):=Cu
  rw[a,b,k,g1,g2]
  grind
 have z1:=(nonsq s1).1
 have z2:=(nonsq s2).1
 have hx:(1+1)*(iF*x1)=0:=Cu
 have hx1:iF*x1=0:=(fk_mul0 hx).elim (fun h=>absurd h ftwo_ne) id
 have hine:iF≠0:=fun e0=>fone_ne (by rw[←fl9 (1:FK),←iF_sq,e0,fmul0,fneg_zero'])
 have hx0:x1=0:=(fk_mul0 hx1).elim (fun h=>absurd h hine) id
 rw[hx0] at k2
 exact fone_ne (by rw[←k2];grind)
theorem den_p {x1 y1 x2 y2:FK}(h1:On x1 y1)(h2:On x2 y2):cF+x1*y1*x2*y2≠0:=fun h=>whole_plus h1 h2 1 (fl8 1) (by have:=c_d;grind)
theorem den_m {x1 y1 x2 y2:FK}(h1:On x1 y1)(h2:On x2 y2):cF - x1*y1*x2*y2≠0:=fun h=>whole_plus h1 h2 (-1) Cu (by have:=c_d;grind)
structure Ed where
 x:FK
 y:FK
 on:On x y
theorem Ed.eq {p q:Ed}(hx:p.x=q.x)(hy:p.y=q.y):p=q:=by
 cases p;cases q
 cases hx;cases hy
 rfl
section
variable (p q r : Ed)
def dP:FK:=cF+p.x*p.y*q.x*q.y
def dM:FK:=cF - p.x*p.y*q.x*q.y
def nX:FK:=p.x*q.y+p.y*q.x
def nY:FK:=p.y*q.y+p.x*q.x
theorem dP_ne:dP p q≠0:=den_p p.on q.on
theorem dM_ne:dM p q≠0:=den_m p.on q.on
end
theorem frac {a b:FK}(ha:a≠0):a*(b*finv a)=b:=by
 have:=fk_inv a ha
 grind
theorem clo {x1 y1 x2 y2 c:FK}(h1:x1*x1*(y1*y1)=c*(y1*y1 - x1*x1 - 1))(h2:x2*x2*(y2*y2)=c*(y2*y2 - x2*x2 - 1)) :
 c*c*c*((x1*y2+y1*x2)*(x1*y2+y1*x2))*((y1*y2+x1*x2)*(y1*y2+x1*x2))=c*c*((y1*y2+x1*x2)*(y1*y2+x1*x2)*((c+x1*y1*x2*y2)*(c+x1*y1*x2*y2)) - (x1*y2+y1*x2)*(x1*y2+y1*x2)*((c-x1*y1*x2*y2)*(c-x1*y1*x2*y2))) - (c+x1*y1*x2*y2)*(c+x1*y1*x2*y2)*((c-x1*y1*x2*y2)*(c-x1*y1*x2*y2)):=by grind
theorem on_sum (p q:Ed):On (cF*nX p q*finv (dP p q)) (cF*nY p q*finv (dM p q)):=by
 have hD:=dP_ne p q
 have hE:=dM_ne p q
 have h:=clo p.on q.on
 have eX:=frac (b:=cF*nX p q) hD
 have eY:=frac (b:=cF*nY p q) hE
 generalize cF*nX p q*finv (dP p q)=X at eX ⊢
 generalize cF*nY p q*finv (dM p q)=Y at eY ⊢
 unfold On
 have hne:=cT (cT hD hD) (cT hE hE)
 refine fF hne ?_
 have h':cF*cF*cF*(nX p q*nX p q)*(nY p q*nY p q)=cF*cF*(nY p q*nY p q*(dP p q*dP p q) - nX p q*nX p q*(dM p q*dM p q)) - dP p q*dP p q*(dM p q*dM p q):=h
 generalize nX p q=N at h' eX
 generalize nY p q=M at h' eY
 generalize dP p q=D at h' eX ⊢
 generalize dM p q=E at h' eY ⊢
 have l:D*D*(E*E)*(X*X*(Y*Y))=(D*X)*(D*X)*((E*Y)*(E*Y)):=Cu
 have r:D*D*(E*E)*(cF*(Y*Y - X*X - 1))=cF*(D*D*((E*Y)*(E*Y)) - E*E*((D*X)*(D*X)) - D*D*(E*E)):=Cu
 rw[l,r,eX,eY]
 grind
@[irreducible] def Ed.add (p q:Ed):Ed:=⟨cF*nX p q*finv (dP p q),cF*nY p q*finv (dM p q),on_sum p q⟩
theorem add_x (p q:Ed):dP p q*(p.add q).x=cF*nX p q:=by unfold Ed.add;exact frac (dP_ne p q)
theorem add_y (p q:Ed):dM p q*(p.add q).y=cF*nY p q:=by unfold Ed.add;exact frac (dM_ne p q)
theorem add_is {p q r:Ed}(hx:dP p q*r.x=cF*nX p q)(hy:dM p q*r.y=cF*nY p q):p.add q=r:=
 Ed.eq (fF (dP_ne p q) ((add_x p q).trans hx.symm)) (fF (dM_ne p q) ((add_y p q).trans hy.symm))
def Ed.zero:Ed:=⟨0,1,on_zero⟩
def Ed.neg (p:Ed):Ed:=⟨-p.x,p.y,by have h:=p.on;unfold On at h ⊢;grind⟩
theorem ed_comm (p q:Ed):p.add q=q.add p:=by
 refine add_is ?_ ?_
 ·have h:=add_x q p
  unfold dP nX at h ⊢
  grind
 ·have h:=add_y q p
  unfold dM nY at h ⊢
  grind
theorem ed_zero (p:Ed):p.add .zero=p:=by
 refine add_is ?_ ?_
 ·unfold dP nX Ed.zero;grind
 ·unfold dM nY Ed.zero;grind
theorem ed_neg (p:Ed):p.add p.neg=.zero:=by
 have h:=p.on
 unfold On at h
 refine add_is ?_ ?_
 ·unfold dP nX Ed.zero Ed.neg;grind
 ·unfold dM nY Ed.zero Ed.neg;grind
theorem neg_add (p q:Ed):(p.add q).neg=p.neg.add q.neg:=by
 refine(add_is ?_ ?_).symm
 ·have h:=add_x p q
  unfold dP nX at h
  unfold dP nX
  show(cF+-p.x*p.y*-q.x*q.y)*-(p.add q).x=cF*(-p.x*q.y+p.y*-q.x)
  grind
 ·have h:=add_y p q
  unfold dM nY at h
  unfold dM nY
  show(cF - -p.x*p.y*-q.x*q.y)*(p.add q).y=cF*(p.y*q.y+-p.x*-q.x)
  grind
theorem ass_x {x1 y1 x2 y2 x3 y3 c N1 M1 D1 E1 N2 M2 D2 E2:FK}(h1:x1*x1*(y1*y1)=c*(y1*y1 - x1*x1 - 1))(h2:x2*x2*(y2*y2)=c*(y2*y2 - x2*x2 - 1))(h3:x3*x3*(y3*y3)=c*(y3*y3 - x3*x3 - 1))
 (a1:N1=x1*y2+y1*x2)(a2:M1=y1*y2+x1*x2)(a3:D1=c+x1*y1*x2*y2)(a4:E1=c-x1*y1*x2*y2)
 (b1:N2=x2*y3+y2*x3)(b2:M2=y2*y3+x2*x3)(b3:D2=c+x2*y2*x3*y3)(b4:E2=c-x2*y2*x3*y3) :
 (N1*E1*y3+M1*D1*x3)*(D2*E2+c*N2*M2*(x1*y1))=(x1*M2*D2+y1*N2*E2)*(D1*E1+c*N1*M1*(x3*y3)):=by
 subst a1 a2 a3 a4 b1 b2 b3 b4
 grind
theorem ass_y {x1 y1 x2 y2 x3 y3 c N1 M1 D1 E1 N2 M2 D2 E2:FK}(h1:x1*x1*(y1*y1)=c*(y1*y1 - x1*x1 - 1))(h2:x2*x2*(y2*y2)=c*(y2*y2 - x2*x2 - 1))(h3:x3*x3*(y3*y3)=c*(y3*y3 - x3*x3 - 1))
 (a1:N1=x1*y2+y1*x2)(a2:M1=y1*y2+x1*x2)(a3:D1=c+x1*y1*x2*y2)(a4:E1=c-x1*y1*x2*y2)
 (b1:N2=x2*y3+y2*x3)(b2:M2=y2*y3+x2*x3)(b3:D2=c+x2*y2*x3*y3)(b4:E2=c-x2*y2*x3*y3) :
 (M1*D1*y3+N1*E1*x3)*(D2*E2 - c*N2*M2*(x1*y1))=(y1*M2*D2+x1*N2*E2)*(D1*E1 - c*N1*M1*(x3*y3)):=by
 subst a1 a2 a3 a4 b1 b2 b3 b4
 grind
theorem ass_end {a b U V U' V' L R:FK}(hU:U≠0)(hU':U'≠0)(h:V*U'=V'*U)(hL:U*L=a*V)(hR:U'*R=b*V')(hab:a=b):L=R:=by
 subst hab
 refine fF (cT hU hU') ?_
 have e1:U*U'*L=U'*(U*L):=Cu
 have e2:U*U'*R=U*(U'*R):=Cu
 rw[e1,e2,hL,hR]
 grind
theorem ass_l {c D1 E1 N1 M1 X Y x3 y3:FK}(eX:D1*X=c*N1)(eY:E1*Y=c*M1)(s:FK)(hD:D1≠0)(hE:E1≠0)(hs:c+s*(X*Y*x3*y3)≠0) :
  D1*E1+s*(c*N1*M1*(x3*y3))≠0:=fun h=>by
 refine cT (cT hD hE) hs ?_
 have e:D1*E1*(c+s*(X*Y*x3*y3))=c*D1*E1+s*((D1*X)*(E1*Y)*(x3*y3)):=Cu
 rw[e,eX,eY]
 have:c*(D1*E1+s*(c*N1*M1*(x3*y3)))=0:=by rw[h,fmul0]
 grind
theorem fm1 (a b:FK):a+-1*b=a - b:=Cu
theorem f1m (a b:FK):a+1*b=a+b:=Cu
theorem swap4 (x y z t:FK):x*y*z*t=z*t*x*y:=Cu
theorem ass1 {c D E N M X Y x y L:FK}(hc:c≠0)(a1:D*X=c*N)(a2:E*Y=c*M)(l:(c+X*Y*x*y)*L=c*(X*y+Y*x)):(D*E+c*N*M*(x*y))*L=c*(N*E*y+M*D*x):=by
 refine fF hc ?_
 have e:c*((D*E+c*N*M*(x*y))*L)=(D*E)*((c+X*Y*x*y)*L):=by
  have:(D*E)*((c+X*Y*x*y)*L)=(c*D*E+(D*X)*(E*Y)*(x*y))*L:=by grind
  rw[this,a1,a2];grind
 have e2:D*E*(c*(X*y+Y*x))=c*(E*y*(D*X)+D*x*(E*Y)):=Cu
 rw[e,l,e2,a1,a2];grind
theorem ass2 {c D E N M X Y x y L:FK}(hc:c≠0)(a1:D*X=c*N)(a2:E*Y=c*M)(l:(c+x*y*X*Y)*L=c*(x*Y+y*X)):(D*E+c*N*M*(x*y))*L=c*(x*M*D+y*N*E):=by
 refine fF hc ?_
 have e:c*((D*E+c*N*M*(x*y))*L)=(D*E)*((c+x*y*X*Y)*L):=by
  have:(D*E)*((c+x*y*X*Y)*L)=(c*D*E+(D*X)*(E*Y)*(x*y))*L:=by grind
  rw[this,a1,a2];grind
 have e2:D*E*(c*(x*Y+y*X))=c*(D*x*(E*Y)+E*y*(D*X)):=Cu
 rw[e,l,e2,a1,a2];grind
theorem ass3 {c D E N M X Y x y L:FK}(hc:c≠0)(a1:D*X=c*N)(a2:E*Y=c*M)(l:(c - X*Y*x*y)*L=c*(Y*y+X*x)):(D*E - c*N*M*(x*y))*L=c*(M*D*y+N*E*x):=by
 refine fF hc ?_
 have e:c*((D*E - c*N*M*(x*y))*L)=(D*E)*((c - X*Y*x*y)*L):=by
  have:(D*E)*((c - X*Y*x*y)*L)=(c*D*E - (D*X)*(E*Y)*(x*y))*L:=by grind
  rw[this,a1,a2];grind
 have e2:D*E*(c*(Y*y+X*x))=c*(D*y*(E*Y)+E*x*(D*X)):=Cu
 rw[e,l,e2,a1,a2];grind
theorem ass4 {c D E N M X Y x y L:FK}(hc:c≠0)(a1:D*X=c*N)(a2:E*Y=c*M)(l:(c - x*y*X*Y)*L=c*(y*Y+x*X)):(D*E - c*N*M*(x*y))*L=c*(y*M*D+x*N*E):=by
 refine fF hc ?_
 have e:c*((D*E - c*N*M*(x*y))*L)=(D*E)*((c - x*y*X*Y)*L):=by
  have:(D*E)*((c - x*y*X*Y)*L)=(c*D*E - (D*X)*(E*Y)*(x*y))*L:=by grind
  rw[this,a1,a2];grind
 have e2:D*E*(c*(y*Y+x*X))=c*(D*y*(E*Y)+E*x*(D*X)):=Cu
 rw[e,l,e2,a1,a2];grind
theorem ed_assoc (p q r:Ed):(p.add q).add r=p.add (q.add r):=by
 have a1:=add_x p q
 have a2:=add_y p q
 have b1:=add_x q r
 have b2:=add_y q r
 have l1:=add_x (p.add q) r
 have l2:=add_y (p.add q) r
 have r1:=add_x p (q.add r)
 have r2:=add_y p (q.add r)
 have n1:=dP_ne p q
 have n2:=dM_ne p q
 have n3:=dP_ne q r
 have n4:=dM_ne q r
 have m1:=dP_ne (p.add q) r
 have m2:=dM_ne (p.add q) r
 have m3:=dP_ne p (q.add r)
 have m4:=dM_ne p (q.add r)
 have hx:=ass_x (N1:=nX p q) (M1:=nY p q) (D1:=dP p q) (E1:=dM p q) (N2:=nX q r) (M2:=nY q r) (D2:=dP q r) (E2:=dM q r) p.on q.on r.on rfl rfl rfl rfl rfl rfl rfl rfl
 have hy:=ass_y (N1:=nX p q) (M1:=nY p q) (D1:=dP p q) (E1:=dM p q) (N2:=nX q r) (M2:=nY q r) (D2:=dP q r) (E2:=dM q r) p.on q.on r.on rfl rfl rfl rfl rfl rfl rfl rfl
 have hc:=c_ne
 unfold dP nX at l1
 unfold dM nY at l2
 unfold dP nX at r1
 unfold dM nY at r2
 unfold dP at m1 m3
 unfold dM at m2 m4
 generalize (p.add q).add r=L at l1 l2 ⊢
 generalize p.add (q.add r)=R at r1 r2 ⊢
 generalize p.add q=S at a1 a2 l1 l2 m1 m2
 generalize q.add r=T at b1 b2 r1 r2 m3 m4
 generalize nX p q=N1 at *
 generalize nY p q=M1 at *
 generalize dP p q=D1 at *
 generalize dM p q=E1 at *
 generalize nX q r=N2 at *
 generalize nY q r=M2 at *
 generalize dP q r=D2 at *
 generalize dM q r=E2 at *
 have u1:=ass_l (x3:=r.x) (y3:=r.y) a1 a2 1 n1 n2 (fun h=>m1 ((f1m _ _).symm.trans h))
 have u2:=ass_l (x3:=r.x) (y3:=r.y) a1 a2 (-1) n1 n2 (fun h=>m2 ((fm1 _ _).symm.trans h))
 have u3:=ass_l (x3:=p.x) (y3:=p.y) b1 b2 1 n3 n4 (fun h=>m3 (((congrArg (cF+·) (swap4 _ _ _ _)).trans (f1m _ _).symm).trans h))
 have u4:=ass_l (x3:=p.x) (y3:=p.y) b1 b2 (-1) n3 n4 (fun h=>m4 (((congrArg (cF - ·) (swap4 _ _ _ _)).trans (fm1 _ _).symm).trans h))
 refine Ed.eq ?_ ?_
 ·exact ass_end (a:=cF) (b:=cF) (U:=D1*E1+cF*N1*M1*(r.x*r.y)) (U':=D2*E2+cF*N2*M2*(p.x*p.y)) (fun h=>u1 ((f1m _ _).trans h)) (fun h=>u3 ((f1m _ _).trans h)) hx (ass1 hc a1 a2 l1) (ass2 hc b1 b2 r1) rfl
 ·exact ass_end (a:=cF) (b:=cF) (U:=D1*E1 - cF*N1*M1*(r.x*r.y)) (U':=D2*E2 - cF*N2*M2*(p.x*p.y)) (fun h=>u2 ((fm1 _ _).trans h)) (fun h=>u4 ((fm1 _ _).trans h)) hy (ass3 hc a1 a2 l2) (ass4 hc b1 b2 r2) rfl
theorem zero_ed (p:Ed):Ed.zero.add p=p:=by rw[ed_comm,ed_zero]
theorem neg_zero:Ed.zero.neg=.zero:=Ed.eq fneg_zero' rfl
theorem ed_back (p q:Ed):(p.add q).add q.neg=p:=by rw[ed_assoc,ed_neg,ed_zero]
def tmE (P:Ed):Nat→Ed
 | 0=>.zero
 | n+1=>(tmE P n).add P
theorem tmE_add (P:Ed)(a:Nat):∀b,tmE P (a+b)=(tmE P a).add (tmE P b)
 | 0=>(ed_zero _).symm
 | b+1=>by
  show(tmE P (a+b)).add P=(tmE P a).add ((tmE P b).add P)
  rw[tmE_add P a b,ed_assoc]
theorem tmE_mul (P:Ed)(a:Nat):∀b,tmE P (a*b)=tmE (tmE P a) b
 | 0=>rfl
 | b+1=>by rw[Nat.mul_succ,tmE_add,tmE_mul P a b];rfl
theorem tmE_zero:∀n,tmE .zero n=.zero
 | 0=>rfl
 | n+1=>by show(tmE .zero n).add .zero=.zero;rw[tmE_zero n,ed_zero]
theorem tmE_neg (P:Ed):∀n,tmE P.neg n=(tmE P n).neg
 | 0=>neg_zero.symm
 | n+1=>by
  show(tmE P.neg n).add P.neg=((tmE P n).add P).neg
  rw[tmE_neg P n,neg_add]
theorem tmE_bit (P:Ed)(V k:Nat):tmE P (V/2^k)=if V/2^k%2=1 then ((tmE P (V/2^(k+1))).add (tmE P (V/2^(k+1)))).add P else (tmE P (V/2^(k+1))).add (tmE P (V/2^(k+1))):=by
 have e:V/2^(k+1)=V/2^k/2:=by rw[Nat.pow_succ,Nat.div_div_eq_div_mul]
 rw[e]
 generalize V/2^k=U
 split
 ·rename_i h
  conv=>lhs;rw[show U=U/2+U/2+1 from by omega]
  show(tmE P (U/2+U/2)).add P=_
  rw[tmE_add]
 ·rename_i h
  conv=>lhs;rw[show U=U/2+U/2 from by omega]
  rw[tmE_add]
structure Pj where
 X:FK
 Y:FK
 Z:FK
 T:FK
def plJ (p q:Pj):Pj:=
 ⟨((p.Y+p.X)*(q.Y+q.X) - (p.Y - p.X)*(q.Y - q.X))*(p.Z*q.Z+p.Z*q.Z - (p.T*q.T*dF+p.T*q.T*dF)),
  (p.Z*q.Z+p.Z*q.Z+(p.T*q.T*dF+p.T*q.T*dF))*((p.Y+p.X)*(q.Y+q.X)+(p.Y - p.X)*(q.Y - q.X)),
  (p.Z*q.Z+p.Z*q.Z - (p.T*q.T*dF+p.T*q.T*dF))*(p.Z*q.Z+p.Z*q.Z+(p.T*q.T*dF+p.T*q.T*dF)),
  ((p.Y+p.X)*(q.Y+q.X) - (p.Y - p.X)*(q.Y - q.X))*((p.Y+p.X)*(q.Y+q.X)+(p.Y - p.X)*(q.Y - q.X))⟩
structure Rp (A:Pj)(P:Ed):Prop where
 z:A.Z≠0
 x:A.X=P.x*A.Z
 y:A.Y=P.y*A.Z
 t:A.T=P.x*P.y*A.Z
theorem rp_zero:Rp ⟨0,1,1,0⟩ .zero:=⟨fone_ne,by show(0:FK)=0*1;grind,by show(1:FK)=1*1;grind,by show(0:FK)=0*1*1;grind⟩
theorem rp_of (P:Ed):Rp ⟨P.x,P.y,1,P.x*P.y⟩ P:=⟨fone_ne,(fl8 _).symm,(fl8 _).symm,(fl8 _).symm⟩
theorem rp_neg {A:Pj}{P:Ed}(h:Rp A P):Rp ⟨-A.X,A.Y,A.Z,-A.T⟩ P.neg:=⟨h.z,by show -A.X=-P.x*A.Z;rw[h.x];grind,h.y,by show -A.T=-P.x*P.y*A.Z;rw[h.t];grind⟩
theorem pl_f {x1 y1 z1 x2 y2 z2:FK}:(y1*z1+x1*z1)*(y2*z2+x2*z2) - (y1*z1 - x1*z1)*(y2*z2 - x2*z2)=(1+1)*(z1*z2)*(x1*y2+y1*x2):=Cu
theorem pl_k {x1 y1 z1 x2 y2 z2:FK}:(y1*z1+x1*z1)*(y2*z2+x2*z2)+(y1*z1 - x1*z1)*(y2*z2 - x2*z2)=(1+1)*(z1*z2)*(y1*y2+x1*x2):=Cu
theorem pl_g {x1 y1 z1 x2 y2 z2 c d:FK}(h:c*d=1):z1*z2+z1*z2 - (x1*y1*z1*(x2*y2*z2)*d+x1*y1*z1*(x2*y2*z2)*d)=(1+1)*(z1*z2)*d*(c - x1*y1*x2*y2):=Cu
theorem pl_h {x1 y1 z1 x2 y2 z2 c d:FK}(h:c*d=1):z1*z2+z1*z2+(x1*y1*z1*(x2*y2*z2)*d+x1*y1*z1*(x2*y2*z2)*d)=(1+1)*(z1*z2)*d*(c+x1*y1*x2*y2):=Cu
theorem pl_x {c d N D x1 zz E:FK}(h:c*d=1)(ax:D*x1=c*N):(1+1)*zz*N*((1+1)*zz*d*E)=x1*((1+1)*zz*d*E*((1+1)*zz*d*D)):=by
 have e:x1*((1+1)*zz*d*E*((1+1)*zz*d*D))=(1+1)*zz*d*E*((1+1)*zz*d)*(D*x1):=Cu
 rw[e,ax]
 grind
theorem pl_y {c d M D y1 zz E:FK}(h:c*d=1)(ay:E*y1=c*M):(1+1)*zz*d*D*((1+1)*zz*M)=y1*((1+1)*zz*d*E*((1+1)*zz*d*D)):=by
 have e:y1*((1+1)*zz*d*E*((1+1)*zz*d*D))=(1+1)*zz*d*D*((1+1)*zz*d)*(E*y1):=Cu
 rw[e,ay]
 grind
theorem pl_t {c d N M D x1 y1 zz E:FK}(h:c*d=1)(ax:D*x1=c*N)(ay:E*y1=c*M):(1+1)*zz*N*((1+1)*zz*M)=x1*y1*((1+1)*zz*d*E*((1+1)*zz*d*D)):=by
 have e:x1*y1*((1+1)*zz*d*E*((1+1)*zz*d*D))=(1+1)*zz*d*((1+1)*zz*d)*((D*x1)*(E*y1)):=Cu
 rw[e,ax,ay]
 grind
theorem rp_plus {A B:Pj}{P Q:Ed}(h:Rp A P)(h':Rp B Q):Rp (plJ A B) (P.add Q):=by
 have ax:=add_x P Q
 have ay:=add_y P Q
 have nP:=dP_ne P Q
 have nM:=dM_ne P Q
 have hz:=cT h.z h'.z
 have hcd:=c_d
 have f:=pl_f (x1:=P.x) (y1:=P.y) (z1:=A.Z) (x2:=Q.x) (y2:=Q.y) (z2:=B.Z)
 have k:=pl_k (x1:=P.x) (y1:=P.y) (z1:=A.Z) (x2:=Q.x) (y2:=Q.y) (z2:=B.Z)
 have g:=pl_g (x1:=P.x) (y1:=P.y) (z1:=A.Z) (x2:=Q.x) (y2:=Q.y) (z2:=B.Z) hcd
 have hh:=pl_h (x1:=P.x) (y1:=P.y) (z1:=A.Z) (x2:=Q.x) (y2:=Q.y) (z2:=B.Z) hcd
 rw[←h.x,←h.y,←h'.x,←h'.y] at f k
 rw[←h.t,←h'.t] at g hh
 have e2:=ftwo_ne
 have hd:=d_ne
 have w0:=cT (cT (cT (cT e2 hz) hd) nM) (cT (cT (cT e2 hz) hd) nP)
 refine⟨?_,?_,?_,?_⟩
 ·show(_:FK)*_≠0
  rw[g,hh]
  exact w0
 ·show(_:FK)*_=_*(_*_)
  rw[g,hh,f]
  exact pl_x hcd ax
 ·show(_:FK)*_=_*(_*_)
  rw[g,hh,k]
  exact pl_y hcd ay
 ·show(_:FK)*_=_*_*(_*_)
  rw[g,hh,f,k]
  exact pl_t hcd ax ay
theorem rp_x {A:Pj}{P:Ed}(h:Rp A P):A.X*finv A.Z=P.x:=by
 have:=fk_inv A.Z h.z
 rw[h.x]
 grind
theorem rp_y {A:Pj}{P:Ed}(h:Rp A P):A.Y*finv A.Z=P.y:=by
 have:=fk_inv A.Z h.z
 rw[h.y]
 grind
def toF (n:Nat):FK:=⟨n%Pq,Nat.mod_lt _ pq_pos⟩
theorem iK (n:Nat):toF (n%Pq)=toF n:=Fin.ext (Nat.mod_mod _ _)
theorem toF_add (a b:Nat):toF (a+b)=toF a+toF b:=Fin.ext (by rw[cZ];exact Nat.add_mod _ _ _)
theorem fD (a b:Nat):toF (a*b)=toF a*toF b:=Fin.ext (by rw[cN];exact Nat.mul_mod _ _ _)
theorem toF_one:toF 1=1:=Fin.ext (by rw[fone_val];exact Nat.mod_eq_of_lt Ce)
theorem toF_zero:toF 0=0:=Fin.ext (by rw[fzero_val];exact Nat.zero_mod _)
theorem toF_m1:toF (Pq - 1)=-1:=Fin.ext (by rw[iC,fone_val];rfl)
theorem m1_sub (x y:FK):x+-1*y=x - y:=Cu
theorem toF_sub (a b:Nat):toF (a+(Pq - 1)*b)=toF a - toF b:=by
 rw[toF_add,fD,toF_m1]
 grind
structure Nj where
 X:Nat
 Y:Nat
 Z:Nat
 T:Nat
def toJ (a:Nj):Pj:=⟨toF a.X,toF a.Y,toF a.Z,toF a.T⟩
def plN (P d:Nat)(p q:Nj):Nj:=
 let a:=(p.Y+(P - 1)*p.X)*(q.Y+(P - 1)*q.X)%P
 let b:=(p.Y+p.X)*(q.Y+q.X)%P
 let c:=p.T*q.T%P*d%P
 let e:=p.Z*q.Z%P
 let f:=(b+(P - 1)*a)%P
 let g:=(e+e+(P - 1)*(c+c))%P
 let h:=(e+e+(c+c))%P
 let k:=(b+a)%P
 ⟨f*g%P,h*k%P,g*h%P,f*k%P⟩
theorem plN_eq (p q:Nj):toJ (plN Pq dN p q)=plJ (toJ p) (toJ q):=by
 have hd:toF dN=dF:=Fin.ext (Nat.mod_eq_of_lt dF.isLt)
 unfold plN toJ plJ
 simp only[iK,toF_add,fD,toF_m1,hd,m1_sub]
def mulN (P d V:Nat)(B:Nj):Nat→Nj→Nj
 | 0,A=>A
 | k+1,A=>mulN P d V B k (if V/2^k%2=1 then plN P d (plN P d A A) B else plN P d A A)
theorem mulN_ok {V:Nat}{B:Nj}{Q:Ed}(hB:Rp (toJ B) Q):∀(k:Nat) (A:Nj),Rp (toJ A) (tmE Q (V/2^k))→Rp (toJ (mulN Pq dN V B k A)) (tmE Q V)
 | 0,A,h=>by rw[Nat.pow_zero,Nat.div_one] at h;exact h
 | k+1,A,h=>by
  rw[mulN]
  refine mulN_ok hB k _ ?_
  rw[tmE_bit Q V k]
  split
  ·rw[plN_eq,plN_eq]
   exact rp_plus (rp_plus h h) hB
  ·rw[plN_eq]
   exact rp_plus h h
def bxV:Nat:=15112221349535400772501151409588531511454012693041857206046113283949847762202
def byV:Nat:=46316835694926478169428394003475163141307993866256225615783033603165251855960
def Bp:Ed:=⟨toF bxV,toF byV,on_d (by
 have hd:dF=toF dN:=Fin.ext (Nat.mod_eq_of_lt dF.isLt).symm
 have e:toF byV*toF byV - toF bxV*toF bxV=toF ((byV*byV+(Pq - 1)*(bxV*bxV))%Pq):=by rw[iK,toF_sub,fD,fD]
 have e2:1+dF*(toF bxV*toF bxV*(toF byV*toF byV))=toF ((1+dN*(bxV*bxV*(byV*byV)))%Pq):=by rw[iK,hd,toF_add,fD,fD,fD,fD,toF_one]
 rw[e,e2]
 refine congrArg toF ?_
 unfold Pq dN bxV byV
 decide +kernel)⟩
def bN:Nj:=⟨bxV,byV,1,bxV*byV%Pq⟩
theorem bN_ok:Rp (toJ bN) Bp:=by
 have h:=rp_of Bp
 have e:toJ bN=⟨Bp.x,Bp.y,1,Bp.x*Bp.y⟩:=by
  unfold toJ bN
  show(⟨toF bxV,toF byV,toF 1,toF (bxV*byV%Pq)⟩:Pj)=⟨toF bxV,toF byV,1,toF bxV*toF byV⟩
  rw[iK,fD,toF_one]
 rw[e]
 exact h
def Lq:Nat:=7237005577332262213973186563042994240857116359379907606001950938285454250989
namespace Fm
theorem q5:Pr 5:=eC _ Bz Cj
end Fm
def lEnd (A:Nj)(P:Nat):Bool:=decide (A.X%P=0)&&decide (A.Y%P=A.Z%P)
theorem zero_of {A:Nj}{P:Ed}(h:Rp (toJ A) P)(he:lEnd A Pq=true):P=.zero:=by
 unfold lEnd at he
 rw[Bool.and_eq_true,decide_eq_true_eq,decide_eq_true_eq] at he
 have hx:(toJ A).X=0:=by
  show toF A.X=0
  rw[←iK,he.1,toF_zero]
 have hy:(toJ A).Y=(toJ A).Z:=by
  show toF A.Y=toF A.Z
  rw[←iK A.Y,he.2,iK]
 refine Ed.eq ?_ ?_
 ·rw[←rp_x h,hx,fl2,fmul0];rfl
 ·rw[←rp_y h,hy,fk_inv _ h.z];rfl
theorem l_base:tmE Bp Lq=.zero:=by
 refine zero_of (mulN_ok (V:=Lq) bN_ok 253 ⟨0,1,1,0⟩ ?_) ?_
 ·rw[show Lq/2^253=0 from by unfold Lq;decide +kernel]
  have e:toJ ⟨0,1,1,0⟩=⟨0,1,1,0⟩:=by
   unfold toJ
   show(⟨toF 0,toF 1,toF 1,toF 0⟩:Pj)=_
   rw[toF_zero,toF_one]
  rw[e]
  exact rp_zero
 ·unfold bN bxV byV Lq Pq dN
  decide +kernel
theorem tmE_mod (n:Nat):tmE Bp (n%Lq)=tmE Bp n:=by
 conv=>rhs;rw[←Nat.div_add_mod n Lq,tmE_add,tmE_mul,l_base,tmE_zero,zero_ed]
open Go.RowKit
theorem parse_hex (d1 d2:Nat)(h1:d1<16)(h2:d2<16)(w:World) :
  Calls Tryz.prog 120 #[.string (twoB (hxN d1) (hxN d2)),.int .i64 16,.int .i64 8] w fun e w'=>e=.returned (.tuple #[.int .u64 ((16*d1+d2:Nat):Int),.nilIface])∧Below w.heap.size w w':=by
 have HC:=aA (parseI_hex d1 d2 h1 h2 w)
 generalize twoB (hxN d1) (hxN d2)=s at *
 generalize ((16*d1+d2:Nat):Int)=v at *
 clear h1 h2
 go_enter Tryz.func120,Tryz.ntmps120
 go_wp2_with (go_at_call 160;(with_reducible refine HC.out.mono ?_);rintro e w' ⟨rfl,hb⟩)
 go_ret2
 exact⟨rfl,hb⟩
def hexT (vs:List Nat):List UInt8:=vs.reverse.flatMap fun v=>[UInt8.ofNat (hxN (v/16)),UInt8.ofNat (hxN (v%16))]
theorem hexT_len (vs:List Nat):(hexT vs).length=2*vs.length:=by
 unfold hexT
 generalize hr:vs.reverse=us
 have hl:us.length=vs.length:=by rw[←hr,List.length_reverse]
 rw[←hl]
 clear hr hl
 induction us with
 | nil=>rfl
 | cons u us ih=>rw[List.flatMap_cons,List.length_append,ih];simp;omega
theorem hexT_snoc (vs:List Nat)(v:Nat):hexT (vs++[v])=[UInt8.ofNat (hxN (v/16)),UInt8.ofNat (hxN (v%16))]++hexT vs:=by
 unfold hexT
 rw[List.reverse_append,List.flatMap_append]
 simp
theorem hexT_app (vs us:List Nat):hexT (vs++us)=hexT us++hexT vs:=by
 unfold hexT
 rw[List.reverse_append,List.flatMap_append]
theorem hexT_at {vs:List Nat}{j v:Nat}(h:vs[j]?=some v):((hexT vs).drop (2*(vs.length - 1 - j))).take 2=[UInt8.ofNat (hxN (v/16)),UInt8.ofNat (hxN (v%16))]:=by
 have hj:=(List.getElem?_eq_some_iff.1 h).1
 have h1:vs[j]=v:=(List.getElem?_eq_some_iff.1 h).2
 have e:vs.drop j=v::vs.drop (j+1):=by rw[←h1];exact List.drop_eq_getElem_cons hj
 have e2:vs=vs.take j++v::vs.drop (j+1):=by rw[←e,List.take_append_drop]
 have hl:(hexT (vs.drop (j+1))).length=2*(vs.length - 1 - j):=by rw[hexT_len,List.length_drop];omega
 have e3:hexT vs=hexT (vs.drop (j+1))++([UInt8.ofNat (hxN (v/16)),UInt8.ofNat (hxN (v%16))]++hexT (vs.take j)):=by
  conv=>lhs;rw[e2,show vs.take j++v::vs.drop (j+1)=(vs.take j++[v])++vs.drop (j+1) from by simp,hexT_app,hexT_snoc]
 rw[e3,←hl,List.drop_left]
 rfl
theorem strOf_size (l:List UInt8):(strOf l).size=l.length:=by rw[dH];simp[ByteArray.size]
theorem run_cutMid {P:Program}{t:TypeId}(ht:P.underlying t=some .string)(l x:List UInt8)(i j:Nat)(hi:i≤j)(hj:j≤l.length)(hx:(l.drop i).take (j - i)=x)(I J:Int)(eI:I=(i:Int))(eJ:J=(j:Int))(W:World) :
  (Instr.sliceAt t (.string (strOf l)) (some (.int .i64 I)) (some (.int .i64 J)) none).run P W=.ok (.string (strOf x)) W:=by
 subst eI eJ hx
 rw[run_sliceAt_string W t _ _ _ _ ht,run_slice_string W t _ _ _ _ _ ht An An (by rw[strOf_size];omega),dH,ByteArray.extract_mk,dH]
 rfl
def byL (vs:List Nat):List UInt8:=vs.map UInt8.ofNat
theorem number_any (vs:List Nat)(hv:∀v∈vs,v<256)(hn:vs.length≤1000)(w:World) :
  Calls Tryz.prog 78 #[.string (strOf (hexT vs))] w fun r w'=>∃p q s t u:Nat,ev [p,q,s,t,u]=(fbytes (byL vs)).val∧Red [p,q,s,t,u]∧r=.returned (.agg #[.int .u64 (p:Int),.int .u64 (q:Int),.int .u64 (s:Int),.int .u64 (t:Int),.int .u64 (u:Int)])∧Below w.heap.size w w':=by
 obtain⟨n,hnn⟩:∃n,n=vs.length:=⟨_,rfl⟩
 have hs0:(strOf (hexT vs)).size=2*n:=by rw[strOf_size,hexT_len,hnn]
 have hsz:((strOf (hexT vs)).size:Int)=2*(n:Int):=by rw[hs0];omega
 have hcut:∀(j v:Nat),vs[j]?=some v→∀I:Int,I=2*(n:Int) - 2 - 2*(j:Int)→∀W,(Instr.sliceAt 9 (.string (strOf (hexT vs))) (some (.int .i64 I)) (some (.int .i64 (I+2))) none).run Tryz.prog W=.ok (.string (twoB (hxN (v/16)) (hxN (v%16)))) W:=fun j v hj I hI W=>by
  have hjl:=(List.getElem?_eq_some_iff.1 hj).1
  have h:=run_cutMid (P:=Tryz.prog) Tryz.underlying9 (hexT vs) [UInt8.ofNat (hxN (v/16)),UInt8.ofNat (hxN (v%16))] (2*(vs.length - 1 - j)) (2*(vs.length - 1 - j)+2) An (by rw[hexT_len];omega) (by rw[Nat.add_sub_cancel_left];exact hexT_at hj) I (I+2) An An W
  rw[h,dH]
  rfl
 have HCUT:=aA hcut
 have HF:=aA (fun W B d (hr:Rd W (.slice B n d) 1 n (bvs (byL vs)))=>fromE (A:=B) (n:=n) (c:=d) (l:=byL vs) (w:=W) (by unfold byL;rw[List.length_map,hnn]) An hr)
 have HN:=aA hnn
 have HV:=aA hv
 have h0:=(((St.init w NoB).alloc #[.int .u64 0,.int .u64 0,.int .u64 0,.int .u64 0,.int .u64 0] 61).row (Below.refl _ _) (World.ownsRow_nil _ _ 5 1))
 have HS0:=aA h0
 generalize fbytes (byL vs)=X at *
 generalize strOf (hexT vs)=S at *
 rw[←hnn] at hn
 clear hcut hnn hv h0 hs0
 go_enter Tryz.func78,Tryz.ntmps78
 go_wp2_with fail
 go_loopw [3,4] (fun v i wr=>∃(j:Nat) (B:Option Addr) (d:Nat) (I:Int),j≤n∧i=.int .i64 I∧v=.slice B j d∧Hid (I=2*(n:Int) - 2 - 2*(j:Int))∧Hid (St w NoB wr [.row (.slice B j d) 5 1 j (bvs (byL (vs.take j))),.cells w.heap.size #[.int .u64 0,.int .u64 0,.int .u64 0,.int .u64 0,.int .u64 0] 61])) (fun _ i _=>(2+intOf i).toNat)
 case atStart=>exact⟨0,none,0,_,An,rfl,rfl,aA An,HS0⟩
 case round =>
  clear HS0
  obtain⟨j,B,d,I,hj,rfl,rfl,HI,HS⟩:=hrel
  by_cases hlt:j<n
  ·have hd:decide ((0:Int)≤I)=true:=by have:=HI.out;simp;omega
   have b1:-2≤I:=Cw
   have b2:I≤2000:=Cw
   have b0:0≤I:=Cw
   obtain⟨v,hjv⟩:∃v,vs[j]?=some v:=⟨vs[j]'Cv,gE _⟩
   have hv256:v<256:=HV.out v (mG hjv)
   have hcw:=HCUT.out j v hjv I HI.out
   have HC:=aA (fun W=>parse_hex (v/16) (v%16) An An W)
   rw[show 16*(v/16)+v%16=v from by omega] at HC
   generalize twoB (hxN (v/16)) (hxN (v%16))=S2 at *
   have hw8:IntKind.u8.wrap (v:Int)=(v:Int):=by rw[IntKind.wrap_u8];omega
   have HT:=aA (show byL (vs.take (j+1))=byL (vs.take j)++[UInt8.ofNat v] from by unfold byL;rw[List.take_add_one,hjv,List.map_append];rfl)
   have HL:=aA hlt
   have HJN:=aA hn
   have HV256:=aA hv256
   clear hjv hlt hn hv256
   go_wp2_with (first
    |(go_at_call 120;(with_reducible refine(HC.out _).mono ?_);rintro e w2 ⟨rfl,hb⟩;have HS2:=aA (HS.out.call hb))
    |(at_builtin;refine bQ rfl rfl tyB HS2.out 0 rfl rfl (us:=[_]) rfl rfl ?_ ?_ Bz ?_;(intro u hu;simp only[List.mem_singleton] at hu;subst hu;rfl);(have:=HJN.out;have:=HL.out;simp only[List.length_singleton];omega);intro B3 d3 w3 hS3;have HS3:=aA hS3;clear hS3))
   go_roundw
   case rel =>
    refine⟨j+1,B3,d3,I - 2,Ca,rfl,B0,aA Cw,aA ?_⟩
    have h:=HS3.out
    rw[HT.out,bvs_snoc _ _ HV256.out]
    exact h
   case measure=>(simp[intOf]);omega
  ·obtain rfl:j=n:=by omega
   have hd:decide ((0:Int)≤I)=false:=by have:=HI.out;simp;omega
   have e:vs.take j=vs:=List.take_of_length_le Cv
   rw[e] at HS
   have HFW:=aA (fun W (hb:Below wr.heap.size wr W)=>HF.out W B d ((HS.out.rd 0 rfl).below hb))
   go_wp2_with (go_at_call 86;(with_reducible refine(HFW.out _ (Below.refl _ _)).mono ?_);rintro r w2 ⟨p,q,s,t,u,hev,hred,rfl,hb2⟩;have hS2:=HS.out.call hb2;have z0:w2.cell? ⟨w.heap.size,0,none⟩=some (.int .u64 0):=hS2.cell 1 rfl 0;have z1:w2.cell? ⟨w.heap.size,1,none⟩=some (.int .u64 0):=hS2.cell 1 rfl 1;have z2:w2.cell? ⟨w.heap.size,2,none⟩=some (.int .u64 0):=hS2.cell 1 rfl 2;have z3:w2.cell? ⟨w.heap.size,3,none⟩=some (.int .u64 0):=hS2.cell 1 rfl 3;have z4:w2.cell? ⟨w.heap.size,4,none⟩=some (.int .u64 0):=hS2.cell 1 rfl 4;have y0:=hS2.free 1 rfl 0;have y1:=hS2.free 1 rfl 1;have y2:=hS2.free 1 rfl 2;have y3:=hS2.free 1 rfl 3;have y4:=hS2.free 1 rfl 4;have HEV:=aA hev;have HRD:=aA hred;clear hev hred;have HSE:=aA hS2)
   have HS9:=aA (((((HSE.out.setCell 1 rfl 0 (.int .u64 (p:Int))).setCell 1 rfl 1 (.int .u64 (q:Int))).setCell 1 rfl 2 (.int .u64 (s:Int))).setCell 1 rfl 3 (.int .u64 (t:Int))).setCell 1 rfl 4 (.int .u64 (u:Int)))
   refine bodyPost_ret (results_cell_row rfl _ _ w.heap.size _ _ _ _ rfl (HS9.out.heap 1 rfl) Tryz.underlying61 rfl Bt) rfl ?_
   exact⟨p,q,s,t,u,HEV.out,HRD.out,rfl,HS9.out.below⟩
theorem v_ne (y:FK):y*y*dF+1≠0:=fun h=>by
 have h1:iF*iF=dF*(y*y):=by rw[iF_sq];grind
 have h2:=(nonsq h1).1
 exact fone_ne (by rw[←fl9 (1:FK),←iF_sq,h2,fmul0,fneg_zero'])
theorem on_root {x y:FK}:On x y↔x*x*(y*y*dF+1)=y*y - 1:=by
 constructor
 ·intro h
  have:=d_on h
  grind
 ·intro h
  exact on_d Cu
def evn (x:FK):FK:=if x.val%2=1 then -x else x
theorem evn_even (x:FK):(evn x).val%2=0:=by
 unfold evn
 split
 ·rename_i h
  have h0:x≠0:=fun e=>by rw[e,fzero_val] at h;omega
  have:=fneg_par x h0
  omega
 ·omega
theorem evn_or (x:FK):evn x=x∨evn x=-x:=by
 unfold evn
 split
 ·exact .inr rfl
 ·exact .inl rfl
theorem fneg_sq (x:FK):-x*-x=x*x:=fl10 x x
theorem evn_sq (x:FK):evn x*evn x=x*x:=by
 rcases evn_or x with h|h<;>rw[h]
 exact fneg_sq x
def rtX (u v:FK):FK:=u*(v*v*v)*fpow (u*(v*v*v*(v*v*v))*v) (2^252 - 3)
def rtF (u v:FK):Option FK:=if rtX u v*rtX u v*v=u then some (evn (rtX u v)) else if rtX u v*rtX u v*v=-u then some (evn (rtX u v*iF)) else none
theorem rtF_ok {u v x:FK}(h:rtF u v=some x):x*x*v=u∧x.val%2=0:=by
 unfold rtF at h
 split at h
 ·rename_i h1
  injection h with h
  rw[←h,evn_sq]
  exact⟨h1,evn_even _⟩
 ·split at h
  ·rename_i h1
   injection h with h
   rw[←h,evn_sq]
   refine⟨?_,evn_even _⟩
   have hi:=iF_sq
   generalize rtX u v=X at h1
   grind
  ·cases h
theorem rt_exp:(2^252 - 3)*8=Pq - 5∧Pq - 5+4=Pq - 1∧(2^252 - 3)*2+2=2^253 - 4∧(2^253 - 4)*2=2+(Pq - 1)/2:=by
 unfold Pq
 decide
theorem fpow_four (v:FK):fpow v 4=v*v*(v*v):=by rw[show 4=2+2 from rfl,iB,fV]
theorem fpow_eight (v:FK):fpow v 8=v*v*(v*v)*(v*v*(v*v)):=by rw[show 8=4+4 from rfl,iB,fpow_four]
theorem half_sign {w:FK}(h:w≠0):fpow w ((Pq - 1)/2)=1∨fpow w ((Pq - 1)/2)=-1:=by
 refine fsq_eq ?_
 rw[←fV,fpow_pow,pq_half,fermatF h,fl8]
theorem rt_alg {v w a b:FK}(hv:a*(v*v*(v*v))=1):v*(w*w)*(v*v*v)*(a*b)=w*w*b:=Cu
theorem rtF_all {v w:FK}(hv:v≠0):∃x,rtF (v*(w*w)) v=some x∧(x=w∨x=-w):=by
 have main:rtX (v*(w*w)) v*rtX (v*(w*w)) v*v=v*(w*w)∨rtX (v*(w*w)) v*rtX (v*(w*w)) v*v=-(v*(w*w)):=by
  by_cases hw:w=0
  ·subst hw
   refine .inl ?_
   have e:v*((0:FK)*0)=0:=Cu
   rw[e]
   unfold rtX
   generalize fpow _ _=q
   grind
  ·obtain⟨e1,e2,e3,e4⟩:=rt_exp
   have hX:rtX (v*(w*w)) v=fpow w (2^253 - 4):=by
    unfold rtX
    have h1:v*(w*w)*(v*v*v*(v*v*v))*v=fpow v 8*fpow w 2:=by rw[fpow_eight,fV];grind
    rw[h1,fpow_mul,fpow_pow,fpow_pow,Nat.mul_comm 8,e1,rt_alg,←fV,←iB,Nat.add_comm,Nat.mul_comm 2,e3]
    rw[←fpow_four,←iB,e2,fermatF hv]
   have hsq:rtX (v*(w*w)) v*rtX (v*(w*w)) v=w*w*fpow w ((Pq - 1)/2):=by
    rw[hX,←fV,fpow_pow,e4,iB,fV]
   rw[hsq]
   rcases half_sign hw with h|h<;>rw[h]
   ·exact .inl Cu
   ·exact .inr Cu
 have hx:∃x,rtF (v*(w*w)) v=some x:=by
  unfold rtF
  rcases main with h|h
  ·exact⟨_,if_pos h⟩
  ·by_cases h2:rtX (v*(w*w)) v*rtX (v*(w*w)) v*v=v*(w*w)
   ·exact⟨_,if_pos h2⟩
   ·exact⟨_,by rw[if_neg h2,if_pos h]⟩
 obtain⟨x,hx⟩:=hx
 refine⟨x,hx,fsq_eq (fF hv ?_)⟩
 have:=(rtF_ok hx).1
 rw[fl2]
 exact this
def packN (P:Ed):Nat:=P.y.val+(if P.x.val%2=1 then 2^255 else 0)
theorem pq_255:Pq<2^255:=Ck
def sg (odd:Bool)(x:FK):FK:=if odd then -x else x
open Classical in
noncomputable def unpX (y:FK)(odd:Bool):Option FK→Option Ed
 | none=>none
 | some x=>if h:On (sg odd x) y then some ⟨sg odd x,y,h⟩ else none
noncomputable def unp (y:FK)(odd:Bool):Option Ed:=unpX y odd (rtF (y*y - 1) (y*y*dF+1))
theorem unp_none {y:FK}{odd:Bool}(h:rtF (y*y - 1) (y*y*dF+1)=none):unp y odd=none:=by
 unfold unp
 rw[h]
 rfl
theorem sg_sq (odd:Bool)(x:FK):sg odd x*sg odd x=x*x:=by
 cases odd
 ·rfl
 ·exact fneg_sq x
theorem unp_some {y x:FK}{odd:Bool}(h:rtF (y*y - 1) (y*y*dF+1)=some x):∃P,unp y odd=some P∧P.x=sg odd x∧P.y=y:=by
 have hon:On (sg odd x) y:=on_root.2 (by rw[sg_sq];exact(rtF_ok h).1)
 refine⟨⟨sg odd x,y,hon⟩,?_,rfl,rfl⟩
 unfold unp
 rw[h,unpX,dif_pos hon]
theorem fneg_zero_sg (odd:Bool):sg odd 0=0:=by
 cases odd
 ·rfl
 ·exact fneg_zero'
theorem unp_pack (P:Ed):unp P.y (decide (P.x.val%2=1))=some P:=by
 have hr:=on_root.1 P.on
 obtain⟨x,hx,ho⟩:=rtF_all (w:=P.x) (v_ne P.y)
 rw[show(P.y*P.y*dF+1)*(P.x*P.x)=P.y*P.y - 1 from by rw[fl2];exact hr] at hx
 obtain⟨Q,hQ,hQx,hQy⟩:=unp_some (odd:=decide (P.x.val%2=1)) hx
 have hev:=(rtF_ok hx).2
 rw[hQ]
 congr 1
 refine Ed.eq ?_ hQy
 rw[hQx]
 by_cases h0:P.x=0
 ·rw[h0,fzero_val]
  rw[h0,fneg_zero'] at ho
  have e:x=0:=by rcases ho with e|e<;>exact e
  rw[e]
  exact fneg_zero_sg _
 ·have hp:=fneg_par P.x h0
  by_cases hodd:P.x.val%2=1
  ·rw[decide_eq_true hodd]
   show -x=P.x
   rcases ho with e|e
   ·rw[e] at hev;omega
   ·rw[e,fl9]
  ·rw[decide_eq_false hodd]
   show x=P.x
   rcases ho with e|e
   ·exact e
   ·rw[e] at hev;omega
theorem unp_ok {y:FK}{odd:Bool}{P:Ed}(h:unp y odd=some P):P.y=y∧(P.x=0∨decide (P.x.val%2=1)=odd):=by
 cases hr:rtF (y*y - 1) (y*y*dF+1) with
 | none=>rw[unp_none hr] at h;cases h
 | some x =>
  obtain⟨Q,hQ,hx,hy⟩:=unp_some (odd:=odd) hr
  rw[hQ] at h
  injection h with h
  subst h
  refine⟨hy,?_⟩
  have hev:=(rtF_ok hr).2
  by_cases h0:x=0
  ·refine .inl ?_
   rw[hx,h0]
   cases odd
   ·rfl
   ·exact fneg_zero'
  ·refine .inr ?_
   have hp:=fneg_par x h0
   rw[hx]
   cases odd
   ·show decide (x.val%2=1)=false
    exact decide_eq_false An
   ·show decide ((-x).val%2=1)=true
    exact decide_eq_true (hp.2 An)
def gN (w w':World)(p:Prop):Prop:=Below w.heap.size w w'∧p
theorem fromT_refl {w:World}{p:Prop}(h:p):gN w w p:=⟨Below.refl _ _,h⟩
theorem aE {w w':World}{p:Prop}(hb:Below w.heap.size w w')(h:p):gN w w' p:=⟨hb,h⟩
section
variable {P : Program} {ops : Array Oper} {Q : Exit → Act → World → Prop} {md : Region.Mode} {lt : Nat → Bool}
def schedB (md:Region.Mode)(ops:Array Oper)(lt:Nat→Bool):Bool→List (Nat×Nat)→Array Bool→Bool
 | _,[],listed=>(Region.ready md ops listed).isEmpty
 | e,(i,m)::rest,listed =>
  (match m with
   | 0=>e&&(Region.ready md ops listed).contains i&&Region.free md ops listed i&&lateB md ops lt i&&!lt i
   | 1=>(Region.ready md ops listed).contains i&&Region.free md ops listed i&&!lt i
   | 2=>e&&Region.ready md ops listed==[i]&&!lt i
   | 3=>e&&Region.ready md ops listed==[i]&&lt i
   | _=>!e&&Region.ready md ops listed==[i])&&schedB md ops lt (e&&decide (m<3)) rest (listed.setIfInBounds i true)
def wpT (P:Program)(ops:Array Oper)(Q:Exit→Act→World→Prop):List (Nat×Nat)→Act→World→Prop
 | [],a,w=>Q .normal a w
 |(i,m)::rest,a,w=>∃o,ops[i]?=some o ∧
  if Region.wanted o (yielded ops a.tmps)=true then
   (match m with
    | 0=>∃v,(∀x,aC w x→(execOp a.eval o).run P x=.ok (.value v) x)∧wpT P ops Q rest (a.put o.dst v) w
    | 1=>∃v,(∀x,(execOp a.eval o).run P x=.ok (.value v) x)∧wpT P ops Q rest (a.put o.dst v) w
    | 2=>o.wp P a w (fun a' w'=>gN w w' (wpT P ops Q rest a' w')) Q
    | _=>o.wp P a w (fun a' w'=>wpT P ops Q rest a' w') Q)
  else wpT P ops Q rest (a.put o.dst undef) w
theorem wpAny_doneT {listed:Array Bool}{a:Act}{w:World}(hr:Region.ready md ops listed=[])(h:Q .normal a w) :
  ∀fuel,wpAny P md ops Q fuel listed a w
 | 0=>⟨hr,h⟩
 | _+1=>⟨fun _=>h,by rw[hr];simp⟩
theorem wpM_doneT {S:World→Prop}{listed:Array Bool}{a:Act}{w:World}(hr:Region.ready md ops listed=[])(h:Q .normal a w) :
  ∀fuel,wpM P md ops Q lt fuel S listed a w
 | 0=>⟨hr,h⟩
 | _+1=>⟨fun _=>h,by rw[hr];simp⟩
theorem iS (hQ:∀c (a:Act) (t:Array Value) w,Q (.panic c) { a with tmps:=t } w→Q (.panic c) a w)(o:Oper)(v:Value):∀c (a:Act) w,Q (.panic c) (a.put o.dst v) w→Q (.panic c) a w:=by
 intro c a w h
 cases hd:o.dst with
 | none=>rw[hd] at h;exact h
 | some d=>rw[hd] at h;exact hQ c a _ w h
theorem wpAny_of_T (hs:Region.noSelect ops=true)(hQ:∀c (a:Act) (t:Array Value) w,Q (.panic c) { a with tmps:=t } w→Q (.panic c) a w) :
  ∀(order:List (Nat×Nat)) (fuel:Nat) (listed:Array Bool) (a:Act) (w:World),order.length≤fuel→schedB md ops lt false order listed=true→wpT P ops Q order a w→wpAny P md ops Q fuel listed a w:=by
 intro order
 induction order with
 | nil =>
  intro fuel listed a w _ hb h
  exact wpAny_doneT (by simpa[schedB] using hb) h fuel
 | cons p rest ih =>
  obtain⟨i,m⟩:=p
  intro fuel listed a w hf hb h
  obtain⟨fuel,rfl⟩:∃k,fuel=k+1:=⟨fuel - 1,by simp at hf;omega⟩
  simp only[List.length_cons,Nat.add_le_add_iff_right] at hf
  obtain⟨o,ho,h⟩:=h
  unfold schedB at hb
  match m,h,hb with
  | 0,h,hb=>simp at hb
  | 2,h,hb=>simp at hb
  | 3,h,hb=>simp at hb
  | 1,h,hb =>
   simp only[Bool.and_eq_true,Bool.false_and] at hb
   obtain⟨⟨⟨hr,hfr⟩,_⟩,hb⟩:=hb
   by_cases hw:Region.wanted o (yielded ops a.tmps)=true
   ·rw[if_pos hw] at h
    obtain⟨v,hv,h⟩:=h
    exact wpAny_first ho (Region.noSelect_spec hs) (iS hQ o _) fuel listed a w (Region.free_spec ho hfr) Cd (.inl ⟨hw,hv⟩) (ih fuel _ _ _ hf hb h)
   ·rw[if_neg hw] at h
    exact wpAny_first ho (Region.noSelect_spec hs) (iS hQ o _) fuel listed a w (Region.free_spec ho hfr) Cd (.inr ⟨Cz,rfl⟩) (ih fuel _ _ _ hf hb h)
  | m+4,h,hb =>
   simp only[Bool.and_eq_true,Bool.false_and,beq_iff_eq] at hb
   obtain⟨⟨_,hr⟩,hb⟩:=hb
   refine wpAny_one hr ho fun K hK=>?_
   by_cases hw:Region.wanted o (yielded ops a.tmps)=true
   ·rw[if_pos hw] at h ⊢
    exact Oper.wp_mono (fun a' w' h'=>hK _ _ (ih fuel _ _ _ hf hb h')) h
   ·rw[if_neg hw] at h ⊢
    exact hK _ _ (ih fuel _ _ _ hf hb h)
theorem wpM_of_T (hs:Region.noSelect ops=true)(hQ:∀c (a:Act) (t:Array Value) w,Q (.panic c) { a with tmps:=t } w→Q (.panic c) a w) :
  ∀(order:List (Nat×Nat)) (fuel:Nat) (listed:Array Bool) (a:Act) (w:World),order.length≤fuel→schedB md ops lt true order listed=true→wpT P ops Q order a w→wpM P md ops Q lt fuel (aC w) listed a w:=by
 intro order
 induction order with
 | nil =>
  intro fuel listed a w _ hb h
  exact wpM_doneT (by simpa[schedB] using hb) h fuel
 | cons p rest ih =>
  obtain⟨i,m⟩:=p
  intro fuel listed a w hf hb h
  obtain⟨fuel,rfl⟩:∃k,fuel=k+1:=⟨fuel - 1,by simp at hf;omega⟩
  simp only[List.length_cons,Nat.add_le_add_iff_right] at hf
  obtain⟨o,ho,h⟩:=h
  unfold schedB at hb
  match m,h,hb with
  | m+4,h,hb=>simp at hb
  | 0,h,hb =>
   simp only[Bool.and_eq_true,Bool.true_and,Bool.not_eq_true'] at hb
   obtain⟨⟨⟨⟨hr,hfr⟩,hlb⟩,hl⟩,hb⟩:=hb
   by_cases hw:Region.wanted o (yielded ops a.tmps)=true
   ·rw[if_pos hw] at h
    obtain⟨v,hv,h⟩:=h
    exact fM ho hs hfr hr (iS hQ o _) (aC.refl w) hl hlb (.inl ⟨hw,hv⟩) (ih fuel _ _ _ hf hb h)
   ·rw[if_neg hw] at h
    exact fM ho hs hfr hr (iS hQ o _) (aC.refl w) hl hlb (.inr ⟨Cz,rfl⟩) (ih fuel _ _ _ hf hb h)
  | 1,h,hb =>
   simp only[Bool.and_eq_true,Bool.true_and,Bool.not_eq_true'] at hb
   obtain⟨⟨⟨hr,hfr⟩,hl⟩,hb⟩:=hb
   by_cases hw:Region.wanted o (yielded ops a.tmps)=true
   ·rw[if_pos hw] at h
    obtain⟨v,hv,h⟩:=h
    exact eK ho hs hfr hr (iS hQ o _) (aC.refl w) hl (.inl ⟨hw,hv⟩) (ih fuel _ _ _ hf hb h)
   ·rw[if_neg hw] at h
    exact eK ho hs hfr hr (iS hQ o _) (aC.refl w) hl (.inr ⟨Cz,rfl⟩) (ih fuel _ _ _ hf hb h)
  | 2,h,hb =>
   simp only[Bool.and_eq_true,Bool.true_and,Bool.not_eq_true',beq_iff_eq] at hb
   obtain⟨⟨hr,hl⟩,hb⟩:=hb
   refine cC hr ho hl fun K hK=>?_
   by_cases hw:Region.wanted o (yielded ops a.tmps)=true
   ·rw[if_pos hw] at h ⊢
    exact Oper.wp_mono (fun a' w' h'=>hK (aC w') _ _ (aC.next h'.1) fR (ih fuel _ _ _ hf hb h'.2)) h
   ·rw[if_neg hw] at h ⊢
    exact hK (aC w) _ _ (fun _ h=>h) fR (ih fuel _ _ _ hf hb h)
  | 3,h,hb =>
   simp only[Bool.and_eq_true,Bool.true_and,beq_iff_eq] at hb
   obtain⟨⟨hr,hl⟩,hb⟩:=hb
   refine aZ hr ho hl fun K hK=>?_
   by_cases hw:Region.wanted o (yielded ops a.tmps)=true
   ·rw[if_pos hw] at h ⊢
    exact Oper.wp_mono (fun a' w' h'=>hK _ _ (wpAny_of_T hs hQ rest fuel _ _ _ hf hb h')) h
   ·rw[if_neg hw] at h ⊢
    exact hK _ _ (wpAny_of_T hs hQ rest fuel _ _ _ hf hb h)
def schedAll (ops:Array Oper)(order:List (Nat×Nat)):Bool:=
 Region.noSelect ops&&decide (order.length≤ops.size)&&schedB .any ops (fun i=>order.contains (i,3)) true order (Array.replicate ops.size false)
theorem aD {id:Nat}{a:Act}{w:World}(order:List (Nat×Nat))(hm:P.follows .mixedOrders=true)(hb:schedAll ops order=true)(hQ:∀c (a:Act) (t:Array Value) w,Q (.panic c) { a with tmps:=t } w→Q (.panic c) a w)
  (h:wpT P ops Q order a w.drew):(Code.region id ops true).wp P Q a w:=by
 unfold schedAll at hb
 simp only[Bool.and_eq_true,decide_eq_true_eq] at hb
 exact wp_region_any hm (wpAny_of_M _ _ _ _ _ (wpM_of_T (lt:=fun i=>order.contains (i,3)) hb.1.1 hQ order ops.size _ a w.drew hb.1.2 hb.2 h))
variable {i : Nat} {o : Oper} {rest : List (Nat × Nat)} {a : Act} {w : World} {v : Value}
theorem wpT_nil (h:Q .normal a w):wpT P ops Q [] a w:=h
theorem wpT_skip {m:Nat}(ho:ops[i]?=some o)(hw:Region.wanted o (yielded ops a.tmps)=false)(h:wpT P ops Q rest (a.put o.dst undef) w):wpT P ops Q ((i,m)::rest) a w:=
 ⟨o,ho,Fk⟩
theorem aI (ho:ops[i]?=some o)(hw:Region.wanted o (yielded ops a.tmps)=true)(hv:∀x,(execOp a.eval o).run P x=.ok (.value v) x)(h:wpT P ops Q rest (a.put o.dst v) w):wpT P ops Q ((i,1)::rest) a w:=
 ⟨o,ho,C0⟩
theorem pT (ho:ops[i]?=some o)(hw:Region.wanted o (yielded ops a.tmps)=true)(h:wpT P ops Q rest (a.put o.dst v) w)(hv:∀x,(execOp a.eval o).run P x=.ok (.value v) x:=by (intro wx;go_simp;try go_bits)<;>(with_reducible rfl)):wpT P ops Q ((i,1)::rest) a w:=aI ho hw hv h
theorem aL (ho:ops[i]?=some o)(hw:Region.wanted o (yielded ops a.tmps)=true)(hv:∀x,aC w x→(execOp a.eval o).run P x=.ok (.value v) x)(h:wpT P ops Q rest (a.put o.dst v) w):wpT P ops Q ((i,0)::rest) a w:=
 ⟨o,ho,C0⟩
theorem rT (ho:ops[i]?=some o)(hw:Region.wanted o (yielded ops a.tmps)=true)(h:wpT P ops Q rest (a.put o.dst v) w)(hv:∀x,aC w x→(execOp a.eval o).run P x=.ok (.value v) x:=by (intro wx hx;go_simp;try go_bits)<;>(with_reducible rfl)):wpT P ops Q ((i,0)::rest) a w:=aL ho hw hv h
theorem aM (ho:ops[i]?=some o)(hw:Region.wanted o (yielded ops a.tmps)=true)(h:∀K:Act→World→Prop,(∀a' w',gN w w' (wpT P ops Q rest a' w')→K a' w')→o.wp P a w K Q):wpT P ops Q ((i,2)::rest) a w:=
 ⟨o,ho,Da⟩
theorem wpT_late (ho:ops[i]?=some o)(hw:Region.wanted o (yielded ops a.tmps)=true)(h:∀K:Act→World→Prop,(∀a' w',wpT P ops Q rest a' w'→K a' w')→o.wp P a w K Q):wpT P ops Q ((i,3)::rest) a w:=
 ⟨o,ho,Da⟩
theorem wpT_any (ho:ops[i]?=some o)(hw:Region.wanted o (yielded ops a.tmps)=true)(h:∀K:Act→World→Prop,(∀a' w',wpT P ops Q rest a' w'→K a' w')→o.wp P a w K Q):wpT P ops Q ((i,4)::rest) a w:=
 ⟨o,ho,Da⟩
end
section
variable {P : Program} {α β : Type}
def dZ (P:Program):Sem α→Prop
 | .pure _=>True
 | .load _ _ k=>∀v,dZ P (k v)
 | .program k=>dZ P (k P)
 | .mark _ k=>dZ P k
 | .halt _=>True
 | _=>False
theorem readB_bind {s:Sem α}{f:α→Sem β}(h:dZ P s)(hf:∀v,dZ P (f v)):dZ P (s.bind f):=by
 induction s with
 | pure a=>exact hf a
 | load m a k ih=>exact fun v=>ih v (h v)
 | program k ih=>exact ih P h
 | mark m k ih=>exact ih h
 | halt x=>trivial
 | store m a v k ih=>exact h.elim
 | new o k ih=>exact h.elim
 | shape r k ih=>exact h.elim
 | freeze a n k ih=>exact h.elim
 | frozen a k ih=>exact h.elim
 | getObj r k ih=>exact h.elim
 | setObj r o k ih=>exact h.elim
 | choose q k ih=>exact h.elim
 | sys c k ih=>exact h.elim
theorem farLoad_stable {w x:World}(hx:aC w x){a:Addr}{b:Bool}{r:Value×List Addr}(h:w.farLoad P a b=.ok r):x.cell? a=w.cell? a∧x.farLoad P a b=.ok r:=by
 unfold World.farLoad at h ⊢
 cases hh:w.heap[a.block]? with
 | none=>rw[hh] at h;cases h
 | some ob =>
  have hlt:a.block<w.heap.size:=(Array.getElem?_eq_some_iff.1 hh).1
  have he:x.heap[a.block]?=some ob:=(hx.block _ hlt).trans hh
  refine⟨World.cell?_of_block (he.trans hh.symm),?_⟩
  rw[he]
  rw[hh] at h
  cases ob with
  | view at_ u =>
   simp only at h ⊢
   have key:∀r,w.viewLoad P at_ u a b=.ok r→x.viewLoad P at_ u a b=.ok r:=by
    intro r hr
    rcases Nat.lt_or_ge at_.block w.heap.size with hl|hl
    ·have e:x.seen P at_ u a b=w.seen P at_ u a b:=by unfold World.seen;rw[hx.block _ hl]
     unfold World.viewLoad at hr ⊢
     rw[e]
     exact hr
    ·exfalso
     have hn:w.heap[at_.block]?=none:=Array.getElem?_eq_none hl
     have:∃e,w.seen P at_ u a b=.error e:=by
      unfold World.seen
      rw[hn]
      simp only[bind,Except.bind,throw,throwThe,MonadExceptOf.throw,pure,Except.pure]
      repeat' split
      all_goals first|exact⟨_,rfl⟩|(rename_i h0;simp at h0)
     obtain⟨e,he⟩:=this
     unfold World.viewLoad at hr
     rw[he] at hr
     cases hr
   cases hv:w.viewLoad P at_ u a b with
   | error e=>rw[hv] at h;cases h
   | ok r'=>rw[hv] at h;rw[key r' hv];exact h
  | _=>cases h
theorem readB_run:∀(s:Sem α),dZ P s→∀{w w':World} {v:α},s.run P w=.ok v w'→w'=w∧∀x,aC w x→s.run P x=.ok v x:=by
 intro s
 induction s with
 | pure a=>intro _ w w' v h;injection h with h1 h2;exact⟨h2.symm,fun x _=>by rw[←h1];rfl⟩
 | load m a k ih =>
  intro hr w w' v h
  unfold Sem.run at h
  cases hc:w.cell? a with
  | some u =>
   rw[hc] at h
   obtain⟨e,hx⟩:=ih u (hr u) h
   refine⟨e,fun x hf=>?_⟩
   unfold Sem.run
   rw[hf.cell (block_lt_of_cell hc),hc]
   exact hx x hf
  | none =>
   rw[hc] at h
   simp only at h
   cases hl:w.farLoad P a (m==.atomic) with
   | error e=>rw[hl] at h;cases h
   | ok r =>
    obtain⟨u,l⟩:=r
    rw[hl] at h
    obtain⟨e,hx⟩:=ih u (hr u) h
    refine⟨e,fun x hf=>?_⟩
    obtain⟨h1,h2⟩:=farLoad_stable hf hl
    unfold Sem.run
    rw[h1,hc]
    simp only
    rw[h2]
    exact hx x hf
 | program k ih=>intro hr w w' v h;exact ih P hr h
 | mark m k ih=>intro hr w w' v h;exact ih hr h
 | halt e=>intro _ w w' v h;cases h
 | store m a v k ih=>intro hr;exact hr.elim
 | new o k ih=>intro hr;exact hr.elim
 | shape r k ih=>intro hr;exact hr.elim
 | freeze a n k ih=>intro hr;exact hr.elim
 | frozen a k ih=>intro hr;exact hr.elim
 | getObj r k ih=>intro hr;exact hr.elim
 | setObj r o k ih=>intro hr;exact hr.elim
 | choose q k ih=>intro hr;exact hr.elim
 | sys c k ih=>intro hr;exact hr.elim
theorem bF {s:Sem α}{f:α→Sem β}(h:dZ P s)(hf:∀v,dZ P (f v)):dZ P (s >>= f):=readB_bind h hf
theorem readB_underlying (t:TypeId):dZ P (underlying t):=by
 unfold underlying
 refine bF (s:=program) (by trivial) fun p=>?_
 cases p.underlying t<;>trivial
theorem readB_typeInfo (t:TypeId):dZ P (typeInfo t):=by
 unfold typeInfo
 refine bF (s:=program) (by trivial) fun p=>?_
 cases p.info? t<;>trivial
theorem readB_sizeOf (t:TypeId):dZ P (sizeOf t):=bF (readB_typeInfo t) fun _=>trivial
theorem readB_cells (a:Addr):∀(n i:Nat) (acc:Array Value),dZ P (loadCellsFrom a i n acc)
 | 0,_,_=>trivial
 | n+1,i,acc=>bF (s:=load (a.add i)) (fun _=>trivial) fun v=>readB_cells a n (i+1) (acc.push v)
theorem readB_loadVar (t:TypeId)(a:Addr):dZ P (loadVar t a):=by
 unfold loadVar
 refine bF (s:=isAgg t) ?_ fun b=>?_
 ·unfold isAgg
  refine bF (readB_underlying t) fun d=>?_
  cases d<;>trivial
 ·cases b
  ·exact fun _=>trivial
  ·exact bF (readB_sizeOf t) fun n=>bF (s:=loadCells a n) (readB_cells a n 0 #[]) fun _=>trivial
theorem iM (t:TypeId)(p:Value):dZ P (Instr.loadAt t p):=by
 unfold Instr.loadAt
 refine bF (s:=Instr.sureAddr p) ?_ fun a=>readB_loadVar t a
 unfold Instr.sureAddr
 split<;>trivial
end
section
variable {P : Program} {ops : Array Oper} {Q : Exit → Act → World → Prop} {i : Nat} {o : Oper} {rest : List (Nat × Nat)} {a : Act} {w : World} {v : Value}
theorem aK {t:TypeId}{x:Operand}(ho:ops[i]?=some o)(hop:o.op=.load t x)(hw:Region.wanted o (yielded ops a.tmps)=true)(hv:(execOp a.eval o).run P w=.ok (.value v) w)(h:wpT P ops Q rest (a.put o.dst v) w):wpT P ops Q ((i,0)::rest) a w:=by
 refine aL ho hw (fun y hy=>?_) h
 have hr:dZ P (execOp a.eval o):=by
  unfold execOp
  rw[hop]
  exact bF (iM t _) fun _=>trivial
 exact(readB_run _ hr hv).2 y hy
theorem lT {t:TypeId}{x:Operand}(ho:ops[i]?=some o)(hop:o.op=.load t x)(hw:Region.wanted o (yielded ops a.tmps)=true)(h:wpT P ops Q rest (a.put o.dst v) w)(hv:(execOp a.eval o).run P w=.ok (.value v) w:=by (go_simp;try go_bits)<;>(with_reducible rfl)):wpT P ops Q ((i,0)::rest) a w:=aK ho hop hw hv h
end
section
variable {P : Program} {ops : Array Oper} {Q : Exit → Act → World → Prop} {i : Nat} {o : Oper} {rest : List (Nat × Nat)} {a : Act} {w0 w : World} {M : Nat → Prop} {H : List Chunk}
theorem run_load_rowop {t:TypeId}{x:Operand}(hop:o.op=.load t x){g:Nat}{cs:Array Value}{e:TypeId}(hg:w.heap[g]?=some (.cells cs e (0,0)))(hx:a.eval x=.pointer (some ⟨g,0,none⟩)){d:TypeDesc}
  (hu:P.underlying t=some d)(hd:(match d with|.struct _|.array _ _=>true|_=>false)=true)(hi:(P.info? t).map (·.size)=some cs.size) :
  (execOp a.eval o).run P w=.ok (.value (.agg cs)) w:=by
 have h:=run_loadVar_row (P:=P) w g e t cs (0,0) d hg hu hd hi
 unfold execOp
 simp only[hop,hx,Instr.loadAt,Instr.sureAddr,Sem.run_bind,Sem.run_pure,Result.andThen_ok,h]
theorem wpT_loadRow {t:TypeId}{x:Operand}(ho:ops[i]?=some o)(hop:o.op=.load t x)(hw:Region.wanted o (yielded ops a.tmps)=true)(hS:St w0 M w H)(k:Nat){g:Nat}{cs:Array Value}{e:TypeId}
  (hk:H[k]?=some (.cells g cs e))(hx:a.eval x=.pointer (some ⟨g,0,none⟩)){d:TypeDesc}
  (hu:P.underlying t=some d)(hd:(match d with|.struct _|.array _ _=>true|_=>false)=true)(hi:(P.info? t).map (·.size)=some cs.size)
  (h:wpT P ops Q rest (a.put o.dst (.agg cs)) w):wpT P ops Q ((i,0)::rest) a w:=
 aK ho hop hw (run_load_rowop hop (hS.heap k hk) hx hu hd hi) h
theorem aJ {f:FuncId}{xs:List Operand}{ts:Array TypeId}{vs:List Value}{R:Ending→World→Prop}(ho:ops[i]?=some o)(hw:Region.wanted o (yielded ops a.tmps)=true)
  (hop:o.op=.call { callee:=.value (.func f),args:=xs.toArray,argTypes:=ts })(hf:∀(args:Array Value) (w:World),(callFunc f args).run P w=.ok (.enter f args) w)
  (hx:xs.map a.eval=vs)(hc:Calls P f vs.toArray w R)(h:∀e w',R e w'→∃v,e=.returned v∧Below w.heap.size w w'∧wpT P ops Q rest (a.put o.dst v) w'):wpT P ops Q ((i,2)::rest) a w:=
 aM ho hw fun K hK=>bG hop hf hx hc fun e w' hr=>by
  obtain⟨v,he,hb,hk⟩:=h e w' hr
  exact⟨v,he,hK _ _ ⟨hb,hk⟩⟩
end
inductive STr where
 | nil
 | op (i m:Nat) (r:STr)
 | two (i j:Nat) (r s:STr)
 | three (i j k:Nat) (r s t:STr)
def STr.len:STr→Nat
 | .nil=>0
 | .op _ _ r=>r.len+1
 | .two _ _ r s=>max r.len s.len+1
 | .three _ _ _ r s t=>max r.len (max s.len t.len)+1
section
variable {P : Program} {ops : Array Oper} {Q : Exit → Act → World → Prop} {md : Region.Mode} {lt : Nat → Bool} {W : World}
def bP (md:Region.Mode)(ops:Array Oper)(lt:Nat→Bool):Bool→STr→Array Bool→Bool
 | _,.nil,listed=>(Region.ready md ops listed).isEmpty
 | e,.op i m rest,listed =>
  (match m with
   | 0=>e&&(Region.ready md ops listed).contains i&&Region.free md ops listed i&&lateB md ops lt i&&!lt i
   | 1=>(Region.ready md ops listed).contains i&&Region.free md ops listed i&&!lt i
   | 2=>e&&Region.ready md ops listed==[i]&&!lt i
   | 3=>e&&Region.ready md ops listed==[i]&&lt i
   | _=>!e&&Region.ready md ops listed==[i])&&bP md ops lt (e&&decide (m<3)) rest (listed.setIfInBounds i true)
 | e,.two i j r s,listed=>e&&Region.ready md ops listed==[i,j]&&!lt i&&!lt j&&bP md ops lt e r (listed.setIfInBounds i true)&&bP md ops lt e s (listed.setIfInBounds j true)
 | e,.three i j k r s t,listed=>e&&Region.ready md ops listed==[i,j,k]&&!lt i&&!lt j&&!lt k&&bP md ops lt e r (listed.setIfInBounds i true)&&bP md ops lt e s (listed.setIfInBounds j true)&&bP md ops lt e t (listed.setIfInBounds k true)
def wpS (P:Program)(ops:Array Oper)(Q:Exit→Act→World→Prop)(W:World):STr→Act→World→Prop
 | .nil,a,w=>Q .normal a w
 | .op i m rest,a,w=>∃o,ops[i]?=some o ∧
  if Region.wanted o (yielded ops a.tmps)=true then
   (match m with
    | 0=>∃v,(∀x,aC W x→(execOp a.eval o).run P x=.ok (.value v) x)∧wpS P ops Q W rest (a.put o.dst v) w
    | 1=>∃v,(∀x,(execOp a.eval o).run P x=.ok (.value v) x)∧wpS P ops Q W rest (a.put o.dst v) w
    | 2=>o.wp P a w (fun a' w'=>gN W w' (wpS P ops Q W rest a' w')) Q
    | _=>o.wp P a w (fun a' w'=>wpS P ops Q W rest a' w') Q)
  else wpS P ops Q W rest (a.put o.dst undef) w
 | .two i j r s,a,w =>
  (∃o,ops[i]?=some o∧if Region.wanted o (yielded ops a.tmps)=true then o.wp P a w (fun a' w'=>gN W w' (wpS P ops Q W r a' w')) Q else wpS P ops Q W r (a.put o.dst undef) w) ∧
  (∃o,ops[j]?=some o∧if Region.wanted o (yielded ops a.tmps)=true then o.wp P a w (fun a' w'=>gN W w' (wpS P ops Q W s a' w')) Q else wpS P ops Q W s (a.put o.dst undef) w)
 | .three i j k r s t,a,w =>
  (∃o,ops[i]?=some o∧if Region.wanted o (yielded ops a.tmps)=true then o.wp P a w (fun a' w'=>gN W w' (wpS P ops Q W r a' w')) Q else wpS P ops Q W r (a.put o.dst undef) w) ∧
  (∃o,ops[j]?=some o∧if Region.wanted o (yielded ops a.tmps)=true then o.wp P a w (fun a' w'=>gN W w' (wpS P ops Q W s a' w')) Q else wpS P ops Q W s (a.put o.dst undef) w) ∧
  (∃o,ops[k]?=some o∧if Region.wanted o (yielded ops a.tmps)=true then o.wp P a w (fun a' w'=>gN W w' (wpS P ops Q W t a' w')) Q else wpS P ops Q W t (a.put o.dst undef) w)
theorem wpAny_of_S (hs:Region.noSelect ops=true)(hQ:∀c (a:Act) (t:Array Value) w,Q (.panic c) { a with tmps:=t } w→Q (.panic c) a w) :
  ∀(tr:STr) (fuel:Nat) (listed:Array Bool) (a:Act) (w:World),tr.len≤fuel→bP md ops lt false tr listed=true→wpS P ops Q W tr a w→wpAny P md ops Q fuel listed a w:=by
 intro tr
 induction tr with
 | nil =>
  intro fuel listed a w _ hb h
  exact wpAny_doneT Cy h fuel
 | two i j r s _ _ =>
  intro fuel listed a w _ hb h
  simp[bP] at hb
 | three i j k r s t _ _ _ =>
  intro fuel listed a w _ hb h
  simp[bP] at hb
 | op i m rest ih =>
  intro fuel listed a w hf hb h
  obtain⟨fuel,rfl⟩:∃k,fuel=k+1:=⟨fuel - 1,Db⟩
  simp only[STr.len,Nat.add_le_add_iff_right] at hf
  obtain⟨o,ho,h⟩:=h
  unfold bP at hb
  match m,h,hb with
  | 0,h,hb=>simp at hb
  | 2,h,hb=>simp at hb
  | 3,h,hb=>simp at hb
  | 1,h,hb =>
   simp only[Bool.and_eq_true,Bool.false_and] at hb
   obtain⟨⟨⟨hr,hfr⟩,_⟩,hb⟩:=hb
   by_cases hw:Region.wanted o (yielded ops a.tmps)=true
   ·rw[if_pos hw] at h
    obtain⟨v,hv,h⟩:=h
    exact wpAny_first ho (Region.noSelect_spec hs) (iS hQ o _) fuel listed a w (Region.free_spec ho hfr) Cd (.inl ⟨hw,hv⟩) (ih fuel _ _ _ hf hb h)
   ·rw[if_neg hw] at h
    exact wpAny_first ho (Region.noSelect_spec hs) (iS hQ o _) fuel listed a w (Region.free_spec ho hfr) Cd (.inr ⟨Cz,rfl⟩) (ih fuel _ _ _ hf hb h)
  | m+4,h,hb =>
   simp only[Bool.and_eq_true,Bool.false_and,beq_iff_eq] at hb
   obtain⟨⟨_,hr⟩,hb⟩:=hb
   refine wpAny_one hr ho fun K hK=>?_
   by_cases hw:Region.wanted o (yielded ops a.tmps)=true
   ·rw[if_pos hw] at h ⊢
    exact Oper.wp_mono (fun a' w' h'=>hK _ _ (ih fuel _ _ _ hf hb h')) h
   ·rw[if_neg hw] at h ⊢
    exact hK _ _ (ih fuel _ _ _ hf hb h)
theorem wpM_three {i j k:Nat}{oi oj ok:Oper}{fuel:Nat}{S:World→Prop}{listed:Array Bool}{a:Act}{w:World}(hr:Region.ready md ops listed=[i,j,k])(hi:ops[i]?=some oi)(hj:ops[j]?=some oj)(hk:ops[k]?=some ok)(hli:lt i=false)(hlj:lt j=false)(hlk:lt k=false)
  (h1:∀K:Act→World→Prop,(∀(S':World→Prop) a' w',(∀x,S' x→S x)→S' w'→wpM P md ops Q lt fuel S' (listed.setIfInBounds i true) a' w'→K a' w') →
   if Region.wanted oi (yielded ops a.tmps)=true then oi.wp P a w K Q else K (a.put oi.dst undef) w)
  (h2:∀K:Act→World→Prop,(∀(S':World→Prop) a' w',(∀x,S' x→S x)→S' w'→wpM P md ops Q lt fuel S' (listed.setIfInBounds j true) a' w'→K a' w') →
   if Region.wanted oj (yielded ops a.tmps)=true then oj.wp P a w K Q else K (a.put oj.dst undef) w)
  (h3:∀K:Act→World→Prop,(∀(S':World→Prop) a' w',(∀x,S' x→S x)→S' w'→wpM P md ops Q lt fuel S' (listed.setIfInBounds k true) a' w'→K a' w') →
   if Region.wanted ok (yielded ops a.tmps)=true then ok.wp P a w K Q else K (a.put ok.dst undef) w):wpM P md ops Q lt (fuel+1) S listed a w:=by
 refine⟨(fun h0=>by rw[h0] at hr;cases hr),fun m hm=>?_⟩
 rw[hr] at hm
 have key:∀(k:Nat) (ok:Oper),ops[k]?=some ok→lt k=false→(∀K:Act→World→Prop,(∀(S':World→Prop) a' w',(∀x,S' x→S x)→S' w'→wpM P md ops Q lt fuel S' (listed.setIfInBounds k true) a' w'→K a' w') →
   if Region.wanted ok (yielded ops a.tmps)=true then ok.wp P a w K Q else K (a.put ok.dst undef) w) →
   wpOp P ops Q k (fun a' w'=>(lt k=true∧wpAny P md ops Q fuel (listed.setIfInBounds k true) a' w')∨(lt k=false∧∃S':World→Prop,(∀x,S' x→S x)∧S' w'∧wpM P md ops Q lt fuel S' (listed.setIfInBounds k true) a' w')) a w:=by
  intro k ok hk hl h
  have h1:=h (fun a' w'=>(lt k=true∧wpAny P md ops Q fuel (listed.setIfInBounds k true) a' w')∨(lt k=false∧∃S':World→Prop,(∀x,S' x→S x)∧S' w'∧wpM P md ops Q lt fuel S' (listed.setIfInBounds k true) a' w')) (fun S' a' w' k1 k2 k3=>.inr ⟨hl,S',k1,k2,k3⟩)
  unfold wpOp
  simp only[hk]
  split
  ·rename_i hw
   rw[if_pos hw] at h1
   exact .inl h1
  ·rename_i hw
   rw[if_neg hw] at h1
   exact h1
 rcases List.mem_cons.1 hm with rfl|hm
 ·exact key _ _ hi hli h1
 ·rcases List.mem_cons.1 hm with rfl|hm
  ·exact key _ _ hj hlj h2
  ·obtain rfl:=List.mem_singleton.1 hm
   exact key _ _ hk hlk h3
theorem wpM_of_S (hs:Region.noSelect ops=true)(hQ:∀c (a:Act) (t:Array Value) w,Q (.panic c) { a with tmps:=t } w→Q (.panic c) a w) :
  ∀(tr:STr) (fuel:Nat) (listed:Array Bool) (a:Act) (w:World),aC W w→tr.len≤fuel→bP md ops lt true tr listed=true→wpS P ops Q W tr a w→wpM P md ops Q lt fuel (aC W) listed a w:=by
 intro tr
 induction tr with
 | nil =>
  intro fuel listed a w _ _ hb h
  exact wpM_doneT Cy h fuel
 | two i j r s ihr ihs =>
  intro fuel listed a w hW hf hb h
  obtain⟨fuel,rfl⟩:∃k,fuel=k+1:=⟨fuel - 1,Db⟩
  simp only[STr.len,Nat.add_le_add_iff_right] at hf
  unfold bP at hb
  simp only[Bool.and_eq_true,Bool.true_and,Bool.not_eq_true',beq_iff_eq] at hb
  obtain⟨⟨⟨⟨hr,hli⟩,hlj⟩,hbr⟩,hbs⟩:=hb
  obtain⟨⟨oi,hoi,h1⟩,⟨oj,hoj,h2⟩⟩:=h
  refine wpM_two hr hoi hoj hli hlj (fun K hK=>?_) (fun K hK=>?_)
  ·by_cases hw:Region.wanted oi (yielded ops a.tmps)=true
   ·rw[if_pos hw] at h1 ⊢
    exact Oper.wp_mono (fun a' w' h'=>hK (aC W) _ _ (fun _ h=>h) h'.1 (ihr fuel _ _ _ h'.1 An hbr h'.2)) h1
   ·rw[if_neg hw] at h1 ⊢
    exact hK (aC W) _ _ (fun _ h=>h) hW (ihr fuel _ _ _ hW An hbr h1)
  ·by_cases hw:Region.wanted oj (yielded ops a.tmps)=true
   ·rw[if_pos hw] at h2 ⊢
    exact Oper.wp_mono (fun a' w' h'=>hK (aC W) _ _ (fun _ h=>h) h'.1 (ihs fuel _ _ _ h'.1 An hbs h'.2)) h2
   ·rw[if_neg hw] at h2 ⊢
    exact hK (aC W) _ _ (fun _ h=>h) hW (ihs fuel _ _ _ hW An hbs h2)
 | three i j k r s t ihr ihs iht =>
  intro fuel listed a w hW hf hb h
  obtain⟨fuel,rfl⟩:∃k,fuel=k+1:=⟨fuel - 1,Db⟩
  simp only[STr.len,Nat.add_le_add_iff_right] at hf
  unfold bP at hb
  simp only[Bool.and_eq_true,Bool.true_and,Bool.not_eq_true',beq_iff_eq] at hb
  obtain⟨⟨⟨⟨⟨⟨hr,hli⟩,hlj⟩,hlk⟩,hbr⟩,hbs⟩,hbt⟩:=hb
  obtain⟨⟨oi,hoi,h1⟩,⟨oj,hoj,h2⟩,⟨ok,hok,h3⟩⟩:=h
  refine wpM_three hr hoi hoj hok hli hlj hlk (fun K hK=>?_) (fun K hK=>?_) (fun K hK=>?_)
  ·by_cases hw:Region.wanted oi (yielded ops a.tmps)=true
   ·rw[if_pos hw] at h1 ⊢
    exact Oper.wp_mono (fun a' w' h'=>hK (aC W) _ _ (fun _ h=>h) h'.1 (ihr fuel _ _ _ h'.1 An hbr h'.2)) h1
   ·rw[if_neg hw] at h1 ⊢
    exact hK (aC W) _ _ (fun _ h=>h) hW (ihr fuel _ _ _ hW An hbr h1)
  ·by_cases hw:Region.wanted oj (yielded ops a.tmps)=true
   ·rw[if_pos hw] at h2 ⊢
    exact Oper.wp_mono (fun a' w' h'=>hK (aC W) _ _ (fun _ h=>h) h'.1 (ihs fuel _ _ _ h'.1 An hbs h'.2)) h2
   ·rw[if_neg hw] at h2 ⊢
    exact hK (aC W) _ _ (fun _ h=>h) hW (ihs fuel _ _ _ hW An hbs h2)
  ·by_cases hw:Region.wanted ok (yielded ops a.tmps)=true
   ·rw[if_pos hw] at h3 ⊢
    exact Oper.wp_mono (fun a' w' h'=>hK (aC W) _ _ (fun _ h=>h) h'.1 (iht fuel _ _ _ h'.1 An hbt h'.2)) h3
   ·rw[if_neg hw] at h3 ⊢
    exact hK (aC W) _ _ (fun _ h=>h) hW (iht fuel _ _ _ hW An hbt h3)
 | op i m rest ih =>
  intro fuel listed a w hW hf hb h
  obtain⟨fuel,rfl⟩:∃k,fuel=k+1:=⟨fuel - 1,Db⟩
  simp only[STr.len,Nat.add_le_add_iff_right] at hf
  obtain⟨o,ho,h⟩:=h
  unfold bP at hb
  match m,h,hb with
  | m+4,h,hb=>simp at hb
  | 0,h,hb =>
   simp only[Bool.and_eq_true,Bool.true_and,Bool.not_eq_true'] at hb
   obtain⟨⟨⟨⟨hr,hfr⟩,hlb⟩,hl⟩,hb⟩:=hb
   by_cases hw:Region.wanted o (yielded ops a.tmps)=true
   ·rw[if_pos hw] at h
    obtain⟨v,hv,h⟩:=h
    exact fM ho hs hfr hr (iS hQ o _) hW hl hlb (.inl ⟨hw,hv⟩) (ih fuel _ _ _ hW hf hb h)
   ·rw[if_neg hw] at h
    exact fM ho hs hfr hr (iS hQ o _) hW hl hlb (.inr ⟨Cz,rfl⟩) (ih fuel _ _ _ hW hf hb h)
  | 1,h,hb =>
   simp only[Bool.and_eq_true,Bool.true_and,Bool.not_eq_true'] at hb
   obtain⟨⟨⟨hr,hfr⟩,hl⟩,hb⟩:=hb
   by_cases hw:Region.wanted o (yielded ops a.tmps)=true
   ·rw[if_pos hw] at h
    obtain⟨v,hv,h⟩:=h
    exact eK ho hs hfr hr (iS hQ o _) hW hl (.inl ⟨hw,hv⟩) (ih fuel _ _ _ hW hf hb h)
   ·rw[if_neg hw] at h
    exact eK ho hs hfr hr (iS hQ o _) hW hl (.inr ⟨Cz,rfl⟩) (ih fuel _ _ _ hW hf hb h)
  | 2,h,hb =>
   simp only[Bool.and_eq_true,Bool.true_and,Bool.not_eq_true',beq_iff_eq] at hb
   obtain⟨⟨hr,hl⟩,hb⟩:=hb
   refine cC hr ho hl fun K hK=>?_
   by_cases hw:Region.wanted o (yielded ops a.tmps)=true
   ·rw[if_pos hw] at h ⊢
    exact Oper.wp_mono (fun a' w' h'=>hK (aC W) _ _ (fun _ h=>h) h'.1 (ih fuel _ _ _ h'.1 hf hb h'.2)) h
   ·rw[if_neg hw] at h ⊢
    exact hK (aC W) _ _ (fun _ h=>h) hW (ih fuel _ _ _ hW hf hb h)
  | 3,h,hb =>
   simp only[Bool.and_eq_true,Bool.true_and,beq_iff_eq] at hb
   obtain⟨⟨hr,hl⟩,hb⟩:=hb
   refine aZ hr ho hl fun K hK=>?_
   by_cases hw:Region.wanted o (yielded ops a.tmps)=true
   ·rw[if_pos hw] at h ⊢
    exact Oper.wp_mono (fun a' w' h'=>hK _ _ (wpAny_of_S hs hQ rest fuel _ _ _ hf hb h')) h
   ·rw[if_neg hw] at h ⊢
    exact hK _ _ (wpAny_of_S hs hQ rest fuel _ _ _ hf hb h)
def STr.late:STr→List Nat
 | .nil=>[]
 | .op i m r=>if m=3 then i::r.late else r.late
 | .two _ _ r s=>r.late++s.late
 | .three _ _ _ r s t=>r.late++(s.late++t.late)
def schedTr (ops:Array Oper)(tr:STr):Bool:=
 Region.noSelect ops&&decide (tr.len≤ops.size)&&bP .any ops (fun i=>tr.late.contains i) true tr (Array.replicate ops.size false)
theorem fZ {id:Nat}{a:Act}{w:World}(tr:STr)(hm:P.follows .mixedOrders=true)(hb:schedTr ops tr=true)(hQ:∀c (a:Act) (t:Array Value) w,Q (.panic c) { a with tmps:=t } w→Q (.panic c) a w)
  (h:wpS P ops Q w.drew tr a w.drew):(Code.region id ops true).wp P Q a w:=by
 unfold schedTr at hb
 simp only[Bool.and_eq_true,decide_eq_true_eq] at hb
 exact wp_region_any hm (wpAny_of_M _ _ _ _ _ (wpM_of_S (lt:=fun i=>tr.late.contains i) hb.1.1 hQ tr ops.size _ a w.drew fR hb.1.2 hb.2 h))
variable {i j : Nat} {o : Oper} {rest r s : STr} {a : Act} {w : World} {v : Value}
theorem bC (h:Q .normal a w):wpS P ops Q W .nil a w:=h
theorem wpS_two (h1:wpS P ops Q W (.op i 2 r) a w)(h2:wpS P ops Q W (.op j 2 s) a w):wpS P ops Q W (.two i j r s) a w:=⟨h1,h2⟩
theorem wpS_skip {m:Nat}(ho:ops[i]?=some o)(hw:Region.wanted o (yielded ops a.tmps)=false)(h:wpS P ops Q W rest (a.put o.dst undef) w):wpS P ops Q W (.op i m rest) a w:=
 ⟨o,ho,Fk⟩
theorem wpS_pure (ho:ops[i]?=some o)(hw:Region.wanted o (yielded ops a.tmps)=true)(hv:∀x,(execOp a.eval o).run P x=.ok (.value v) x)(h:wpS P ops Q W rest (a.put o.dst v) w):wpS P ops Q W (.op i 1 rest) a w:=
 ⟨o,ho,C0⟩
theorem pS (ho:ops[i]?=some o)(hw:Region.wanted o (yielded ops a.tmps)=true)(h:wpS P ops Q W rest (a.put o.dst v) w)(hv:∀x,(execOp a.eval o).run P x=.ok (.value v) x:=by (intro wx;go_simp;try go_bits)<;>(with_reducible rfl)):wpS P ops Q W (.op i 1 rest) a w:=wpS_pure ho hw hv h
theorem wpS_read (ho:ops[i]?=some o)(hw:Region.wanted o (yielded ops a.tmps)=true)(hv:∀x,aC W x→(execOp a.eval o).run P x=.ok (.value v) x)(h:wpS P ops Q W rest (a.put o.dst v) w):wpS P ops Q W (.op i 0 rest) a w:=
 ⟨o,ho,C0⟩
theorem rS (ho:ops[i]?=some o)(hw:Region.wanted o (yielded ops a.tmps)=true)(h:wpS P ops Q W rest (a.put o.dst v) w)(hv:∀x,aC W x→(execOp a.eval o).run P x=.ok (.value v) x:=by (intro wx hx;go_simp;try go_bits)<;>(with_reducible rfl)):wpS P ops Q W (.op i 0 rest) a w:=wpS_read ho hw hv h
theorem aQ (ho:ops[i]?=some o)(hw:Region.wanted o (yielded ops a.tmps)=true)(h:∀K:Act→World→Prop,(∀a' w',gN W w' (wpS P ops Q W rest a' w')→K a' w')→o.wp P a w K Q):wpS P ops Q W (.op i 2 rest) a w:=
 ⟨o,ho,Da⟩
theorem wpS_late (ho:ops[i]?=some o)(hw:Region.wanted o (yielded ops a.tmps)=true)(h:∀K:Act→World→Prop,(∀a' w',wpS P ops Q W rest a' w'→K a' w')→o.wp P a w K Q):wpS P ops Q W (.op i 3 rest) a w:=
 ⟨o,ho,Da⟩
theorem wpS_any (ho:ops[i]?=some o)(hw:Region.wanted o (yielded ops a.tmps)=true)(h:∀K:Act→World→Prop,(∀a' w',wpS P ops Q W rest a' w'→K a' w')→o.wp P a w K Q):wpS P ops Q W (.op i 4 rest) a w:=
 ⟨o,ho,Da⟩
theorem wpS_load {t:TypeId}{x:Operand}(ho:ops[i]?=some o)(hop:o.op=.load t x)(hw:Region.wanted o (yielded ops a.tmps)=true)(hv:(execOp a.eval o).run P W=.ok (.value v) W)(h:wpS P ops Q W rest (a.put o.dst v) w):wpS P ops Q W (.op i 0 rest) a w:=by
 refine wpS_read ho hw (fun y hy=>?_) h
 have hr:dZ P (execOp a.eval o):=by
  unfold execOp
  rw[hop]
  exact bF (iM t _) fun _=>trivial
 exact(readB_run _ hr hv).2 y hy
theorem lS {t:TypeId}{x:Operand}(ho:ops[i]?=some o)(hop:o.op=.load t x)(hw:Region.wanted o (yielded ops a.tmps)=true)(h:wpS P ops Q W rest (a.put o.dst v) w)(hv:(execOp a.eval o).run P W=.ok (.value v) W:=by (go_simp;try go_bits)<;>(with_reducible rfl)):wpS P ops Q W (.op i 0 rest) a w:=wpS_load ho hop hw hv h
end
end Go.Proofs.YtnohmgpmmhlloaaGreatDoor
