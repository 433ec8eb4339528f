/-
 Joined of texts of mine,in build order: Oj,Ok,Vr,Pw7,Pw8,Pw9,Pw10,Vf,Pl,C1,Pw11,C4,Mc. Each says what it proves at its own head.
-/
import Derived.Deep.DeepCutAuto
import Derived.Maps.OwnOps
import Derived.Deep.LoopGhost
import Derived.BigQuiet
import Derived.Test.YtnohmgpmmhlloaaGreatDoorYh
set_option linter.unusedSimpArgs false
set_option linter.unusedVariables false
set_option maxRecDepth 100000
set_option maxHeartbeats 25600000
namespace Go.Proofs.YtnohmgpmmhlloaaGreatDoor.S6
open Go.RowKit
def bM (ps:List (List UInt8))(k:Nat):List UInt8:=(List.range k).flatMap fun(i:Nat)=>cJ ((i:Int)+1) (ps.getD i [])
theorem dW {ps:List (List UInt8)}{k:Nat}{b:List UInt8}(h:ps[k]?=some b):bM ps (k+1)=bM ps k++cJ ((k:Int)+1) b:=by
 unfold bM
 rw[List.range_succ,List.flatMap_append]
 simp only[List.flatMap_cons,List.flatMap_nil,List.append_nil]
 rw[List.getD_eq_getElem?_getD,h]
 rfl
theorem five_two (a b c d e x y:Chunk)(H:List Chunk):(a::b::c::d::e::x::y::H).Perm (x::y::a::b::c::d::e::H):=List.Perm.append_right H (List.perm_append_comm (l₁:=[a,b,c,d,e]) (l₂:=[x,y]))
theorem gC (num:Int)(b:List UInt8):(cJ num b).length≤b.length+20:=by
 unfold cJ
 split
 ·rw[List.length_append,List.length_append]
  have h1:=(vb_len (8*num.toNat+2)).1
  have h2:=(vb_len b.length).1
  omega
 ·simp
theorem accL_le (ps:List (List UInt8))(h:∀x∈ps,x.length≤10000):∀k,(bM ps k).length≤k*10020
 | 0=>by simp[bM]
 | k+1=>by
  have ih:=accL_le ps h k
  unfold bM at ih ⊢
  rw[List.range_succ,List.flatMap_append,List.length_append]
  simp only[List.flatMap_cons,List.flatMap_nil,List.append_nil]
  have h2:=gC ((k:Int)+1) (ps.getD k [])
  have h3:(ps.getD k []).length≤10000:=by
   rw[List.getD_eq_getElem?_getD]
   cases e:ps[k]? with
   | none=>simp
   | some b=>exact h b (mG e)
  omega
theorem wblock5 {w0 w:World}{H:List Chunk}(g:Nat)(v:Value)(l:List UInt8)(A1 A2 A3 A4 A5:Option Addr)(n1 n2 n3 n4 n5 c1 c2 c3 c4 c5:Nat)(l1 l2 l3 l4 l5:List UInt8)(hl1:l1.length=n1)(hn1:n1≤10000)(hr1:Rd w0 (.slice A1 n1 c1) 1 n1 (bvs l1))(hl2:l2.length=n2)(hn2:n2≤10000)(hr2:Rd w0 (.slice A2 n2 c2) 1 n2 (bvs l2))(hl3:l3.length=n3)(hn3:n3≤10000)(hr3:Rd w0 (.slice A3 n3 c3) 1 n3 (bvs l3))(hl4:l4.length=n4)(hn4:n4≤10000)(hr4:Rd w0 (.slice A4 n4 c4) 1 n4 (bvs l4))(hl5:l5.length=n5)(hn5:n5≤10000)(hr5:Rd w0 (.slice A5 n5 c5) 1 n5 (bvs l5))(hne:n4+n5≠0)(hl:l.length≤800000)(hS:St w0 NoB w (bU g 0 v l H)) :
  Calls Tryz.prog 59 #[.pointer (some ⟨g,0,none⟩),.agg #[.slice A1 n1 c1,.slice A2 n2 c2,.slice A3 n3 c3,.slice A4 n4 c4,.slice A5 n5 c5]] w fun e w'=>e=.returned (.tuple #[])∧∃v',St w0 NoB w' (bU g 0 v' (l++cJ 1 (bM [l1,l2,l3,l4,l5] 5)) H):=by
 have HLE:=aA (accL_le [l1,l2,l3,l4,l5] (by intro x hx;simp only[List.mem_cons,List.not_mem_nil,or_false] at hx;rcases hx with rfl|rfl|rfl|rfl|rfl<;>omega))
 have HL1:=aA hl1
 have HR1:=aA hr1
 have HL2:=aA hl2
 have HR2:=aA hr2
 have HL3:=aA hl3
 have HR3:=aA hr3
 have HL4:=aA hl4
 have HR4:=aA hr4
 have HL5:=aA hl5
 have HR5:=aA hr5
 clear hl1 hr1 hl2 hr2 hl3 hr3 hl4 hr4 hl5 hr5
 have hS1:=(hS.alloc #[.slice A1 n1 c1,.slice A2 n2 c2,.slice A3 n3 c3,.slice A4 n4 c4,.slice A5 n5 c5] 32).alloc #[.slice none 0 0,.int .i64 0] 84
 rw[size_alloc1] at hS1
 have HS:=aA hS1
 have HLL:=aA hl
 clear hS1 hS hl
 have t0:_=some (Value.slice A1 n1 c1):=HS.out.cell 1 rfl 0
 have t1:_=some (Value.slice A2 n2 c2):=HS.out.cell 1 rfl 1
 have t2:_=some (Value.slice A3 n3 c3):=HS.out.cell 1 rfl 2
 have t3:_=some (Value.slice A4 n4 c4):=HS.out.cell 1 rfl 3
 have t4:_=some (Value.slice A5 n5 c5):=HS.out.cell 1 rfl 4
 have d0:(((n4:Int)+(n5:Int))==0)=false:=A9
 have d0':decide ((n4:Int)+(n5:Int)=0)=false:=A9
 go_enter Tryz.func59,Tryz.ntmps59
 go_wp2_with fail
 have hS2:=HS.out.alloc #[.slice A1 n1 c1,.slice A2 n2 c2,.slice A3 n3 c3,.slice A4 n4 c4,.slice A5 n5 c5] 22
 rw[size_alloc1,size_alloc1] at hS2
 generalize w.heap.size+1+1=gl at *
 generalize hgx:w.heap.size+1=gx at *
 have hS3:St w0 NoB _ (.row (.slice none 0 0) 5 1 0 []::.cells gl #[.slice A1 n1 c1,.slice A2 n2 c2,.slice A3 n3 c3,.slice A4 n4 c4,.slice A5 n5 c5] 22::.cells gx #[.slice none 0 0,.int .i64 0] 84::.cells w.heap.size #[.slice A1 n1 c1,.slice A2 n2 c2,.slice A3 n3 c3,.slice A4 n4 c4,.slice A5 n5 c5] 32::bU g 0 v l H):=hS2.row (Below.refl _ _) (World.ownsRow_nil _ _ 5 1)
 have HSL:Hid (St w0 NoB _ (bU gx 0 (.slice none 0 0) (bM [l1,l2,l3,l4,l5] 0) (.cells gl #[.slice A1 n1 c1,.slice A2 n2 c2,.slice A3 n3 c3,.slice A4 n4 c4,.slice A5 n5 c5] 22::.cells w.heap.size #[.slice A1 n1 c1,.slice A2 n2 c2,.slice A3 n3 c3,.slice A4 n4 c4,.slice A5 n5 c5] 32::bU g 0 v l H))):=aA (hS3.perm ((List.Perm.cons _ (List.Perm.swap _ _ _)).trans (List.Perm.swap _ _ _)))
 clear hS2 hS3 HS t0 t1 t2 t3 t4
 go_loopw [36] (fun i wr=>∃(k:Nat) (v2:Value),k≤5∧i=.int .i64 (k:Int)∧Hid (St w0 NoB wr (bU gx 0 v2 (bM [l1,l2,l3,l4,l5] k) (.cells gl #[.slice A1 n1 c1,.slice A2 n2 c2,.slice A3 n3 c3,.slice A4 n4 c4,.slice A5 n5 c5] 22::.cells w.heap.size #[.slice A1 n1 c1,.slice A2 n2 c2,.slice A3 n3 c3,.slice A4 n4 c4,.slice A5 n5 c5] 32::bU g 0 v l H)))) (fun i _=>(5 - intOf i).toNat)
 case atStart=>exact⟨0,.slice none 0 0,An,rfl,HSL⟩
 case round =>
  clear HSL
  obtain⟨k,v2,hk,rfl,HS⟩:=hrel
  have hle:=HLE.out k
  by_cases hlt:k<5
  ·have d1:decide ((k:Int)<5)=true:=by simp;omega
   rcases(show k=0∨k=1∨k=2∨k=3∨k=4 by omega) with rfl|rfl|rfl|rfl|rfl
   ·have ck0:wr.cell? ⟨gl,0,none⟩=some (.slice A1 n1 c1):=HS.out.cell 2 rfl 0
    have HW:=aA (fun v2 (hS:St w0 NoB wr (bU gx 0 v2 (bM [l1,l2,l3,l4,l5] 0) (.cells gl #[.slice A1 n1 c1,.slice A2 n2 c2,.slice A3 n3 c3,.slice A4 n4 c4,.slice A5 n5 c5] 22::.cells w.heap.size #[.slice A1 n1 c1,.slice A2 n2 c2,.slice A3 n3 c3,.slice A4 n4 c4,.slice A5 n5 c5] 32::bU g 0 v l H)))=>cV gx 0 v2 (bM [l1,l2,l3,l4,l5] 0) 1 A1 c1 l1 An (by rw[HL1.out];omega) (fun W hW=>(by rw[HL1.out];exact HR1.out.below hW.below)) hS)
    rw[HL1.out] at HW
    go_wp2_with (go_at_call 110;(with_reducible refine(HW.out v2 HS.out).mono ?_);rintro e w2 ⟨rfl,v3,hS3⟩;have HS3:=aA hS3;clear hS3)
    go_roundw
    case rel=>exact⟨1,v3,An,rfl,aA (by rw[show bM [l1,l2,l3,l4,l5] 1=bM [l1,l2,l3,l4,l5] 0++cJ 1 l1 from dW (k:=0) rfl];exact HS3.out)⟩
    case measure=>(simp[intOf])<;>omega
   ·have ck1:wr.cell? ⟨gl,1,none⟩=some (.slice A2 n2 c2):=HS.out.cell 2 rfl 1
    have HW:=aA (fun v2 (hS:St w0 NoB wr (bU gx 0 v2 (bM [l1,l2,l3,l4,l5] 1) (.cells gl #[.slice A1 n1 c1,.slice A2 n2 c2,.slice A3 n3 c3,.slice A4 n4 c4,.slice A5 n5 c5] 22::.cells w.heap.size #[.slice A1 n1 c1,.slice A2 n2 c2,.slice A3 n3 c3,.slice A4 n4 c4,.slice A5 n5 c5] 32::bU g 0 v l H)))=>cV gx 0 v2 (bM [l1,l2,l3,l4,l5] 1) 2 A2 c2 l2 An (by rw[HL2.out];omega) (fun W hW=>(by rw[HL2.out];exact HR2.out.below hW.below)) hS)
    rw[HL2.out] at HW
    go_wp2_with (go_at_call 110;(with_reducible refine(HW.out v2 HS.out).mono ?_);rintro e w2 ⟨rfl,v3,hS3⟩;have HS3:=aA hS3;clear hS3)
    go_roundw
    case rel=>exact⟨2,v3,An,rfl,aA (by rw[show bM [l1,l2,l3,l4,l5] 2=bM [l1,l2,l3,l4,l5] 1++cJ 2 l2 from dW (k:=1) rfl];exact HS3.out)⟩
    case measure=>(simp[intOf])<;>omega
   ·have ck2:wr.cell? ⟨gl,2,none⟩=some (.slice A3 n3 c3):=HS.out.cell 2 rfl 2
    have HW:=aA (fun v2 (hS:St w0 NoB wr (bU gx 0 v2 (bM [l1,l2,l3,l4,l5] 2) (.cells gl #[.slice A1 n1 c1,.slice A2 n2 c2,.slice A3 n3 c3,.slice A4 n4 c4,.slice A5 n5 c5] 22::.cells w.heap.size #[.slice A1 n1 c1,.slice A2 n2 c2,.slice A3 n3 c3,.slice A4 n4 c4,.slice A5 n5 c5] 32::bU g 0 v l H)))=>cV gx 0 v2 (bM [l1,l2,l3,l4,l5] 2) 3 A3 c3 l3 An (by rw[HL3.out];omega) (fun W hW=>(by rw[HL3.out];exact HR3.out.below hW.below)) hS)
    rw[HL3.out] at HW
    go_wp2_with (go_at_call 110;(with_reducible refine(HW.out v2 HS.out).mono ?_);rintro e w2 ⟨rfl,v3,hS3⟩;have HS3:=aA hS3;clear hS3)
    go_roundw
    case rel=>exact⟨3,v3,An,rfl,aA (by rw[show bM [l1,l2,l3,l4,l5] 3=bM [l1,l2,l3,l4,l5] 2++cJ 3 l3 from dW (k:=2) rfl];exact HS3.out)⟩
    case measure=>(simp[intOf])<;>omega
   ·have ck3:wr.cell? ⟨gl,3,none⟩=some (.slice A4 n4 c4):=HS.out.cell 2 rfl 3
    have HW:=aA (fun v2 (hS:St w0 NoB wr (bU gx 0 v2 (bM [l1,l2,l3,l4,l5] 3) (.cells gl #[.slice A1 n1 c1,.slice A2 n2 c2,.slice A3 n3 c3,.slice A4 n4 c4,.slice A5 n5 c5] 22::.cells w.heap.size #[.slice A1 n1 c1,.slice A2 n2 c2,.slice A3 n3 c3,.slice A4 n4 c4,.slice A5 n5 c5] 32::bU g 0 v l H)))=>cV gx 0 v2 (bM [l1,l2,l3,l4,l5] 3) 4 A4 c4 l4 An (by rw[HL4.out];omega) (fun W hW=>(by rw[HL4.out];exact HR4.out.below hW.below)) hS)
    rw[HL4.out] at HW
    go_wp2_with (go_at_call 110;(with_reducible refine(HW.out v2 HS.out).mono ?_);rintro e w2 ⟨rfl,v3,hS3⟩;have HS3:=aA hS3;clear hS3)
    go_roundw
    case rel=>exact⟨4,v3,An,rfl,aA (by rw[show bM [l1,l2,l3,l4,l5] 4=bM [l1,l2,l3,l4,l5] 3++cJ 4 l4 from dW (k:=3) rfl];exact HS3.out)⟩
    case measure=>(simp[intOf])<;>omega
   ·have ck4:wr.cell? ⟨gl,4,none⟩=some (.slice A5 n5 c5):=HS.out.cell 2 rfl 4
    have HW:=aA (fun v2 (hS:St w0 NoB wr (bU gx 0 v2 (bM [l1,l2,l3,l4,l5] 4) (.cells gl #[.slice A1 n1 c1,.slice A2 n2 c2,.slice A3 n3 c3,.slice A4 n4 c4,.slice A5 n5 c5] 22::.cells w.heap.size #[.slice A1 n1 c1,.slice A2 n2 c2,.slice A3 n3 c3,.slice A4 n4 c4,.slice A5 n5 c5] 32::bU g 0 v l H)))=>cV gx 0 v2 (bM [l1,l2,l3,l4,l5] 4) 5 A5 c5 l5 An (by rw[HL5.out];omega) (fun W hW=>(by rw[HL5.out];exact HR5.out.below hW.below)) hS)
    rw[HL5.out] at HW
    go_wp2_with (go_at_call 110;(with_reducible refine(HW.out v2 HS.out).mono ?_);rintro e w2 ⟨rfl,v3,hS3⟩;have HS3:=aA hS3;clear hS3)
    go_roundw
    case rel=>exact⟨5,v3,An,rfl,aA (by rw[show bM [l1,l2,l3,l4,l5] 5=bM [l1,l2,l3,l4,l5] 4++cJ 5 l5 from dW (k:=4) rfl];exact HS3.out)⟩
    case measure=>(simp[intOf])<;>omega
  ·obtain rfl:k=5:=by omega
   have d1:decide (((5:Nat):Int)<5)=false:=rfl
   have xg:wr.cell? ⟨g,1,none⟩=some (.int .i64 0):=HS.out.cell 4 rfl 1
   have xf:=HS.out.free 4 rfl 1
   have xx:wr.cell? ⟨gx,1,none⟩=some (.int .i64 0):=HS.out.cell 0 rfl 1
   go_upto_region 11 with fail
   refine aD [(0,1),(1,1),(2,1),(3,0),(4,1),(5,1),(6,1),(7,0),(8,1),(9,1),(10,1),(11,3)] Bt Bt (fun _ _ _ _ h=>h) ?_
   go_upto_region 12 with(first|(refine wpT_nil ?_)|((with_reducible refine fromT_refl ?_);(try refine nm ?_))|((with_reducible refine aE Df ?_);(try refine nm ?_))|(refine aI (v:=?_) rfl rfl ?_ ?_;rotate_left;(intro wx;go_simp;try go_bits)<;>(with_reducible rfl);(try refine nm ?_))|(refine aK (v:=?_) rfl rfl rfl ?_ ?_;rotate_left;(go_simp;try go_bits)<;>(with_reducible rfl);(try refine nm ?_))|(refine aL (v:=?_) rfl rfl ?_ ?_;rotate_left;(intro wx hx;go_simp;try go_bits)<;>(with_reducible rfl);(try refine nm ?_))|(refine aM rfl rfl ?_;intro K hK)|(refine wpT_late rfl rfl ?_;intro K hK)|(refine wpT_any rfl rfl ?_;intro K hK)|(refine wpT_skip rfl rfl ?_;(try refine nm ?_)))
   have h4:St w0 NoB _ (.cells gx #[v2,.int .i64 0] 84::.row v2 5 1 (bM [l1,l2,l3,l4,l5] 5).length (bvs (bM [l1,l2,l3,l4,l5] 5))::.cells gl #[.slice A1 n1 c1,.slice A2 n2 c2,.slice A3 n3 c3,.slice A4 n4 c4,.slice A5 n5 c5] 22::.cells w.heap.size #[.slice A1 n1 c1,.slice A2 n2 c2,.slice A3 n3 c3,.slice A4 n4 c4,.slice A5 n5 c5] 32::.cells g #[v,.int .i64 0] 84::.row v 5 1 l.length (bvs l)::H):=(HS.out.setCell 4 rfl 1 (.int .i64 0)).drew
   have HS4:=aA h4
   have hln:=HLE.out 5
   have hll:=HLL.out
   clear h4 xg xf xx HS
   generalize (wr.setCell ⟨g,1,none⟩ (.int .i64 0)).drew=w4 at HS4 ⊢
   generalize hacc:bM [l1,l2,l3,l4,l5] 5=acc at HS4 hln ⊢
   have HAC:=aA hacc
   clear hacc
   have HBY:=aA (bytes_any gx v2 acc An (HS4.out.cell 0 rfl 0) (HS4.out.rd 1 rfl))
   go_wp2_with (first
    |(go_at_call 61;go_loud ((with_reducible refine HBY.out.mono ?_);rintro e w5 ⟨A6,c6,rfl,hb,ho⟩;have hS5:=HS4.out.row hb ho;have hS6:St w0 NoB w5 (bU g 0 v l ([.row (.slice A6 acc.length c6) 5 1 acc.length (bvs acc),.cells gx #[v2,.int .i64 0] 84,.row v2 5 1 acc.length (bvs acc),.cells gl #[.slice A1 n1 c1,.slice A2 n2 c2,.slice A3 n3 c3,.slice A4 n4 c4,.slice A5 n5 c5] 22,.cells w.heap.size #[.slice A1 n1 c1,.slice A2 n2 c2,.slice A3 n3 c3,.slice A4 n4 c4,.slice A5 n5 c5] 32]++H)):=hS5.perm (five_two _ _ _ _ _ _ _ _);have HRW:=aA (cV g 0 v l 1 A6 c6 acc An An (fun W hW=>hW.rd 0 rfl) hS6);clear hS5 hS6 hb ho))
    |(go_at_call 110;(with_reducible refine HRW.out.mono ?_);rintro e w7 ⟨rfl,v7,hS7⟩;have HS7:=aA hS7;clear hS7))
   go_end0
   refine⟨rfl,v7,?_⟩
   have h8:St w0 NoB w7 (.cells g #[v7,.int .i64 0] 84::.row v7 5 1 (l++cJ 1 acc).length (bvs (l++cJ 1 acc))::.row (.slice A6 acc.length c6) 5 1 acc.length (bvs acc)::.cells gx #[v2,.int .i64 0] 84::.row v2 5 1 acc.length (bvs acc)::.cells gl #[.slice A1 n1 c1,.slice A2 n2 c2,.slice A3 n3 c3,.slice A4 n4 c4,.slice A5 n5 c5] 22::.cells w.heap.size #[.slice A1 n1 c1,.slice A2 n2 c2,.slice A3 n3 c3,.slice A4 n4 c4,.slice A5 n5 c5] 32::H):=HS7.out
   rw[HAC.out]
   exact(h8.perm (five_two _ _ _ _ _ _ _ _).symm).tail.tail.tail.tail.tail
theorem wblock3 {w0 w:World}{H:List Chunk}(g:Nat)(v:Value)(l:List UInt8)(A1 A2 A3 A4 A5:Option Addr)(n1 n2 n3 c1 c2 c3 c4 c5:Nat)(l1 l2 l3 l4 l5:List UInt8)(hl1:l1.length=n1)(hn1:n1≤10000)(hr1:Rd w0 (.slice A1 n1 c1) 1 n1 (bvs l1))(hl2:l2.length=n2)(hn2:n2≤10000)(hr2:Rd w0 (.slice A2 n2 c2) 1 n2 (bvs l2))(hl3:l3.length=n3)(hn3:n3≤10000)(hr3:Rd w0 (.slice A3 n3 c3) 1 n3 (bvs l3))(hl4:l4.length=0)(hn4:0≤10000)(hr4:Rd w0 (.slice A4 0 c4) 1 0 (bvs l4))(hl5:l5.length=0)(hn5:0≤10000)(hr5:Rd w0 (.slice A5 0 c5) 1 0 (bvs l5))  (hl:l.length≤800000)(hS:St w0 NoB w (bU g 0 v l H)) :
  Calls Tryz.prog 59 #[.pointer (some ⟨g,0,none⟩),.agg #[.slice A1 n1 c1,.slice A2 n2 c2,.slice A3 n3 c3,.slice A4 0 c4,.slice A5 0 c5]] w fun e w'=>e=.returned (.tuple #[])∧∃v',St w0 NoB w' (bU g 0 v' (l++cJ 1 (bM [l1,l2,l3] 3)) H):=by
 have HLE:=aA (accL_le [l1,l2,l3] (by intro x hx;simp only[List.mem_cons,List.not_mem_nil,or_false] at hx;rcases hx with rfl|rfl|rfl<;>omega))
 have HL1:=aA hl1
 have HR1:=aA hr1
 have HL2:=aA hl2
 have HR2:=aA hr2
 have HL3:=aA hl3
 have HR3:=aA hr3
 have HL4:=aA hl4
 have HR4:=aA hr4
 have HL5:=aA hl5
 have HR5:=aA hr5
 clear hl1 hr1 hl2 hr2 hl3 hr3 hl4 hr4 hl5 hr5
 have hS1:=(hS.alloc #[.slice A1 n1 c1,.slice A2 n2 c2,.slice A3 n3 c3,.slice A4 0 c4,.slice A5 0 c5] 32).alloc #[.slice none 0 0,.int .i64 0] 84
 rw[size_alloc1] at hS1
 have HS:=aA hS1
 have HLL:=aA hl
 clear hS1 hS hl
 have t0:_=some (Value.slice A1 n1 c1):=HS.out.cell 1 rfl 0
 have t1:_=some (Value.slice A2 n2 c2):=HS.out.cell 1 rfl 1
 have t2:_=some (Value.slice A3 n3 c3):=HS.out.cell 1 rfl 2
 have t3:_=some (Value.slice A4 0 c4):=HS.out.cell 1 rfl 3
 have t4:_=some (Value.slice A5 0 c5):=HS.out.cell 1 rfl 4
 go_enter Tryz.func59,Tryz.ntmps59
 go_wp2_with fail
 have hS2:=HS.out.alloc #[.slice A1 n1 c1,.slice A2 n2 c2,.slice A3 n3 c3,.slice A4 0 c4,.slice A5 0 c5] 22
 rw[size_alloc1,size_alloc1] at hS2
 generalize w.heap.size+1+1=gl at *
 generalize hgx:w.heap.size+1=gx at *
 have hS3:St w0 NoB _ (.row (.slice none 0 0) 5 1 0 []::.cells gl #[.slice A1 n1 c1,.slice A2 n2 c2,.slice A3 n3 c3,.slice A4 0 c4,.slice A5 0 c5] 22::.cells gx #[.slice none 0 0,.int .i64 0] 84::.cells w.heap.size #[.slice A1 n1 c1,.slice A2 n2 c2,.slice A3 n3 c3,.slice A4 0 c4,.slice A5 0 c5] 32::bU g 0 v l H):=hS2.row (Below.refl _ _) (World.ownsRow_nil _ _ 5 1)
 have HSL:Hid (St w0 NoB _ (bU gx 0 (.slice none 0 0) (bM [l1,l2,l3] 0) (.cells gl #[.slice A1 n1 c1,.slice A2 n2 c2,.slice A3 n3 c3,.slice A4 0 c4,.slice A5 0 c5] 22::.cells w.heap.size #[.slice A1 n1 c1,.slice A2 n2 c2,.slice A3 n3 c3,.slice A4 0 c4,.slice A5 0 c5] 32::bU g 0 v l H))):=aA (hS3.perm ((List.Perm.cons _ (List.Perm.swap _ _ _)).trans (List.Perm.swap _ _ _)))
 clear hS2 hS3 HS t0 t1 t2 t3 t4
 go_loopw [36] (fun i wr=>∃(k:Nat) (v2:Value),k≤3∧i=.int .i64 (k:Int)∧Hid (St w0 NoB wr (bU gx 0 v2 (bM [l1,l2,l3] k) (.cells gl #[.slice A1 n1 c1,.slice A2 n2 c2,.slice A3 n3 c3,.slice A4 0 c4,.slice A5 0 c5] 22::.cells w.heap.size #[.slice A1 n1 c1,.slice A2 n2 c2,.slice A3 n3 c3,.slice A4 0 c4,.slice A5 0 c5] 32::bU g 0 v l H)))) (fun i _=>(3 - intOf i).toNat)
 case atStart=>exact⟨0,.slice none 0 0,An,rfl,HSL⟩
 case round =>
  clear HSL
  obtain⟨k,v2,hk,rfl,HS⟩:=hrel
  have hle:=HLE.out k
  by_cases hlt:k<3
  ·have d1:decide ((k:Int)<3)=true:=by simp;omega
   rcases(show k=0∨k=1∨k=2 by omega) with rfl|rfl|rfl
   ·have ck0:wr.cell? ⟨gl,0,none⟩=some (.slice A1 n1 c1):=HS.out.cell 2 rfl 0
    have HW:=aA (fun v2 (hS:St w0 NoB wr (bU gx 0 v2 (bM [l1,l2,l3] 0) (.cells gl #[.slice A1 n1 c1,.slice A2 n2 c2,.slice A3 n3 c3,.slice A4 0 c4,.slice A5 0 c5] 22::.cells w.heap.size #[.slice A1 n1 c1,.slice A2 n2 c2,.slice A3 n3 c3,.slice A4 0 c4,.slice A5 0 c5] 32::bU g 0 v l H)))=>cV gx 0 v2 (bM [l1,l2,l3] 0) 1 A1 c1 l1 An (by rw[HL1.out];omega) (fun W hW=>(by rw[HL1.out];exact HR1.out.below hW.below)) hS)
    rw[HL1.out] at HW
    go_wp2_with (go_at_call 110;(with_reducible refine(HW.out v2 HS.out).mono ?_);rintro e w2 ⟨rfl,v3,hS3⟩;have HS3:=aA hS3;clear hS3)
    go_roundw
    case rel=>exact⟨1,v3,An,rfl,aA (by rw[show bM [l1,l2,l3] 1=bM [l1,l2,l3] 0++cJ 1 l1 from dW (k:=0) rfl];exact HS3.out)⟩
    case measure=>(simp[intOf])<;>omega
   ·have ck1:wr.cell? ⟨gl,1,none⟩=some (.slice A2 n2 c2):=HS.out.cell 2 rfl 1
    have HW:=aA (fun v2 (hS:St w0 NoB wr (bU gx 0 v2 (bM [l1,l2,l3] 1) (.cells gl #[.slice A1 n1 c1,.slice A2 n2 c2,.slice A3 n3 c3,.slice A4 0 c4,.slice A5 0 c5] 22::.cells w.heap.size #[.slice A1 n1 c1,.slice A2 n2 c2,.slice A3 n3 c3,.slice A4 0 c4,.slice A5 0 c5] 32::bU g 0 v l H)))=>cV gx 0 v2 (bM [l1,l2,l3] 1) 2 A2 c2 l2 An (by rw[HL2.out];omega) (fun W hW=>(by rw[HL2.out];exact HR2.out.below hW.below)) hS)
    rw[HL2.out] at HW
    go_wp2_with (go_at_call 110;(with_reducible refine(HW.out v2 HS.out).mono ?_);rintro e w2 ⟨rfl,v3,hS3⟩;have HS3:=aA hS3;clear hS3)
    go_roundw
    case rel=>exact⟨2,v3,An,rfl,aA (by rw[show bM [l1,l2,l3] 2=bM [l1,l2,l3] 1++cJ 2 l2 from dW (k:=1) rfl];exact HS3.out)⟩
    case measure=>(simp[intOf])<;>omega
   ·have ck2:wr.cell? ⟨gl,2,none⟩=some (.slice A3 n3 c3):=HS.out.cell 2 rfl 2
    have HW:=aA (fun v2 (hS:St w0 NoB wr (bU gx 0 v2 (bM [l1,l2,l3] 2) (.cells gl #[.slice A1 n1 c1,.slice A2 n2 c2,.slice A3 n3 c3,.slice A4 0 c4,.slice A5 0 c5] 22::.cells w.heap.size #[.slice A1 n1 c1,.slice A2 n2 c2,.slice A3 n3 c3,.slice A4 0 c4,.slice A5 0 c5] 32::bU g 0 v l H)))=>cV gx 0 v2 (bM [l1,l2,l3] 2) 3 A3 c3 l3 An (by rw[HL3.out];omega) (fun W hW=>(by rw[HL3.out];exact HR3.out.below hW.below)) hS)
    rw[HL3.out] at HW
    go_wp2_with (go_at_call 110;(with_reducible refine(HW.out v2 HS.out).mono ?_);rintro e w2 ⟨rfl,v3,hS3⟩;have HS3:=aA hS3;clear hS3)
    go_roundw
    case rel=>exact⟨3,v3,An,rfl,aA (by rw[show bM [l1,l2,l3] 3=bM [l1,l2,l3] 2++cJ 3 l3 from dW (k:=2) rfl];exact HS3.out)⟩
    case measure=>(simp[intOf])<;>omega
  ·obtain rfl:k=3:=by omega
   have d1:decide (((3:Nat):Int)<3)=false:=rfl
   have xg:wr.cell? ⟨g,1,none⟩=some (.int .i64 0):=HS.out.cell 4 rfl 1
   have xf:=HS.out.free 4 rfl 1
   have xx:wr.cell? ⟨gx,1,none⟩=some (.int .i64 0):=HS.out.cell 0 rfl 1
   go_upto_region 11 with fail
   refine aD [(0,1),(1,1),(2,1),(3,0),(4,1),(5,1),(6,1),(7,0),(8,1),(9,1),(10,1),(11,3)] Bt Bt (fun _ _ _ _ h=>h) ?_
   go_upto_region 12 with(first|(refine wpT_nil ?_)|((with_reducible refine fromT_refl ?_);(try refine nm ?_))|((with_reducible refine aE Df ?_);(try refine nm ?_))|(refine aI (v:=?_) rfl rfl ?_ ?_;rotate_left;(intro wx;go_simp;try go_bits)<;>(with_reducible rfl);(try refine nm ?_))|(refine aK (v:=?_) rfl rfl rfl ?_ ?_;rotate_left;(go_simp;try go_bits)<;>(with_reducible rfl);(try refine nm ?_))|(refine aL (v:=?_) rfl rfl ?_ ?_;rotate_left;(intro wx hx;go_simp;try go_bits)<;>(with_reducible rfl);(try refine nm ?_))|(refine aM rfl rfl ?_;intro K hK)|(refine wpT_late rfl rfl ?_;intro K hK)|(refine wpT_any rfl rfl ?_;intro K hK)|(refine wpT_skip rfl rfl ?_;(try refine nm ?_)))
   have h4:St w0 NoB _ (.cells gx #[v2,.int .i64 0] 84::.row v2 5 1 (bM [l1,l2,l3] 3).length (bvs (bM [l1,l2,l3] 3))::.cells gl #[.slice A1 n1 c1,.slice A2 n2 c2,.slice A3 n3 c3,.slice A4 0 c4,.slice A5 0 c5] 22::.cells w.heap.size #[.slice A1 n1 c1,.slice A2 n2 c2,.slice A3 n3 c3,.slice A4 0 c4,.slice A5 0 c5] 32::.cells g #[v,.int .i64 0] 84::.row v 5 1 l.length (bvs l)::H):=(HS.out.setCell 4 rfl 1 (.int .i64 0)).drew
   have HS4:=aA h4
   have hln:=HLE.out 3
   have hll:=HLL.out
   clear h4 xg xf xx HS
   generalize (wr.setCell ⟨g,1,none⟩ (.int .i64 0)).drew=w4 at HS4 ⊢
   generalize hacc:bM [l1,l2,l3] 3=acc at HS4 hln ⊢
   have HAC:=aA hacc
   clear hacc
   have HBY:=aA (bytes_any gx v2 acc An (HS4.out.cell 0 rfl 0) (HS4.out.rd 1 rfl))
   go_wp2_with (first
    |(go_at_call 61;go_loud ((with_reducible refine HBY.out.mono ?_);rintro e w5 ⟨A6,c6,rfl,hb,ho⟩;have hS5:=HS4.out.row hb ho;have hS6:St w0 NoB w5 (bU g 0 v l ([.row (.slice A6 acc.length c6) 5 1 acc.length (bvs acc),.cells gx #[v2,.int .i64 0] 84,.row v2 5 1 acc.length (bvs acc),.cells gl #[.slice A1 n1 c1,.slice A2 n2 c2,.slice A3 n3 c3,.slice A4 0 c4,.slice A5 0 c5] 22,.cells w.heap.size #[.slice A1 n1 c1,.slice A2 n2 c2,.slice A3 n3 c3,.slice A4 0 c4,.slice A5 0 c5] 32]++H)):=hS5.perm (five_two _ _ _ _ _ _ _ _);have HRW:=aA (cV g 0 v l 1 A6 c6 acc An An (fun W hW=>hW.rd 0 rfl) hS6);clear hS5 hS6 hb ho))
    |(go_at_call 110;(with_reducible refine HRW.out.mono ?_);rintro e w7 ⟨rfl,v7,hS7⟩;have HS7:=aA hS7;clear hS7))
   go_end0
   refine⟨rfl,v7,?_⟩
   have h8:St w0 NoB w7 (.cells g #[v7,.int .i64 0] 84::.row v7 5 1 (l++cJ 1 acc).length (bvs (l++cJ 1 acc))::.row (.slice A6 acc.length c6) 5 1 acc.length (bvs acc)::.cells gx #[v2,.int .i64 0] 84::.row v2 5 1 acc.length (bvs acc)::.cells gl #[.slice A1 n1 c1,.slice A2 n2 c2,.slice A3 n3 c3,.slice A4 0 c4,.slice A5 0 c5] 22::.cells w.heap.size #[.slice A1 n1 c1,.slice A2 n2 c2,.slice A3 n3 c3,.slice A4 0 c4,.slice A5 0 c5] 32::H):=HS7.out
   rw[HAC.out]
   exact(h8.perm (five_two _ _ _ _ _ _ _ _).symm).tail.tail.tail.tail.tail
end Go.Proofs.YtnohmgpmmhlloaaGreatDoor.S6
namespace Go.Proofs.YtnohmgpmmhlloaaGreatDoor
open Go.RowKit
theorem max5 (P:Program)(a b c d e:Int)(m:Int)(h1:a≤m)(h2:b≤m)(h3:c≤m)(h4:d≤m)(h5:e≤m):∃z,z≤m∧∀(ts:Array TypeId) (t:TypeId) (w:World),(Builtin.max_ ts t #[.int .i64 a,.int .i64 b,.int .i64 c,.int .i64 d,.int .i64 e]).run P w=.ok (.int .i64 z) w:=by
 refine⟨_,?_,fun ts t w=>by simp[Builtin.max_,Builtin.max2];rfl⟩
 repeat' split
 all_goals omega
theorem long_core (A1 A2 A3 A4 A5:Option Addr)(n1 n2 n3 n4 n5 c1 c2 c3 c4 c5:Nat)(h1:n1≤65536)(h2:n2≤65536)(h3:n3≤65536)(h4:n4≤65536)(h5:n5≤65536)(w:World) :
  Calls Tryz.prog 58 #[.agg #[.slice A1 n1 c1,.slice A2 n2 c2,.slice A3 n3 c3,.slice A4 n4 c4,.slice A5 n5 c5]] w fun e w'=>e=.returned (.bool false)∧Below w.heap.size w w':=by
 have HS:=aA ((St.init w NoB).alloc #[.slice A1 n1 c1,.slice A2 n2 c2,.slice A3 n3 c3,.slice A4 n4 c4,.slice A5 n5 c5] 32)
 have t1:_=some (Value.slice A1 n1 c1):=HS.out.cell 0 rfl 0
 have t2:_=some (Value.slice A2 n2 c2):=HS.out.cell 0 rfl 1
 have t3:_=some (Value.slice A3 n3 c3):=HS.out.cell 0 rfl 2
 have t4:_=some (Value.slice A4 n4 c4):=HS.out.cell 0 rfl 3
 have t5:_=some (Value.slice A5 n5 c5):=HS.out.cell 0 rfl 4
 go_enter Tryz.func58,Tryz.ntmps58
 obtain⟨z,hz,mx⟩:=max5 Tryz.prog n1 n2 n3 n4 n5 65536 An An An An An
 have dz:decide ((65536:Int)<z)=false:=A9
 go_wp2_with fail
 go_ret
 exact⟨rfl,HS.out.below⟩
theorem Rd.isSlice {w:World}{v:Value}{size n:Nat}{xs:List Value}(h:Rd w v size n xs):∃A c,v=.slice A n c∧Rd w (.slice A n c) size n xs:=by
 obtain⟨A,c,rfl,h2⟩:=id h
 exact⟨A,c,rfl,h⟩
def CloS (f:FuncId)(cap:Array Value)(w:World)(g:Sg→Bool)(xs:List Sg):Prop:=
 ∀w',Below w.heap.size w w'→∀x∈xs,Calls Tryz.prog f (#[x.val]++cap) w' fun e w''=>e=.returned (.bool (g x))∧Below w'.heap.size w' w''
def sIdx (g:Sg→Bool):List Sg→Int→Int
 | [],_=>-1
 | x::l,k=>if g x=true then k else sIdx g l (k+1)
theorem sIdx_any (g:Sg→Bool):∀(l:List Sg) (k:Int),0≤k→decide (0≤sIdx g l k)=l.any g
 | [],k,_=>by simp[sIdx]
 | x::l,k,hk=>by
  rw[sIdx,List.any_cons]
  by_cases h:g x=true
  ·rw[if_pos h,h]
   simp[hk]
  ·rw[if_neg h,sIdx_any g l (k+1) An]
   simp[h]
theorem idxS_any (f:FuncId)(hen:∀(args:Array Value) (w:World),(callFunc f args).run Tryz.prog w=.ok (.enter f args) w)(cap:Array Value)(g:Sg→Bool)(va:Value)(xs:List Sg)(w:World)(ha:Rd w va 5 xs.length (aN xs))(hm:xs.length≤140737488351232)(hf:CloS f cap w g xs) :
  Calls Tryz.prog 109 #[va,.func (.func f) #[] cap] w fun e w'=>e=.returned (.int .i64 (sIdx g xs 0))∧Below w.heap.size w w':=by
 obtain⟨A,c,rfl,hra⟩:=Rd.isSlice ha
 have HA:=aA hra
 have HF:=aA hf
 clear ha hf hra
 obtain⟨n,hn⟩:∃n,n=xs.length:=⟨_,rfl⟩
 rw[←hn] at HA hm ⊢
 have HN:=aA hn
 clear hn
 go_enter Tryz.func109,Tryz.ntmps109
 go_wp2_with fail
 go_loopw [8] (fun i wr=>∃k:Nat,k≤n∧i=.int .i64 (k:Int)∧Hid (sIdx g (xs.drop k) (k:Int)=sIdx g xs 0)∧Hid (Below w.heap.size w wr)) (fun i _=>(n - intOf i).toNat)
 case atStart=>exact⟨0,An,rfl,rfl,Below.refl _ _⟩
 case round =>
  obtain⟨k,hk,rfl,HS,HW⟩:=hrel
  by_cases hlt:k<n
  ·have hd:decide ((k:Int)<(n:Int))=true:=by simp;omega
   have k1:k<xs.length:=Cv
   obtain⟨b,o,rfl,hb8,hc⟩:=sg_at HA.out (gE k1)
   obtain⟨c0,c1,c2,c3,c4⟩:=hc _ HW.out
   have hs:=HS.out
   rw[List.drop_eq_getElem_cons k1,sIdx] at hs
   have HX:=aA hs
   have HC:=aA (fun w' hw=>HF.out w' hw xs[k] (List.getElem_mem k1))
   clear hs hc
   generalize xs[k]=x at c0 c1 c2 c3 c4 HX HC
   obtain⟨z,hz⟩:∃z,z=g x:=⟨_,rfl⟩
   rw[←hz] at HX HC
   have HL:=aA hlt
   clear k1 hz
   unfold Sg.val PcV.v at HC
   cases z
   ·have HX2:Hid (sIdx g (xs.drop (k+1)) ((k+1:Nat):Int)=sIdx g xs 0):=by
     have:=HX.out
     rw[if_neg Bool.false_ne_true] at this
     rw[show((k+1:Nat):Int)=(k:Int)+1 by omega]
     exact this
    go_wp2_with (refine(HC.out _ HW.out).mono ?_;rintro e w' ⟨rfl,hb⟩;have HW2:=aA (HW.out.trans (hb.mono HW.out.size));clear hb)
    go_roundw
    case rel=>exact⟨k+1,Ca,Cg,HX2,HW2⟩
    case measure=>(have:=HL.out);(simp[intOf])<;>omega
   ·have HX2:Hid ((k:Int)=sIdx g xs 0):=by
     have:=HX.out
     rw[if_pos rfl] at this
     exact this
    go_wp2_with (refine(HC.out _ HW.out).mono ?_;rintro e w' ⟨rfl,hb⟩;have HW2:=aA (HW.out.trans (hb.mono HW.out.size));clear hb)
    go_ret
    rw[←HX2.out]
    exact⟨rfl,HW2.out⟩
  ·have hd:decide ((k:Int)<(n:Int))=false:=by simp;omega
   have hx:sIdx g xs 0=-1:=by
    rw[←HS.out,List.drop_of_length_le Cv]
    rfl
   have HX:=aA hx
   clear hx
   go_wp2_with fail
   go_ret
   rw[HX.out]
   exact⟨rfl,HW.out⟩
theorem contS_any (f:FuncId)(hen:∀(args:Array Value) (w:World),(callFunc f args).run Tryz.prog w=.ok (.enter f args) w)(cap:Array Value)(g:Sg→Bool)(va:Value)(xs:List Sg)(w:World)(ha:Rd w va 5 xs.length (aN xs))(hm:xs.length≤140737488351232)(hf:CloS f cap w g xs) :
  Calls Tryz.prog 57 #[va,.func (.func f) #[] cap] w fun e w'=>e=.returned (.bool (xs.any g))∧Below w.heap.size w w':=by
 have H:=aA (idxS_any f hen cap g va xs w ha hm hf)
 have hz:=sIdx_any g xs 0 An
 have HV:=aA hz.symm
 clear hz ha hf hm
 generalize sIdx g xs 0=z at H HV
 obtain⟨bb,hb⟩:∃b,decide (0≤z)=b:=⟨_,rfl⟩
 rw[HV.out,hb]
 go_enter Tryz.func57,Tryz.ntmps57
 go_wp2_with (go_at_call 109;(with_reducible refine H.out.mono ?_);rintro e w' ⟨rfl,hb2⟩)
 go_ret
 exact⟨by first|rfl|(rw[←hb]),hb2⟩
end Go.Proofs.YtnohmgpmmhlloaaGreatDoor
namespace Go.Proofs.YtnohmgpmmhlloaaGreatDoor.S6
inductive VR where
 | ok (v:Nat) (rest:List UInt8)
 | bad (e:Nat)
def rvF:List UInt8→Nat→Nat→VR
 | [],_,_=>.bad 2
 | c::b,i,n =>
  if (i=9∧1<c.toNat)∨(0<i∧c.toNat=0) then .bad 3
  else if c.toNat<128 then .ok (n+c.toNat*2^(7*i)) b
  else rvF b (i+1) (n+(c.toNat - 128)*2^(7*i))
@[irreducible] def rv (l:List UInt8):VR:=rvF l 0 0
theorem rv_eq (l:List UInt8):rv l=rvF l 0 0:=by unfold rv;rfl
open Go.RowKit
@[irreducible] def cutA (A:Option Addr)(c k:Nat):Option Addr:=if c=k then A else A.map (·.add k)
theorem rd_cut {w:World}{A:Option Addr}{n c:Nat}{l:List UInt8}(h:Rd w (.slice A n c) 1 n (bvs l))(k:Nat)(hk:k≤n):Rd w (.slice (cutA A c k) (n - k) (c - k)) 1 (n - k) (bvs (l.drop k)):=by
 obtain⟨A',c',e,h1,h2,h3,h4,h5⟩:=h
 injection e with e1 _ e3
 subst e1 e3
 rw[aX] at h1
 refine⟨_,_,rfl,by rw[aX,List.length_drop];omega,An,An,?_,?_⟩
 ·intro hA
  unfold cutA at hA
  split at hA
  ·have:=h4 hA;omega
  ·have:A=none:=by simpa using hA
   have:=h4 this;omega
 ·intro b o sp hA
  unfold cutA at hA
  split at hA
  ·rename_i hck
   have hl:l.drop k=[]:=List.drop_eq_nil_of_le An
   exact⟨fun hn=>by omega,fun j u hu=>by rw[hl] at hu;simp[bvs] at hu⟩
  ·obtain⟨ad,rfl,had⟩:∃ad,A=some ad∧ad.add k=⟨b,o,sp⟩:=by
    cases A with
    | none=>simp at hA
    | some ad=>exact⟨ad,rfl,by simpa using hA⟩
   obtain⟨b',o',sp'⟩:=ad
   obtain⟨k1,k2⟩:=h5 b' o' sp' rfl
   by_cases hk0:k=0
   ·subst hk0
    simp only[Addr.add_zero',Addr.mk.injEq] at had
    obtain⟨rfl,rfl,rfl⟩:=had
    exact⟨fun hn=>k1 An,fun j u hu=>k2 j u (by simpa using hu)⟩
   ·have hz:(⟨b',o',sp'⟩:Addr).add k=⟨b',o'+k,none⟩:=by unfold Addr.add;rw[if_neg hk0]
    rw[hz,Addr.mk.injEq] at had
    obtain⟨rfl,rfl,rfl⟩:=had
    refine⟨fun _=>rfl,fun j u hu=>?_⟩
    rw[Nat.add_assoc]
    refine k2 (k+j) u ?_
    rw[←hu]
    simp[bvs,List.getElem?_drop]
theorem RdH.cut {w0:World}{M:Nat→Prop}{H:List Chunk}{A:Option Addr}{n c:Nat}{l:List UInt8}(h:RdH w0 M H (.slice A n c) 1 n (bvs l))(k:Nat)(hk:k≤n):RdH w0 M H (.slice (cutA A c k) (n - k) (c - k)) 1 (n - k) (bvs (l.drop k)):=
 fun w hS=>rd_cut (h w hS) k hk
def fY (g:Nat)(A:Option Addr)(n c:Nat)(e:Nat)(H:List Chunk):List Chunk:=.cells g #[.slice A n c,.int .i64 (e:Nat)] 143::H
@[irreducible] def badB (k x:Nat):Bool:=(decide (k=9)&&decide (1<x))||(decide (0<k)&&decide (x=0))
theorem run_cut {P:Program}{t e:TypeId}(ht:P.underlying t=some (.slice e))(hs:P.cellsOf e=1)(hz:∃i,P.info? e=some i)(kd:IntKind)(A:Option Addr)(n c k:Nat)(hk:k≤n)(W:World) :
  (Instr.sliceAt t (.slice A n c) (some (.int kd (k:Int))) none none).run P W=.ok (.slice (cutA A c k) (n - k) (c - k)) W:=by
 obtain⟨i,hi⟩:=hz
 have hsz:i.size=1:=by simpa[Program.cellsOf,hi] using hs
 have hb:(Instr.sliceBound (.int kd (k:Int)) n .sliceB).run P W=.ok k W:=by
  simp[Instr.sliceBound,asIntOf,hk]
 unfold Instr.sliceAt Instr.slice Instr.sliceBounds cutA
 simp only[Sem.run_bind,run_underlying ht,Result.andThen_ok,Sem.run_pure,hb,sizeOf,typeInfo,run_program,hi,hsz,Nat.mul_one,Option.isSome_none]
 simp only[Bool.false_eq_true,if_false,hb,Result.andThen_ok,Sem.run_pure,Sem.run_bind,hsz,Nat.mul_one]
theorem infoU8:∃i,Tryz.prog.info? 5=some i:=by
 cases h:Tryz.prog.info? 5 with
 | some i=>exact⟨i,rfl⟩
 | none =>
  have:(Tryz.prog.info? 5).isSome=true:=by kernel_rfl
  rw[h] at this
  cases this
theorem cellU8:Tryz.prog.cellsOf 5=1:=Bt
def CutR (A:Option Addr)(c:Nat)(l:List UInt8)(A':Option Addr)(c':Nat)(l':List UInt8):Prop:=
 ∀w,Rd w (.slice A l.length c) 1 l.length (bvs l)→Rd w (.slice A' l'.length c') 1 l'.length (bvs l')
theorem CutR.trans {A A' A'':Option Addr}{c c' c'':Nat}{l l' l'':List UInt8}(h:CutR A c l A' c' l')(k:CutR A' c' l' A'' c'' l''):CutR A c l A'' c'' l'':=fun w x=>k w (h w x)
theorem CutR.rdH {w0:World}{M:Nat→Prop}{H:List Chunk}{A A':Option Addr}{c c':Nat}{l l':List UInt8}(h:CutR A c l A' c' l')(hr:RdH w0 M H (.slice A l.length c) 1 l.length (bvs l)):RdH w0 M H (.slice A' l'.length c') 1 l'.length (bvs l'):=fun w x=>h w (hr w x)
theorem cutR (A:Option Addr)(c:Nat)(l:List UInt8)(k:Nat)(hk:k≤l.length):CutR A c l (cutA A c k) (c - k) (l.drop k):=fun w h=>by
 rw[List.length_drop]
 exact rd_cut h k hk
def RvPost (w0:World)(M:Nat→Prop)(H:List Chunk)(g:Nat)(A:Option Addr)(c:Nat)(l:List UInt8):VR→Ending→World→Prop
 | .ok v rest,e,w'=>e=.returned (.int .u64 (v:Int))∧W64 v∧∃A' c',St w0 M w' (fY g A' rest.length c' 0 H)∧CutR A c l A' c' rest
 | .bad k,e,w'=>e=.returned (.int .u64 0)∧St w0 M w' (fY g A l.length c k H)
theorem rv_bad (l:List UInt8)(k acc x:Nat)(h:k<l.length)(hx:x=l[k].toNat)(hb:badB k x=true)(hv:rvF (l.drop k) k acc=rv l):rv l=.bad 3:=by
 rw[←hv,List.drop_eq_getElem_cons h,rvF,if_pos]
 unfold badB at hb
 subst hx
 simpa using hb
theorem rv_ok (l:List UInt8)(k acc x:Nat)(h:k<l.length)(hx:x=l[k].toNat)(hb:badB k x=false)(h1:x<128)(hv:rvF (l.drop k) k acc=rv l):rv l=.ok (acc+x*2^(7*k)) (l.drop (k+1)):=by
 rw[←hv,List.drop_eq_getElem_cons h,rvF,if_neg,if_pos An,hx]
 unfold badB at hb
 subst hx
 simpa using hb
theorem rv_on (l:List UInt8)(k acc x:Nat)(h:k<l.length)(hx:x=l[k].toNat)(hb:badB k x=false)(h1:¬x<128)(hv:rvF (l.drop k) k acc=rv l):rvF (l.drop (k+1)) (k+1) (acc+(x - 128)*2^(7*k))=rv l:=by
 rw[←hv,List.drop_eq_getElem_cons h,rvF,if_neg,if_neg An,hx]
 unfold badB at hb
 subst hx
 simpa using hb
theorem rv_end (l:List UInt8)(k acc:Nat)(h:¬k<l.length)(hv:rvF (l.drop k) k acc=rv l):rv l=.bad 2:=by
 rw[←hv,List.drop_eq_nil_of_le An,rvF]
theorem bad_nine (k x:Nat)(hk:k≤9)(hb:badB k x=false):k=9→x≤1:=by
 unfold badB at hb
 simp at hb
 omega
theorem or_step (k acc x:Nat)(hk:k≤9)(hx:x<256)(h9:k=9→x≤1)(ha:acc<2^(7*k)) :
  bits .or .u64 (acc:Int) (IntKind.u64.wrap (IntKind.u64.wrap (bits .andNot .u8 (x:Int) 128)*2^(7*k)))=((acc+x%128*2^(7*k):Nat):Int)∧W64 (acc+x%128*2^(7*k))∧acc+x%128*2^(7*k)<2^(7*(k+1)):=by
 have e1:bits .andNot .u8 (x:Int) 128=((x%128:Nat):Int):=by
  have:=u8_andNot_nat x 128 hx An
  rw[show 255 - 128=127 from rfl,nat_mask7] at this
  exact this
 have hp:0<2^(7*k):=Nat.two_pow_pos _
 have hm:x%128*2^(7*k)≤127*2^(7*k):=Nat.mul_le_mul_right _ An
 have hlt:x%128*2^(7*k)+2^(7*k)≤18446744073709551616:=by
  by_cases h:k=9
  ·have h1:=h9 h
   have h2:2^(7*k)=9223372036854775808:=by rw[h]
   rw[h2]
   omega
  ·have h2:2^(7*k)≤2^56:=Nat.pow_le_pow_right An An
   have h3:(2:Nat)^56=72057594037927936:=rfl
   rw[h3] at h2
   omega
 have e2:(IntKind.u64.wrap ((x%128:Nat):Int))=((x%128:Nat):Int):=Cl
 have e3:IntKind.u64.wrap (((x%128:Nat):Int)*2^(7*k))=((x%128*2^(7*k):Nat):Int):=by
  rw[show(((x%128:Nat):Int)*2^(7*k))=((x%128*2^(7*k):Nat):Int) from by simp,IntKind.wrap_u64]
  omega
 rw[e1,e2,e3,u64_or_nat _ _ An An,Nat.or_comm,nat_join (7*k) _ _ (Nat.mul_mod_left _ _) ha]
 refine⟨by rw[Nat.add_comm],by unfold W64;omega,?_⟩
 rw[show 7*(k+1)=7*k+7 from by omega,Nat.pow_add]
 omega
theorem iL {w0 w:World}{M:Nat→Prop}{H:List Chunk}(g:Nat)(A:Option Addr)(c:Nat)(l:List UInt8)(hl:l.length≤1000000)(hr:RdH w0 M H (.slice A l.length c) 1 l.length (bvs l))
  (hS:St w0 M w (fY g A l.length c 0 H)) :
  Calls Tryz.prog 148 #[.pointer (some ⟨g,0,none⟩)] w (RvPost w0 M H g A c l (rv l)):=by
 have hS0:=aA hS
 unfold fY at hS
 have hc0:w.cell? ⟨g,0,none⟩=some (.slice A l.length c):=hS.cell 0 rfl 0
 have hc1:w.cell? ⟨g,1,none⟩=some (.int .i64 0):=hS.cell 0 rfl 1
 have hf0:=hS.free 0 rfl 0
 have hf1:=hS.free 0 rfl 1
 have hrd:=hr w hS.tail
 go_enter Tryz.func148,Tryz.ntmps148
 go_wp2_with fail
 go_loop [3,6] (fun n i=>∃k acc:Nat,i=.int .i64 k∧n=.int .u64 acc∧k≤9∧k≤l.length∧acc<2^(7*k)∧rvF (l.drop k) k acc=rv l) (fun _ i=>10 - (intOf i).toNat)
 case atStart=>exact⟨0,0,rfl,rfl,An,An,B0,by rw[rv_eq];rfl⟩
 case round =>
  obtain⟨k,acc,rfl,rfl,hk,hkl,hacc,hrv⟩:=hrel
  have HA:=aA hacc
  have HV:=aA hrv
  clear hacc hrv
  by_cases hlt:k<l.length
  ·rcases hrd.cases with⟨_,h0,_⟩|⟨b,o,sp,c',hA,hb,_,_,_,hsp,hcl⟩
   ·omega
   injection hA with hA _ hc'
   subst hA hc'
   obtain rfl:sp=none:=hsp An
   have hcx:w.cell? ⟨b,o+k,none⟩=some (.int .u8 (l[k].toNat:Int)):=hcl k _ (by simp[bvs,bv,gE hlt])
   have hxl:l[k].toNat<256:=UInt8.toNat_lt _
   obtain⟨x,hx⟩:∃x,x=l[k].toNat:=⟨_,rfl⟩
   rw[←hx] at hcx hxl
   have HX:=aA hx
   clear hx hcl hsp
   have hge:decide (l.length≤k)=false:=A9
   go_upto_region 11 with fail
   go_cut [46] (fun s wx=>s=.bool (badB k x)∧wx=w)
   case first =>
    have e9:((k:Int)==9)=decide (k=9):=Ez
    have e1:decide (1<(x:Int))=decide (1<x):=Ez
    have e0:decide (0<(k:Int))=decide (0<k):=E0
    have ez:((x:Int)==0)=decide (x=0):=E0
    have ez':(x==0)=decide (x=0):=E0
    have ew:badB k x=((decide (k=9)&&decide (1<x))||(decide (0<k)&&decide (x=0))):=by unfold badB;rfl
    cases h9:decide (k=9)<;>cases h1:decide (1<x)<;>cases h0:decide (0<k)<;>cases hx0:decide (x=0)
    all_goals (rw[h9] at e9;rw[h1] at e1;rw[h0] at e0;rw[hx0] at ez ez';rw[h9,h1,h0,hx0] at ew;have EW:=aA ew;clear ew h9)
    all_goals go_wp2_with fail
    all_goals (go_meet;refine⟨?_,rfl⟩;rw[EW.out];rfl)
   case rest =>
    obtain⟨rfl,rfl⟩:=hcut
    have hct:=fun W=>run_cut Tryz.underlying22 cellU8 infoU8 .i64 (some ⟨b,o,none⟩) l.length c (k+1) An (P:=Tryz.prog) W
    rw[show(((k+1:Nat)):Int)=(k:Int)+1 from by omega] at hct
    cases hbad:badB k x
    ·obtain⟨o1,o2,o3⟩:=or_step k acc x hk hxl (bad_nine k x hk hbad) HA.out
     have O2:=aA o2
     have O3:=aA o3
     clear o2 o3
     by_cases h128:x<128
     ·have HR:=aA (rv_ok l k acc x hlt HX.out hbad h128 HV.out)
      have hv:(acc:Int)+(x:Int)%128*2^(7*k)=((acc+x*2^(7*k):Nat):Int):=by
       have:(x:Int)%128=x:=by omega
       rw[this]
       simp
      have O:=O2.out
      rw[show x%128=x from by omega] at O
      have HV':=aA hv
      have HO:=aA O
      clear hv O
      go_wp2_with fail
      go_ret
      rw[HR.out]
      refine⟨congrArg (fun z=>Ending.returned (Value.int .u64 z)) HV'.out,HO.out,cutA (some ⟨b,o,none⟩) c (k+1),c - (k+1),?_,?_⟩
      ·rw[List.length_drop]
       exact hS.setCell 0 rfl 0 (.slice (cutA (some ⟨b,o,none⟩) c (k+1)) (l.length - (k+1)) (c - (k+1)))
      ·exact cutR _ _ l (k+1) An
     ·have HR:=aA (rv_on l k acc x hlt HX.out hbad h128 HV.out)
      have h9:=bad_nine k x hk hbad
      have hv:(acc:Int)+(x:Int)%128*2^(7*k)=((acc+(x - 128)*2^(7*k):Nat):Int):=by
       have:(x:Int)%128=((x - 128:Nat):Int):=by omega
       rw[this]
       simp
      have O:=O3.out
      rw[show x%128=x - 128 from by omega] at O
      have HV':=aA hv
      have HO:=aA O
      have H9:=aA h9
      clear hv O h9
      go_wp2_with fail
      go_round
      case rel=>exact⟨k+1,acc+(x - 128)*2^(7*k),Cg,congrArg (Value.int .u64) HV'.out,by have:=H9.out;omega,An,HO.out,HR.out⟩
      case measure=>simp[intOf];omega
    ·have HR:=aA (rv_bad l k acc x hlt HX.out hbad HV.out)
     go_wp2_with fail
     go_ret
     rw[HR.out]
     exact⟨rfl,hS.setCell 0 rfl 1 (.int .i64 3)⟩
  ·have hge:decide (l.length≤k)=true:=by simp;omega
   have HR:=aA (rv_end l k acc hlt HV.out)
   go_wp2_with fail
   go_ret
   rw[HR.out]
   exact⟨rfl,hS.setCell 0 rfl 1 (.int .i64 2)⟩
theorem rd_take {w:World}{A:Option Addr}{n c:Nat}{l:List UInt8}(h:Rd w (.slice A n c) 1 n (bvs l))(k:Nat)(hk:k≤n):Rd w (.slice A k c) 1 k (bvs (l.take k)):=by
 obtain⟨A',c',e,h1,h2,h3,h4,h5⟩:=h
 injection e with e1 _ e3
 subst e1 e3
 rw[aX] at h1
 refine⟨_,_,rfl,by rw[aX,List.length_take];omega,An,An,h4,fun b o sp hA=>?_⟩
 obtain⟨k1,k2⟩:=h5 b o sp hA
 refine⟨fun hn=>k1 An,fun j u hu=>k2 j u ?_⟩
 rw[←hu]
 have hj:j<k:=by
  have:=(List.getElem?_eq_some_iff.1 hu).1
  rw[aX,List.length_take] at this
  omega
 simp[bvs,List.getElem?_take,hj]
inductive BR where
 | ok (b rest:List UInt8)
 | bad (e:Nat)
@[irreducible] def rw_ (l:List UInt8):BR:=
 match rv l with
 | .ok n rest=>if n≤rest.length then .ok (rest.take n) (rest.drop n) else .bad 2
 | .bad k=>.bad k
def RwPost (w0:World)(M:Nat→Prop)(H:List Chunk)(g:Nat)(A:Option Addr)(c:Nat)(l:List UInt8):BR→Ending→World→Prop
 | .ok b rest,e,w'=>∃B d,e=.returned (.slice B b.length d)∧∃A' c',St w0 M w' (fY g A' rest.length c' 0 (.row (.slice B b.length d) 5 1 b.length (bvs b)::H))∧CutR A c l A' c' rest
 | .bad k,e,w'=>e=.returned (.slice none 0 0)∧∃A' n' c',St w0 M w' (fY g A' n' c' k H)
theorem rw_bad (l:List UInt8)(k:Nat)(h:rv l=.bad k):rw_ l=.bad k:=by unfold rw_;rw[h]
theorem rw_short (l:List UInt8)(n:Nat)(r:List UInt8)(h:rv l=.ok n r)(hn:¬n≤r.length):rw_ l=.bad 2:=by unfold rw_;rw[h];simp only[if_neg hn]
theorem rw_ok (l:List UInt8)(n:Nat)(r:List UInt8)(h:rv l=.ok n r)(hn:n≤r.length):rw_ l=.ok (r.take n) (r.drop n):=by unfold rw_;rw[h];simp only[if_pos hn]
theorem rvF_bad:∀(l:List UInt8) (i n k:Nat),rvF l i n=.bad k→k=2∨k=3
 | [],i,n,k,h=>by simp[rvF] at h;exact .inl h.symm
 | c::b,i,n,k,h=>by
  unfold rvF at h
  split at h
  ·injection h with h;exact .inr h.symm
  ·split at h
   ·cases h
   ·exact rvF_bad b _ _ k h
theorem gA (l:List UInt8)(k:Nat)(h:rv l=.bad k):k=2∨k=3:=by rw[rv_eq] at h;exact rvF_bad l _ _ k h
theorem rvF_len:∀(l:List UInt8) (i n v:Nat) (r:List UInt8),rvF l i n=.ok v r→r.length<l.length
 | [],i,n,v,r,h=>by simp[rvF] at h
 | c::b,i,n,v,r,h=>by
  unfold rvF at h
  split at h
  ·cases h
  ·split at h
   ·injection h with _ h;subst h;simp
   ·have:=rvF_len b _ _ v r h
    simp only[List.length_cons];omega
theorem fP (l:List UInt8)(v:Nat)(r:List UInt8)(h:rv l=.ok v r):r.length<l.length:=by rw[rv_eq] at h;exact rvF_len l _ _ v r h
theorem rraw_walk {w0 w:World}{M:Nat→Prop}{H:List Chunk}(g:Nat)(A:Option Addr)(c:Nat)(l:List UInt8)(hl:l.length≤1000000)(hr:RdH w0 M H (.slice A l.length c) 1 l.length (bvs l))
  (hS:St w0 M w (fY g A l.length c 0 H)) :
  Calls Tryz.prog 151 #[.pointer (some ⟨g,0,none⟩)] w (RwPost w0 M H g A c l (rw_ l)):=by
 have V:=iL g A c l hl hr hS
 cases hv:rv l with
 | bad k =>
  have hk:=gA l k hv
  rw[rw_bad l k hv]
  rw[hv] at V
  have VV:=aA V
  have hk1:((k:Int)==0)=false:=E6
  have hk2:((k:Int) !=0)=true:=E6
  clear V hv hk hS hr hl
  go_enter Tryz.func151,Tryz.ntmps151
  go_wp2_with (go_at_call 148;refine VV.out.mono ?_;rintro e w1 ⟨rfl,hS1⟩;have c1:w1.cell? ⟨g,1,none⟩=some (.int .i64 (k:Int)):=hS1.cell 0 rfl 1)
  go_ret
  exact⟨rfl,A,l.length,c,hS1⟩
 | ok n rest =>
  have hlen:=fP l n rest hv
  rw[hv] at V
  have VV:=aA V
  by_cases hn:n≤rest.length
  ·rw[rw_ok l n rest hv hn]
   have hn':decide ((rest.length:Int)<(n:Int))=false:=A9
   have hlr:n≤4294967296:=An
   have HR:=aA hr
   clear V hv hS hr
   go_enter Tryz.func151,Tryz.ntmps151
   go_wp2_with (first
    |(go_at_call 148;refine VV.out.mono ?_;rintro e w1 ⟨rfl,hw,A1,a1,hS1,hr1⟩;have c0:w1.cell? ⟨g,0,none⟩=some (.slice A1 rest.length a1):=hS1.cell 0 rfl 0;have c1:w1.cell? ⟨g,1,none⟩=some (.int .i64 0):=hS1.cell 0 rfl 1;have hq:=hr1 w1 (HR.out w1 hS1.tail);have hcap:rest.length≤a1:=(by obtain⟨_,_,e,_,h,_⟩:=hq;injection e with _ _ e;omega);have hct:=run_cut Tryz.underlying22 cellU8 infoU8 .u64 A1 rest.length a1 n hn (P:=Tryz.prog);clear hw)
    |(at_builtin;refine bJ rfl rfl tyB hS1 rfl rfl (rd_take hq n hn) (bD _) hlr Bz ?_;intro B d w2 hS2;have d0:w2.cell? ⟨g,0,none⟩=some (.slice A1 rest.length a1):=hS2.cell 1 rfl 0;have g0:=hS2.free 1 rfl 0))
   go_ret
   have e1:(rest.take n).length=n:=Cm
   have hS3:=(hS2.setCell 1 rfl 0 (.slice (cutA A1 a1 n) (rest.length - n) (a1 - n))).swap
   refine⟨B,d,by rw[e1];rfl,cutA A1 a1 n,a1 - n,?_,?_⟩
   ·rw[e1,List.length_drop]
    exact hS3
   ·exact hr1.trans (cutR _ _ rest n hn)
  ·rw[rw_short l n rest hv hn]
   have hn':decide ((rest.length:Int)<(n:Int))=true:=A9
   clear V hv hS hr
   go_enter Tryz.func151,Tryz.ntmps151
   go_wp2_with (go_at_call 148;refine VV.out.mono ?_;rintro e w1 ⟨rfl,hw,A1,a1,hS1,hr1⟩;have c0:w1.cell? ⟨g,0,none⟩=some (.slice A1 rest.length a1):=hS1.cell 0 rfl 0;have c1:w1.cell? ⟨g,1,none⟩=some (.int .i64 0):=hS1.cell 0 rfl 1;have f0:=hS1.free 0 rfl 1;clear hw)
   go_ret
   exact⟨rfl,A1,rest.length,a1,hS1.setCell 0 rfl 1 (.int .i64 2)⟩
def FldC (b1 g b4:Nat)(cs:Array Value)(H:List Chunk):List Chunk:=.cells b4 cs 93::.cells b1 #[.pointer (some ⟨g,0,none⟩)] 141::H
def P0 (b:Nat):Value:=.pointer (some ⟨b,0,none⟩)
theorem clo1_walk {w0 w:World}{M:Nat→Prop}{H:List Chunk}(g b1 b4:Nat)(num:Int)(A:Option Addr)(c:Nat)(l:List UInt8)(hl:l.length≤1000000)(hr:RdH w0 M H (.slice A l.length c) 1 l.length (bvs l))
  (hS:St w0 M w (fY g A l.length c 0 (FldC b1 g b4 #[.int .i64 num,.bool false,.int .u64 0,.slice none 0 0] H))) :
  Calls Tryz.prog 149 #[P0 b1,P0 b4] w fun e w'=>e=.returned (.tuple #[])∧match rv l with
   | .ok n rest=>W64 n∧∃A' c',St w0 M w' (fY g A' rest.length c' 0 (FldC b1 g b4 #[.int .i64 num,.bool false,.int .u64 (n:Int),.slice none 0 0] H))∧CutR A c l A' c' rest
   | .bad k=>St w0 M w' (fY g A l.length c k (FldC b1 g b4 #[.int .i64 num,.bool false,.int .u64 0,.slice none 0 0] H)):=by
 have V:=aA (iL g A c l hl (fun w h=>hr w h.tail.tail) hS)
 have cb:w.cell? ⟨b1,0,none⟩=some (P0 g):=hS.cell 2 rfl 0
 clear hS hr
 unfold P0 at *
 go_enter Tryz.func149,Tryz.ntmps149
 cases hv:rv l with
 | ok n rest =>
  rw[hv] at V
  go_wp2_with (go_at_call 148;refine V.out.mono ?_;rintro e w1 ⟨rfl,hw,A1,a1,hS1,hr1⟩;have f2:=hS1.free 1 rfl 2;have c2:w1.cell? ⟨b4,2,none⟩=some (.int .u64 0):=hS1.cell 1 rfl 2)
  go_end0
  exact⟨rfl,A1,a1,hS1.setCell 1 rfl 2 (.int .u64 (n:Int)),hr1⟩
 | bad k =>
  rw[hv] at V
  go_wp2_with (go_at_call 148;refine V.out.mono ?_;rintro e w1 ⟨rfl,hS1⟩;have f2:=hS1.free 1 rfl 2;have c2:w1.cell? ⟨b4,2,none⟩=some (.int .u64 0):=hS1.cell 1 rfl 2)
  go_end0
  exact⟨rfl,hS1.setCell 1 rfl 2 (.int .u64 0)⟩
theorem clo2_walk {w0 w:World}{M:Nat→Prop}{H:List Chunk}(g b1 b4:Nat)(num:Int)(A:Option Addr)(c:Nat)(l:List UInt8)(hl:l.length≤1000000)(hr:RdH w0 M H (.slice A l.length c) 1 l.length (bvs l))
  (hS:St w0 M w (fY g A l.length c 0 (FldC b1 g b4 #[.int .i64 num,.bool false,.int .u64 0,.slice none 0 0] H))) :
  Calls Tryz.prog 150 #[P0 b1,P0 b4] w fun e w'=>e=.returned (.tuple #[])∧match rw_ l with
   | .ok b rest=>∃B d A' c',St w0 M w' (fY g A' rest.length c' 0 (.row (.slice B b.length d) 5 1 b.length (bvs b)::FldC b1 g b4 #[.int .i64 num,.bool true,.int .u64 0,.slice B b.length d] H))∧CutR A c l A' c' rest
   | .bad k=>∃A' n' c',St w0 M w' (fY g A' n' c' k (FldC b1 g b4 #[.int .i64 num,.bool true,.int .u64 0,.slice none 0 0] H)):=by
 have V:=aA (rraw_walk g A c l hl (fun w h=>hr w h.tail.tail) hS)
 have cb:w.cell? ⟨b1,0,none⟩=some (P0 g):=hS.cell 2 rfl 0
 clear hS hr
 unfold P0 at *
 go_enter Tryz.func150,Tryz.ntmps150
 cases hv:rw_ l with
 | ok b rest =>
  rw[hv] at V
  go_wp2_with (go_at_call 151;refine V.out.mono ?_;rintro e w1 ⟨B,d,rfl,A1,a1,hS1,hr1⟩;have f1:=hS1.free 2 rfl 1;have f3:=hS1.free 2 rfl 3;have c1:w1.cell? ⟨b4,1,none⟩=some (.bool false):=hS1.cell 2 rfl 1;have c3:w1.cell? ⟨b4,3,none⟩=some (.slice none 0 0):=hS1.cell 2 rfl 3)
  go_end0
  exact⟨rfl,B,d,A1,a1,(hS1.setCell 2 rfl 1 (.bool true)).setCell 2 rfl 3 (.slice B b.length d),hr1⟩
 | bad k =>
  rw[hv] at V
  go_wp2_with (go_at_call 151;refine V.out.mono ?_;rintro e w1 ⟨rfl,A1,n1,a1,hS1⟩;have f1:=hS1.free 1 rfl 1;have f3:=hS1.free 1 rfl 3;have c1:w1.cell? ⟨b4,1,none⟩=some (.bool false):=hS1.cell 1 rfl 1;have c3:w1.cell? ⟨b4,3,none⟩=some (.slice none 0 0):=hS1.cell 1 rfl 3)
  go_end0
  exact⟨rfl,A1,n1,a1,(hS1.setCell 1 rfl 1 (.bool true)).setCell 1 rfl 3 (.slice none 0 0)⟩
structure FdV where
 num:Nat
 whole:Bool
 n:Nat
 b:List UInt8
inductive FR where
 | ok (f:FdV) (rest:List UInt8)
 | bad (e:Nat)
@[irreducible] def numF (tag:Nat):Nat:=min (tag/8) 101
@[irreducible] def fd (l:List UInt8):FR:=
 match rv l with
 | .bad k=>.bad k
 | .ok tag rest =>
  if (tag%8=0∨tag%8=2)∧mayB (numF tag)=true then
   if tag%8=0 then match rv rest with
    | .ok n r=>.ok ⟨numF tag,false,n,[]⟩ r
    | .bad k=>.bad k
   else match rw_ rest with
    | .ok b r=>.ok ⟨numF tag,true,0,b⟩ r
    | .bad k=>.bad k
  else .bad 3
def fN (k b1 b4:Nat):Value:=if k=0 then .func (.func 149) #[] #[P0 b1,P0 b4] else if k=2 then .func (.func 150) #[] #[P0 b1,P0 b4] else .nilFunc
def FdPost (w0:World)(M:Nat→Prop)(H:List Chunk)(g:Nat)(A:Option Addr)(c:Nat)(l:List UInt8):FR→Ending→World→Prop
 | .ok f rest,e,w'=>∃B d,e=.returned (.agg #[.int .i64 (f.num:Int),.bool f.whole,.int .u64 (f.n:Int),.slice B f.b.length d])∧∃A' c',St w0 M w' (fY g A' rest.length c' 0 (.row (.slice B f.b.length d) 5 1 f.b.length (bvs f.b)::H))∧CutR A c l A' c' rest
 | .bad k,e,w'=>∃x1 x2 x3 B m d,e=.returned (.agg #[.int .i64 x1,.bool x2,.int .u64 x3,.slice B m d])∧∃A' n' c',St w0 M w' (fY g A' n' c' k H)
theorem _root_.Go.Proofs.YtnohmgpmmhlloaaGreatDoor.St.ne {w0 w:World}{M:Nat→Prop}{H:List Chunk}(h:St w0 M w H)(i j:Nat)(hij:i≠j){g g':Nat}{c c':Array Value}{e e':TypeId}(hi:H[i]?=some (.cells g c e))(hj:H[j]?=some (.cells g' c' e')):g≠g':=
 fun x=>h.apart i j _ _ g hij hi hj rfl (by rw[x];rfl)
theorem eq_fn (w:World)(f:Fn)(a b:Array Value):(binOp .eql 1 (.func f a b) .nilFunc).run Tryz.prog w=.ok (.bool false) w:=Bt
theorem eq_nilFn (w:World):(binOp .eql 1 .nilFunc .nilFunc).run Tryz.prog w=.ok (.bool true) w:=Bt
theorem fd_bad (l:List UInt8)(k:Nat)(h:rv l=.bad k):fd l=.bad k:=by unfold fd;rw[h]
theorem fd_no (l:List UInt8)(tag:Nat)(rest:List UInt8)(h:rv l=.ok tag rest)(hn:¬((tag%8=0∨tag%8=2)∧mayB (numF tag)=true)):fd l=.bad 3:=by unfold fd;rw[h];simp only[if_neg hn]
theorem fd_num (l:List UInt8)(tag n:Nat)(rest r:List UInt8)(h:rv l=.ok tag rest)(h0:tag%8=0)(hm:mayB (numF tag)=true)(h2:rv rest=.ok n r):fd l=.ok ⟨numF tag,false,n,[]⟩ r:=by
 unfold fd;rw[h];simp only[if_pos (show(tag%8=0∨tag%8=2)∧mayB (numF tag)=true from⟨.inl h0,hm⟩),if_pos h0,h2]
theorem iD (l:List UInt8)(tag k:Nat)(rest:List UInt8)(h:rv l=.ok tag rest)(h0:tag%8=0)(hm:mayB (numF tag)=true)(h2:rv rest=.bad k):fd l=.bad k:=by
 unfold fd;rw[h];simp only[if_pos (show(tag%8=0∨tag%8=2)∧mayB (numF tag)=true from⟨.inl h0,hm⟩),if_pos h0,h2]
theorem fd_raw (l:List UInt8)(tag:Nat)(rest b r:List UInt8)(h:rv l=.ok tag rest)(h0:tag%8=2)(hm:mayB (numF tag)=true)(h2:rw_ rest=.ok b r):fd l=.ok ⟨numF tag,true,0,b⟩ r:=by
 unfold fd;rw[h];simp only[if_pos (show(tag%8=0∨tag%8=2)∧mayB (numF tag)=true from⟨.inr h0,hm⟩),if_neg (show ¬tag%8=0 from by omega),h2]
theorem fJ (l:List UInt8)(tag k:Nat)(rest:List UInt8)(h:rv l=.ok tag rest)(h0:tag%8=2)(hm:mayB (numF tag)=true)(h2:rw_ rest=.bad k):fd l=.bad k:=by
 unfold fd;rw[h];simp only[if_pos (show(tag%8=0∨tag%8=2)∧mayB (numF tag)=true from⟨.inr h0,hm⟩),if_neg (show ¬tag%8=0 from by omega),h2]
theorem rvpost_any {w0 w':World}{M:Nat→Prop}{H:List Chunk}{g:Nat}{A:Option Addr}{c:Nat}{l:List UInt8}{e:Ending}(h:RvPost w0 M H g A c l (rv l) e w') :
  ∃(tag ek:Nat) (A1:Option Addr) (n1 a1:Nat),e=.returned (.int .u64 (tag:Int))∧W64 tag∧St w0 M w' (fY g A1 n1 a1 ek H) ∧
   Hid ((∃rest,rv l=.ok tag rest∧ek=0∧n1=rest.length∧CutR A c l A1 a1 rest)∨(rv l=.bad ek∧tag=0)):=by
 cases hv:rv l with
 | ok n rest =>
  rw[hv] at h
  obtain⟨rfl,hw,A1,a1,hS,hr⟩:=h
  exact⟨n,0,A1,_,a1,rfl,hw,hS,.inl ⟨rest,rfl,rfl,rfl,hr⟩⟩
 | bad k =>
  rw[hv] at h
  obtain⟨rfl,hS⟩:=h
  exact⟨0,k,A,_,c,rfl,by unfold W64;omega,hS,.inr ⟨rfl,rfl⟩⟩
theorem numF_val (tag:Nat):(numF tag:Int)=if (tag:Int)/8≤101 then (tag:Int)/8 else 101:=by
 unfold numF
 split<;>omega
theorem run_makeMap0 (P:Program)(t:TypeId)(w:World):(Instr.makeMap t none).run P w=.ok (.map (some w.heap.size)) (w.alloc (.map #[] 0)):=rfl
theorem size_alloc1 (w:World)(o:Obj):(w.alloc o).heap.size=w.heap.size+1:=by
 show(w.heap.push o).size=_
 simp
def mapV (b1 b4:Nat):Array MapEntry:=#[⟨.int .u64 0,.func (.func 149) #[] #[P0 b1,P0 b4],0⟩,⟨.int .u64 2,.func (.func 150) #[] #[P0 b1,P0 b4],1⟩]
theorem find_take (b1 b4 k:Nat):∃r,Instr.findNow (.int .u64) (.int .u64 (k:Int)) (mapV b1 b4).toList 0=some r∧(r.map (·.2)).getD .nilFunc=fN k b1 b4:=by
 unfold mapV fN
 by_cases h0:k=0
 ·subst h0
  exact⟨_,rfl,rfl⟩
 ·by_cases h2:k=2
  ·subst h2
   exact⟨_,rfl,rfl⟩
  ·have e0:((k:Int)==0)=false:=by simp;omega
   have e2:((k:Int)==2)=false:=A9
   refine⟨none,?_,by simp[h0,h2]⟩
   simp[Instr.findNow,Instr.sameNow,e0,e2]
theorem zero_fn (w:World):(zeroValue 1).run Tryz.prog w=.ok .nilFunc w:=Bt
theorem and7 (tag:Nat)(h:W64 tag):bits .and .u64 (tag:Int) 7=((tag%8:Nat):Int):=by
 unfold W64 at h
 have:=u64_and_nat tag 7 An An
 rw[show((7:Nat):Int)=7 from rfl] at this
 rw[this]
 congr 1
 exact Nat.and_two_pow_sub_one_eq_mod tag 3
theorem field_walk {w0 w:World}{M:Nat→Prop}{H:List Chunk}(g:Nat)(A:Option Addr)(c:Nat)(l:List UInt8)(hl:l.length≤1000000)(hr:RdH w0 M H (.slice A l.length c) 1 l.length (bvs l))
  (hS:St w0 M w (fY g A l.length c 0 H)) :
  Calls Tryz.prog 113 #[P0 g] w (FdPost w0 M H g A c l (fd l)):=by
 have hSa:=((hS.alloc #[P0 g] 141).alloc #[.int .i64 0,.bool false,.int .u64 0,.slice none 0 0] 93)
 have cb1:((w.alloc (.cells #[P0 g] 141)).alloc (.cells #[.int .i64 0,.bool false,.int .u64 0,.slice none 0 0] 93)).cell? ⟨w.heap.size,0,none⟩=some (P0 g):=hSa.cell 1 rfl 0
 rw[size_alloc1] at hSa
 have hSb:St w0 M ((w.alloc (.cells #[P0 g] 141)).alloc (.cells #[.int .i64 0,.bool false,.int .u64 0,.slice none 0 0] 93)) (fY g A l.length c 0 (.cells w.heap.size #[P0 g] 141::.cells (w.heap.size+1) #[.int .i64 0,.bool false,.int .u64 0,.slice none 0 0] 93::H)):=hSa.rot3
 have V:=aA (iL g A c l hl (fun w h=>hr w h.tail.tail) hSb)
 clear hS hSa hSb
 unfold P0 at *
 have hmm:=run_makeMap0 Tryz.prog 193
 go_enter Tryz.func113,Tryz.ntmps113
 go_upto_region 2 with(go_at_call 148;refine V.out.mono ?_;rintro e w1 he;obtain⟨tag,ek,A1,n1,a1,rfl,hw,hS1,hcase⟩:=rvpost_any he;clear he)
 have hv:=aA (numF_val tag)
 clear V cb1
 go_cut [4] (fun p wx=>∃b4,p=P0 b4∧St w0 M wx (fY g A1 n1 a1 ek (FldC w.heap.size g b4 #[.int .i64 (numF tag:Int),.bool false,.int .u64 0,.slice none 0 0] (.cells (w.heap.size+1) #[.int .i64 0,.bool false,.int .u64 0,.slice none 0 0] 93::H))))
 case first =>
  go_wp2_with fail
  all_goals (go_meet;refine⟨_,rfl,?_⟩;rw[hv.out];split)
  all_goals first|(exfalso;omega)|exact(hS1.alloc _ _).swap
 case rest =>
  obtain⟨b4,rfl,hS2⟩:=hcut
  clear hS1
  generalize hN:numF tag=num at *
  have hS3:=aA (hS2.allocObj (.map #[] 0))
  unfold P0 at *
  go_upto_region 3 with fail
  go_cut [5] (fun t wx=>t=fN (tag%8) w.heap.size b4∧St w0 M wx (fY g A1 n1 a1 ek (FldC w.heap.size g b4 #[.int .i64 (num:Int),.bool false,.int .u64 0,.slice none 0 0] (.cells (w.heap.size+1) #[.int .i64 0,.bool false,.int .u64 0,.slice none 0 0] 93::H))))
  case first =>
   obtain⟨r,hr1,hr2⟩:=find_take w.heap.size b4 (tag%8)
   have hk:=aA (and7 tag hw)
   go_wp2_with (first
    |(refine wl_insert (v:=.tmp 14) rfl rfl Tryz.underlying193 Tryz.underlying51 hS3.out 0 rfl rfl rfl rfl rfl ?_;intro w4 hS4)
    |(refine wl_insert (v:=.tmp 15) rfl rfl Tryz.underlying193 Tryz.underlying51 hS4 0 rfl rfl rfl rfl rfl ?_;intro w5 hS5;have hb5:w5.heap[wc.heap.size]?=some (.map (mapV w.heap.size b4) 2):=hS5.sat 0 _ rfl)
    |(at_lookup;refine wl_lookup rfl rfl Tryz.underlying193 Tryz.underlying51 (zero_fn _) hb5 rfl (congrArg (Value.int .u64) hk.out) hr1 ?_;rw[hr2]))
   go_meet
   exact⟨rfl,hS5.tail⟩
  case rest =>
   obtain⟨rfl,hS5⟩:=hcut
   clear hS2 hS3
   rw[←hN] at *
   have hc1:wc.cell? ⟨g,1,none⟩=some (.int .i64 (ek:Int)):=hS5.cell 0 rfl 1
   have eF:=fun w f a b=>eq_fn w f a b
   have eN:=fun w=>eq_nilFn w
   have hcb:wc.cell? ⟨w.heap.size,0,none⟩=some (.pointer (some ⟨g,0,none⟩)):=hS5.cell 2 rfl 0
   rcases hcase.out with⟨rest,hrv,rfl,rfl,hrc⟩|⟨hrv,rfl⟩
   ·have hlr:=fP l tag rest hrv
    have hr':RdH w0 M (.cells (w.heap.size+1) #[.int .i64 0,.bool false,.int .u64 0,.slice none 0 0] 93::H) (.slice A1 rest.length a1) 1 rest.length (bvs rest):=fun w h=>hrc w (hr w h.tail)
    by_cases h02:(tag%8=0∨tag%8=2)∧mayB (numF tag)=true
    ·obtain⟨h02,hm⟩:=h02
     have he0:wc.cell? ⟨b4,0,none⟩=some (.int .i64 (numF tag:Int)):=hS5.cell 1 rfl 0
     by_cases h0:tag%8=0
     ·rw[show fN (tag%8) w.heap.size b4=.func (.func 149) #[] #[P0 w.heap.size,P0 b4] from by unfold fN;rw[if_pos h0]]
      have C:=aA (clo1_walk g w.heap.size b4 (numF tag) A1 a1 rest An hr' hS5)
      cases hv2:rv rest with
      | ok n r =>
       rw[hv2] at C
       have FD:=aA (fd_num l tag n rest r hrv h0 hm hv2)
       clear hr hr' hcase hS5 hrv hv2 hv hN h02
       unfold P0 at *
       go_wp2_with (first
        |(go_at_call 152;refine(gG _ _).mono ?_;rintro e w' ⟨rfl,rfl⟩)
        |(go_at_call 149;refine C.out.mono ?_;rintro e w2 ⟨rfl,hw2,A2,a2,hS6,hr2⟩;have hf0:=hS6.free 3 rfl 0;have hf1:=hS6.free 3 rfl 1;have hf2:=hS6.free 3 rfl 2;have hf3:=hS6.free 3 rfl 3;have hd0:w2.cell? ⟨w.heap.size+1,0,none⟩=some (.int .i64 0):=hS6.cell 3 rfl 0;have hd1:w2.cell? ⟨w.heap.size+1,1,none⟩=some (.bool false):=hS6.cell 3 rfl 1;have hd2:w2.cell? ⟨w.heap.size+1,2,none⟩=some (.int .u64 0):=hS6.cell 3 rfl 2;have hd3:w2.cell? ⟨w.heap.size+1,3,none⟩=some (.slice none 0 0):=hS6.cell 3 rfl 3;have he0:w2.cell? ⟨b4,0,none⟩=some (.int .i64 (numF tag:Int)):=hS6.cell 1 rfl 0;have he1:w2.cell? ⟨b4,1,none⟩=some (.bool false):=hS6.cell 1 rfl 1;have he2:w2.cell? ⟨b4,2,none⟩=some (.int .u64 (n:Int)):=hS6.cell 1 rfl 2;have he3:w2.cell? ⟨b4,3,none⟩=some (.slice none 0 0):=hS6.cell 1 rfl 3))
       have hS8:=((((hS6.setCell 3 rfl 0 (.int .i64 (numF tag:Int))).setCell 3 rfl 1 (.bool false)).setCell 3 rfl 2 (.int .u64 (n:Int))).setCell 3 rfl 3 (.slice none 0 0))
       refine bodyPost_ret (results_cell_row rfl _ _ (w.heap.size+1) _ _ _ _ rfl (hS8.heap 3 rfl) Tryz.underlying93 rfl Bt) rfl ?_
       rw[FD.out]
       have hS7:=hS8.swap.tail.swap.tail.swap.tail
       exact⟨none,0,rfl,A2,a2,(hS7.row (Below.refl _ _) (World.ownsRow_nil _ _ _ _)).swap,hrc.trans hr2⟩
      | bad k =>
       rw[hv2] at C
       have FD:=aA (iD l tag k rest hrv h0 hm hv2)
       clear hr hr' hcase hS5 hrv hv2 hv hN h02
       unfold P0 at *
       go_wp2_with (first
        |(go_at_call 152;refine(gG _ _).mono ?_;rintro e w' ⟨rfl,rfl⟩)
        |(go_at_call 149;refine C.out.mono ?_;rintro e w2 ⟨rfl,hS6⟩;have hf0:=hS6.free 3 rfl 0;have hf1:=hS6.free 3 rfl 1;have hf2:=hS6.free 3 rfl 2;have hf3:=hS6.free 3 rfl 3;have hd0:w2.cell? ⟨w.heap.size+1,0,none⟩=some (.int .i64 0):=hS6.cell 3 rfl 0;have hd1:w2.cell? ⟨w.heap.size+1,1,none⟩=some (.bool false):=hS6.cell 3 rfl 1;have hd2:w2.cell? ⟨w.heap.size+1,2,none⟩=some (.int .u64 0):=hS6.cell 3 rfl 2;have hd3:w2.cell? ⟨w.heap.size+1,3,none⟩=some (.slice none 0 0):=hS6.cell 3 rfl 3;have he0:w2.cell? ⟨b4,0,none⟩=some (.int .i64 (numF tag:Int)):=hS6.cell 1 rfl 0;have he1:w2.cell? ⟨b4,1,none⟩=some (.bool false):=hS6.cell 1 rfl 1;have he2:w2.cell? ⟨b4,2,none⟩=some (.int .u64 0):=hS6.cell 1 rfl 2;have he3:w2.cell? ⟨b4,3,none⟩=some (.slice none 0 0):=hS6.cell 1 rfl 3))
       have hS8:=((((hS6.setCell 3 rfl 0 (.int .i64 (numF tag:Int))).setCell 3 rfl 1 (.bool false)).setCell 3 rfl 2 (.int .u64 0)).setCell 3 rfl 3 (.slice none 0 0))
       refine bodyPost_ret (results_cell_row rfl _ _ (w.heap.size+1) _ _ _ _ rfl (hS8.heap 3 rfl) Tryz.underlying93 rfl Bt) rfl ?_
       rw[FD.out]
       have hS7:=hS8.swap.tail.swap.tail.swap.tail
       exact⟨_,_,_,_,_,_,rfl,_,_,_,hS7⟩
     ·have h2:tag%8=2:=by omega
      rw[show fN (tag%8) w.heap.size b4=.func (.func 150) #[] #[P0 w.heap.size,P0 b4] from by unfold fN;rw[if_neg h0,if_pos h2]]
      have C:=aA (clo2_walk g w.heap.size b4 (numF tag) A1 a1 rest An hr' hS5)
      cases hv2:rw_ rest with
      | ok b r =>
       rw[hv2] at C
       have FD:=aA (fd_raw l tag rest b r hrv h2 hm hv2)
       clear hr hr' hcase hS5 hrv hv2 hv hN h02
       unfold P0 at *
       go_wp2_with (first
        |(go_at_call 152;refine(gG _ _).mono ?_;rintro e w' ⟨rfl,rfl⟩)
        |(go_at_call 150;refine C.out.mono ?_;rintro e w2 ⟨rfl,B,d,A2,a2,hS6,hr2⟩;have hf0:=hS6.free 4 rfl 0;have hf1:=hS6.free 4 rfl 1;have hf2:=hS6.free 4 rfl 2;have hf3:=hS6.free 4 rfl 3;have hd0:w2.cell? ⟨w.heap.size+1,0,none⟩=some (.int .i64 0):=hS6.cell 4 rfl 0;have hd1:w2.cell? ⟨w.heap.size+1,1,none⟩=some (.bool false):=hS6.cell 4 rfl 1;have hd2:w2.cell? ⟨w.heap.size+1,2,none⟩=some (.int .u64 0):=hS6.cell 4 rfl 2;have hd3:w2.cell? ⟨w.heap.size+1,3,none⟩=some (.slice none 0 0):=hS6.cell 4 rfl 3;have he0:w2.cell? ⟨b4,0,none⟩=some (.int .i64 (numF tag:Int)):=hS6.cell 2 rfl 0;have he1:w2.cell? ⟨b4,1,none⟩=some (.bool true):=hS6.cell 2 rfl 1;have he2:w2.cell? ⟨b4,2,none⟩=some (.int .u64 0):=hS6.cell 2 rfl 2;have he3:w2.cell? ⟨b4,3,none⟩=some (.slice B b.length d):=hS6.cell 2 rfl 3))
       have hS8:=((((hS6.setCell 4 rfl 0 (.int .i64 (numF tag:Int))).setCell 4 rfl 1 (.bool true)).setCell 4 rfl 2 (.int .u64 0)).setCell 4 rfl 3 (.slice B b.length d))
       refine bodyPost_ret (results_cell_row rfl _ _ (w.heap.size+1) _ _ _ _ rfl (hS8.heap 4 rfl) Tryz.underlying93 rfl Bt) rfl ?_
       rw[FD.out]
       have hS7:=hS8.mid2.mid2.mid2
       exact⟨B,d,rfl,A2,a2,hS7,hrc.trans hr2⟩
      | bad k =>
       rw[hv2] at C
       have FD:=aA (fJ l tag k rest hrv h2 hm hv2)
       clear hr hr' hcase hS5 hrv hv2 hv hN h02
       unfold P0 at *
       go_wp2_with (first
        |(go_at_call 152;refine(gG _ _).mono ?_;rintro e w' ⟨rfl,rfl⟩)
        |(go_at_call 150;refine C.out.mono ?_;rintro e w2 ⟨rfl,A2,n2,a2,hS6⟩;have hf0:=hS6.free 3 rfl 0;have hf1:=hS6.free 3 rfl 1;have hf2:=hS6.free 3 rfl 2;have hf3:=hS6.free 3 rfl 3;have hd0:w2.cell? ⟨w.heap.size+1,0,none⟩=some (.int .i64 0):=hS6.cell 3 rfl 0;have hd1:w2.cell? ⟨w.heap.size+1,1,none⟩=some (.bool false):=hS6.cell 3 rfl 1;have hd2:w2.cell? ⟨w.heap.size+1,2,none⟩=some (.int .u64 0):=hS6.cell 3 rfl 2;have hd3:w2.cell? ⟨w.heap.size+1,3,none⟩=some (.slice none 0 0):=hS6.cell 3 rfl 3;have he0:w2.cell? ⟨b4,0,none⟩=some (.int .i64 (numF tag:Int)):=hS6.cell 1 rfl 0;have he1:w2.cell? ⟨b4,1,none⟩=some (.bool true):=hS6.cell 1 rfl 1;have he2:w2.cell? ⟨b4,2,none⟩=some (.int .u64 0):=hS6.cell 1 rfl 2;have he3:w2.cell? ⟨b4,3,none⟩=some (.slice none 0 0):=hS6.cell 1 rfl 3))
       have hS8:=((((hS6.setCell 3 rfl 0 (.int .i64 (numF tag:Int))).setCell 3 rfl 1 (.bool true)).setCell 3 rfl 2 (.int .u64 0)).setCell 3 rfl 3 (.slice none 0 0))
       refine bodyPost_ret (results_cell_row rfl _ _ (w.heap.size+1) _ _ _ _ rfl (hS8.heap 3 rfl) Tryz.underlying93 rfl Bt) rfl ?_
       rw[FD.out]
       have hS7:=hS8.swap.tail.swap.tail.swap.tail
       exact⟨_,_,_,_,_,_,rfl,_,_,_,hS7⟩
    ·have FD:=aA (fd_no l tag rest hrv h02)
     have hf0:=hS5.free 3 rfl 0
     have hf1:=hS5.free 3 rfl 1
     have hf2:=hS5.free 3 rfl 2
     have hf3:=hS5.free 3 rfl 3
     have hd0:wc.cell? ⟨w.heap.size+1,0,none⟩=some (.int .i64 0):=hS5.cell 3 rfl 0
     have hd1:wc.cell? ⟨w.heap.size+1,1,none⟩=some (.bool false):=hS5.cell 3 rfl 1
     have hd2:wc.cell? ⟨w.heap.size+1,2,none⟩=some (.int .u64 0):=hS5.cell 3 rfl 2
     have hd3:wc.cell? ⟨w.heap.size+1,3,none⟩=some (.slice none 0 0):=hS5.cell 3 rfl 3
     have he0:wc.cell? ⟨b4,0,none⟩=some (.int .i64 (numF tag:Int)):=hS5.cell 1 rfl 0
     have he1:wc.cell? ⟨b4,1,none⟩=some (.bool false):=hS5.cell 1 rfl 1
     have he2:wc.cell? ⟨b4,2,none⟩=some (.int .u64 0):=hS5.cell 1 rfl 2
     have he3:wc.cell? ⟨b4,3,none⟩=some (.slice none 0 0):=hS5.cell 1 rfl 3
     have hg1:=hS5.free 0 rfl 1
     have hx1:=hS5.ne 0 1 Bz rfl rfl
     have hx2:=hS5.ne 1 0 Bz rfl rfl
     have hx3:=hS5.ne 0 3 Bz rfl rfl
     have hx4:=hS5.ne 3 0 Bz rfl rfl
     clear hr hr' hcase hrv hv hN
     cases hm:mayB (numF tag)
     ·by_cases h0:tag%8=0
      ·rw[show fN (tag%8) w.heap.size b4=.func (.func 149) #[] #[P0 w.heap.size,P0 b4] from by unfold fN;rw[if_pos h0]]
       unfold P0 at *
       go_wp2_with (go_at_call 152;refine(gG _ _).mono ?_;rintro e w' ⟨rfl,rfl⟩)
       have hS8:=(((((hS5.setCell 0 rfl 1 (.int .i64 3)).setCell 3 rfl 0 (.int .i64 (numF tag:Int))).setCell 3 rfl 1 (.bool false)).setCell 3 rfl 2 (.int .u64 0)).setCell 3 rfl 3 (.slice none 0 0))
       refine bodyPost_ret (results_cell_row rfl _ _ (w.heap.size+1) _ _ _ _ rfl (hS8.heap 3 rfl) Tryz.underlying93 rfl Bt) rfl ?_
       rw[FD.out]
       exact⟨_,_,_,_,_,_,rfl,_,_,_,hS8.swap.tail.swap.tail.swap.tail⟩
      ·by_cases h2:tag%8=2
       ·rw[show fN (tag%8) w.heap.size b4=.func (.func 150) #[] #[P0 w.heap.size,P0 b4] from by unfold fN;rw[if_neg h0,if_pos h2]]
        unfold P0 at *
        go_wp2_with (go_at_call 152;refine(gG _ _).mono ?_;rintro e w' ⟨rfl,rfl⟩)
        have hS8:=(((((hS5.setCell 0 rfl 1 (.int .i64 3)).setCell 3 rfl 0 (.int .i64 (numF tag:Int))).setCell 3 rfl 1 (.bool false)).setCell 3 rfl 2 (.int .u64 0)).setCell 3 rfl 3 (.slice none 0 0))
        refine bodyPost_ret (results_cell_row rfl _ _ (w.heap.size+1) _ _ _ _ rfl (hS8.heap 3 rfl) Tryz.underlying93 rfl Bt) rfl ?_
        rw[FD.out]
        exact⟨_,_,_,_,_,_,rfl,_,_,_,hS8.swap.tail.swap.tail.swap.tail⟩
       ·rw[show fN (tag%8) w.heap.size b4=.nilFunc from by unfold fN;rw[if_neg h0,if_neg h2]]
        go_wp2_with fail
        have hS8:=(((((hS5.setCell 0 rfl 1 (.int .i64 3)).setCell 3 rfl 0 (.int .i64 (numF tag:Int))).setCell 3 rfl 1 (.bool false)).setCell 3 rfl 2 (.int .u64 0)).setCell 3 rfl 3 (.slice none 0 0))
        refine bodyPost_ret (results_cell_row rfl _ _ (w.heap.size+1) _ _ _ _ rfl (hS8.heap 3 rfl) Tryz.underlying93 rfl Bt) rfl ?_
        rw[FD.out]
        exact⟨_,_,_,_,_,_,rfl,_,_,_,hS8.swap.tail.swap.tail.swap.tail⟩
     ·have h0:¬tag%8=0:=fun h=>h02 ⟨.inl h,hm⟩
      have h2:¬tag%8=2:=fun h=>h02 ⟨.inr h,hm⟩
      rw[show fN (tag%8) w.heap.size b4=.nilFunc from by unfold fN;rw[if_neg h0,if_neg h2]]
      go_wp2_with fail
      have hS8:=(((((hS5.setCell 0 rfl 1 (.int .i64 3)).setCell 3 rfl 0 (.int .i64 (numF tag:Int))).setCell 3 rfl 1 (.bool false)).setCell 3 rfl 2 (.int .u64 0)).setCell 3 rfl 3 (.slice none 0 0))
      refine bodyPost_ret (results_cell_row rfl _ _ (w.heap.size+1) _ _ _ _ rfl (hS8.heap 3 rfl) Tryz.underlying93 rfl Bt) rfl ?_
      rw[FD.out]
      exact⟨_,_,_,_,_,_,rfl,_,_,_,hS8.swap.tail.swap.tail.swap.tail⟩
   ·have hk:=gA l ek hrv
    have hk2:((ek:Int) !=0)=true:=E6
    have hf0:=hS5.free 3 rfl 0
    have hf1:=hS5.free 3 rfl 1
    have hf2:=hS5.free 3 rfl 2
    have hf3:=hS5.free 3 rfl 3
    have hd0:wc.cell? ⟨w.heap.size+1,0,none⟩=some (.int .i64 0):=hS5.cell 3 rfl 0
    have hd1:wc.cell? ⟨w.heap.size+1,1,none⟩=some (.bool false):=hS5.cell 3 rfl 1
    have hd2:wc.cell? ⟨w.heap.size+1,2,none⟩=some (.int .u64 0):=hS5.cell 3 rfl 2
    have hd3:wc.cell? ⟨w.heap.size+1,3,none⟩=some (.slice none 0 0):=hS5.cell 3 rfl 3
    have he0:wc.cell? ⟨b4,0,none⟩=some (.int .i64 (numF 0:Int)):=hS5.cell 1 rfl 0
    have he1:wc.cell? ⟨b4,1,none⟩=some (.bool false):=hS5.cell 1 rfl 1
    have he2:wc.cell? ⟨b4,2,none⟩=some (.int .u64 0):=hS5.cell 1 rfl 2
    have he3:wc.cell? ⟨b4,3,none⟩=some (.slice none 0 0):=hS5.cell 1 rfl 3
    go_wp2_with fail
    have hS8:=((((hS5.setCell 3 rfl 0 (.int .i64 (numF 0:Int))).setCell 3 rfl 1 (.bool false)).setCell 3 rfl 2 (.int .u64 0)).setCell 3 rfl 3 (.slice none 0 0))
    refine bodyPost_ret (results_cell_row rfl _ _ (w.heap.size+1) _ _ _ _ rfl (hS8.heap 3 rfl) Tryz.underlying93 rfl Bt) rfl ?_
    rw[fd_bad l ek hrv]
    exact⟨_,_,_,_,_,_,rfl,_,_,_,hS8.swap.tail.swap.tail.swap.tail⟩
theorem rw_len (l b r:List UInt8)(h:rw_ l=.ok b r):r.length<l.length:=by
 cases hv:rv l with
 | bad k=>rw[rw_bad l k hv] at h;cases h
 | ok n rest =>
  have:=fP l n rest hv
  by_cases hn:n≤rest.length
  ·rw[rw_ok l n rest hv hn] at h
   injection h with _ h
   subst h
   rw[List.length_drop]
   omega
  ·rw[rw_short l n rest hv hn] at h;cases h
theorem rw_bads (l:List UInt8)(k:Nat)(h:rw_ l=.bad k):k=2∨k=3:=by
 cases hv:rv l with
 | bad j=>rw[rw_bad l j hv] at h;injection h with h;subst h;exact gA l _ hv
 | ok n rest =>
  by_cases hn:n≤rest.length
  ·rw[rw_ok l n rest hv hn] at h;cases h
  ·rw[rw_short l n rest hv hn] at h;injection h with h;exact .inl h.symm
theorem fd_len (l:List UInt8)(f:FdV)(r:List UInt8)(h:fd l=.ok f r):r.length<l.length:=by
 cases hv:rv l with
 | bad k=>rw[fd_bad l k hv] at h;cases h
 | ok tag rest =>
  have h1:=fP l tag rest hv
  by_cases hc:(tag%8=0∨tag%8=2)∧mayB (numF tag)=true
  ·by_cases h0:tag%8=0
   ·cases h2:rv rest with
    | bad k=>rw[iD l tag k rest hv h0 hc.2 h2] at h;cases h
    | ok n r' =>
     rw[fd_num l tag n rest r' hv h0 hc.2 h2] at h
     injection h with _ h
     subst h
     have:=fP rest n r' h2
     omega
   ·have h0':tag%8=2:=by omega
    cases h2:rw_ rest with
    | bad k=>rw[fJ l tag k rest hv h0' hc.2 h2] at h;cases h
    | ok b r' =>
     rw[fd_raw l tag rest b r' hv h0' hc.2 h2] at h
     injection h with _ h
     subst h
     have:=rw_len rest b r' h2
     omega
  ·rw[fd_no l tag rest hv hc] at h;cases h
theorem fd_bads (l:List UInt8)(k:Nat)(h:fd l=.bad k):k=2∨k=3:=by
 cases hv:rv l with
 | bad j=>rw[fd_bad l j hv] at h;injection h with h;subst h;exact gA l _ hv
 | ok tag rest =>
  by_cases hc:(tag%8=0∨tag%8=2)∧mayB (numF tag)=true
  ·by_cases h0:tag%8=0
   ·cases h2:rv rest with
    | bad j=>rw[iD l tag j rest hv h0 hc.2 h2] at h;injection h with h;subst h;exact gA rest _ h2
    | ok n r'=>rw[fd_num l tag n rest r' hv h0 hc.2 h2] at h;cases h
   ·have h0':tag%8=2:=by omega
    cases h2:rw_ rest with
    | bad j=>rw[fJ l tag j rest hv h0' hc.2 h2] at h;injection h with h;subst h;exact rw_bads rest _ h2
    | ok b r'=>rw[fd_raw l tag rest b r' hv h0' hc.2 h2] at h;cases h
  ·rw[fd_no l tag rest hv hc] at h;injection h with h;exact .inr h.symm
inductive FsR where
 | ok (l:List FdV)
 | bad (e:Nat)
def FsR.pre (fs:List FdV):FsR→FsR
 | .ok l=>.ok (fs++l)
 | .bad k=>.bad k
theorem FsR.pre_nil (r:FsR):r.pre []=r:=by cases r<;>rfl
theorem FsR.pre_pre (fs gs:List FdV)(r:FsR):(r.pre gs).pre fs=r.pre (fs++gs):=by cases r<;>simp[FsR.pre]
def fdsF:Nat→List UInt8→FsR
 | 0,_=>.ok []
 | n+1,l =>
  if l=[] then .ok [] else
  match fd l with
  | .bad k=>.bad k
  | .ok f r=>(fdsF n r).pre [f]
theorem fdsF_fuel:∀(n m:Nat) (l:List UInt8),l.length≤n→l.length≤m→fdsF n l=fdsF m l
 | 0,m,l,h,_=>by
  have:l=[]:=List.eq_nil_of_length_eq_zero An
  subst this
  cases m<;>simp[fdsF]
 | n+1,0,l,_,h=>by
  have:l=[]:=List.eq_nil_of_length_eq_zero An
  subst this
  simp[fdsF]
 | n+1,m+1,l,h1,h2=>by
  unfold fdsF
  by_cases hl:l=[]
  ·rw[if_pos hl,if_pos hl]
  ·rw[if_neg hl,if_neg hl]
   cases hf:fd l with
   | bad k=>rfl
   | ok f r =>
    have:=fd_len l f r hf
    simp only
    rw[fdsF_fuel n m r An An]
@[irreducible] def fds (l:List UInt8):FsR:=fdsF l.length l
theorem fds_nil:fds []=.ok []:=by unfold fds;rfl
theorem iT (l:List UInt8)(k:Nat)(hl:l≠[])(h:fd l=.bad k):fds l=.bad k:=by
 unfold fds
 obtain⟨n,hn⟩:∃n,l.length=n+1:=⟨l.length - 1,by have:=List.length_pos_iff.2 hl;omega⟩
 rw[hn,fdsF,if_neg hl,h]
theorem fds_ok (l:List UInt8)(f:FdV)(r:List UInt8)(hl:l≠[])(h:fd l=.ok f r):fds l=(fds r).pre [f]:=by
 unfold fds
 obtain⟨n,hn⟩:∃n,l.length=n+1:=⟨l.length - 1,by have:=List.length_pos_iff.2 hl;omega⟩
 have:=fd_len l f r h
 rw[hn,fdsF,if_neg hl,h]
 simp only
 rw[fdsF_fuel n r.length r An An]
structure FdL where
 f:FdV
 A:Option Addr
 c:Nat
def FdL.cells (x:FdL):List Value:=[.int .i64 (x.f.num:Int),.bool x.f.whole,.int .u64 (x.f.n:Int),.slice x.A x.f.b.length x.c]
def FdL.chunk (x:FdL):Chunk:=.row (.slice x.A x.f.b.length x.c) 5 1 x.f.b.length (bvs x.f.b)
def aP (xs:List FdL):List Value:=xs.flatMap FdL.cells
def aV (xs:List FdL):List Chunk:=(xs.map FdL.chunk).reverse
theorem cellsF_snoc (xs:List FdL)(x:FdL):aP (xs++[x])=aP xs++x.cells:=by simp[aP]
theorem iW (xs:List FdL)(x:FdL):aV (xs++[x])=x.chunk::aV xs:=by simp[aV]
def ResF (e:TypeId)(w:World):FsR→Ending→World→Prop
 | .ok fs,r,w'=>∃(xs:List FdL) (A:Option Addr) (c:Nat),r=.returned (.tuple #[.slice A xs.length c,.int .i64 0])∧xs.map FdL.f=fs∧St w NoB w' (.row (.slice A xs.length c) e 4 xs.length (aP xs)::aV xs)
 | .bad k,r,w'=>r=.returned (.tuple #[.slice none 0 0,.int .i64 (k:Int)])∧Below w.heap.size w w'
theorem pow7 (i:Nat):2^(7*(i+1))=128*2^(7*i):=by
 rw[show 7*(i+1)=7*i+7 from by omega,Nat.pow_add,Nat.mul_comm]
theorem split7 (m P:Nat):m%128*P+m/128*(128*P)=m*P:=by
 rw[←Nat.mul_assoc,←Nat.add_mul]
 congr 1
 omega
theorem ofNat_toNat (m:Nat)(h:m<256):(UInt8.ofNat m).toNat=m:=by
 rw[UInt8.toNat_ofNat',Nat.mod_eq_of_lt An]
theorem rvF_inv:∀(l:List UInt8) (f i acc v:Nat) (r:List UInt8),f+i=9→rvF l i acc=.ok v r →
  ∃m,l=vbF f m++r∧v=acc+m*2^(7*i)∧m<2^(7*f+1)∧(0<i→0<m)
 | [],f,i,acc,v,r,hi,h=>by simp[rvF] at h
 | c::b,f,i,acc,v,r,hi,h=>by
  simp only[rvF] at h
  have hc:c.toNat<256:=UInt8.toNat_lt c
  by_cases hb:(i=9∧1<c.toNat)∨(0<i∧c.toNat=0)
  ·rw[if_pos hb] at h;cases h
  ·rw[if_neg hb] at h
   by_cases h1:c.toNat<128
   ·rw[if_pos h1] at h
    injection h with hv hr
    refine⟨c.toNat,?_,hv.symm,?_,An⟩
    ·have hcc:UInt8.ofNat c.toNat=c:=by simp
     cases f<;>simp[vbF,h1,hr]
    ·cases f with
     | zero=>simp;omega
     | succ f =>
      have:(2:Nat)^8≤2^(7*(f+1)+1):=Nat.pow_le_pow_right An An
      omega
   ·rw[if_neg h1] at h
    cases f with
    | zero=>omega
    | succ f =>
     obtain⟨m,hl,hv,hm,h0⟩:=rvF_inv b f (i+1) _ v r An h
     have hm0:=h0 An
     refine⟨m*128+(c.toNat - 128),?_,?_,?_,An⟩
     ·simp only[vbF]
      rw[if_neg An,show(m*128+(c.toNat - 128))%128+128=c.toNat from by omega,show(m*128+(c.toNat - 128))/128=m from by omega,hl]
      simp
     ·rw[hv,pow7,Nat.add_assoc]
      congr 1
      have:=split7 (m*128+(c.toNat - 128)) (2^(7*i))
      rw[show(m*128+(c.toNat - 128))%128=c.toNat - 128 from by omega,show(m*128+(c.toNat - 128))/128=m from by omega] at this
      exact this
     ·rw[show 7*(f+1)+1=(7*f+1)+7 from by omega,Nat.pow_add]
      omega
theorem rv_inv (l:List UInt8)(v:Nat)(r:List UInt8)(h:rv l=.ok v r):W64 v∧l=vb v++r:=by
 rw[rv_eq] at h
 obtain⟨m,hl,hv,hm,_⟩:=rvF_inv l 9 0 0 v r An h
 have:v=m:=by simpa using hv
 subst this
 exact⟨hm,by rw[vb_eq];exact hl⟩
theorem mayB_iff (num:Int):mayB num=true↔1≤num∧num≤100:=by unfold mayB;simp
theorem vb_ne (n:Nat):vb n≠[]:=fun h=>by have:=(vb_len n).2;rw[h] at this;simp at this
theorem putR_ne (num:Int)(b:List UInt8)(h:mayB num=true)(hb:b.length≤65536):cJ num b≠[]:=by
 rw[putR_yes num b h hb]
 simp[vb_ne]
def putF (f:FdV):List UInt8:=if f.whole then cJ f.num f.b else putI f.num f.n
structure FdOK (f:FdV):Prop where
 may:mayB f.num=true
 n:W64 f.n
theorem fd_inv (l:List UInt8)(f:FdV)(r:List UInt8)(hl:l.length≤65536)(h:fd l=.ok f r):l=putF f++r∧FdOK f∧f.b.length+r.length≤l.length:=by
 cases hv:rv l with
 | bad k=>rw[fd_bad l k hv] at h;cases h
 | ok tag rest =>
  obtain⟨hw,hl1⟩:=rv_inv l tag rest hv
  have hlen:=fP l tag rest hv
  by_cases hc:(tag%8=0∨tag%8=2)∧mayB (numF tag)=true
  ·obtain⟨hc,hm⟩:=hc
   have hm':=(mayB_iff _).1 hm
   have ht:numF tag=tag/8:=by
    have h2:numF tag≤100:=An
    unfold numF at h2 ⊢
    omega
   by_cases h0:tag%8=0
   ·cases h2:rv rest with
    | bad k=>rw[iD l tag k rest hv h0 hm h2] at h;cases h
    | ok n r' =>
     rw[fd_num l tag n rest r' hv h0 hm h2] at h
     injection h with hf hr
     subst hr
     subst hf
     obtain⟨hw2,hl2⟩:=rv_inv rest n r' h2
     have:=fP rest n r' h2
     refine⟨?_,⟨hm,hw2⟩,A9⟩
     unfold putF
     rw[if_neg B0,putI_yes _ _ hm,List.append_assoc,←hl2,show 8*((numF tag:Nat):Int).toNat=tag from by omega]
     exact hl1
   ·have h0':tag%8=2:=by omega
    cases h2:rw_ rest with
    | bad k=>rw[fJ l tag k rest hv h0' hm h2] at h;cases h
    | ok b r' =>
     rw[fd_raw l tag rest b r' hv h0' hm h2] at h
     injection h with hf hr
     subst hr
     subst hf
     cases h3:rv rest with
     | bad k=>rw[rw_bad rest k h3] at h2;cases h2
     | ok n rest2 =>
      obtain⟨hw2,hl2⟩:=rv_inv rest n rest2 h3
      have:=fP rest n rest2 h3
      by_cases hn:n≤rest2.length
      ·rw[rw_ok rest n rest2 h3 hn] at h2
       injection h2 with hb hr
       have hbl:b.length=n:=by rw[←hb,List.length_take];omega
       have hcat:rest2=b++r':=by rw[←hb,←hr,List.take_append_drop]
       have hlen2:rest2.length=b.length+r'.length:=by rw[hcat,List.length_append]
       refine⟨?_,⟨hm,by unfold W64;dsimp only;omega⟩,by dsimp only;omega⟩
       unfold putF
       rw[if_pos rfl,putR_yes _ _ hm (by dsimp only;omega)]
       dsimp only
       rw[hbl,List.append_assoc,List.append_assoc,←hcat,←hl2,show 8*((numF tag:Nat):Int).toNat+2=tag from by omega]
       exact hl1
      ·rw[rw_short rest n rest2 h3 hn] at h2;cases h2
  ·rw[fd_no l tag rest hv hc] at h;cases h
theorem fds_inv:∀(n:Nat) (l:List UInt8) (fs:List FdV),l.length≤n→l.length≤65536→fds l=.ok fs→l=fs.flatMap putF∧∀f∈fs,FdOK f∧f.b.length≤l.length
 | n,[],fs,_,_,h=>by
  rw[fds_nil] at h
  injection h with h
  subst h
  exact⟨rfl,fun f hf=>by cases hf⟩
 | 0,c::l,fs,hn,_,h=>by simp at hn
 | n+1,c::l,fs,hn,hl,h=>by
  cases hf:fd (c::l) with
  | bad k=>rw[iT _ k B0 hf] at h;cases h
  | ok f r =>
   rw[fds_ok _ f r B0 hf] at h
   obtain⟨h1,h2,h3⟩:=fd_inv _ f r hl hf
   have hlr:=fd_len _ f r hf
   cases hr:fds r with
   | bad k=>rw[hr] at h;cases h
   | ok gs =>
    rw[hr] at h
    injection h with h
    obtain⟨h4,h5⟩:=fds_inv n r gs An An hr
    subst h
    refine⟨by rw[h1];simp[←h4],fun g hg=>?_⟩
    rcases List.mem_cons.1 (by simpa using hg) with rfl|hg
    ·exact⟨h2,An⟩
    ·have:=h5 g hg
     exact⟨this.1,An⟩
theorem fdsF_bads:∀(n:Nat) (l:List UInt8) (k:Nat),fdsF n l=.bad k→k=2∨k=3
 | 0,_,_,h=>by unfold fdsF at h;cases h
 | n+1,l,k,h=>by
  unfold fdsF at h
  by_cases hl:l=[]
  ·rw[if_pos hl] at h;cases h
  ·rw[if_neg hl] at h
   cases hf:fd l with
   | bad j=>rw[hf] at h;injection h with h;subst h;exact fd_bads l _ hf
   | ok f r =>
    rw[hf] at h
    cases hr:fdsF n r with
    | bad j =>
     replace h:(fdsF n r).pre [f]=.bad k:=h
     rw[hr] at h
     injection h with h
     subst h
     exact fdsF_bads n r _ hr
    | ok x =>
     replace h:(fdsF n r).pre [f]=.bad k:=h
     rw[hr] at h
     cases h
theorem fW (l:List UInt8)(k:Nat)(h:fds l=.bad k):k=2∨k=3:=by
 unfold fds at h
 exact fdsF_bads _ _ _ h
theorem fdsF_len:∀(n:Nat) (l:List UInt8) (fs:List FdV),fdsF n l=.ok fs→fs.length≤l.length
 | 0,_,fs,h=>by
  unfold fdsF at h
  injection h with h
  subst h
  exact Nat.zero_le _
 | n+1,l,fs,h=>by
  unfold fdsF at h
  by_cases hl:l=[]
  ·rw[if_pos hl] at h
   injection h with h
   subst h
   exact Nat.zero_le _
  ·rw[if_neg hl] at h
   cases hf:fd l with
   | bad j=>rw[hf] at h;cases h
   | ok f r =>
    rw[hf] at h
    replace h:(fdsF n r).pre [f]=.ok fs:=h
    have hlen:=fd_len l f r hf
    cases hr:fdsF n r with
    | bad j=>rw[hr] at h;cases h
    | ok x =>
     rw[hr] at h
     injection h with h
     have:=fdsF_len n r x hr
     rw[←h,List.length_append,List.length_singleton]
     omega
theorem fds_len (l:List UInt8)(fs:List FdV)(h:fds l=.ok fs):fs.length≤l.length:=by
 unfold fds at h
 exact fdsF_len _ _ _ h
def spEnc (x:Sp):List UInt8:=if x.k.length+x.v.length=0 then bM [x.b,x.n,x.s] 3 else bM [x.b,x.n,x.s,x.k,x.v] 5
theorem accL3 (a b c:List UInt8):bM [a,b,c] 3=cJ 1 a++(cJ 2 b++(cJ 3 c++[])):=rfl
theorem accL5 (a b c d e:List UInt8):bM [a,b,c,d,e] 5=cJ 1 a++(cJ 2 b++(cJ 3 c++(cJ 4 d++(cJ 5 e++[])))):=rfl
def blksL (l:List Sp):List UInt8:=l.flatMap fun x=>cJ 1 (spEnc x)
def encL (p:Tp):List UInt8:=(blksL p.l++someL 2 p.e)++someL 3 p.z
def spLen (x:Sp):Nat:=x.b.length+x.n.length+x.s.length+x.k.length+x.v.length
def totL (l:List Sp):Nat:=(l.map spLen).sum
theorem spEnc_le (x:Sp):(spEnc x).length≤spLen x+100:=by
 have h1:=gC 1 x.b
 have h2:=gC 2 x.n
 have h3:=gC 3 x.s
 have h4:=gC 4 x.k
 have h5:=gC 5 x.v
 unfold spEnc spLen
 split
 ·rw[accL3]
  simp only[List.length_append,List.length_nil]
  omega
 ·rw[accL5]
  simp only[List.length_append,List.length_nil]
  omega
theorem blksL_le:∀l:List Sp,(blksL l).length≤totL l+120*l.length
 | []=>by simp[blksL,totL]
 | x::l=>by
  have ih:=blksL_le l
  have h1:=gC 1 (spEnc x)
  have h2:=spEnc_le x
  unfold blksL totL at ih ⊢
  rw[List.flatMap_cons,List.length_append,List.map_cons,List.sum_cons,List.length_cons]
  omega
theorem blksL_snoc (l:List Sp)(x:Sp):blksL (l++[x])=blksL l++cJ 1 (spEnc x):=by
 unfold blksL
 rw[List.flatMap_append,List.flatMap_cons,List.flatMap_nil,List.append_nil]
theorem blksL_app (l m:List Sp):blksL (l++m)=blksL l++blksL m:=List.flatMap_append
theorem someL_le (num:Int)(b:List UInt8):(someL num b).length≤b.length+20:=by
 unfold someL
 split
 ·simp
 ·exact gC num b
theorem encL_le (p:Tp):(encL p).length≤totL p.l+120*p.l.length+p.e.length+p.z.length+40:=by
 have h1:=blksL_le p.l
 have h2:=someL_le 2 p.e
 have h3:=someL_le 3 p.z
 unfold encL
 rw[List.length_append,List.length_append]
 omega
def rise:Nat→List FdV→Bool
 | _,[]=>true
 | last,f::fs=>f.whole&&(decide (f.num≤5)&&(decide (last<f.num)&&rise f.num fs))
def look (l:List FdV)(j:Nat):List UInt8:=match l.find? (fun f=>f.num==j) with|some f=>f.b|none=>[]
def hasN (l:List FdV)(j:Nat):Nat:=match l.find? (fun f=>f.num==j) with|some _=>1|none=>0
def sgR (fs:List FdV):Option Sp:=if rise 0 fs=true∧hasN fs 1+hasN fs 2+hasN fs 3=3∧hasN fs 4=hasN fs 5 then some ⟨look fs 1,look fs 2,look fs 3,look fs 4,look fs 5⟩ else none
inductive SgQ where
 | ok (x:Sp)
 | bad (k:Nat)
def sgB (b:List UInt8):SgQ:=match fds b with
 | .bad k=>.bad k
 | .ok fs=>match sgR fs with
  | none=>.bad 3
  | some x=>.ok x
def tkF:Nat→Tp→List FdV→Rz
 | _,t,[]=>⟨0,t⟩
 | last,t,f::fs =>
  if f.whole=false∨f.num<last∨(f.num=last∧f.num≠1) then ⟨3,tp0⟩
  else if f.num=1 then match sgB f.b with
   | .bad k=>⟨k,tp0⟩
   | .ok x=>tkF 1 ⟨t.r,t.l++[x],t.e,t.z⟩ fs
  else if f.num=2 then tkF 2 ⟨t.r,t.l,f.b,t.z⟩ fs
  else if f.num=3 then tkF 3 ⟨t.r,t.l,t.e,f.b⟩ fs
  else ⟨3,tp0⟩
def decRz (raw root:List UInt8):Rz:=match fds raw with
 | .bad k=>⟨k,tp0⟩
 | .ok fs=>if (tkF 0 ⟨root,[],[],[]⟩ fs).c≠0 then ⟨(tkF 0 ⟨root,[],[],[]⟩ fs).c,tp0⟩ else if (tkF 0 ⟨root,[],[],[]⟩ fs).p.l.length=0∨8<(tkF 0 ⟨root,[],[],[]⟩ fs).p.l.length then ⟨3,tp0⟩ else ⟨0,(tkF 0 ⟨root,[],[],[]⟩ fs).p⟩
def Sp.tiny (x:Sp):Prop:=x.b.length≤5000∧x.n.length≤5000∧x.s.length≤5000∧x.k.length≤5000∧x.v.length≤5000
theorem tiny_enc {x:Sp}(h:Sp.tiny x):(spEnc x).length≤25100:=by
 have:=spEnc_le x
 obtain⟨h1,h2,h3,h4,h5⟩:=h
 unfold spLen at this
 omega
structure Tiny (p:Tp):Prop where
 n0:0<p.l.length
 n8:p.l.length≤8
 e:p.e.length≤5000
 z:p.z.length≤5000
 l:∀x∈p.l,Sp.tiny x
theorem tyF:RowTy Tryz.prog 89 93 4 48:=fQ (z:=.agg #[.int .i64 0,.bool false,.int .u64 0,.slice none 0 0]) Bt Bt Bt Bz
def FieldsRel (w:World)(g:Nat)(A:Option Addr)(c:Nat)(l:List UInt8)(left:Nat)(v:Value)(wr:World):Prop:=
 (∃(xs:List FdL) (r:List UInt8) (B:Option Addr) (d:Nat) (A':Option Addr) (c':Nat),v=.slice B xs.length d∧left=r.length∧xs.length+r.length≤l.length ∧
  St w NoB wr (fY g A' r.length c' 0 (.row (.slice B xs.length d) 93 4 xs.length (aP xs)::aV xs))∧CutR A c l A' c' r∧fds l=(fds r).pre (xs.map FdL.f)) ∨
 (∃(k n':Nat) (B:Option Addr) (n d:Nat) (A':Option Addr) (c':Nat),v=.slice B n d∧left=0∧(k=2∨k=3)∧St w NoB wr (fY g A' n' c' k [])∧fds l=.bad k)
theorem fields_walk (w:World)(A:Option Addr)(c:Nat)(l:List UInt8)(hl:l.length≤65536)(hr:Rd w (.slice A l.length c) 1 l.length (bvs l)) :
  Calls Tryz.prog 64 #[.slice A l.length c] w (ResF 93 w (fds l)):=by
 have hle:decide (65536<(l.length:Int))=false:=A9
 have hS0:St w NoB (w.alloc (.cells #[.slice A l.length c,.int .i64 0] 143)) (fY w.heap.size A l.length c 0 (.row (.slice none 0 0) 93 4 0 []::[])):=(((St.init w NoB).alloc #[.slice A l.length c,.int .i64 0] 143).row (Below.refl _ _) (World.ownsRow_nil _ _ _ _)).swap
 have HR:=aA hr
 have HS:=aA hS0
 clear hr hS0
 go_enter Tryz.func64,Tryz.ntmps64
 go_wp2_with fail
 go_loopg [6] (l.length+1) (fun left v wr=>∃k,left=k+1∧FieldsRel w w.heap.size A c l k v wr)
 case atStart=>exact⟨_,rfl,.inl ⟨[],l,none,0,A,c,rfl,rfl,B0,HS.out,fun _ h=>h,(FsR.pre_nil _).symm⟩⟩
 case round =>
  obtain⟨k0,rfl,hrel⟩:=hrel
  rcases hrel with⟨xs,r,B,d,A',c',rfl,rfl,hxl,hS,hcr,hfd⟩|⟨k,n',B,n,d,A',c',rfl,rfl,hk,hS,hfd⟩
  ·have hc0:wr.cell? ⟨w.heap.size,0,none⟩=some (.slice A' r.length c'):=hS.cell 0 rfl 0
   have hc1:wr.cell? ⟨w.heap.size,1,none⟩=some (.int .i64 0):=hS.cell 0 rfl 1
   by_cases hr0:r=[]
   ·subst hr0
    rw[fds_nil] at hfd
    have hd0:decide ((0:Int)<(([]:List UInt8).length:Int))=false:=rfl
    have HF:=aA hfd
    have HX:=aA hxl
    clear hfd hxl
    go_wp2_with fail
    go_ret2
    rw[HF.out]
    refine⟨xs,B,d,rfl,by simp[FsR.pre],hS.tail⟩
   ·have hpos:0<r.length:=List.length_pos_iff.2 hr0
    have hd0:decide ((0:Int)<(r.length:Int))=true:=A9
    have F:=field_walk w.heap.size A' c' r An (hcr.rdH HR.out.rdH) hS
    cases hf:fd r with
    | ok f r' =>
     have hlen:=fd_len r f r' hf
     have HF:=aA (show fds l=(fds r').pre ((xs.map FdL.f)++[f]) by rw[hfd,fds_ok r f r' hr0 hf,FsR.pre_pre])
     rw[hf] at F
     have FF:=aA F
     have HX:=aA hxl
     clear F hfd hS hf hxl
     unfold P0 at *
     go_wp2_with (first
      |(go_at_call 113;refine FF.out.mono ?_;rintro e w2 ⟨B2,d2,rfl,A2,a2,hS2,hr2⟩)
      |(at_builtin;refine wl_appendN rfl rfl tyF hS2 2 rfl rfl (us:=[_,_,_,_]) rfl rfl ?_ ?_ Bz ?_;(intro u hu;simp only[List.mem_cons,List.not_mem_nil,or_false] at hu;rcases hu with rfl|rfl|rfl|rfl<;>rfl);(have:=HX.out;omega);intro B3 d3 w3 hS3))
     go_roundg (r'.length+1)
     case rel =>
      refine⟨_,rfl,.inl ⟨xs++[⟨f,B2,d2⟩],r',B3,d3,A2,a2,B0,rfl,?_,?_,hcr.trans hr2,?_⟩⟩
      ·have:=HX.out
       simp only[List.length_append,List.length_singleton]
       omega
      ·rw[cellsF_snoc,iW,List.length_append,List.length_singleton]
       exact St.swap12 hS3
      ·rw[HF.out,List.map_append]
       rfl
     case measure=>omega
    | bad k =>
     have hk:=fd_bads r k hf
     have HF:=aA (show fds l=.bad k by rw[hfd,iT r k hr0 hf];rfl)
     rw[hf] at F
     have FF:=aA F
     have HX:=aA hxl
     have HK:=aA hk
     clear F hfd hS hf hxl hk
     unfold P0 at *
     go_wp2_with (first
      |(go_at_call 113;refine FF.out.mono ?_;rintro e w2 ⟨x1,x2,x3,B2,m2,d2,rfl,A2,n2,a2,hS2⟩)
      |(at_builtin;refine wl_appendN rfl rfl tyF hS2 1 rfl rfl (us:=[_,_,_,_]) rfl rfl ?_ ?_ Bz ?_;(intro u hu;simp only[List.mem_cons,List.not_mem_nil,or_false] at hu;rcases hu with rfl|rfl|rfl|rfl<;>rfl);(have:=HX.out;omega);intro B3 d3 w3 hS3))
     go_roundg 1
     case rel=>exact⟨_,rfl,.inr ⟨k,n2,B3,_,d3,A2,a2,rfl,rfl,HK.out,hS3.pickL [0] Bz rfl,HF.out⟩⟩
     case measure=>omega
  ·have hc0:wr.cell? ⟨w.heap.size,0,none⟩=some (.slice A' n' c'):=hS.cell 0 rfl 0
   have hc1:wr.cell? ⟨w.heap.size,1,none⟩=some (.int .i64 (k:Int)):=hS.cell 0 rfl 1
   have hk1:((k:Int)==0)=false:=E6
   have hk2:((k:Int) !=0)=true:=E6
   have HF:=aA hfd
   clear hfd hk
   by_cases hn:n'=0
   ·subst hn
    go_wp2_with fail
    go_quiet (fail)
    go_wp2_with fail
    go_ret2
    rw[HF.out]
    exact⟨rfl,(hS.drewN _).below⟩
   ·have hd0:decide ((0:Int)<(n':Int))=true:=by simp;omega
    go_wp2_with fail
    go_quiet (fail)
    go_wp2_with fail
    go_ret2
    rw[HF.out]
    exact⟨rfl,(hS.drewN _).below⟩
def arr6 (f:Nat→Value):Array Value:=#[f 0,f 1,f 2,f 3,f 4,f 5]
theorem arr6_get (f:Nat→Value){k:Nat}(h:k<6):(arr6 f)[k]?=some (f k):=by
 rcases(show k=0∨k=1∨k=2∨k=3∨k=4∨k=5 by omega) with rfl|rfl|rfl|rfl|rfl|rfl<;>rfl
theorem arr6_set (f:Nat→Value){k:Nat}(h:k<6)(v:Value):(arr6 f).setIfInBounds k v=arr6 (fun j=>if j=k then v else f j):=by
 rcases(show k=0∨k=1∨k=2∨k=3∨k=4∨k=5 by omega) with rfl|rfl|rfl|rfl|rfl|rfl<;>rfl
def lookV (xs:List FdL)(j:Nat):PcV:=match xs.find? (fun x=>x.f.num==j) with|some x=>⟨x.A,x.c,x.f.b⟩|none=>pc0
def hasV (xs:List FdL)(j:Nat):Nat:=match xs.find? (fun x=>x.f.num==j) with|some _=>1|none=>0
theorem look_map (xs:List FdL)(j:Nat):(lookV xs j).b=look (xs.map FdL.f) j:=by
 unfold lookV look
 rw[List.find?_map]
 show _=(match ((xs.find? (fun x=>x.f.num==j)).map FdL.f) with|some f=>f.b|none=>[])
 cases xs.find? (fun x=>x.f.num==j)<;>rfl
theorem has_map (xs:List FdL)(j:Nat):hasV xs j=hasN (xs.map FdL.f) j:=by
 unfold hasV hasN
 rw[List.find?_map]
 show _=(match ((xs.find? (fun x=>x.f.num==j)).map FdL.f) with|some _=>1|none=>0)
 cases xs.find? (fun x=>x.f.num==j)<;>rfl
theorem look_ch {xs:List FdL}{G:List Chunk}(j:Nat)(h0:pc0.ch∈G)(h:∀x∈xs,FdL.chunk x∈G):(lookV xs j).ch∈G:=by
 unfold lookV
 cases e:xs.find? (fun x=>x.f.num==j) with
 | none=>exact h0
 | some x=>exact h x (List.mem_of_find?_eq_some e)
theorem find_none {xs:List FdL}{m:Nat}(h:∀y∈xs,y.f.num<m):xs.find? (fun x=>x.f.num==m)=none:=by
 rw[List.find?_eq_none]
 intro y hy
 have:=h y hy
 simp
 omega
theorem lookV_snoc (xs:List FdL)(x:FdL)(h:∀y∈xs,y.f.num<x.f.num)(j:Nat):lookV (xs++[x]) j=if j=x.f.num then ⟨x.A,x.c,x.f.b⟩ else lookV xs j:=by
 unfold lookV
 rw[List.find?_append]
 by_cases e:j=x.f.num
 ·subst e
  rw[if_pos rfl,find_none h]
  simp
 ·rw[if_neg e,show List.find? (fun y=>y.f.num==j) [x]=none by simp;omega,Option.or_none]
theorem hasV_snoc (xs:List FdL)(x:FdL)(h:∀y∈xs,y.f.num<x.f.num)(j:Nat):hasV (xs++[x]) j=if j=x.f.num then 1 else hasV xs j:=by
 unfold hasV
 rw[List.find?_append]
 by_cases e:j=x.f.num
 ·subst e
  rw[if_pos rfl,find_none h]
  simp
 ·rw[if_neg e,show List.find? (fun y=>y.f.num==j) [x]=none by simp;omega,Option.or_none]
theorem hasV_new (xs:List FdL)(m:Nat)(h:∀y∈xs,y.f.num<m):hasV xs m=0:=by
 unfold hasV
 rw[find_none h]
theorem hasN_le (l:List FdV)(j:Nat):hasN l j≤1:=by
 unfold hasN
 split<;>decide
theorem fC {w:World}{B:Option Addr}{n d:Nat}{l:List FdL}{k:Nat}{x:FdL}(h:Rd w (.slice B n d) 4 n (aP l))(hk:l[k]?=some x):∃b o,B=some ⟨b,o,none⟩∧b<w.heap.size∧∀w',Below w.heap.size w w' →
  w'.cell? ⟨b,o+k*4,none⟩=some (.int .i64 (x.f.num:Int))∧w'.cell? ⟨b,o+k*4+1,none⟩=some (.bool x.f.whole)∧w'.cell? ⟨b,o+k*4+2,none⟩=some (.int .u64 (x.f.n:Int))∧w'.cell? ⟨b,o+k*4+3,none⟩=some (.slice x.A x.f.b.length x.c):=by
 have gt:∀j,j<4→(aP l)[k*4+j]?=x.cells[j]?:=fun j hj=>flat_get FdL.cells 4 (fun _=>rfl) l k j x hk hj
 obtain⟨b,o,rfl,hb,h0⟩:=iP h (k:=k*4) ((gt 0 An).trans rfl)
 have get:∀j u,j<4→x.cells[j]?=some u→w.cell? ⟨b,o+k*4+j,none⟩=some u:=fun j u hj hu=>by
  obtain⟨b',o',e,_,h1⟩:=iP h (k:=k*4+j) (u:=u) ((gt j hj).trans hu)
  injection e with e
  injection e with e1 e2 _
  subst e1 e2
  rw[Nat.add_assoc]
  exact h1
 refine⟨b,o,rfl,hb,fun w' hw=>?_⟩
 have k1:∀j,w'.cell? ⟨b,j,none⟩=w.cell? ⟨b,j,none⟩:=fun j=>hw.cell (p:=⟨b,j,none⟩) hb
 exact⟨(k1 _).trans (get 0 _ An rfl),(k1 _).trans (get 1 _ An rfl),(k1 _).trans (get 2 _ An rfl),(k1 _).trans (get 3 _ An rfl)⟩
theorem szField:(Tryz.prog.info? 93).map (·.size)=some 4:=Bt
theorem oneF {a n:Int}{b:Bool}{A:Option Addr}{m c:Nat}:∀v∈[Value.int .i64 a,.bool b,.int .u64 n,.slice A m c],v.oneCell'=true:=by
 intro v hv
 simp only[List.mem_cons,List.not_mem_nil,or_false] at hv
 rcases hv with rfl|rfl|rfl|rfl<;>rfl
def SgD (w:World):SgQ→Ending→World→Prop
 | .ok x,e,w'=>∃(y:Sg) (G:List Chunk),e=.returned (.tuple #[y.val,.int .i64 0])∧y.p=x∧SgIn G y∧St w NoB w' G
 | .bad k,e,w'=>e=.returned (.tuple #[.agg #[.slice none 0 0,.slice none 0 0,.slice none 0 0,.slice none 0 0,.slice none 0 0],.int .i64 (k:Int)])∧Below w.heap.size w w'
theorem sgB_bad {l:List UInt8}{k:Nat}(h:fds l=.bad k):sgB l=.bad k:=by unfold sgB;rw[h]
theorem sgB_none {l:List UInt8}{fs:List FdV}(h:fds l=.ok fs)(h2:sgR fs=none):sgB l=.bad 3:=E7
theorem sgB_some {l:List UInt8}{fs:List FdV}{x:Sp}(h:fds l=.ok fs)(h2:sgR fs=some x):sgB l=.ok x:=E7
theorem sgR_no {fs:List FdV}(h:¬(rise 0 fs=true∧hasN fs 1+hasN fs 2+hasN fs 3=3∧hasN fs 4=hasN fs 5)):sgR fs=none:=by unfold sgR;rw[if_neg h]
theorem signedOf_any (A:Option Addr)(n c:Nat)(l:List UInt8)(w:World)(hl:l.length=n)(hn:n≤65536)(hr:Rd w (.slice A n c) 1 n (bvs l)):Calls Tryz.prog 114 #[.slice A n c] w (SgD w (sgB l)):=by
 have HS:=aA ((St.init w NoB).alloc #[.slice none 0 0,.slice none 0 0,.slice none 0 0,.slice none 0 0,.slice none 0 0] 32)
 have HF:=fields_walk _ A c l An (hl▸hr.st HS.out)
 rw[hl] at HF
 cases hf:fds l with
 | bad k =>
  rw[sgB_bad hf]
  rw[hf] at HF
  have HC:=aA HF
  have hk:k=2∨k=3:=fW l k hf
  have d0:((k:Int) !=0)=true:=A9
  have d0':decide ((k:Int)=0)=false:=A9
  clear HF hr hk
  go_enter Tryz.func114,Tryz.ntmps114
  go_wp2_with (first
   |(go_at_call 64;(with_reducible refine HC.out.mono ?_);rintro e w2 ⟨rfl,hb⟩;have HS:=aA (HS.out.call hb);clear hb)
   |(refine wl_storeC rfl rfl HS.out 0 rfl (vs:=[.slice none 0 0,.slice none 0 0,.slice none 0 0,.slice none 0 0,.slice none 0 0]) szSigned (Nat.le_refl _) rfl rfl fE ?_;intro w7 hS7;have HS7:=aA hS7;clear hS7))
  refine bodyPost_ret (aB rfl _ _ w.heap.size _ _ _ _ rfl (HS7.out.heap 0 rfl) Tryz.underlying32 rfl Bt) rfl ?_
  exact⟨rfl,HS7.out.below⟩
 | ok fs =>
  rw[hf] at HF
  have HC:=aA HF
  have HFS:=aA hf
  clear HF hr hf
  go_enter Tryz.func114,Tryz.ntmps114
  go_upto_region 4 with(go_at_call 64;(with_reducible refine HC.out.mono ?_);rintro e w2 ⟨xs,B,d,rfl,hx,hS2⟩;have HS:Hid (St w NoB w2 (.cells w.heap.size #[.slice none 0 0,.slice none 0 0,.slice none 0 0,.slice none 0 0,.slice none 0 0] 32::.row (.slice B xs.length d) 93 4 xs.length (aP xs)::aV xs)):=aA (St.rot _ [_] (HS.out.join hS2));clear hS2)
  obtain⟨m,hm⟩:∃m,xs.length=m:=⟨_,rfl⟩
  rw[hm] at HS ⊢
  have HM:=aA hm
  have HX:=aA hx
  have hm6:m≤65536:=by
   have h1:=fds_len l fs HFS.out
   rw[←HX.out,List.length_map,HM.out] at h1
   omega
  have hA:=(HS.out.alloc #[.slice none 0 0,.slice none 0 0,.slice none 0 0,.slice none 0 0,.slice none 0 0,.slice none 0 0] 194).alloc #[.int .i64 0,.int .i64 0,.int .i64 0,.int .i64 0,.int .i64 0,.int .i64 0] 149
  rw[size_alloc1] at hA
  have HSL:=aA hA
  clear hA HS hx hm
  go_wp2_with fail
  generalize w2.heap.size=gp at HSL ⊢
  go_loopw [8,22] (fun lv iv wr=>∃(k last:Nat),k≤m∧iv=.int .i64 (k:Int)∧lv=.int .i64 (last:Int)∧Hid (last≤5∧(∀y∈xs.take k,y.f.num≤last)∧rise 0 (xs.map FdL.f)=rise last ((xs.drop k).map FdL.f))∧Hid (St w NoB wr (.cells (gp+1) (arr6 fun j=>.int .i64 (hasV (xs.take k) j:Int)) 149::.cells gp (arr6 fun j=>(lookV (xs.take k) j).v) 194::.cells w.heap.size #[.slice none 0 0,.slice none 0 0,.slice none 0 0,.slice none 0 0,.slice none 0 0] 32::.row (.slice B m d) 93 4 m (aP xs)::aV xs))) (fun _ i _=>(m - intOf i).toNat)
  case atStart=>exact⟨0,0,An,rfl,rfl,⟨An,fun y hy=>absurd hy List.not_mem_nil,rfl⟩,HSL⟩
  case round =>
   clear HSL
   obtain⟨k,last,hk,rfl,rfl,HI,HS⟩:=hrel
   by_cases hlt:k<m
   ·have e0:decide ((k:Int)<(m:Int))=true:=by simp;omega
    have e0':decide (k<m)=true:=A9
    have kn:(k:Int)<(m:Int):=An
    have kl:k<xs.length:=Et
    have hlk:xs[k]?=some xs[k]:=gE kl
    obtain⟨b,o,rfl,hb8,hc⟩:=fC (HS.out.rd 3 rfl) hlk
    obtain⟨k0,k1,k2,k3⟩:=hc _ (Below.refl _ _)
    have HTK:=aA (show xs.take (k+1)=xs.take k++[xs[k]] by rw[List.take_add_one,hlk];rfl)
    have HDK:=aA (show rise last ((xs.drop k).map FdL.f)=(xs[k].f.whole&&(decide (xs[k].f.num≤5)&&(decide (last<xs[k].f.num)&&rise xs[k].f.num ((xs.drop (k+1)).map FdL.f)))) by rw[List.drop_eq_getElem_cons kl];rfl)
    generalize xs[k]=y at k0 k1 k2 k3 HTK HDK
    obtain⟨⟨num,whole,fn,fb⟩,X,xc⟩:=y
    replace HTK:Hid (xs.take (k+1)=xs.take k++[⟨⟨num,whole,fn,fb⟩,X,xc⟩]):=HTK
    replace HDK:Hid (rise last ((xs.drop k).map FdL.f)=(whole&&(decide (num≤5)&&(decide (last<num)&&rise num ((xs.drop (k+1)).map FdL.f))))):=HDK
    have hl5:last≤5:=HI.out.1
    clear hc hlk kl
    go_upto_region 10 with(refine wl_storeC rfl rfl (HS.out.alloc _ _) 0 rfl (vs:=[.int .i64 (num:Int),.bool whole,.int .u64 (fn:Int),.slice X fb.length xc]) szField (Nat.le_refl _) rfl rfl oneF ?_;intro w5 hS5;have HS5:=aA hS5;clear hS5)
    have q0:_=some (Value.int .i64 (num:Int)):=HS5.out.cell 0 rfl 0
    have q1:_=some (Value.bool whole):=HS5.out.cell 0 rfl 1
    have q3:_=some (Value.slice X fb.length xc):=HS5.out.cell 0 rfl 3
    clear k0 k1 k2 k3
    by_cases hg:whole=true∧num≤5∧last<num
    ·obtain⟨rfl,h5,hln⟩:=hg
     have HLT:Hid (∀y∈xs.take k,y.f.num<num):=aA (fun y hy=>by have:=HI.out.2.1 y hy;omega)
     have HRI:Hid (rise 0 (xs.map FdL.f)=rise num ((xs.drop (k+1)).map FdL.f)):=aA (by rw[HI.out.2.2,HDK.out];simp[h5,hln])
     have d2:decide ((5:Int)<(num:Int))=false:=A9
     have d2':decide (5<num)=false:=A9
     have d3:decide ((num:Int)≤(last:Int))=false:=A9
     have d3':decide (num≤last)=false:=A9
     have h6:(num:Int)<6:=An
     have h6':num<6:=An
     have p1:w5.cell? ⟨gp,num,none⟩=some (lookV (xs.take k) num).v:=(HS5.out.cell 2 rfl num).trans (arr6_get _ An)
     have f1:=HS5.out.free 2 rfl num
     go_upto_region 14 with fail
     have HS6:=aA (HS5.out.setCell 2 rfl num (.slice X fb.length xc))
     clear p1 f1 q0 q1 q3
     generalize World.setCell w5 _ _=w6 at HS6 ⊢
     have q0:_=some (Value.int .i64 (num:Int)):=HS6.out.cell 0 rfl 0
     have g1:w6.cell? ⟨gp+1,num,none⟩=some (.int .i64 0):=(HS6.out.cell 1 rfl num).trans ((arr6_get _ An).trans (by rw[hasV_new _ _ HLT.out];rfl))
     have g2:=HS6.out.free 1 rfl num
     go_wp2_with fail
     have hS7:St w NoB _ (.cells (gp+1) ((arr6 fun j=>.int .i64 (hasV (xs.take k) j:Int)).setIfInBounds num (.int .i64 1)) 149::.cells gp ((arr6 fun j=>(lookV (xs.take k) j).v).setIfInBounds num (.slice X fb.length xc)) 194::.cells w.heap.size #[.slice none 0 0,.slice none 0 0,.slice none 0 0,.slice none 0 0,.slice none 0 0] 32::.row (.slice (some ⟨b,o,none⟩) m d) 93 4 m (aP xs)::aV xs):=(HS6.out.setCell 1 rfl num (.int .i64 1)).tail
     rw[arr6_set _ h6',arr6_set _ h6'] at hS7
     have e1:(fun j=>if j=num then Value.int .i64 1 else .int .i64 (hasV (xs.take k) j:Int))=fun j=>.int .i64 (hasV (xs.take (k+1)) j:Int):=by
      funext j
      rw[HTK.out,hasV_snoc _ _ HLT.out]
      by_cases e:j=num
      ·subst e;rw[if_pos rfl,if_pos rfl];rfl
      ·rw[if_neg e,if_neg e]
     have e2:(fun j=>if j=num then Value.slice X fb.length xc else (lookV (xs.take k) j).v)=fun j=>(lookV (xs.take (k+1)) j).v:=by
      funext j
      rw[HTK.out,lookV_snoc _ _ HLT.out]
      by_cases e:j=num
      ·subst e;rw[if_pos rfl,if_pos rfl];rfl
      ·rw[if_neg e,if_neg e]
     rw[e1,e2] at hS7
     have HS7:=aA hS7
     clear e1 e2 hS7 HS6 HS5 g1 g2
     go_roundw
     case rel=>exact⟨k+1,num,An,Cg,rfl,aA ⟨h5,(fun y hy=>by
       rw[HTK.out] at hy
       rcases List.mem_append.1 hy with hy|hy
       ·exact Nat.le_of_lt (HLT.out y hy)
       ·rw[List.mem_singleton.1 hy];exact Nat.le_refl _),HRI.out⟩,HS7⟩
     case measure=>(simp[intOf])<;>omega
    ·have hb:whole=false∨(whole=true∧5<num)∨(whole=true∧¬5<num∧num≤last):=by
      cases whole
      ·exact .inl rfl
      ·exact .inr (by by_cases h:5<num;exact .inl ⟨rfl,h⟩;exact .inr ⟨rfl,h,by have:¬(num≤5∧last<num):=fun h=>hg ⟨rfl,h⟩;omega⟩)
     have HNO:Hid (sgB l=.bad 3):=aA (sgB_none HFS.out (sgR_no (fun h=>by
      have h1:=h.1
      rw[←HX.out,HI.out.2.2,HDK.out] at h1
      simp at h1
      exact hg ⟨h1.1,h1.2.1,h1.2.2.1⟩)))
     clear hg HDK HTK
     have d2:(whole=true→decide ((5:Int)<(num:Int))=decide (5<num)):=fun _=>by simp;omega
     rcases hb with rfl|⟨rfl,h5⟩|⟨rfl,h5,h6⟩
     ·go_wp2_with (refine wl_storeC rfl rfl HS5.out 3 rfl (vs:=[.slice none 0 0,.slice none 0 0,.slice none 0 0,.slice none 0 0,.slice none 0 0]) szSigned (Nat.le_refl _) rfl rfl fE ?_;intro w7 hS7;have HS7:=aA hS7;clear hS7)
      refine bodyPost_ret (aB rfl _ _ w.heap.size _ _ _ _ rfl (HS7.out.heap 3 rfl) Tryz.underlying32 rfl Bt) rfl ?_
      rw[HNO.out]
      exact⟨rfl,HS7.out.below⟩
     ·have d2:decide ((5:Int)<(num:Int))=true:=by simp;omega
      have d2':decide (5<num)=true:=A9
      go_wp2_with (refine wl_storeC rfl rfl HS5.out 3 rfl (vs:=[.slice none 0 0,.slice none 0 0,.slice none 0 0,.slice none 0 0,.slice none 0 0]) szSigned (Nat.le_refl _) rfl rfl fE ?_;intro w7 hS7;have HS7:=aA hS7;clear hS7)
      refine bodyPost_ret (aB rfl _ _ w.heap.size _ _ _ _ rfl (HS7.out.heap 3 rfl) Tryz.underlying32 rfl Bt) rfl ?_
      rw[HNO.out]
      exact⟨rfl,HS7.out.below⟩
     ·have d2:decide ((5:Int)<(num:Int))=false:=by simp;omega
      have d2':decide (5<num)=false:=A9
      have d3:decide ((num:Int)≤(last:Int))=true:=A9
      have d3':decide (num≤last)=true:=A9
      go_wp2_with (refine wl_storeC rfl rfl HS5.out 3 rfl (vs:=[.slice none 0 0,.slice none 0 0,.slice none 0 0,.slice none 0 0,.slice none 0 0]) szSigned (Nat.le_refl _) rfl rfl fE ?_;intro w7 hS7;have HS7:=aA hS7;clear hS7)
      refine bodyPost_ret (aB rfl _ _ w.heap.size _ _ _ _ rfl (HS7.out.heap 3 rfl) Tryz.underlying32 rfl Bt) rfl ?_
      rw[HNO.out]
      exact⟨rfl,HS7.out.below⟩
   ·obtain rfl:k=m:=by omega
    have e0:decide ((k:Int)<(k:Int))=false:=B0
    have e0':decide (k<k)=false:=B0
    have htk:xs.take k=xs:=List.take_of_length_le Eu
    have hri:rise 0 (xs.map FdL.f)=true:=by rw[HI.out.2.2,List.drop_of_length_le Eu];rfl
    rw[htk] at HS
    clear HI
    have HN:Hid (∀j,hasN fs j=hasV xs j):=aA (fun j=>by rw[has_map,HX.out])
    have HLK:Hid (∀j,look fs j=(lookV xs j).b):=aA (fun j=>by rw[look_map,HX.out])
    have hle:∀j,hasV xs j≤1:=fun j=>by rw[has_map];exact hasN_le _ _
    have c1:wr.cell? ⟨gp+1,1,none⟩=some (.int .i64 (hasV xs 1:Int)):=HS.out.cell 0 rfl 1
    have c2:wr.cell? ⟨gp+1,2,none⟩=some (.int .i64 (hasV xs 2:Int)):=HS.out.cell 0 rfl 2
    have c3:wr.cell? ⟨gp+1,3,none⟩=some (.int .i64 (hasV xs 3:Int)):=HS.out.cell 0 rfl 3
    have c4:wr.cell? ⟨gp+1,4,none⟩=some (.int .i64 (hasV xs 4:Int)):=HS.out.cell 0 rfl 4
    have c5:wr.cell? ⟨gp+1,5,none⟩=some (.int .i64 (hasV xs 5:Int)):=HS.out.cell 0 rfl 5
    have HR:Hid (rise 0 fs=true):=aA (by rw[←HX.out];exact hri)
    have HQ:Hid (sgR fs=if hasV xs 1+hasV xs 2+hasV xs 3=3∧hasV xs 4=hasV xs 5 then some ⟨(lookV xs 1).b,(lookV xs 2).b,(lookV xs 3).b,(lookV xs 4).b,(lookV xs 5).b⟩ else none):=aA (by
     unfold sgR
     rw[HN.out,HN.out,HN.out,HN.out,HN.out,HLK.out,HLK.out,HLK.out,HLK.out,HLK.out]
     by_cases hh:hasV xs 1+hasV xs 2+hasV xs 3=3∧hasV xs 4=hasV xs 5
     ·rw[if_pos hh,if_pos ⟨HR.out,hh⟩]
     ·rw[if_neg hh,if_neg (fun h=>hh h.2)])
    have a1:=hle 1
    have a2:=hle 2
    have a3:=hle 3
    have a4:=hle 4
    have a5:=hle 5
    clear hle hri htk HN HLK HR
    have s1:wr.cell? ⟨gp,1,none⟩=some (lookV xs 1).v:=HS.out.cell 1 rfl 1
    have s2:wr.cell? ⟨gp,2,none⟩=some (lookV xs 2).v:=HS.out.cell 1 rfl 2
    have s3:wr.cell? ⟨gp,3,none⟩=some (lookV xs 3).v:=HS.out.cell 1 rfl 3
    have s4:wr.cell? ⟨gp,4,none⟩=some (lookV xs 4).v:=HS.out.cell 1 rfl 4
    have s5:wr.cell? ⟨gp,5,none⟩=some (lookV xs 5).v:=HS.out.cell 1 rfl 5
    have HCH:Hid (∀j,(lookV xs j).ch∈pc0.ch::aV xs):=aA (fun j=>look_ch j (List.mem_cons_self ..) fun x hx=>mC _ Ev)
    have HC1:=aA (HCH.out 1)
    have HC2:=aA (HCH.out 2)
    have HC3:=aA (HCH.out 3)
    have HC4:=aA (HCH.out 4)
    have HC5:=aA (HCH.out 5)
    generalize hasV xs 1=x1 at *
    generalize hasV xs 2=x2 at *
    generalize hasV xs 3=x3 at *
    generalize hasV xs 4=x4 at *
    generalize hasV xs 5=x5 at *
    clear HCH
    generalize lookV xs 1=p1 at s1 HQ HC1
    generalize lookV xs 2=p2 at s2 HQ HC2
    generalize lookV xs 3=p3 at s3 HQ HC3
    generalize lookV xs 4=p4 at s4 HQ HC4
    generalize lookV xs 5=p5 at s5 HQ HC5
    obtain⟨E1,f1,y1⟩:=p1
    obtain⟨E2,f2,y2⟩:=p2
    obtain⟨E3,f3,y3⟩:=p3
    obtain⟨E4,f4,y4⟩:=p4
    obtain⟨E5,f5,y5⟩:=p5
    replace s1:wr.cell? ⟨gp,1,none⟩=some (.slice E1 y1.length f1):=s1
    replace s2:wr.cell? ⟨gp,2,none⟩=some (.slice E2 y2.length f2):=s2
    replace s3:wr.cell? ⟨gp,3,none⟩=some (.slice E3 y3.length f3):=s3
    replace s4:wr.cell? ⟨gp,4,none⟩=some (.slice E4 y4.length f4):=s4
    replace s5:wr.cell? ⟨gp,5,none⟩=some (.slice E5 y5.length f5):=s5
    by_cases hs:x1+x2+x3=3
    ·have d1:decide ((x1:Int)+(x2:Int)+(x3:Int)<3)=false:=by simp;omega
     have d1':decide (x1+x2+x3<3)=false:=A9
     by_cases h45:x4=x5
     ·have HY:=aA (sgB_some HFS.out (HQ.out.trans (if_pos ⟨hs,h45⟩)))
      subst h45
      clear hs HQ
      go_wp2_with (refine wl_storeC rfl rfl HS.out 2 rfl (vs:=[.slice E1 y1.length f1,.slice E2 y2.length f2,.slice E3 y3.length f3,.slice E4 y4.length f4,.slice E5 y5.length f5]) szSigned (Nat.le_refl _) rfl rfl fE ?_;intro w7 hS7;have HS7:=aA hS7;clear hS7)
      refine bodyPost_ret (aB rfl _ _ w.heap.size _ _ _ _ rfl (HS7.out.heap 2 rfl) Tryz.underlying32 rfl Bt) rfl ?_
      rw[HY.out]
      refine⟨⟨⟨E1,f1,y1⟩,⟨E2,f2,y2⟩,⟨E3,f3,y3⟩,⟨E4,f4,y4⟩,⟨E5,f5,y5⟩⟩,_,rfl,rfl,fun c hc=>?_,HS7.out.row (Below.refl _ _) (World.ownsRow_nil _ _ 5 1)⟩
      have h1:c∈pc0.ch::aV xs:=by
       simp only[Sg.chs,List.mem_cons,List.not_mem_nil,or_false] at hc
       rcases hc with rfl|rfl|rfl|rfl|rfl
       ·exact HC1.out
       ·exact HC2.out
       ·exact HC3.out
       ·exact HC4.out
       ·exact HC5.out
      rcases List.mem_cons.1 h1 with h1|h1
      ·rw[h1];exact List.mem_cons_self ..
      ·show c∈_::_::_::_::_::aV xs
       (iterate 5 apply mC)
       exact h1
     ·have HNO:=aA (sgB_none HFS.out (HQ.out.trans (if_neg (fun h=>h45 h.2))))
      have d2:((x4:Int) !=(x5:Int))=true:=A9
      have d2':(x4 !=x5)=true:=A9
      have d3:decide ((x4:Int)=(x5:Int))=false:=A9
      have d3':decide (x4=x5)=false:=A9
      clear hs HQ h45
      go_wp2_with (refine wl_storeC rfl rfl HS.out 2 rfl (vs:=[.slice none 0 0,.slice none 0 0,.slice none 0 0,.slice none 0 0,.slice none 0 0]) szSigned (Nat.le_refl _) rfl rfl fE ?_;intro w7 hS7;have HS7:=aA hS7;clear hS7)
      refine bodyPost_ret (aB rfl _ _ w.heap.size _ _ _ _ rfl (HS7.out.heap 2 rfl) Tryz.underlying32 rfl Bt) rfl ?_
      rw[HNO.out]
      exact⟨rfl,HS7.out.below⟩
    ·have HNO:=aA (sgB_none HFS.out (HQ.out.trans (if_neg (fun h=>hs h.1))))
     have d1:decide ((x1:Int)+(x2:Int)+(x3:Int)<3)=true:=A9
     have d1':decide (x1+x2+x3<3)=true:=A9
     clear hs HQ
     go_wp2_with (refine wl_storeC rfl rfl HS.out 2 rfl (vs:=[.slice none 0 0,.slice none 0 0,.slice none 0 0,.slice none 0 0,.slice none 0 0]) szSigned (Nat.le_refl _) rfl rfl fE ?_;intro w7 hS7;have HS7:=aA hS7;clear hS7)
     refine bodyPost_ret (aB rfl _ _ w.heap.size _ _ _ _ rfl (HS7.out.heap 2 rfl) Tryz.underlying32 rfl Bt) rfl ?_
     rw[HNO.out]
     exact⟨rfl,HS7.out.below⟩
end Go.Proofs.YtnohmgpmmhlloaaGreatDoor.S6
namespace Go.Proofs.YtnohmgpmmhlloaaGreatDoor
open Go.RowKit
section
variable {P : Program} {ops : Array Oper} {Q : Exit → Act → World → Prop} {restT : List (Nat × Nat)} {i : Nat} {o : Oper} {a : Act} {w : World} {W0 : World} {F : List (Nat × Nat)} {fc : Array Value} {fe : TypeId} {suf : STr}
theorem gV {f:FuncId}{xs:List Operand}{ts:Array TypeId}{vs:List Value}{R:World→Ending→World→Prop}(ho:ops[i]?=some o)(hw:Region.wanted o (yielded ops a.tmps)=true)
  (hop:o.op=.call { callee:=.value (.func f),args:=xs.toArray,argTypes:=ts })(hf:∀(args:Array Value) (w:World),(callFunc f args).run P w=.ok (.enter f args) w)
  (hx:xs.map a.eval=vs)(hc:∀x,aC w x→Calls P f vs.toArray x (R x))(h:∀x e w',aC w x→R x e w'→∃v,e=.returned v∧Below x.heap.size x w'∧XGo P ops Q F fc fe suf W0 restT (a.put o.dst v) w'):XGo P ops Q F fc fe suf W0 ((i,2)::restT) a w:=
 wpX_call ho hw fun x hx' K hK=>bG hop hf hx (hc x hx') fun e w' hr=>by
  obtain⟨v,he,hb,hk⟩:=h x e w' hx' hr
  exact⟨v,he,hK _ _ ⟨hb,hk⟩⟩
end
theorem rd_halves {w:World}{C:Option Addr}{c:Nat}{g:List UInt8}(hl:g.length=64)(h:Rd w (.slice C 64 c) 1 64 (bvs g)):∃b o,C=some ⟨b,o,none⟩∧64≤c∧Rd w (.slice (some ⟨b,o,none⟩) 32 c) 1 32 (bvs (g.take 32))∧Rd w (.slice (some ⟨b,o+32,none⟩) 32 (c - 32)) 1 32 (bvs (g.drop 32)):=by
 obtain⟨b,o,rfl⟩:=S1.rd_some h Bz
 have h2:=rd_mid h 32 64 Bz Bz
 rw[List.take_of_length_le (by rw[List.length_drop,hl];exact Nat.le_refl _)] at h2
 exact⟨b,o,rfl,rd_cap h,rd_take h 32 Bz,h2⟩
theorem mayB {A:Option Addr}{n c:Nat}{l:List UInt8}{b:Bool}(w:World)(hm:S3.mayS l=b)(hl:l.length=n)(hr:Rd w (.slice A n c) 1 n (bvs l)):Calls Tryz.prog 39 #[.slice A n c] w fun e w'=>e=.returned (.bool b)∧Below w.heap.size w w':=by
 subst hm
 exact S3.may_walk A n c l w hl hr
theorem ver_none {p m g:List UInt8}(h:cB p=none):dX p m g=false:=by unfold dX;rw[h]
theorem ver_long {p m g:List UInt8}{P:Ed}(h:cB p=some P)(hg:g.length≠64):dX p m g=false:=by unfold dX;rw[h];show(decide (g.length=64)&&_&&_)=false;rw[decide_eq_false hg];rfl
theorem ver_may {p m g:List UInt8}{P:Ed}(h:cB p=some P)(hm:S3.mayS (g.drop 32)=false):dX p m g=false:=by unfold dX;rw[h];show(_&&S3.mayS (g.drop 32)&&_)=false;rw[hm,Bool.and_false];rfl
theorem ver_right {p m g:List UInt8}{P:Ed}(h:cB p=some P)(hg:g.length=64)(hm:S3.mayS (g.drop 32)=true):dX p m g=rightL P p m g:=by unfold dX;rw[h];show(decide (g.length=64)&&S3.mayS (g.drop 32)&&_)=_;rw[hm,decide_eq_true hg];rfl
theorem enBaseMc (args:Array Value)(w:World):(callFunc 35 args).run Tryz.prog w=.ok (.enter 35 args) w:=Bt
theorem enMulMc (args:Array Value)(w:World):(callFunc 36 args).run Tryz.prog w=.ok (.enter 36 args) w:=Bt
theorem enNegMc (args:Array Value)(w:World):(callFunc 42 args).run Tryz.prog w=.ok (.enter 42 args) w:=Bt
theorem enAddMc (args:Array Value)(w:World):(callFunc 41 args).run Tryz.prog w=.ok (.enter 41 args) w:=Bt
theorem eL (A B C:Option Addr)(n c1 m c2 k c3:Nat)(p x g:List UInt8)(w:World)(hp:p.length=n)(hx:x.length=m)(hg:g.length=k)(hn:n≤1000)(hm:m≤100000)
  (hrp:Rd w (.slice A n c1) 1 n (bvs p))(hrx:Rd w (.slice B m c2) 1 m (bvs x))(hrg:Rd w (.slice C k c3) 1 k (bvs g)) :
  Calls Tryz.prog 12 #[.slice A n c1,.slice B m c2,.slice C k c3] w fun e w'=>e=.returned (.bool (dX p x g))∧Below w.heap.size w w':=by
 have HS:=aA (St.init w NoB)
 have HRP:=aA hrp
 have HRX:=aA hrx
 have HLP:=aA hp
 have HLX:=aA hx
 cases hf:cB p with
 | none =>
  have HF:=aA hf
  have HV:=aA (ver_none (m:=x) (g:=g) hf)
  clear hrp hrx hrg hp hx hg hf hn hm
  go_enter Tryz.func12,Tryz.ntmps12
  have M0:=True.intro
  go_wp2_with (first|(clear M2;refine wl_storeR rfl rfl rfl rfl HS.out rowP .head Ew Ex ?_;intro wz hS9;have HS:=aA hS9;clear hS9;(try refine nm ?_);have M3:=True.intro)|(clear M1;refine wl_allocR rfl rfl HS.out newP ?_;intro gp wz hS9;have HS:=aA hS9;clear hS9;(try refine nm ?_);have M2:=True.intro)|(clear M0;go_at_call 38;(with_reducible refine(from_none _ HF.out HLP.out HRP.out).mono ?_);rintro e wy ⟨zp,hzp,rfl,hb⟩;have HS:=aA (HS.out.call hb);have M1:=True.intro))
  go_ret
  exact⟨Ey,HS.out.below⟩
 | some P =>
  have HF:=aA hf
  by_cases h64:k=64
  ·subst h64
   obtain⟨b,o,rfl,hc64,hr1,hr2⟩:=rd_halves hg hrg
   have HR1:=aA hr1
   have HR2:=aA hr2
   have HL1:=aA (show(g.take 32).length=32 by rw[List.length_take,hg];rfl)
   have HL2:=aA (show(g.drop 32).length=32 by rw[List.length_drop,hg])
   have hcc:(64:Int)≤(c3:Int):=An
   have hcc2:(32:Int)≤(c3:Int):=An
   have hcc4:¬c3=32:=An
   cases hmy:S3.mayS (g.drop 32) with
   | false =>
    have HMY:=aA hmy
    have HV:=aA (ver_may (m:=x) hf hmy)
    clear hrp hrx hrg hp hx hg hf hmy hr1 hr2
    go_enter Tryz.func12,Tryz.ntmps12
    have M0:=True.intro
    go_wp2_with (first|(clear M3;go_at_call 39;(with_reducible refine(mayB _ HMY.out HL2.out (HR2.out.below HS.out.below)).mono ?_);rintro e wy ⟨rfl,hb⟩;have HS:=aA (HS.out.call hb);have M4:=True.intro)|(clear M2;refine wl_storeR rfl rfl rfl rfl HS.out rowP .head Ew Ex ?_;intro wz hS9;have HS:=aA hS9;clear hS9;(try refine nm ?_);have M3:=True.intro)|(clear M1;refine wl_allocR rfl rfl HS.out newP ?_;intro gp wz hS9;have HS:=aA hS9;clear hS9;(try refine nm ?_);have M2:=True.intro)|(clear M0;go_at_call 38;(with_reducible refine(from_some _ HF.out HLP.out HRP.out).mono ?_);rintro e wy ⟨zp,hzp,rfl,hb⟩;have HS:=aA (HS.out.call hb);have M1:=True.intro))
    go_ret
    exact⟨Ey,HS.out.below⟩
   | true =>
    have HMY:=aA hmy
    have HV:=aA ((ver_right (m:=x) hf hg hmy).trans rfl)
    clear hrp hrx hrg hp hx hg hf hmy hr1 hr2
    go_enter Tryz.func12,Tryz.ntmps12
    have M0:=True.intro
    go_upto_region 4 with(first|(clear M3;go_at_call 39;(with_reducible refine(mayB _ HMY.out HL2.out (HR2.out.below HS.out.below)).mono ?_);rintro e wy ⟨rfl,hb⟩;have HS:=aA (HS.out.call hb);have M4:=True.intro)|(clear M2;refine wl_storeR rfl rfl rfl rfl HS.out rowP .head Ew Ex ?_;intro wz hS9;have HS:=aA hS9;clear hS9;(try refine nm ?_);have M3:=True.intro)|(clear M1;refine wl_allocR rfl rfl HS.out newP ?_;intro gp wz hS9;have HS:=aA hS9;clear hS9;(try refine nm ?_);have M2:=True.intro)|(clear M0;go_at_call 38;(with_reducible refine(from_some _ HF.out HLP.out HRP.out).mono ?_);rintro e wy ⟨zp,hzp,rfl,hb⟩;have HS:=aA (HS.out.call hb);have M1:=True.intro))
    have HS:=aA HS.out.drew
    refine aD [(0,1),(1,1),(2,1),(3,1),(4,1),(5,1)] Bt Bt (fun _ _ _ _ h=>h) ?_
    generalize wy.drew=wq at HS ⊢
    (refine pT (v:=?_) rfl rfl ?_);(try refine nm ?_)
    (refine pT (v:=?_) rfl rfl ?_);(try refine nm ?_)
    (refine pT (v:=?_) rfl rfl ?_);(try refine nm ?_)
    (refine pT (v:=?_) rfl rfl ?_);(try refine nm ?_)
    (refine pT (v:=?_) rfl rfl ?_);(try refine nm ?_)
    (refine pT (v:=?_) rfl rfl ?_);(try refine nm ?_)
    refine wpT_nil ?_
    go_upto_region 6 with(go_at_call 40;(with_reducible refine(sum3 _ HL1.out HLP.out HLX.out An (HR1.out.below HS.out.below) (HRP.out.below HS.out.below) (HRX.out.below HS.out.below)).mono ?_);rintro e wy ⟨Bh,dh,rfl,hb,ho⟩;have HS:=aA ((HS.out.skip _).row hb ho);clear ho)
    have HS:=aA HS.out.drew
    refine aU [(8,12)] [(1,1),(3,0),(4,1),(0,2),(2,2),(5,2),(6,2),(7,2)] (.op 9 2 (.nil)) zP 63 Bt Bt Bt (by intro p hp;simp only[List.mem_cons,List.not_mem_nil,or_false] at hp;subst hp;exact flOp_of rfl rfl rfl (fun ev x=>eM rfl newP ev x)) (fun _ _ _ _ h=>h) ?_
    generalize wy.drew=W0 at HS ⊢
    have hX:=Below.refl W0.heap.size W0
    (refine pX (v:=?_) rfl rfl ?_);(try refine nm ?_)
    refine aG rfl rfl rfl rfl HS.out (.tail _ (.head _)) rowP (.all (PtV.arr hzp)) ?_;(try refine nm ?_)
    (refine pX (v:=?_) rfl rfl ?_);(try refine nm ?_)
    refine gV rfl rfl rfl enBaseMc rfl (fun x hx=>baseP x) ?_;rintro xw e wy hx ⟨z1,hz1,rfl,hb⟩;refine⟨_,rfl,hb,?_⟩;have hX:=bnx (bnx hX hx) hb;(try refine nm ?_)
    refine gV rfl rfl rfl enMulMc rfl (fun x hx=>mulP_any _ _ _ _ x (PtN.v hz1) HL2.out An (HR2.out.below (bnx HS.out.below (bnx hX hx)))) ?_;rintro xw e wy hx ⟨z2,hz2,rfl,hb⟩;refine⟨_,rfl,hb,?_⟩;have hX:=bnx (bnx hX hx) hb;(try refine nm ?_)
    refine gV rfl rfl rfl enMulMc rfl (fun x hx=>mulP_any _ _ _ _ x hzp (fO _) An ((HS.out.rd 0 rfl).below (bnx hX hx))) ?_;rintro xw e wy hx ⟨z3,hz3,rfl,hb⟩;refine⟨_,rfl,hb,?_⟩;have hX:=bnx (bnx hX hx) hb;(try refine nm ?_)
    refine gV rfl rfl rfl enNegMc rfl (fun x hx=>negP x (PtN.v hz3)) ?_;rintro xw e wy hx ⟨z4,hz4,rfl,hb⟩;refine⟨_,rfl,hb,?_⟩;have hX:=bnx (bnx hX hx) hb;(try refine nm ?_)
    refine gV rfl rfl rfl enAddMc rfl (fun x hx=>addP x (PtN.v hz2) (PtN.v hz4)) ?_;rintro xw e wy hx ⟨z5,hz5,rfl,hb⟩;refine⟨_,rfl,hb,?_⟩;have hX:=bnx (bnx hX hx) hb;(try refine nm ?_)
    refine wpX_nil ?_;intro G xz hx0 hx hF;have hS9:=HS.out.floats hx0 hF _ Bz (fun _ h=>h);simp only[List.map_cons,List.map_nil,List.cons_append,List.nil_append] at hS9;have HS:=aA hS9;have HX:=aA hx0;have HG:=aA hF.at_;clear hS9 hF hx0 hx;simp only[dU,List.foldl_cons,List.foldl_nil];(try refine nm ?_)
    refine aS rfl rfl rfl rfl rfl HS.out HX.out (HG.out 8 B0).1 rowP (.head) arr_zP (PtN.arr hz5) ?_;intro wz hS9 hX9;have HS:=aA hS9;have HX:=aA hX9;clear hS9 hX9;(try refine nm ?_)
    refine bC ?_
    have M0:=True.intro
    go_wp2_with (first|(clear M2;go_at_call 43;(with_reducible refine(eR _ _ 32 _ _ _ _ _ (dV _) HL1.out Bz (HS.out.rd 0 rfl) (HR1.out.below HS.out.below)).mono ?_);rintro e wy ⟨rfl,hb⟩;have HS:=aA (HS.out.call hb);have M3:=True.intro)|(clear M1;go_at_call 37;(with_reducible refine(bytesP32 _ (PtN.v hz5)).mono ?_);rintro e wy ⟨Bw,dw,rfl,hb,ho⟩;have HS:=aA (HS.out.row hb ho);clear ho;have M2:=True.intro)|(clear M0;refine wl_loadP rfl rfl rfl HS.out (.head _) rowP (.all (PtN.arr hz5)) ?_;(try refine nm ?_);have M1:=True.intro))
    go_ret
    exact⟨Ey,HS.out.below⟩
  ·have HV:=aA (ver_long (m:=x) hf (show g.length≠64 by rw[hg];exact h64))
   have d1:((k:Int) !=64)=true:=A9
   have d2:decide ((k:Int)=64)=false:=A9
   clear hrp hrx hrg hp hx hg hf h64
   go_enter Tryz.func12,Tryz.ntmps12
   have M0:=True.intro
   go_wp2_with (first|(clear M2;refine wl_storeR rfl rfl rfl rfl HS.out rowP .head Ew Ex ?_;intro wz hS9;have HS:=aA hS9;clear hS9;(try refine nm ?_);have M3:=True.intro)|(clear M1;refine wl_allocR rfl rfl HS.out newP ?_;intro gp wz hS9;have HS:=aA hS9;clear hS9;(try refine nm ?_);have M2:=True.intro)|(clear M0;go_at_call 38;(with_reducible refine(from_some _ HF.out HLP.out HRP.out).mono ?_);rintro e wy ⟨zp,hzp,rfl,hb⟩;have HS:=aA (HS.out.call hb);have M1:=True.intro))
   go_ret
   exact⟨Ey,HS.out.below⟩
end Go.Proofs.YtnohmgpmmhlloaaGreatDoor
