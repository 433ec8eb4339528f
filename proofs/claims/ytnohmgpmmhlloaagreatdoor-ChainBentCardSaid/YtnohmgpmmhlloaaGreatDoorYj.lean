/-
 Joined of texts of mine,in build order: Br,Bs,Bu,Bw,Bx,Bv,By,Ic,Id. Each says what it proves at its own head.
-/
import Derived.Test.YtnohmgpmmhlloaaGreatDoorYi
set_option linter.unusedSimpArgs false
set_option linter.unusedVariables false
set_option maxRecDepth 100000
set_option maxHeartbeats 25600000
namespace Go.Proofs.YtnohmgpmmhlloaaGreatDoor
open Go.RowKit
theorem wl_build4 {P:Program}{ops:Array Oper}{Q:Exit→Act→World→Prop}{rest:List Oper}{o:Oper}{a:Act}{w:World}{t:TypeId}{A:Array Value→Prop}{p q r s:Operand}{va vb vc vd:Array Value}(hgd:o.guard=none)(ho:o.op=.build t #[(0,p),(1,q),(2,r),(3,s)])(h0:a.eval p=.agg va)(h1:a.eval q=.agg vb)(h2:a.eval r=.agg vc)(h3:a.eval s=.agg vd)
  (hB:BuildOf P t A)(ha:A va)(hb:A vb)(hc:A vc)(hd:A vd)(h:wpList P ops Q rest (a.put o.dst (.agg (fS va vb vc vd))) w):wpList P ops Q (o::rest) a w:=
 wpList_plain hgd fun K hK=>by
  unfold Oper.wp
  rw[bB ho h0 h1 h2 h3 hB ha hb hc hd w]
  exact hK _ _ h
theorem wl_build0 {P:Program}{ops:Array Oper}{Q:Exit→Act→World→Prop}{rest:List Oper}{o:Oper}{a:Act}{w:World}{t:TypeId}{v:Array Value}(hgd:o.guard=none)(ho:o.op=.build t #[])
  (hB:P.built t []=some v)(h:wpList P ops Q rest (a.put o.dst (.agg v)) w):wpList P ops Q (o::rest) a w:=
 wpList_plain hgd fun K hK=>by
  have e:(execOp a.eval o).run P w=.ok (.value (.agg v)) w:=by
   have e2:((#[]:Array (Nat×Operand)).map fun(i,x)=>(i,a.eval x)).toList=[]:=B0
   unfold execOp
   simp only[ho]
   simp only[Sem.run_bind,run_build w t _ _ (by rw[e2];exact hB),Result.andThen_ok]
   rfl
  unfold Oper.wp
  rw[e]
  exact hK _ _ h
theorem build0N:Tryz.prog.built 130 []=some #[.int .i64 0,.int .i64 0,.int .i64 0,.int .i64 0,.int .i64 0,.int .i64 0,.int .i64 0,.int .i64 0,.int .i64 0,.int .i64 0,.int .i64 0,.int .i64 0,.int .i64 0,.int .i64 0,.int .i64 0,.int .i64 0]:=Bt
theorem na_d:NA #[.int .i64 30883,.int .i64 4953,.int .i64 19914,.int .i64 30187,.int .i64 55467,.int .i64 16705,.int .i64 2637,.int .i64 112,.int .i64 59544,.int .i64 30585,.int .i64 16505,.int .i64 36039,.int .i64 65139,.int .i64 11119,.int .i64 27886,.int .i64 20995] dF:=by
 have h:=ne_of (37095705934669439343138083508754565189542113879843219016388785533085940283555) [30883,4953,19914,30187,55467,16705,2637,112,59544,30585,16505,36039,65139,11119,27886,20995] rfl Bz Cj
 rw[show toF 37095705934669439343138083508754565189542113879843219016388785533085940283555=dF from Fin.ext (by rw[dF_val];show _%Pq=_;unfold Pq;decide)] at h
 exact⟨_,rfl,h⟩
theorem na_i:NA #[.int .i64 41136,.int .i64 18958,.int .i64 6951,.int .i64 50414,.int .i64 58488,.int .i64 44335,.int .i64 6150,.int .i64 12099,.int .i64 55207,.int .i64 15867,.int .i64 153,.int .i64 11085,.int .i64 57099,.int .i64 20417,.int .i64 9344,.int .i64 11139] iF:=by
 have h:=ne_of (19681161376707505956807079304988542015446066515923890162744021073123829784752) [41136,18958,6951,50414,58488,44335,6150,12099,55207,15867,153,11085,57099,20417,9344,11139] rfl Bz Cj
 rw[show toF 19681161376707505956807079304988542015446066515923890162744021073123829784752=iF from Fin.ext (by show _%Pq=iN;unfold Pq iN;decide)] at h
 exact⟨_,rfl,h⟩
theorem na_x:NA #[.int .i64 54554,.int .i64 36645,.int .i64 11616,.int .i64 51542,.int .i64 42930,.int .i64 38181,.int .i64 51040,.int .i64 26924,.int .i64 56412,.int .i64 64982,.int .i64 57905,.int .i64 49316,.int .i64 21502,.int .i64 52590,.int .i64 14035,.int .i64 8553] Bp.x:=by
 have h:=ne_of (15112221349535400772501151409588531511454012693041857206046113283949847762202) [54554,36645,11616,51542,42930,38181,51040,26924,56412,64982,57905,49316,21502,52590,14035,8553] rfl Bz Cj
 rw[show toF 15112221349535400772501151409588531511454012693041857206046113283949847762202=Bp.x from rfl] at h
 exact⟨_,rfl,h⟩
theorem na_y:NA #[.int .i64 26200,.int .i64 26214,.int .i64 26214,.int .i64 26214,.int .i64 26214,.int .i64 26214,.int .i64 26214,.int .i64 26214,.int .i64 26214,.int .i64 26214,.int .i64 26214,.int .i64 26214,.int .i64 26214,.int .i64 26214,.int .i64 26214,.int .i64 26214] Bp.y:=by
 have h:=ne_of (46316835694926478169428394003475163141307993866256225615783033603165251855960) [26200,26214,26214,26214,26214,26214,26214,26214,26214,26214,26214,26214,26214,26214,26214,26214] rfl Bz Cj
 rw[show toF 46316835694926478169428394003475163141307993866256225615783033603165251855960=Bp.y from rfl] at h
 exact⟨_,rfl,h⟩
theorem na_0:NA #[.int .i64 0,.int .i64 0,.int .i64 0,.int .i64 0,.int .i64 0,.int .i64 0,.int .i64 0,.int .i64 0,.int .i64 0,.int .i64 0,.int .i64 0,.int .i64 0,.int .i64 0,.int .i64 0,.int .i64 0,.int .i64 0] 0:=na_zero
structure QtN (v:Array Value)(P:Ed):Prop where
 ex:∃A a b c d,v=fS a b c d∧NA a A.X∧NA b A.Y∧NA c A.Z∧NA d A.T∧Rp A P
theorem QtN.arr {v:Array Value}{P:Ed}(h:QtN v P):Arr 64 v:=by
 obtain⟨A,a,b,c,d,rfl,h2,h3,h4,h5,_⟩:=h.ex
 exact quad_arr h2.arr h3.arr h4.arr h5.arr rfl
def ResQ (w:World)(P:Ed)(e:Ending)(w':World):Prop:=∃v,QtN v P∧e=.returned (.agg v)∧Below w.heap.size w w'
theorem dNA (w:World):Calls Tryz.prog 158 #[] w (ResA w dF):=by
 have hc:=na_d
 have HS:=aA (St.init w NoB)
 go_enter Tryz.func158,Tryz.ntmps158
 go_wp2_with (first|(refine wl_loadP rfl rfl rfl HS.out Dt Du Fo ?_;(try refine nm ?_))|(refine wl_storeR rfl rfl rfl rfl HS.out Du Dw Dv Dv ?_;intro wz hS9;have HS:=aA hS9;clear hS9;(try refine nm ?_))|(refine wl_allocR rfl rfl HS.out Dx ?_;intro gz wz hS9;have HS:=aA hS9;clear hS9;(try refine nm ?_))|(refine wl_boxR rfl rfl rfl HS.out ?_;intro gz wz hS9;have HS:=aA hS9;clear hS9;(try refine nm ?_)))
 refine bodyPost_ret (results_cell_row rfl _ _ _ _ _ _ _ rfl (HS.out.heapM Dt) Tryz.underlying130 rfl Dy) rfl ?_
 exact⟨_,hc,rfl,HS.out.below⟩
theorem iNA (w:World):Calls Tryz.prog 170 #[] w (ResA w iF):=by
 have hc:=na_i
 have HS:=aA (St.init w NoB)
 go_enter Tryz.func170,Tryz.ntmps170
 go_wp2_with (first|(refine wl_loadP rfl rfl rfl HS.out Dt Du Fo ?_;(try refine nm ?_))|(refine wl_storeR rfl rfl rfl rfl HS.out Du Dw Dv Dv ?_;intro wz hS9;have HS:=aA hS9;clear hS9;(try refine nm ?_))|(refine wl_allocR rfl rfl HS.out Dx ?_;intro gz wz hS9;have HS:=aA hS9;clear hS9;(try refine nm ?_))|(refine wl_boxR rfl rfl rfl HS.out ?_;intro gz wz hS9;have HS:=aA hS9;clear hS9;(try refine nm ?_)))
 refine bodyPost_ret (results_cell_row rfl _ _ _ _ _ _ _ rfl (HS.out.heapM Dt) Tryz.underlying130 rfl Dy) rfl ?_
 exact⟨_,hc,rfl,HS.out.below⟩
theorem en33_bs (args:Array Value)(w:World):(callFunc 140 args).run Tryz.prog w=.ok (.enter 140 args) w:=Bt
theorem en34_bs (args:Array Value)(w:World):(callFunc 137 args).run Tryz.prog w=.ok (.enter 137 args) w:=Bt
theorem en34_pq (args:Array Value)(w:World):(callFunc 137 args).run Tryz.prog w=.ok (.enter 137 args) w:=Bt
theorem en42_nq (args:Array Value)(w:World):(callFunc 156 args).run Tryz.prog w=.ok (.enter 156 args) w:=Bt
theorem en42_pq (args:Array Value)(w:World):(callFunc 156 args).run Tryz.prog w=.ok (.enter 156 args) w:=Bt
theorem en43_pq (args:Array Value)(w:World):(callFunc 157 args).run Tryz.prog w=.ok (.enter 157 args) w:=Bt
theorem zeroQ (w:World):Calls Tryz.prog 139 #[] w (ResQ w .zero):=by
 obtain⟨zz,hzz,hc⟩:∃v,Tryz.prog.built 130 []=some v∧NA v 0:=⟨_,build0N,na_0⟩
 have HS:=aA (St.init w NoB)
 go_enter Tryz.func139,Tryz.ntmps139
 go_wp2_with (first|(refine wl_allocR rfl rfl HS.out newQ ?_;intro gz wz hS9;have HS:=aA hS9;clear hS9;(try refine nm ?_))|(go_at_call 140;(with_reducible refine(smallNA1 _).mono ?_);rintro e wy ⟨z,hz,rfl,hb⟩;have HS:=aA (HS.out.call hb))|(refine wl_build0 rfl rfl hzz ?_;(try refine nm ?_))|(refine wl_build4 rfl rfl rfl rfl rfl rfl buildQ (exN hc) (exN Df) (exN Df) (exN hc) ?_;(try refine nm ?_))|(refine wl_storeR rfl rfl rfl rfl HS.out rowQ (.head) E8 E8 ?_;intro wz hS9;have HS:=aA hS9;clear hS9;(try refine nm ?_)))
 refine bodyPost_ret (results_cell_row rfl _ _ _ _ _ _ _ rfl (HS.out.heapM Dt) Tryz.underlying132 rfl Dy) rfl ?_
 exact⟨_,⟨⟨0,1,1,0⟩,_,_,_,_,rfl,hc,Df,Df,hc,rp_zero⟩,rfl,HS.out.below⟩
theorem baseQ (w:World):Calls Tryz.prog 101 #[] w (ResQ w Bp):=by
 have hx:=na_x
 have hy:=na_y
 have HS:=aA (St.init w NoB)
 go_enter Tryz.func101,Tryz.ntmps101
 go_wp2_with (first|(refine wl_loadP rfl rfl rfl HS.out Dt Du Fo ?_;(try refine nm ?_))|(refine wl_storeR rfl rfl rfl rfl HS.out Du Dw Dv Dv ?_;intro wz hS9;have HS:=aA hS9;clear hS9;(try refine nm ?_))|(refine wl_allocR rfl rfl HS.out Dx ?_;intro gz wz hS9;have HS:=aA hS9;clear hS9;(try refine nm ?_))|(refine wl_boxR rfl rfl rfl HS.out ?_;intro gz wz hS9;have HS:=aA hS9;clear hS9;(try refine nm ?_)))
 have HS:=aA HS.out.drew
 refine aD [(0,0),(1,0),(3,0),(4,0),(2,2),(5,2),(6,1),(7,3)] Bt Bt (fun _ _ _ _ h=>h) ?_
 refine aF rfl rfl rfl rfl HS.out (.tail _ (.head _)) rowN (.all E9) ?_;(try refine nm ?_)
 refine aF rfl rfl rfl rfl HS.out (.head _) rowN (.all E9) ?_;(try refine nm ?_)
 refine aF rfl rfl rfl rfl HS.out (.tail _ (.head _)) rowN (.all E9) ?_;(try refine nm ?_)
 refine aF rfl rfl rfl rfl HS.out (.head _) rowN (.all E9) ?_;(try refine nm ?_)
 refine aJ rfl rfl rfl en33_bs rfl (smallNA1 _) ?_;rintro e wy ⟨z,hz,rfl,hb⟩;refine⟨_,rfl,hb,?_⟩;have HS:=aA (HS.out.call hb);(try refine nm ?_)
 refine aJ rfl rfl rfl en34_bs rfl (bV _ ‹_› ‹_›) ?_;rintro e wy ⟨z,hz,rfl,hb⟩;refine⟨_,rfl,hb,?_⟩;have HS:=aA (HS.out.call hb);(try refine nm ?_)
 refine aI rfl rfl (fun x=>bB rfl rfl rfl rfl rfl buildQ (exN ‹_›) (exN ‹_›) (exN ‹_›) (exN ‹_›) x) ?_;(try refine nm ?_)
 refine wpT_late rfl rfl ?_;intro K hK;refine wp_storeR rfl rfl rfl HS.out rowQ (.tail (.tail (.head))) E8 E8 ?_;intro wz hS9;have HS:=aA hS9;clear hS9;refine hK _ _ ?_;(try refine nm ?_)
 refine wpT_nil ?_
 go_wp2_with fail
 refine bodyPost_ret (results_cell_row rfl _ _ _ _ _ _ _ rfl (HS.out.heapM Dt) Tryz.underlying132 rfl Dy) rfl ?_
 exact⟨_,⟨⟨Bp.x,Bp.y,1,Bp.x*Bp.y⟩,_,_,_,_,rfl,hx,hy,Df,Df,rp_of Bp⟩,rfl,HS.out.below⟩
theorem zsub (x:FK):0 - x=-x:=Cu
theorem negQ {v:Array Value}{P:Ed}(w:World)(hv:QtN v P):Calls Tryz.prog 119 #[.agg v] w (ResQ w P.neg):=by
 obtain⟨⟨X,Y,Z,T⟩,a,b,c,d,rfl,h1,h2,h3,h4,h5⟩:=hv.ex
 have hc:=na_0
 have HS:=aA (St.init w NoB)
 go_enter Tryz.func119,Tryz.ntmps119
 go_wp2_with (first|(refine wl_loadP rfl rfl rfl HS.out Dt Du Fo ?_;(try refine nm ?_))|(refine wl_storeR rfl rfl rfl rfl HS.out Du Dw Dv Dv ?_;intro wz hS9;have HS:=aA hS9;clear hS9;(try refine nm ?_))|(refine wl_allocR rfl rfl HS.out Dx ?_;intro gz wz hS9;have HS:=aA hS9;clear hS9;(try refine nm ?_))|(refine wl_boxR rfl rfl rfl HS.out ?_;intro gz wz hS9;have HS:=aA hS9;clear hS9;(try refine nm ?_)))
 have HS:=aA HS.out.drew
 refine aD [(0,1),(1,1),(2,0),(4,1),(5,0),(6,1),(7,0),(8,1),(9,1),(10,0),(3,2),(11,2),(12,1),(13,3)] Bt Bt (fun _ _ _ _ h=>h) ?_
 (refine pT (v:=?_) rfl rfl ?_);(try refine nm ?_)
 (refine pT (v:=?_) rfl rfl ?_);(try refine nm ?_)
 refine aF rfl rfl rfl rfl HS.out (.tail _ (.head _)) rowN (.q0 (NA.arr ‹_›)) ?_;(try refine nm ?_)
 (refine pT (v:=?_) rfl rfl ?_);(try refine nm ?_)
 refine aF rfl rfl rfl rfl HS.out (.tail _ (.head _)) rowN (.q1 (NA.arr ‹_›) (NA.arr ‹_›)) ?_;(try refine nm ?_)
 (refine pT (v:=?_) rfl rfl ?_);(try refine nm ?_)
 refine aF rfl rfl rfl rfl HS.out (.tail _ (.head _)) rowN (.q2 (NA.arr ‹_›) (NA.arr ‹_›) (NA.arr ‹_›)) ?_;(try refine nm ?_)
 (refine pT (v:=?_) rfl rfl ?_);(try refine nm ?_)
 (refine pT (v:=?_) rfl rfl ?_);(try refine nm ?_)
 refine aF rfl rfl rfl rfl HS.out (.tail _ (.head _)) rowN (.q3 (NA.arr ‹_›) (NA.arr ‹_›) (NA.arr ‹_›) (NA.arr ‹_›)) ?_;(try refine nm ?_)
 refine aJ rfl rfl rfl en42_nq rfl (subNA _ ‹_› ‹_›) ?_;rintro e wy ⟨z,hz,rfl,hb⟩;refine⟨_,rfl,hb,?_⟩;have HS:=aA (HS.out.call hb);(try refine nm ?_)
 refine aJ rfl rfl rfl en42_nq rfl (subNA _ ‹_› ‹_›) ?_;rintro e wy ⟨z,hz,rfl,hb⟩;refine⟨_,rfl,hb,?_⟩;have HS:=aA (HS.out.call hb);(try refine nm ?_)
 refine aI rfl rfl (fun x=>bB rfl rfl rfl rfl rfl buildQ (exN ‹_›) (exN ‹_›) (exN ‹_›) (exN ‹_›) x) ?_;(try refine nm ?_)
 refine wpT_late rfl rfl ?_;intro K hK;refine wp_storeR rfl rfl rfl HS.out rowQ (.head) E8 E8 ?_;intro wz hS9;have HS:=aA hS9;clear hS9;refine hK _ _ ?_;(try refine nm ?_)
 refine wpT_nil ?_
 go_wp2_with fail
 refine bodyPost_ret (results_cell_row rfl _ _ _ _ _ _ _ rfl (HS.out.heapM Dt) Tryz.underlying132 rfl Dy) rfl ?_
 exact⟨_,⟨⟨-X,Y,Z,-T⟩,_,_,_,_,rfl,by rw[←zsub];assumption,h2,h3,by rw[←zsub];assumption,rp_neg h5⟩,rfl,HS.out.below⟩
theorem plJ_page (A B:Pj):plJ A B =
 ⟨((A.Y+A.X)*(B.Y+B.X) - (A.Y - A.X)*(B.Y - B.X))*(A.Z*B.Z+A.Z*B.Z - A.T*B.T*(dF+dF)),
  ((A.Y+A.X)*(B.Y+B.X)+(A.Y - A.X)*(B.Y - B.X))*(A.Z*B.Z+A.Z*B.Z+A.T*B.T*(dF+dF)),
  (A.Z*B.Z+A.Z*B.Z+A.T*B.T*(dF+dF))*(A.Z*B.Z+A.Z*B.Z - A.T*B.T*(dF+dF)),
  ((A.Y+A.X)*(B.Y+B.X) - (A.Y - A.X)*(B.Y - B.X))*((A.Y+A.X)*(B.Y+B.X)+(A.Y - A.X)*(B.Y - B.X))⟩:=by
 unfold plJ
 congr 1<;>grind
theorem plusQ {u v:Array Value}{P Q:Ed}(w:World)(hu:QtN u P)(hv:QtN v Q):Calls Tryz.prog 118 #[.agg u,.agg v] w (ResQ w (P.add Q)):=by
 obtain⟨⟨X,Y,Z,T⟩,a,b,c,d,rfl,h1,h2,h3,h4,h5⟩:=hu.ex
 obtain⟨⟨X',Y',Z',T'⟩,a',b',c',d',rfl,g1,g2,g3,g4,g5⟩:=hv.ex
 have HS:=aA (St.init w NoB)
 go_enter Tryz.func118,Tryz.ntmps118
 go_wp2_with (first|(refine wl_loadP rfl rfl rfl HS.out Dt Du Fo ?_;(try refine nm ?_))|(refine wl_storeR rfl rfl rfl rfl HS.out Du Dw Dv Dv ?_;intro wz hS9;have HS:=aA hS9;clear hS9;(try refine nm ?_))|(refine wl_allocR rfl rfl HS.out Dx ?_;intro gz wz hS9;have HS:=aA hS9;clear hS9;(try refine nm ?_))|(refine wl_boxR rfl rfl rfl HS.out ?_;intro gz wz hS9;have HS:=aA hS9;clear hS9;(try refine nm ?_)))
 have HS:=aA HS.out.drew
 refine aU [(11,5)] [(0,1),(1,0),(2,1),(3,0),(5,1),(6,0),(7,1),(8,0),(4,2),(9,2),(10,2)] (.op 12 2 (.nil)) zN 130 Bt Bt Bt Fa (fun _ _ _ _ h=>h) ?_
 (refine pX (v:=?_) rfl rfl ?_);(try refine nm ?_)
 refine aG rfl rfl rfl rfl HS.out (.tail _ (.tail _ (.head _))) rowN (.q1 (NA.arr ‹_›) (NA.arr ‹_›)) ?_;(try refine nm ?_)
 (refine pX (v:=?_) rfl rfl ?_);(try refine nm ?_)
 refine aG rfl rfl rfl rfl HS.out (.tail _ (.tail _ (.head _))) rowN (.q0 (NA.arr ‹_›)) ?_;(try refine nm ?_)
 (refine pX (v:=?_) rfl rfl ?_);(try refine nm ?_)
 refine aG rfl rfl rfl rfl HS.out (.tail _ (.head _)) rowN (.q1 (NA.arr ‹_›) (NA.arr ‹_›)) ?_;(try refine nm ?_)
 (refine pX (v:=?_) rfl rfl ?_);(try refine nm ?_)
 refine aG rfl rfl rfl rfl HS.out (.tail _ (.head _)) rowN (.q0 (NA.arr ‹_›)) ?_;(try refine nm ?_)
 refine aH rfl rfl rfl en42_pq rfl (fun x=>subNA x ‹_› ‹_›) ?_;rintro xw e wy ⟨z,hz,rfl,hb⟩;refine⟨_,rfl,hb,?_⟩;(try refine nm ?_)
 refine aH rfl rfl rfl en42_pq rfl (fun x=>subNA x ‹_› ‹_›) ?_;rintro xw e wy ⟨z,hz,rfl,hb⟩;refine⟨_,rfl,hb,?_⟩;(try refine nm ?_)
 refine aH rfl rfl rfl en34_pq rfl (fun x=>bV x ‹_› ‹_›) ?_;rintro xw e wy ⟨z,hz,rfl,hb⟩;refine⟨_,rfl,hb,?_⟩;(try refine nm ?_)
 refine wpX_nil ?_;intro G xz hx0 hx hF;have hS9:=HS.out.floats hx0 hF _ Bz (fun _ h=>h);simp only[List.map_cons,List.map_nil,List.cons_append,List.nil_append] at hS9;have HS:=aA hS9;have HX:=aA hx0;have HG:=aA hF.at_;clear hS9 hF hx0 hx;simp only[dU,List.foldl_cons,List.foldl_nil];(try refine nm ?_)
 refine aS rfl rfl rfl rfl rfl HS.out HX.out (HG.out 11 B0).1 rowN (.head) E9 E9 ?_;intro wz hS9 hX9;have HS:=aA hS9;have HX:=aA hX9;clear hS9 hX9;(try refine nm ?_)
 refine bC ?_
 go_wp2_with fail
 have HS:=aA HS.out.drew
 refine aU [(11,6)] [(0,1),(1,0),(2,1),(3,0),(5,1),(6,0),(7,1),(8,0),(4,2),(9,2),(10,2)] (.op 12 2 (.nil)) zN 130 Bt Bt Bt Fa (fun _ _ _ _ h=>h) ?_
 (refine pX (v:=?_) rfl rfl ?_);(try refine nm ?_)
 refine aG rfl rfl rfl rfl HS.out (.tail _ (.tail _ (.tail _ (.head _)))) rowN (.q1 (NA.arr ‹_›) (NA.arr ‹_›)) ?_;(try refine nm ?_)
 (refine pX (v:=?_) rfl rfl ?_);(try refine nm ?_)
 refine aG rfl rfl rfl rfl HS.out (.tail _ (.tail _ (.tail _ (.head _)))) rowN (.q0 (NA.arr ‹_›)) ?_;(try refine nm ?_)
 (refine pX (v:=?_) rfl rfl ?_);(try refine nm ?_)
 refine aG rfl rfl rfl rfl HS.out (.tail _ (.tail _ (.head _))) rowN (.q1 (NA.arr ‹_›) (NA.arr ‹_›)) ?_;(try refine nm ?_)
 (refine pX (v:=?_) rfl rfl ?_);(try refine nm ?_)
 refine aG rfl rfl rfl rfl HS.out (.tail _ (.tail _ (.head _))) rowN (.q0 (NA.arr ‹_›)) ?_;(try refine nm ?_)
 refine aH rfl rfl rfl en43_pq rfl (fun x=>addNA x ‹_› ‹_›) ?_;rintro xw e wy ⟨z,hz,rfl,hb⟩;refine⟨_,rfl,hb,?_⟩;(try refine nm ?_)
 refine aH rfl rfl rfl en43_pq rfl (fun x=>addNA x ‹_› ‹_›) ?_;rintro xw e wy ⟨z,hz,rfl,hb⟩;refine⟨_,rfl,hb,?_⟩;(try refine nm ?_)
 refine aH rfl rfl rfl en34_pq rfl (fun x=>bV x ‹_› ‹_›) ?_;rintro xw e wy ⟨z,hz,rfl,hb⟩;refine⟨_,rfl,hb,?_⟩;(try refine nm ?_)
 refine wpX_nil ?_;intro G xz hx0 hx hF;have hS9:=HS.out.floats hx0 hF _ Bz (fun _ h=>h);simp only[List.map_cons,List.map_nil,List.cons_append,List.nil_append] at hS9;have HS:=aA hS9;have HX:=aA hx0;have HG:=aA hF.at_;clear hS9 hF hx0 hx;simp only[dU,List.foldl_cons,List.foldl_nil];(try refine nm ?_)
 refine aS rfl rfl rfl rfl rfl HS.out HX.out (HG.out 11 B0).1 rowN (.head) E9 E9 ?_;intro wz hS9 hX9;have HS:=aA hS9;have HX:=aA hX9;clear hS9 hX9;(try refine nm ?_)
 refine bC ?_
 go_wp2_with (first|(go_at_call 158;(with_reducible refine(dNA _).mono ?_);rintro e wy ⟨z,hz,rfl,hb⟩;have HS:=aA (HS.out.call hb))|(go_at_call 137;(with_reducible refine(bV _ Df Df).mono ?_);rintro e wy ⟨z,hz,rfl,hb⟩;try have HS:=aA (HS.out.call hb))|(go_at_call 157;(with_reducible refine(addNA _ Df Df).mono ?_);rintro e wy ⟨z,hz,rfl,hb⟩;try have HS:=aA (HS.out.call hb))|(go_at_call 156;(with_reducible refine(subNA _ Df Df).mono ?_);rintro e wy ⟨z,hz,rfl,hb⟩;try have HS:=aA (HS.out.call hb))|(go_at_call 135;(with_reducible refine(invNA _ Df).mono ?_);rintro e wy ⟨z,hz,rfl,hb⟩;try have HS:=aA (HS.out.call hb))|(go_at_call 140;(with_reducible refine(smallNA1 _).mono ?_);rintro e wy ⟨z,hz,rfl,hb⟩;try have HS:=aA (HS.out.call hb))|(refine wl_loadP rfl rfl rfl HS.out (.tail _ (.tail _ (.tail _ (.tail _ (.head _))))) rowN (.q3 (NA.arr ‹_›) (NA.arr ‹_›) (NA.arr ‹_›) (NA.arr ‹_›)) ?_;(try refine nm ?_))|(refine wl_loadP rfl rfl rfl HS.out (.tail _ (.tail _ (.tail _ (.head _)))) rowN (.q3 (NA.arr ‹_›) (NA.arr ‹_›) (NA.arr ‹_›) (NA.arr ‹_›)) ?_;(try refine nm ?_))|(refine wl_storeR rfl rfl rfl rfl HS.out rowN (.head) E9 E9 ?_;intro wz hS9;have HS:=aA hS9;clear hS9;(try refine nm ?_))|(refine wl_loadP rfl rfl rfl HS.out (.tail _ (.tail _ (.tail _ (.tail _ (.tail _ (.head _)))))) rowN (.q2 (NA.arr ‹_›) (NA.arr ‹_›) (NA.arr ‹_›)) ?_;(try refine nm ?_))|(refine wl_loadP rfl rfl rfl HS.out (.tail _ (.tail _ (.tail _ (.tail _ (.head _))))) rowN (.q2 (NA.arr ‹_›) (NA.arr ‹_›) (NA.arr ‹_›)) ?_;(try refine nm ?_))|(refine wl_loadP rfl rfl rfl HS.out (.head _) rowN (.all E9) ?_;(try refine nm ?_))|(refine wl_allocR rfl rfl HS.out newN ?_;intro gz wz hS9;have HS:=aA hS9;clear hS9;(try refine nm ?_)))
 have HS:=aA HS.out.drew
 refine aU [(12,9),(13,10),(14,11),(15,12)] [(0,0),(1,0),(3,0),(4,0),(6,0),(7,0),(9,0),(10,0),(2,2),(5,2),(8,2),(11,2)] (.op 16 2 (.op 17 2 (.op 18 2 (.op 19 2 (.nil))))) zN 130 Bt Bt Bt (by intro p hp;simp only[List.mem_cons,List.not_mem_nil,or_false] at hp;rcases hp with rfl|rfl|rfl|rfl<;>exact flOp_of rfl rfl rfl (fun ev x=>eM rfl newN ev x)) (fun _ _ _ _ h=>h) ?_
 refine aG rfl rfl rfl rfl HS.out (.tail _ (.tail _ (.head _))) rowN (.all E9) ?_;(try refine nm ?_)
 refine aG rfl rfl rfl rfl HS.out (.tail _ (.tail _ (.tail _ (.head _)))) rowN (.all E9) ?_;(try refine nm ?_)
 refine aG rfl rfl rfl rfl HS.out (.head _) rowN (.all E9) ?_;(try refine nm ?_)
 refine aG rfl rfl rfl rfl HS.out (.tail _ (.head _)) rowN (.all E9) ?_;(try refine nm ?_)
 refine aG rfl rfl rfl rfl HS.out (.head _) rowN (.all E9) ?_;(try refine nm ?_)
 refine aG rfl rfl rfl rfl HS.out (.tail _ (.head _)) rowN (.all E9) ?_;(try refine nm ?_)
 refine aG rfl rfl rfl rfl HS.out (.tail _ (.tail _ (.head _))) rowN (.all E9) ?_;(try refine nm ?_)
 refine aG rfl rfl rfl rfl HS.out (.tail _ (.tail _ (.tail _ (.head _)))) rowN (.all E9) ?_;(try refine nm ?_)
 refine aH rfl rfl rfl en42_pq rfl (fun x=>subNA x ‹_› ‹_›) ?_;rintro xw e wy ⟨z,hz,rfl,hb⟩;refine⟨_,rfl,hb,?_⟩;(try refine nm ?_)
 refine aH rfl rfl rfl en42_pq rfl (fun x=>subNA x ‹_› ‹_›) ?_;rintro xw e wy ⟨z,hz,rfl,hb⟩;refine⟨_,rfl,hb,?_⟩;(try refine nm ?_)
 refine aH rfl rfl rfl en43_pq rfl (fun x=>addNA x ‹_› ‹_›) ?_;rintro xw e wy ⟨z,hz,rfl,hb⟩;refine⟨_,rfl,hb,?_⟩;(try refine nm ?_)
 refine aH rfl rfl rfl en43_pq rfl (fun x=>addNA x ‹_› ‹_›) ?_;rintro xw e wy ⟨z,hz,rfl,hb⟩;refine⟨_,rfl,hb,?_⟩;(try refine nm ?_)
 refine wpX_nil ?_;intro G xz hx0 hx hF;have hS9:=HS.out.floats hx0 hF _ Bz (fun _ h=>h);simp only[List.map_cons,List.map_nil,List.cons_append,List.nil_append] at hS9;have HS:=aA hS9;have HX:=aA hx0;have HG:=aA hF.at_;clear hS9 hF hx0 hx;simp only[dU,List.foldl_cons,List.foldl_nil];(try refine nm ?_)
 refine aS rfl rfl rfl rfl rfl HS.out HX.out (HG.out 12 B0).1 rowN (.head) E9 E9 ?_;intro wz hS9 hX9;have HS:=aA hS9;have HX:=aA hX9;clear hS9 hX9;(try refine nm ?_)
 refine aS rfl rfl rfl rfl rfl HS.out HX.out (HG.out 13 B0).1 rowN (.tail (.head)) E9 E9 ?_;intro wz hS9 hX9;have HS:=aA hS9;have HX:=aA hX9;clear hS9 hX9;(try refine nm ?_)
 refine aS rfl rfl rfl rfl rfl HS.out HX.out (HG.out 14 B0).1 rowN (.tail (.tail (.head))) E9 E9 ?_;intro wz hS9 hX9;have HS:=aA hS9;have HX:=aA hX9;clear hS9 hX9;(try refine nm ?_)
 refine aS rfl rfl rfl rfl rfl HS.out HX.out (HG.out 15 B0).1 rowN (.tail (.tail (.tail (.head)))) E9 E9 ?_;intro wz hS9 hX9;have HS:=aA hS9;have HX:=aA hX9;clear hS9 hX9;(try refine nm ?_)
 refine bC ?_
 go_wp2_with fail
 have HS:=aA HS.out.drew
 refine aD [(0,0),(1,0),(3,0),(4,0),(6,0),(7,0),(9,0),(10,0),(2,2),(5,2),(8,2),(11,2),(12,1),(13,3)] Bt Bt (fun _ _ _ _ h=>h) ?_
 refine aF rfl rfl rfl rfl HS.out (.head _) rowN (.all E9) ?_;(try refine nm ?_)
 refine aF rfl rfl rfl rfl HS.out (.tail _ (.head _)) rowN (.all E9) ?_;(try refine nm ?_)
 refine aF rfl rfl rfl rfl HS.out (.tail _ (.tail _ (.tail _ (.head _)))) rowN (.all E9) ?_;(try refine nm ?_)
 refine aF rfl rfl rfl rfl HS.out (.tail _ (.tail _ (.head _))) rowN (.all E9) ?_;(try refine nm ?_)
 refine aF rfl rfl rfl rfl HS.out (.tail _ (.tail _ (.head _))) rowN (.all E9) ?_;(try refine nm ?_)
 refine aF rfl rfl rfl rfl HS.out (.tail _ (.head _)) rowN (.all E9) ?_;(try refine nm ?_)
 refine aF rfl rfl rfl rfl HS.out (.head _) rowN (.all E9) ?_;(try refine nm ?_)
 refine aF rfl rfl rfl rfl HS.out (.tail _ (.tail _ (.tail _ (.head _)))) rowN (.all E9) ?_;(try refine nm ?_)
 refine aJ rfl rfl rfl en34_pq rfl (bV _ ‹_› ‹_›) ?_;rintro e wy ⟨z,hz,rfl,hb⟩;refine⟨_,rfl,hb,?_⟩;have HS:=aA (HS.out.call hb);(try refine nm ?_)
 refine aJ rfl rfl rfl en34_pq rfl (bV _ ‹_› ‹_›) ?_;rintro e wy ⟨z,hz,rfl,hb⟩;refine⟨_,rfl,hb,?_⟩;have HS:=aA (HS.out.call hb);(try refine nm ?_)
 refine aJ rfl rfl rfl en34_pq rfl (bV _ ‹_› ‹_›) ?_;rintro e wy ⟨z,hz,rfl,hb⟩;refine⟨_,rfl,hb,?_⟩;have HS:=aA (HS.out.call hb);(try refine nm ?_)
 refine aJ rfl rfl rfl en34_pq rfl (bV _ ‹_› ‹_›) ?_;rintro e wy ⟨z,hz,rfl,hb⟩;refine⟨_,rfl,hb,?_⟩;have HS:=aA (HS.out.call hb);(try refine nm ?_)
 refine aI rfl rfl (fun x=>bB rfl rfl rfl rfl rfl buildQ (exN ‹_›) (exN ‹_›) (exN ‹_›) (exN ‹_›) x) ?_;(try refine nm ?_)
 refine wpT_late rfl rfl ?_;intro K hK;refine wp_storeR rfl rfl rfl HS.out rowQ (.tail (.tail (.tail (.tail (.tail (.tail (.tail (.tail (.head))))))))) E8 E8 ?_;intro wz hS9;have HS:=aA hS9;clear hS9;refine hK _ _ ?_;(try refine nm ?_)
 refine wpT_nil ?_
 go_wp2_with fail
 refine bodyPost_ret (results_cell_row rfl _ _ _ _ _ _ _ rfl (HS.out.heapM Dt) Tryz.underlying132 rfl Dy) rfl ?_
 have hr:=rp_plus h5 g5
 rw[plJ_page] at hr
 exact⟨_,⟨_,_,_,_,_,rfl,Df,Df,Df,Df,hr⟩,rfl,HS.out.below⟩
def halfE:Nat:=2^252 - 3
def fA (i:Nat):List Bool:=(List.range 255).map (fun j=>decide (j<i∧j<252∧j≠1))
theorem iA (i:Nat):(fA i).length=255:=by simp[fA]
theorem halfB_get (i k:Nat)(h:k<255):(fA i)[k]?=some (decide (k<i∧k<252∧k≠1)):=by
 unfold fA
 rw[List.getElem?_map,List.getElem?_range h]
 rfl
theorem halfB_set (i:Nat)(h:i<255):(fA i).set i (decide (i<252∧i≠1))=fA (i+1):=by
 apply List.ext_getElem?
 intro k
 rcases Nat.lt_or_ge k 255 with hk|hk
 ·rw[halfB_get _ _ hk,List.getElem?_set]
  split
  ·rename_i e
   subst e
   rw[if_pos (by rw[iA];exact hk)]
   congr 1
   rw[decide_eq_decide]
   omega
  ·rw[halfB_get _ _ hk]
   congr 1
   rw[decide_eq_decide]
   omega
 ·rw[List.getElem?_eq_none (by rw[List.length_set,iA];exact hk),List.getElem?_eq_none (by rw[iA];exact hk)]
theorem halfBE:bitE (fA 255) 255=halfE:=by unfold halfE;decide +kernel
def HvRel (w:World)(xs:List Int)(iv:Value)(wr:World):Prop:=
 ∃i:Nat,i≤255∧iv=.int .i64 (i:Int)∧St w NoB wr [.cells (w.heap.size+2) (blv (fA i)).toArray 206,.cells (w.heap.size+1) (ivs (List.replicate 16 0)).toArray 130,.cells w.heap.size (ivs xs).toArray 130]
theorem zero255h (W:World):(zeroValue 206).run Tryz.prog W=.ok (.agg (blv (fA 0)).toArray) W:=Bt
theorem enPowerNh (args:Array Value)(w:World):(callFunc 165 args).run Tryz.prog w=.ok (.enter 165 args) w:=Bt
theorem halfN_any (xs:List Int)(X:FK)(w:World)(h:NE xs X) :
  Calls Tryz.prog 169 #[.agg (ivs xs).toArray] w (ResN w (fpw X halfE)):=by
 have HN:=aA h
 have HP:=aA (fun W=>powerN_any xs X (fA 255) W h (iA 255))
 rw[halfBE] at HP
 have hS0:=(((St.init w NoB).alloc (ivs xs).toArray 130).alloc (ivs (List.replicate 16 0)).toArray 130).alloc (blv (fA 0)).toArray 206
 rw[size_alloc1,size_alloc1] at hS0
 have HS0:=aA hS0
 have hz:=zero255h
 clear hS0 h
 go_enter Tryz.func169,Tryz.ntmps169
 go_wp2_with fail
 go_loopw [5] (fun i wr=>HvRel w xs i wr) (fun i _=>255 - (intOf i).toNat)
 case atStart=>exact⟨0,An,rfl,HS0.out⟩
 case round =>
  clear HS0 hz
  obtain⟨i,hi,rfl,hS⟩:=hrel
  have HS:=aA hS
  by_cases hlt:i<255
  ·have d255:decide ((i:Int)<255)=true:=by simp;omega
   have i255:(i:Int)<255:=An
   have c0:wr.cell? ⟨w.heap.size+2,i,none⟩=some (.bool (decide (i<i∧i<252∧i≠1))):=by rw[hS.cell 0 rfl i];exact blv_get (halfB_get i i hlt)
   have f0:=hS.free 0 rfl i
   have HT:=aA (halfB_set i hlt)
   clear hS
   by_cases h2:i=1
   ·subst h2
    go_wp2_with fail
    go_roundw
    case rel =>
     have h3:=HS.out.setCell 0 rfl 1 (.bool false)
     rw[List.set_cons_zero,blv_set] at h3
     exact⟨2,An,rfl,by have:=HT.out;rw[show decide ((1:Nat)<252∧(1:Nat)≠1)=false from by decide] at this;rw[←this];exact h3⟩
    case measure=>(simp[intOf])<;>omega
   ·by_cases h4:i<252
    ·have e4':decide ((i:Int)<252)=true:=by simp;omega
     have n4:(i:Int)<252:=An
     have n2:¬(i:Int)=1:=An
     have e2:((i:Int) !=1)=true:=A9
     have e2':decide ((i:Int)=1)=false:=A9
     have HT2:=aA (show(fA i).set i true=fA (i+1) by have:=HT.out;rw[show decide (i<252∧i≠1)=true from by simp;omega] at this;exact this)
     clear h2 h4 HT
     go_wp2_with fail
     go_roundw
     case rel =>
      have h3:=HS.out.setCell 0 rfl i (.bool true)
      rw[List.set_cons_zero,blv_set,HT2.out] at h3
      exact⟨i+1,An,Cg,h3⟩
     case measure=>(simp[intOf])<;>omega
    ·have e4':decide ((i:Int)<252)=false:=by simp;omega
     have n4:¬(i:Int)<252:=An
     have HT2:=aA (show(fA i).set i false=fA (i+1) by have:=HT.out;rw[show decide (i<252∧i≠1)=false from by simp;omega] at this;exact this)
     clear h2 h4 HT
     go_wp2_with fail
     go_roundw
     case rel =>
      have h3:=HS.out.setCell 0 rfl i (.bool false)
      rw[List.set_cons_zero,blv_set,HT2.out] at h3
      exact⟨i+1,An,Cg,h3⟩
     case measure=>(simp[intOf])<;>omega
  ·obtain rfl:i=255:=by omega
   have hszB:(blv (fA 255)).toArray.size=255:=by rw[List.size_toArray,blv_len,iA]
   clear hS
   go_upto_region 7 with fail
   refine wp_region_list ?_
   refine wpList_load_row rfl 130 (.tmp 1) rfl w.heap.size rfl 130 (ivs xs).toArray _ _ (HS.out.heap 2 rfl) Tryz.underlying130 rfl Ds ?_
   refine wpList_load_row rfl 206 (.tmp 3) rfl (w.heap.size+2) rfl 206 (blv (fA 255)).toArray _ _ (HS.out.heap 0 rfl) Tryz.underlying206 rfl (by rw[hszB];kernel_rfl) ?_
   refine wl_callN rfl rfl enPowerNh rfl (HP.out _) ?_
   rintro e w2 ⟨ys,hy,rfl,hb2⟩
   refine⟨_,rfl,?_⟩
   have HY:=aA hy
   have HS1:=aA (HS.out.call hb2)
   have HS3:=aA (HS1.out.setRow 1 rfl (ivs ys).toArray)
   clear HS hy
   refine wpList_store_row rfl 130 (.tmp 2) (.tmp 19) rfl (w.heap.size+1) (ivs ys).toArray rfl rfl 130 _ (HS1.out.heap 1 rfl) Dr (by rw[bW HY.out];rfl) (ivs_all _) ?_
   refine wpList_nil ?_
   go_wp2_with fail
   refine bodyPost_ret (results_cell_row rfl _ _ (w.heap.size+1) _ _ _ _ rfl (HS3.out.heap 1 rfl) Tryz.underlying130 rfl Dr) rfl ?_
   exact⟨ys,HY.out,rfl,HS3.out.below⟩
theorem fpw_half (X:FK):fpw X halfE=fpow X (2^252 - 3):=by
 unfold fpw fpow halfE
 with_reducible rfl
theorem halfNA {a:Array Value}{X:FK}(w:World)(ha:NA a X):Calls Tryz.prog 169 #[.agg a] w (ResA w (fpow X (2^252 - 3))):=by
 obtain⟨xs,rfl,h1⟩:=ha.ex
 rw[←fpw_half]
 exact(halfN_any xs X w h1).mono fun _ _ h=>ResN.ra h
theorem rtX_page (U V:FK):U*(V*V*V)*fpow (U*(V*V*V*(V*V*V)*V)) (2^252 - 3)=rtX U V:=by
 unfold rtX
 congr 2
 grind
theorem cU (args:Array Value)(w:World):(callFunc 137 args).run Tryz.prog w=.ok (.enter 137 args) w:=Bt
theorem en47_ru (args:Array Value)(w:World):(callFunc 159 args).run Tryz.prog w=.ok (.enter 159 args) w:=Bt
theorem en69_ru (args:Array Value)(w:World):(callFunc 169 args).run Tryz.prog w=.ok (.enter 169 args) w:=Bt
theorem en70_ru (args:Array Value)(w:World):(callFunc 170 args).run Tryz.prog w=.ok (.enter 170 args) w:=Bt
theorem rootN_any {u v:Array Value}{U V:FK}(w:World)(hu:NA u U)(hv:NA v V) :
  Calls Tryz.prog 155 #[.agg u,.agg v] w fun e w'=>∃x,NA x ((rtF U V).getD 0)∧e=.returned (.tuple #[.agg x,.bool (rtF U V).isSome])∧Below w.heap.size w w':=by
 obtain⟨zz,hzz,hc⟩:∃v,Tryz.prog.built 130 []=some v∧NA v 0:=⟨_,build0N,na_0⟩
 have HZZ:=aA (And.intro hzz trivial)
 clear hzz
 have HS:=aA (St.init w NoB)
 go_enter Tryz.func155,Tryz.ntmps155
 go_wp2_with (first|(refine wl_loadP rfl rfl rfl HS.out Dt Du Fo ?_;(try refine nm ?_))|(refine wl_storeR rfl rfl rfl rfl HS.out Du Dw Dv Dv ?_;intro wz hS9;have HS:=aA hS9;clear hS9;(try refine nm ?_))|(refine wl_allocR rfl rfl HS.out Dx ?_;intro gz wz hS9;have HS:=aA hS9;clear hS9;(try refine nm ?_))|(refine wl_boxR rfl rfl rfl HS.out ?_;intro gz wz hS9;have HS:=aA hS9;clear hS9;(try refine nm ?_)))
 have HS:=aA HS.out.drew
 refine aU [(5,6)] [(0,0),(1,0),(3,0),(2,2),(4,2)] (.op 6 2 (.nil)) zN 130 Bt Bt Bt Fa (fun _ _ _ _ h=>h) ?_
 refine aG rfl rfl rfl rfl HS.out (.tail _ (.head _)) rowN (.all E9) ?_;(try refine nm ?_)
 refine aG rfl rfl rfl rfl HS.out (.tail _ (.head _)) rowN (.all E9) ?_;(try refine nm ?_)
 refine aG rfl rfl rfl rfl HS.out (.tail _ (.head _)) rowN (.all E9) ?_;(try refine nm ?_)
 refine aH rfl rfl rfl cU rfl (fun x=>bV x ‹_› ‹_›) ?_;rintro xw e wy ⟨z,hz,rfl,hb⟩;refine⟨_,rfl,hb,?_⟩;(try refine nm ?_)
 refine aH rfl rfl rfl cU rfl (fun x=>bV x ‹_› ‹_›) ?_;rintro xw e wy ⟨z,hz,rfl,hb⟩;refine⟨_,rfl,hb,?_⟩;(try refine nm ?_)
 refine wpX_nil ?_;intro G xz hx0 hx hF;have hS9:=HS.out.floats hx0 hF _ Bz (fun _ h=>h);simp only[List.map_cons,List.map_nil,List.cons_append,List.nil_append] at hS9;have HS:=aA hS9;have HX:=aA hx0;have HG:=aA hF.at_;clear hS9 hF hx0 hx;simp only[dU,List.foldl_cons,List.foldl_nil];(try refine nm ?_)
 refine aS rfl rfl rfl rfl rfl HS.out HX.out (HG.out 5 B0).1 rowN (.head) E9 E9 ?_;intro wz hS9 hX9;have HS:=aA hS9;have HX:=aA hX9;clear hS9 hX9;(try refine nm ?_)
 refine bC ?_
 go_wp2_with fail
 have HS:=aA HS.out.drew
 refine aU [(12,7)] [(0,0),(1,0),(3,0),(4,0),(5,0),(7,0),(2,2),(6,2),(8,2),(9,2),(10,2),(11,2)] (.op 13 2 (.nil)) zN 130 Bt Bt Bt Fa (fun _ _ _ _ h=>h) ?_
 refine aG rfl rfl rfl rfl HS.out (.tail _ (.tail _ (.tail _ (.head _)))) rowN (.all E9) ?_;(try refine nm ?_)
 refine aG rfl rfl rfl rfl HS.out (.head _) rowN (.all E9) ?_;(try refine nm ?_)
 refine aG rfl rfl rfl rfl HS.out (.tail _ (.tail _ (.tail _ (.head _)))) rowN (.all E9) ?_;(try refine nm ?_)
 refine aG rfl rfl rfl rfl HS.out (.head _) rowN (.all E9) ?_;(try refine nm ?_)
 refine aG rfl rfl rfl rfl HS.out (.head _) rowN (.all E9) ?_;(try refine nm ?_)
 refine aG rfl rfl rfl rfl HS.out (.tail _ (.tail _ (.head _))) rowN (.all E9) ?_;(try refine nm ?_)
 refine aH rfl rfl rfl cU rfl (fun x=>bV x ‹_› ‹_›) ?_;rintro xw e wy ⟨z,hz,rfl,hb⟩;refine⟨_,rfl,hb,?_⟩;(try refine nm ?_)
 refine aH rfl rfl rfl cU rfl (fun x=>bV x ‹_› ‹_›) ?_;rintro xw e wy ⟨z,hz,rfl,hb⟩;refine⟨_,rfl,hb,?_⟩;(try refine nm ?_)
 refine aH rfl rfl rfl cU rfl (fun x=>bV x ‹_› ‹_›) ?_;rintro xw e wy ⟨z,hz,rfl,hb⟩;refine⟨_,rfl,hb,?_⟩;(try refine nm ?_)
 refine aH rfl rfl rfl cU rfl (fun x=>bV x ‹_› ‹_›) ?_;rintro xw e wy ⟨z,hz,rfl,hb⟩;refine⟨_,rfl,hb,?_⟩;(try refine nm ?_)
 refine aH rfl rfl rfl en69_ru rfl (fun x=>halfNA x ‹_›) ?_;rintro xw e wy ⟨z,hz,rfl,hb⟩;refine⟨_,rfl,hb,?_⟩;(try refine nm ?_)
 refine aH rfl rfl rfl cU rfl (fun x=>bV x ‹_› ‹_›) ?_;rintro xw e wy ⟨z,hz,rfl,hb⟩;refine⟨_,rfl,hb,?_⟩;(try refine nm ?_)
 refine wpX_nil ?_;intro G xz hx0 hx hF;have hS9:=HS.out.floats hx0 hF _ Bz (fun _ h=>h);simp only[List.map_cons,List.map_nil,List.cons_append,List.nil_append] at hS9;have HS:=aA hS9;have HX:=aA hx0;have HG:=aA hF.at_;clear hS9 hF hx0 hx;simp only[dU,List.foldl_cons,List.foldl_nil];(try refine nm ?_)
 refine aS rfl rfl rfl rfl rfl HS.out HX.out (HG.out 12 B0).1 rowN (.head) E9 E9 ?_;intro wz hS9 hX9;have HS:=aA hS9;have HX:=aA hX9;clear hS9 hX9;(try refine nm ?_)
 refine bC ?_
 have hX:=‹NA _ (U*(V*V*V)*fpow (U*(V*V*V*(V*V*V)*V)) (2^252 - 3))›
 rw[rtX_page] at hX
 go_wp2_with fail
 have HS:=aA HS.out.drew
 refine aD [(0,0),(1,0),(2,0),(5,0),(3,2),(4,2),(6,2),(7,1)] Bt Bt (fun _ _ _ _ h=>h) ?_
 refine aF rfl rfl rfl rfl HS.out (.tail _ (.tail _ (.tail _ (.head _)))) rowN (.all E9) ?_;(try refine nm ?_)
 refine aF rfl rfl rfl rfl HS.out (.head _) rowN (.all E9) ?_;(try refine nm ?_)
 refine aF rfl rfl rfl rfl HS.out (.head _) rowN (.all E9) ?_;(try refine nm ?_)
 refine aF rfl rfl rfl rfl HS.out (.tail _ (.tail _ (.tail _ (.tail _ (.head _))))) rowN (.all E9) ?_;(try refine nm ?_)
 refine aJ rfl rfl rfl cU rfl (bV _ ‹_› ‹_›) ?_;rintro e wy ⟨z,hz,rfl,hb⟩;refine⟨_,rfl,hb,?_⟩;have HS:=aA (HS.out.call hb);(try refine nm ?_)
 refine aJ rfl rfl rfl cU rfl (bV _ ‹_› ‹_›) ?_;rintro e wy ⟨z,hz,rfl,hb⟩;refine⟨_,rfl,hb,?_⟩;have HS:=aA (HS.out.call hb);(try refine nm ?_)
 refine aJ rfl rfl rfl en47_ru rfl (sameNA _ ‹_› ‹_›) ?_;rintro e wy ⟨rfl,hb⟩;refine⟨_,rfl,hb,?_⟩;have HS:=aA (HS.out.call hb);(try refine nm ?_)
 (refine pT (v:=?_) rfl rfl ?_);(try refine nm ?_)
 refine wpT_nil ?_
 have HE:=aA (show rtX U V*rtX U V*V=V*(rtX U V*rtX U V) by grind)
 by_cases c1:V*(rtX U V*rtX U V)=U
 ·have hF:rtF U V=some (evn (rtX U V)):=by unfold rtF;rw[HE.out,if_pos c1]
  have HC:=aA c1
  clear c1
  rw[decide_eq_true HC.out,Bool.not_true]
  go_wp2_with fail
  have HS:=aA HS.out.drew
  refine aD [(0,0),(1,0),(2,0),(5,0),(3,2),(4,2),(6,2),(7,1)] Bt Bt (fun _ _ _ _ h=>h) ?_
  refine aF rfl rfl rfl rfl HS.out (.tail _ (.tail _ (.tail _ (.head _)))) rowN (.all E9) ?_;(try refine nm ?_)
  refine aF rfl rfl rfl rfl HS.out (.head _) rowN (.all E9) ?_;(try refine nm ?_)
  refine aF rfl rfl rfl rfl HS.out (.head _) rowN (.all E9) ?_;(try refine nm ?_)
  refine aF rfl rfl rfl rfl HS.out (.tail _ (.tail _ (.tail _ (.tail _ (.head _))))) rowN (.all E9) ?_;(try refine nm ?_)
  refine aJ rfl rfl rfl cU rfl (bV _ ‹_› ‹_›) ?_;rintro e wy ⟨z,hz,rfl,hb⟩;refine⟨_,rfl,hb,?_⟩;have HS:=aA (HS.out.call hb);(try refine nm ?_)
  refine aJ rfl rfl rfl cU rfl (bV _ ‹_› ‹_›) ?_;rintro e wy ⟨z,hz,rfl,hb⟩;refine⟨_,rfl,hb,?_⟩;have HS:=aA (HS.out.call hb);(try refine nm ?_)
  refine aJ rfl rfl rfl en47_ru rfl (sameNA _ ‹_› ‹_›) ?_;rintro e wy ⟨rfl,hb⟩;refine⟨_,rfl,hb,?_⟩;have HS:=aA (HS.out.call hb);(try refine nm ?_)
  (refine pT (v:=?_) rfl rfl ?_);(try refine nm ?_)
  refine wpT_nil ?_
  rw[decide_eq_true HC.out,Bool.not_true]
  have HOD:=aA (fun W=>oddNA W hX)
  by_cases ho:(rtX U V).val%2=1
  ·have hev:evn (rtX U V)=0 - (rtX U V):=by unfold evn;rw[if_pos ho,zsub]
   rw[hev] at hF
   rw[decide_eq_true ho] at HOD
   have HF:=aA hF
   clear hF hev ho
   go_wp2_with (first|(go_at_call 138;(with_reducible refine(HOD.out _).mono ?_);rintro e wy ⟨rfl,hb⟩;have HS:=aA (HS.out.call hb))|(go_at_call 156;(with_reducible refine(subNA _ hc hX).mono ?_);rintro e wy ⟨zn,hzn,rfl,hb⟩;have HS:=aA (HS.out.call hb))|(refine wl_build0 rfl rfl (HZZ.out).1 ?_;(try refine nm ?_))|(refine wl_storeR rfl rfl rfl rfl HS.out rowN (.tail (.tail (.head))) E9 E9 ?_;intro wz hS9;have HS:=aA hS9;clear hS9;(try refine nm ?_))|(refine wl_loadP rfl rfl rfl HS.out (.head _) rowN (.all E9) ?_;(try refine nm ?_))|(refine wl_storeR rfl rfl rfl rfl HS.out rowN (.head) E9 E9 ?_;intro wz hS9;have HS:=aA hS9;clear hS9;(try refine nm ?_)))
   refine bodyPost_ret (aB rfl _ _ _ _ _ _ _ rfl (HS.out.heapM Dt) Tryz.underlying130 rfl Dy) rfl ?_
   rw[HF.out]
   exact⟨_,hzn,rfl,HS.out.below⟩
  ·have hev:evn (rtX U V)=rtX U V:=by unfold evn;rw[if_neg ho]
   rw[hev] at hF
   rw[decide_eq_false ho] at HOD
   have HF:=aA hF
   clear hF hev ho
   go_wp2_with (first|(go_at_call 138;(with_reducible refine(HOD.out _).mono ?_);rintro e wy ⟨rfl,hb⟩;have HS:=aA (HS.out.call hb))|(refine wl_storeR rfl rfl rfl rfl HS.out rowN (.tail (.tail (.head))) E9 E9 ?_;intro wz hS9;have HS:=aA hS9;clear hS9;(try refine nm ?_))|(refine wl_loadP rfl rfl rfl HS.out (.head _) rowN (.all E9) ?_;(try refine nm ?_))|(refine wl_storeR rfl rfl rfl rfl HS.out rowN (.head) E9 E9 ?_;intro wz hS9;have HS:=aA hS9;clear hS9;(try refine nm ?_)))
   refine bodyPost_ret (aB rfl _ _ _ _ _ _ _ rfl (HS.out.heapM Dt) Tryz.underlying130 rfl Dy) rfl ?_
   rw[HF.out]
   exact⟨_,hX,rfl,HS.out.below⟩
 ·have HC:=aA c1
  clear c1
  rw[decide_eq_false HC.out,Bool.not_false]
  go_wp2_with fail
  have HS:=aA HS.out.drew
  refine aD [(0,0),(1,2),(2,2),(3,3)] Bt Bt (fun _ _ _ _ h=>h) ?_
  refine aF rfl rfl rfl rfl HS.out (.head _) rowN (.all E9) ?_;(try refine nm ?_)
  refine aJ rfl rfl rfl en70_ru rfl (iNA _) ?_;rintro e wy ⟨z,hz,rfl,hb⟩;refine⟨_,rfl,hb,?_⟩;have HS:=aA (HS.out.call hb);(try refine nm ?_)
  refine aJ rfl rfl rfl cU rfl (bV _ ‹_› ‹_›) ?_;rintro e wy ⟨z,hz,rfl,hb⟩;refine⟨_,rfl,hb,?_⟩;have HS:=aA (HS.out.call hb);(try refine nm ?_)
  refine wpT_late rfl rfl ?_;intro K hK;refine wp_storeR rfl rfl rfl HS.out rowN (.head) E9 E9 ?_;intro wz hS9;have HS:=aA hS9;clear hS9;refine hK _ _ ?_;(try refine nm ?_)
  refine wpT_nil ?_
  have hXI:=‹NA _ (rtX U V*iF)›
  go_wp2_with fail
  have HS:=aA HS.out.drew
  refine aD [(0,0),(1,0),(2,0),(5,0),(3,2),(4,2),(6,2),(7,1)] Bt Bt (fun _ _ _ _ h=>h) ?_
  refine aF rfl rfl rfl rfl HS.out (.tail _ (.tail _ (.tail _ (.head _)))) rowN (.all E9) ?_;(try refine nm ?_)
  refine aF rfl rfl rfl rfl HS.out (.head _) rowN (.all E9) ?_;(try refine nm ?_)
  refine aF rfl rfl rfl rfl HS.out (.head _) rowN (.all E9) ?_;(try refine nm ?_)
  refine aF rfl rfl rfl rfl HS.out (.tail _ (.tail _ (.tail _ (.tail _ (.head _))))) rowN (.all E9) ?_;(try refine nm ?_)
  refine aJ rfl rfl rfl cU rfl (bV _ ‹_› ‹_›) ?_;rintro e wy ⟨z,hz,rfl,hb⟩;refine⟨_,rfl,hb,?_⟩;have HS:=aA (HS.out.call hb);(try refine nm ?_)
  refine aJ rfl rfl rfl cU rfl (bV _ ‹_› ‹_›) ?_;rintro e wy ⟨z,hz,rfl,hb⟩;refine⟨_,rfl,hb,?_⟩;have HS:=aA (HS.out.call hb);(try refine nm ?_)
  refine aJ rfl rfl rfl en47_ru rfl (sameNA _ ‹_› ‹_›) ?_;rintro e wy ⟨rfl,hb⟩;refine⟨_,rfl,hb,?_⟩;have HS:=aA (HS.out.call hb);(try refine nm ?_)
  (refine pT (v:=?_) rfl rfl ?_);(try refine nm ?_)
  refine wpT_nil ?_
  have HE2:=aA (show V*(rtX U V*iF*(rtX U V*iF))=-(rtX U V*rtX U V*V) by have:=iF_sq;grind)
  by_cases c2:V*(rtX U V*iF*(rtX U V*iF))=U
  ·have hF:rtF U V=some (evn (rtX U V*iF)):=by unfold rtF;rw[if_neg (by rw[HE.out];exact HC.out),if_pos (by have:=HE2.out;rw[c2] at this;rw[this];grind)]
   have HC2:=aA c2
   clear c2
   rw[decide_eq_true HC2.out,Bool.not_true]
   have HOD:=aA (fun W=>oddNA W hXI)
   by_cases ho:(rtX U V*iF).val%2=1
   ·have hev:evn (rtX U V*iF)=0 - (rtX U V*iF):=by unfold evn;rw[if_pos ho,zsub]
    rw[hev] at hF
    rw[decide_eq_true ho] at HOD
    have HF:=aA hF
    clear hF hev ho
    go_wp2_with (first|(go_at_call 138;(with_reducible refine(HOD.out _).mono ?_);rintro e wy ⟨rfl,hb⟩;have HS:=aA (HS.out.call hb))|(go_at_call 156;(with_reducible refine(subNA _ hc hXI).mono ?_);rintro e wy ⟨zn,hzn,rfl,hb⟩;have HS:=aA (HS.out.call hb))|(refine wl_build0 rfl rfl (HZZ.out).1 ?_;(try refine nm ?_))|(refine wl_storeR rfl rfl rfl rfl HS.out rowN (.tail (.tail (.head))) E9 E9 ?_;intro wz hS9;have HS:=aA hS9;clear hS9;(try refine nm ?_))|(refine wl_loadP rfl rfl rfl HS.out (.head _) rowN (.all E9) ?_;(try refine nm ?_))|(refine wl_storeR rfl rfl rfl rfl HS.out rowN (.head) E9 E9 ?_;intro wz hS9;have HS:=aA hS9;clear hS9;(try refine nm ?_)))
    refine bodyPost_ret (aB rfl _ _ _ _ _ _ _ rfl (HS.out.heapM Dt) Tryz.underlying130 rfl Dy) rfl ?_
    rw[HF.out]
    exact⟨_,hzn,rfl,HS.out.below⟩
   ·have hev:evn (rtX U V*iF)=rtX U V*iF:=by unfold evn;rw[if_neg ho]
    rw[hev] at hF
    rw[decide_eq_false ho] at HOD
    have HF:=aA hF
    clear hF hev ho
    go_wp2_with (first|(go_at_call 138;(with_reducible refine(HOD.out _).mono ?_);rintro e wy ⟨rfl,hb⟩;have HS:=aA (HS.out.call hb))|(refine wl_storeR rfl rfl rfl rfl HS.out rowN (.tail (.tail (.head))) E9 E9 ?_;intro wz hS9;have HS:=aA hS9;clear hS9;(try refine nm ?_))|(refine wl_loadP rfl rfl rfl HS.out (.head _) rowN (.all E9) ?_;(try refine nm ?_))|(refine wl_storeR rfl rfl rfl rfl HS.out rowN (.head) E9 E9 ?_;intro wz hS9;have HS:=aA hS9;clear hS9;(try refine nm ?_)))
    refine bodyPost_ret (aB rfl _ _ _ _ _ _ _ rfl (HS.out.heapM Dt) Tryz.underlying130 rfl Dy) rfl ?_
    rw[HF.out]
    exact⟨_,hXI,rfl,HS.out.below⟩
  ·have hF:rtF U V=none:=by unfold rtF;rw[if_neg (by rw[HE.out];exact HC.out),if_neg (by intro h;apply c2;rw[HE2.out,h];grind)]
   have HC2:=aA c2
   have HF:=aA hF
   clear c2 hF
   rw[decide_eq_false HC2.out,Bool.not_false]
   go_wp2_with (first|(refine wl_build0 rfl rfl (HZZ.out).1 ?_;(try refine nm ?_))|(refine wl_storeR rfl rfl rfl rfl HS.out rowN (.tail (.tail (.head))) E9 E9 ?_;intro wz hS9;have HS:=aA hS9;clear hS9;(try refine nm ?_))|(refine wl_loadP rfl rfl rfl HS.out (.head _) rowN (.all E9) ?_;(try refine nm ?_))|(refine wl_storeR rfl rfl rfl rfl HS.out rowN (.head) E9 E9 ?_;intro wz hS9;have HS:=aA hS9;clear hS9;(try refine nm ?_)))
   refine bodyPost_ret (aB rfl _ _ _ _ _ _ _ rfl (HS.out.heapM Dt) Tryz.underlying130 rfl Dy) rfl ?_
   rw[HF.out]
   exact⟨_,hc,rfl,HS.out.below⟩
theorem packQ {v:Array Value}{P:Ed}(w:World)(hv:QtN v P):Calls Tryz.prog 99 #[.agg v] w (iI 5 w (packL P)):=by
 have HS:=aA (St.init w NoB)
 obtain⟨⟨X,Y,Z,T⟩,a,b,c,d,rfl,h1,h2,h3,h4,h5⟩:=hv.ex
 obtain⟨l,r,hl31,hr128,e1,e2⟩:=top_bit P.y.val (Nat.lt_trans P.y.isLt pq_255)
 have HE1:=aA e1
 have HE2:=aA e2
 have HL31:=aA hl31
 have hpk:packL P=if P.x.val%2=1 then l++[UInt8.ofNat (r+128)] else l++[UInt8.ofNat r]:=by
  unfold packL packN
  split
  ·exact e2
  ·rw[Nat.add_zero];exact e1
 have HPK:=aA hpk
 have hlen:(l++[UInt8.ofNat r]).length=32:=by rw[List.length_append,hl31];rfl
 have HLEN:=aA hlen
 clear e1 e2 hpk hl31 hlen
 go_enter Tryz.func99,Tryz.ntmps99
 go_upto_region 3 with(first
  |(go_at_call 135;(with_reducible refine(invNA _ h3).mono ?_);rintro e wy ⟨zi,hzi,rfl,hb⟩;have HS:=aA (HS.out.call hb))
  |(go_at_call 137;(with_reducible refine(bV _ h2 hzi).mono ?_);rintro e wy ⟨zy,hzy,rfl,hb⟩;rw[rp_y h5] at hzy;have HS:=aA (HS.out.call hb))
  |(go_at_call 136;(with_reducible refine(bytesNA _ hzy).mono ?_);rintro e wy hRB;rw[HE1.out] at hRB;obtain⟨B,dd,rfl,hb,ho⟩:=hRB;rw[HLEN.out] at ho ⊢;have HS:=aA (HS.out.row hb ho);clear ho)
  |(refine wl_loadP rfl rfl rfl HS.out Dt Du Fo ?_;(try refine nm ?_))|(refine wl_storeR rfl rfl rfl rfl HS.out Du Dw Dv Dv ?_;intro wz hS9;have HS:=aA hS9;clear hS9;(try refine nm ?_))|(refine wl_allocR rfl rfl HS.out Dx ?_;intro gz wz hS9;have HS:=aA hS9;clear hS9;(try refine nm ?_))|(refine wl_boxR rfl rfl rfl HS.out ?_;intro gz wz hS9;have HS:=aA hS9;clear hS9;(try refine nm ?_)))
 have gB:((bvs (l++[UInt8.ofNat r]))[31]?=some (.int .u8 (r:Int))):=by
  rw[bE (list_top HL31.out (UInt8.ofNat r)).1,UInt8.toNat_ofNat',Nat.mod_eq_of_lt An]
 have GB:=aA gB
 have hor:=u8_or128 r hr128
 have HR:=aA hr128
 clear gB
 have hx31:=rp_x h5
 by_cases hodd:P.x.val%2=1
 ·go_wp2_with (first
   |(go_at_call 137;(with_reducible refine(bV _ h1 hzi).mono ?_);rintro e wy ⟨zx,hzx,rfl,hb⟩;rw[hx31] at hzx;have HS:=aA (HS.out.call hb))
   |(go_at_call 138;(with_reducible refine(oddNA _ hzx).mono ?_);rintro e wy ⟨rfl,hb⟩;rw[decide_eq_true hodd];have HS:=aA (HS.out.call hb);obtain⟨g,c1,hvv,_,_,hcs,hfr,_⟩:=HS.out.rowOpen 0 rfl An;injection hvv with hvv1 _ hvv3;subst hvv1 hvv3;have k31:=hcs 31 _ GB.out;have f31:=hfr 31;have HS9:=aA HS.out;clear hcs hfr)
   |(refine wl_loadP rfl rfl rfl HS.out Dt Du Fo ?_;(try refine nm ?_))|(refine wl_storeR rfl rfl rfl rfl HS.out Du Dw Dv Dv ?_;intro wz hS9;have HS:=aA hS9;clear hS9;(try refine nm ?_))|(refine wl_allocR rfl rfl HS.out Dx ?_;intro gz wz hS9;have HS:=aA hS9;clear hS9;(try refine nm ?_))|(refine wl_boxR rfl rfl rfl HS.out ?_;intro gz wz hS9;have HS:=aA hS9;clear hS9;(try refine nm ?_)))
  go_ret
  have h9:=HS9.out.rowSet 0 rfl 31 (.int .u8 ((r+128:Nat):Int)) An
  rw[fG _ _ _ (by have:=HR.out;omega),(list_top HL31.out _).2] at h9
  refine dY h9 0 rfl ?_
  rw[HPK.out,if_pos hodd]
 ·go_wp2_with (first
   |(go_at_call 137;(with_reducible refine(bV _ h1 hzi).mono ?_);rintro e wy ⟨zx,hzx,rfl,hb⟩;rw[hx31] at hzx;have HS:=aA (HS.out.call hb))
   |(go_at_call 138;(with_reducible refine(oddNA _ hzx).mono ?_);rintro e wy ⟨rfl,hb⟩;rw[decide_eq_false hodd];have HS:=aA (HS.out.call hb))
   |(refine wl_loadP rfl rfl rfl HS.out Dt Du Fo ?_;(try refine nm ?_))|(refine wl_storeR rfl rfl rfl rfl HS.out Du Dw Dv Dv ?_;intro wz hS9;have HS:=aA hS9;clear hS9;(try refine nm ?_))|(refine wl_allocR rfl rfl HS.out Dx ?_;intro gz wz hS9;have HS:=aA hS9;clear hS9;(try refine nm ?_))|(refine wl_boxR rfl rfl rfl HS.out ?_;intro gz wz hS9;have HS:=aA hS9;clear hS9;(try refine nm ?_)))
  go_ret
  refine dY HS.out 0 rfl ?_
  rw[HPK.out,if_neg hodd]
theorem u8_and128 (n:Nat)(h:n<256):bits .and .u8 (n:Int) 128=((n/128*128:Nat):Int):=by
 have:∀m:Fin 256,bits .and .u8 (m.val:Int) 128=((m.val/128*128:Nat):Int):=by decide +kernel
 exact this ⟨n,h⟩
section
variable {P : Program} {ops : Array Oper} {Q : Exit → Act → World → Prop} {rest : List Oper} {o : Oper} {a : Act} {w0 w : World} {M : Nat → Prop} {H : List Chunk} {t e : TypeId} {n g off : Nat} {x : Operand} {cs part : Array Value}
theorem wl_loadG (hw:Region.wanted o (yielded ops a.tmps)=true)(ho:o.op=.load t x)(hx:a.eval x=.pointer (some ⟨g,off,none⟩))(hS:St w0 M w H)(hm:Chunk.cells g cs e∈H)(hT:RowOf P t n)(hp:PartN n cs part off)
  (h:wpList P ops Q rest (a.put o.dst (.agg part)) w):wpList P ops Q (o::rest) a w:=
 wpList_step fun K hK=>by
  rw[if_pos hw]
  unfold Oper.wp
  rw[dI ho hT hx (hS.heapM hm) hp]
  exact hK _ _ h
theorem wl_build0G {v:Array Value}(hw:Region.wanted o (yielded ops a.tmps)=true)(ho:o.op=.build t #[])(hB:P.built t []=some v)(h:wpList P ops Q rest (a.put o.dst (.agg v)) w):wpList P ops Q (o::rest) a w:=
 wpList_step fun K hK=>by
  rw[if_pos hw]
  have e:(execOp a.eval o).run P w=.ok (.value (.agg v)) w:=by
   have e2:((#[]:Array (Nat×Operand)).map fun(i,x)=>(i,a.eval x)).toList=[]:=B0
   unfold execOp
   simp only[ho]
   simp only[Sem.run_bind,run_build w t _ _ (by rw[e2];exact hB),Result.andThen_ok]
   rfl
  unfold Oper.wp
  rw[e]
  exact hK _ _ h
end
def ResG (w:World)(o:Option Ed)(e:Ending)(w':World):Prop:=∃v,QtN v (o.getD .zero)∧e=.returned (.tuple #[.agg v,.bool o.isSome])∧Below w.heap.size w w'
theorem fromNA {A:Option Addr}{n c:Nat}{l:List UInt8}(hl:l.length=n)(hn:n≤1000)(w:World)(hr:Rd w (.slice A n c) 1 n (bvs l)):Calls Tryz.prog 154 #[.slice A n c] w (ResA w (fbytes l)):=
 (frN_any A n c l w hl hn hr).mono fun _ _ h=>by
  obtain⟨xs,h1,h2,h3⟩:=h
  exact⟨_,⟨xs,rfl,h1⟩,h2,h3⟩
theorem unpack_no {A:Option Addr}{n c:Nat}{l:List UInt8}(w:World)(hl:l.length=n)(hn:n≠32):Calls Tryz.prog 117 #[.slice A n c] w (ResG w (pageL l)):=by
 have hF:pageL l=none:=by unfold pageL;rw[if_neg An]
 have q0:((n:Int) !=32)=true:=A9
 have HS:=aA (St.init w NoB)
 rw[hF]
 clear hF hl hn
 go_enter Tryz.func117,Tryz.ntmps117
 go_wp2_with (first|(go_at_call 139;(with_reducible refine(zeroQ _).mono ?_);rintro e wy ⟨z0,hz0,rfl,hb⟩;have HS:=aA (HS.out.call hb))|(refine wl_loadP rfl rfl rfl HS.out Dt Du Fo ?_;(try refine nm ?_))|(refine wl_storeR rfl rfl rfl rfl HS.out Du Dw Dv Dv ?_;intro wz hS9;have HS:=aA hS9;clear hS9;(try refine nm ?_))|(refine wl_allocR rfl rfl HS.out Dx ?_;intro gz wz hS9;have HS:=aA hS9;clear hS9;(try refine nm ?_))|(refine wl_boxR rfl rfl rfl HS.out ?_;intro gz wz hS9;have HS:=aA hS9;clear hS9;(try refine nm ?_)))
 refine bodyPost_ret (aB rfl _ _ _ _ _ _ _ rfl (HS.out.heapM Dt) Tryz.underlying132 rfl Dy) rfl ?_
 exact⟨_,hz0,rfl,HS.out.below⟩
theorem en33_up (args:Array Value)(w:World):(callFunc 140 args).run Tryz.prog w=.ok (.enter 140 args) w:=Bt
theorem en34_up (args:Array Value)(w:World):(callFunc 137 args).run Tryz.prog w=.ok (.enter 137 args) w:=Bt
theorem en40_up (args:Array Value)(w:World):(callFunc 136 args).run Tryz.prog w=.ok (.enter 136 args) w:=Bt
theorem en42_up (args:Array Value)(w:World):(callFunc 156 args).run Tryz.prog w=.ok (.enter 156 args) w:=Bt
theorem en43_up (args:Array Value)(w:World):(callFunc 157 args).run Tryz.prog w=.ok (.enter 157 args) w:=Bt
theorem en44_up (args:Array Value)(w:World):(callFunc 158 args).run Tryz.prog w=.ok (.enter 158 args) w:=Bt
theorem en55_up (args:Array Value)(w:World):(callFunc 155 args).run Tryz.prog w=.ok (.enter 155 args) w:=Bt
theorem unpack_32 {A:Option Addr}{c:Nat}{l:List UInt8}(w:World)(hl:l.length=32)(hr:Rd w (.slice A 32 c) 1 32 (bvs l)):Calls Tryz.prog 117 #[.slice A 32 c] w (ResG w (pageL l)):=by
 obtain⟨zz,hzz,hc⟩:∃v,Tryz.prog.built 130 []=some v∧NA v 0:=⟨_,build0N,na_0⟩
 have HZZ:=aA (And.intro hzz trivial)
 have HS:=aA (St.init w NoB)
 obtain⟨cb,hxb⟩:∃cb,l[31]?=some cb:=⟨l[31],gE _⟩
 have gB:=bE hxb
 obtain⟨ch,hch⟩:∃c:Nat,c=cb.toNat:=⟨_,rfl⟩
 have hc8:ch<256:=Eb
 have hlow:lowL l=l.set 31 (UInt8.ofNat (ch%128)):=Ej
 have htop:gZ l=decide (128≤ch):=Ek
 rw[←hch] at gB
 have hand:=u8_and127 ch hc8
 have hand2:=u8_and128 ch hc8
 have hm:ch%128<256:=An
 obtain⟨cm,hcm⟩:∃m,m=ch%128:=⟨_,rfl⟩
 rw[←hcm] at hand hm hlow
 clear hcm
 obtain⟨od,hod⟩:∃b,b=gZ l:=⟨_,rfl⟩
 obtain⟨ct,hct⟩:∃m,m=ch/128*128:=⟨_,rfl⟩
 rw[←hct] at hand2
 have ho0:od=!decide (ct=0):=by
  rw[hod,htop]
  by_cases h:128≤ch
  ·rw[decide_eq_true h,decide_eq_false An];rfl
  ·rw[decide_eq_false h,decide_eq_true An];rfl
 have ho4:decide ((ct:Int)=0)=decide (ct=0):=decide_eq_decide.2 An
 have ho3:decide ((ct:Int)=0)=!od:=by rw[ho4,ho0,Bool.not_not]
 have ho2:((ct:Int)==0)=!od:=ho3
 have ho1:((ct:Int) !=0)=od:=by rw[bne,ho2,Bool.not_not]
 clear ho0 ho4
 have HR:=aA hr
 have GB:=aA gB
 have HLOW:=aA hlow
 have HOD:=aA hod
 have HL:=aA hl
 have HM:=aA hm
 clear hxb hch gB hlow htop hr hl hm hct hod hzz
 go_enter Tryz.func117,Tryz.ntmps117
 go_upto_region 4 with(first
  |(at_builtin;refine bJ rfl rfl tyB HS.out rfl rfl (HR.out.below HS.out.below) (bD _) An Bz ?_;intro A3 c3 w3 hS3;have HS:=aA hS3;clear hS3)
  |(refine wl_loadP rfl rfl rfl HS.out Dt Du Fo ?_;(try refine nm ?_))|(refine wl_storeR rfl rfl rfl rfl HS.out Du Dw Dv Dv ?_;intro wz hS9;have HS:=aA hS9;clear hS9;(try refine nm ?_))|(refine wl_allocR rfl rfl HS.out Dx ?_;intro gz wz hS9;have HS:=aA hS9;clear hS9;(try refine nm ?_))|(refine wl_boxR rfl rfl rfl HS.out ?_;intro gz wz hS9;have HS:=aA hS9;clear hS9;(try refine nm ?_)))
 obtain⟨g,c1,hvv,_,_,hcs,hfr,_⟩:=HS.out.rowOpen 0 rfl An
 injection hvv with hvv1 _ hvv3
 subst hvv1 hvv3
 have k31:=hcs 31 _ GB.out
 have f31:=hfr 31
 clear hcs hfr
 go_upto_region 6 with fail
 have h9:=HS.out.rowSet 0 rfl 31 (.int .u8 (cm:Int)) An
 simp only[List.set_cons_zero] at h9
 rw[fG _ _ _ HM.out,←HLOW.out] at h9
 have HS:=aA h9
 have hll:(lowL l).length=32:=by rw[hZ];exact HL.out
 clear h9 k31 f31
 go_upto_region 7 with(first
  |(go_at_call 154;(with_reducible refine(fromNA hll Bz _ (HS.out.rd 0 rfl)).mono ?_);rintro e wy ⟨zy,hzy,rfl,hb⟩;have HS:=aA (HS.out.call hb))
  |(refine wl_storeR rfl rfl rfl rfl HS.out rowN (.head) E9 E9 ?_;intro wz hS9;have HS:=aA hS9;clear hS9;(try refine nm ?_))|(refine wl_allocR rfl rfl HS.out newN ?_;intro gz wz hS9;have HS:=aA hS9;clear hS9;(try refine nm ?_)))
 have HS:=aA HS.out.drew
 refine aD [(0,0),(3,1),(4,0),(1,2),(2,0),(5,1)] Bt Bt (fun _ _ _ _ h=>h) ?_
 generalize wz.drew=wd at HS ⊢
 have cvc:∀x,aC wd x→(convert 22 9 (.slice (some ⟨g,0,none⟩) 32 c3)).run Tryz.prog x=.ok (.string (strOf (lowL l))) x:=fun x hx=>aY Tryz.underlying22 Tryz.underlying5 Tryz.underlying9 ((HS.out.rd 1 rfl).below hx)
 refine aF rfl rfl rfl rfl HS.out (.head _) rowN (.all Dv) ?_;(try refine nm ?_)
 (refine pT (v:=?_) rfl rfl ?_);(try refine nm ?_)
 (refine rT (v:=?_) rfl rfl ?_);(try refine nm ?_)
 refine aJ rfl rfl rfl en40_up rfl (bytesNA _ hzy) ?_;rintro e wy ⟨B2,d2,rfl,hb,ho⟩;rw[leB_len] at ho ⊢;refine⟨_,rfl,hb,?_⟩;have HS:=aA (HS.out.row hb ho);clear ho;(try refine nm ?_)
 have cv2:∀x,aC wy x→(convert 22 9 (.slice B2 32 d2)).run Tryz.prog x=.ok (.string (strOf (leB 32 (fbytes (lowL l)).val))) x:=fun x hx=>aY Tryz.underlying22 Tryz.underlying5 Tryz.underlying9 ((HS.out.rd 0 rfl).below hx)
 (refine rT (v:=?_) rfl rfl ?_);(try refine nm ?_)
 by_cases hcan:leB 32 (fbytes (lowL l)).val=lowL l
 ·have qc1:(leB 32 (fbytes (lowL l)).val==lowL l)=true:=by rw[hcan];exact beq_self_eq_true _
  have qc2:(leB 32 (fbytes (lowL l)).val !=lowL l)=false:=by rw[bne,qc1];rfl
  have HCAN:=aA hcan
  clear hcan
  (refine pT (v:=?_) rfl rfl ?_);(try refine nm ?_)
  refine wpT_nil ?_
  clear qc1 qc2 cvc cv2
  go_upto_region 10 with(first
   |(go_at_call 137;(with_reducible refine(bV _ hzy hzy).mono ?_);rintro e wy ⟨zs,hzs,rfl,hb⟩;have HS:=aA (HS.out.call hb))
   |(refine wl_loadP rfl rfl rfl HS.out (.tail _ (.head _)) rowN (.all E9) ?_;(try refine nm ?_))|(refine wl_storeR rfl rfl rfl rfl HS.out rowN (.head) E9 E9 ?_;intro wz hS9;have HS:=aA hS9;clear hS9;(try refine nm ?_))|(refine wl_allocR rfl rfl HS.out newN ?_;intro gz wz hS9;have HS:=aA hS9;clear hS9;(try refine nm ?_)))
  have HS:=aA HS.out.drew
  refine aU [(12,8)] [(0,0),(4,0),(1,2),(2,2),(3,2),(5,2),(6,2),(7,2),(8,2),(9,1),(10,1),(11,1)] (.op 13 2 (.op 14 1 (.nil))) zN 130 Bt Bt Bt Fa (fun _ _ _ _ h=>h) ?_
  refine aG rfl rfl rfl rfl HS.out (.head _) rowN (.all E9) ?_;(try refine nm ?_)
  refine aG rfl rfl rfl rfl HS.out (.head _) rowN (.all E9) ?_;(try refine nm ?_)
  refine aH rfl rfl rfl en33_up rfl (fun x=>smallNA1 x) ?_;rintro xw e wy ⟨z,hz,rfl,hb⟩;refine⟨_,rfl,hb,?_⟩;(try refine nm ?_)
  refine aH rfl rfl rfl en42_up rfl (fun x=>subNA x ‹_› ‹_›) ?_;rintro xw e wy ⟨z,hz,rfl,hb⟩;refine⟨_,rfl,hb,?_⟩;(try refine nm ?_)
  refine aH rfl rfl rfl en44_up rfl (fun x=>dNA x) ?_;rintro xw e wy ⟨z,hz,rfl,hb⟩;refine⟨_,rfl,hb,?_⟩;(try refine nm ?_)
  refine aH rfl rfl rfl en34_up rfl (fun x=>bV x ‹_› ‹_›) ?_;rintro xw e wy ⟨z,hz,rfl,hb⟩;refine⟨_,rfl,hb,?_⟩;(try refine nm ?_)
  refine aH rfl rfl rfl en33_up rfl (fun x=>smallNA1 x) ?_;rintro xw e wy ⟨z,hz,rfl,hb⟩;refine⟨_,rfl,hb,?_⟩;(try refine nm ?_)
  refine aH rfl rfl rfl en43_up rfl (fun x=>addNA x ‹_› ‹_›) ?_;rintro xw e wy ⟨z,hz,rfl,hb⟩;refine⟨_,rfl,hb,?_⟩;(try refine nm ?_)
  refine aH rfl rfl rfl en55_up rfl (fun x=>rootN_any x Df Df) ?_;rintro xw e wy ⟨z,hz,rfl,hb⟩;refine⟨_,rfl,hb,?_⟩;(try refine nm ?_)
  (refine pX (v:=?_) rfl rfl ?_);(try refine nm ?_)
  (refine pX (v:=?_) rfl rfl ?_);(try refine nm ?_)
  (refine pX (v:=?_) rfl rfl ?_);(try refine nm ?_)
  refine wpX_nil ?_;intro G xz hx0 hx hF;have hS9:=HS.out.floats hx0 hF _ Bz (fun _ h=>h);simp only[List.map_cons,List.map_nil,List.cons_append,List.nil_append] at hS9;have HS:=aA hS9;have HX:=aA hx0;have HG:=aA hF.at_;clear hS9 hF hx0 hx;simp only[dU,List.foldl_cons,List.foldl_nil];(try refine nm ?_)
  refine aS rfl rfl rfl rfl rfl HS.out HX.out (HG.out 12 B0).1 rowN (.head) E9 E9 ?_;intro wz hS9 hX9;have HS:=aA hS9;have HX:=aA hX9;clear hS9 hX9;(try refine nm ?_)
  (refine pS (v:=?_) rfl rfl ?_);(try refine nm ?_)
  refine bC ?_
  have hcm:dF*(fbytes (lowL l)*fbytes (lowL l))=fbytes (lowL l)*fbytes (lowL l)*dF:=fl2 _ _
  rw[hcm] at hz ⊢
  cases hrt:rtF (fbytes (lowL l)*fbytes (lowL l) - 1) (fbytes (lowL l)*fbytes (lowL l)*dF+1) with
  | none =>
   have hF:pageL l=none:=by unfold pageL;rw[if_pos HL.out,if_pos HCAN.out,unp_none hrt]
   simp only[Option.isSome_none]
   have HFK:=aA hF
   clear hrt hF
   go_wp2_with (first|(go_at_call 139;(with_reducible refine(zeroQ _).mono ?_);rintro e wy ⟨z0,hz0,rfl,hb⟩;have HS:=aA (HS.out.call hb))|(refine wl_storeR rfl rfl rfl rfl HS.out rowQ (.tail (.tail (.tail (.tail (.tail (.head)))))) E8 E8 ?_;intro wz hS9;have HS:=aA hS9;clear hS9;(try refine nm ?_))|(refine wl_build0 rfl rfl (HZZ.out).1 ?_;(try refine nm ?_))|(refine wl_loadG rfl rfl rfl HS.out (.head _) rowN (.all E9) ?_;(try refine nm ?_)))
   refine bodyPost_ret (aB rfl _ _ _ _ _ _ _ rfl (HS.out.heapM Dt) Tryz.underlying132 rfl Dy) rfl ?_
   rw[HFK.out]
   exact⟨_,hz0,rfl,HS.out.below⟩
  | some x =>
   have hx:=‹NA _ ((rtF (fbytes (lowL l)*fbytes (lowL l) - 1) (fbytes (lowL l)*fbytes (lowL l)*dF+1)).getD 0)›
   rw[hrt,Option.getD_some] at hx
   obtain⟨P,hP,hPx,hPy⟩:=unp_some (odd:=gZ l) hrt
   have hF:pageL l=if gZ l=true∧P.x=0 then none else some P:=by
    unfold pageL
    rw[if_pos HL.out,if_pos HCAN.out,hP]
   simp only[Option.isSome_some]
   rw[←HOD.out] at hF hPx
   have hpt:=fun(a b c d:Array Value) (ha:NA a P.x) (hb:NA b P.y) (hc:NA c 1) (hd:NA d (P.x*P.y))=>(⟨⟨P.x,P.y,1,P.x*P.y⟩,a,b,c,d,rfl,ha,hb,hc,hd,rp_of P⟩:QtN (fS a b c d) P)
   have HPT:=aA hpt
   clear hrt hP hpt
   rw[←hPy] at hzy
   have HSM:=aA (fun W=>sameNA W hx hc)
   cases od with
   | false =>
    have hPx2:P.x=x:=hPx
    have HF:=aA (hF.trans (if_neg (fun h=>by cases h.1)))
    rw[←hPx2] at hx
    clear hPx hF hPy
    go_upto_region 15 with fail
    have HS:=aA HS.out.drew
    refine aD [(0,0),(1,0),(3,0),(4,0),(2,2),(5,2),(6,1),(7,3),(8,1)] Bt Bt (fun _ _ _ _ h=>h) ?_
    refine aF rfl rfl rfl rfl HS.out (.head _) rowN (.all E9) ?_;(try refine nm ?_)
    refine aF rfl rfl rfl rfl HS.out (.tail _ (.tail _ (.tail _ (.head _)))) rowN (.all E9) ?_;(try refine nm ?_)
    refine aF rfl rfl rfl rfl HS.out (.head _) rowN (.all E9) ?_;(try refine nm ?_)
    refine aF rfl rfl rfl rfl HS.out (.tail _ (.tail _ (.tail _ (.head _)))) rowN (.all E9) ?_;(try refine nm ?_)
    refine aJ rfl rfl rfl en33_up rfl (smallNA1 _) ?_;rintro e wy ⟨z,hz,rfl,hb⟩;refine⟨_,rfl,hb,?_⟩;have HS:=aA (HS.out.call hb);(try refine nm ?_)
    refine aJ rfl rfl rfl en34_up rfl (bV _ ‹_› ‹_›) ?_;rintro e wy ⟨z,hz,rfl,hb⟩;refine⟨_,rfl,hb,?_⟩;have HS:=aA (HS.out.call hb);(try refine nm ?_)
    refine aI rfl rfl (fun x=>bB rfl rfl rfl rfl rfl buildQ (exN ‹_›) (exN ‹_›) (exN ‹_›) (exN ‹_›) x) ?_;(try refine nm ?_)
    refine wpT_late rfl rfl ?_;intro K hK;refine wp_storeR rfl rfl rfl HS.out rowQ (.tail (.tail (.tail (.tail (.tail (.head)))))) E8 E8 ?_;intro wz hS9;have HS:=aA hS9;clear hS9;refine hK _ _ ?_;(try refine nm ?_)
    (refine pT (v:=?_) rfl rfl ?_);(try refine nm ?_)
    refine wpT_nil ?_
    go_wp2_with fail
    refine bodyPost_ret (aB rfl _ _ _ _ _ _ _ rfl (HS.out.heapM Dt) Tryz.underlying132 rfl Dy) rfl ?_
    rw[HF.out]
    exact⟨_,HPT.out _ _ _ _ Df Df Df Df,rfl,HS.out.below⟩
   | true =>
    have hPx2:P.x=0 - x:=by rw[zsub];exact hPx
    by_cases hx0:x=0
    ·have HF:=aA (hF.trans (if_pos ⟨rfl,by rw[hPx2,hx0,zsub,fneg_zero']⟩))
     rw[decide_eq_true hx0] at HSM
     clear hPx hF hPy hx0 hPx2
     go_wp2_with (first|(go_at_call 139;(with_reducible refine(zeroQ _).mono ?_);rintro e wy ⟨z0,hz0,rfl,hb⟩;have HS:=aA (HS.out.call hb))|(refine wl_build0G rfl rfl (HZZ.out).1 ?_;(try refine nm ?_))|(go_at_call 159;(with_reducible refine(HSM.out _).mono ?_);rintro e wy ⟨rfl,hb⟩;have HS:=aA (HS.out.call hb))|(refine wl_loadG rfl rfl rfl HS.out (.head _) rowN (.all E9) ?_;(try refine nm ?_))|(refine wl_storeR rfl rfl rfl rfl HS.out rowQ (.tail (.tail (.tail (.tail (.tail (.head)))))) E8 E8 ?_;intro wz hS9;have HS:=aA hS9;clear hS9;(try refine nm ?_)))
     refine bodyPost_ret (aB rfl _ _ _ _ _ _ _ rfl (HS.out.heapM Dt) Tryz.underlying132 rfl Dy) rfl ?_
     rw[HF.out]
     exact⟨_,hz0,rfl,HS.out.below⟩
    ·have HF:=aA (hF.trans (if_neg (fun h=>hx0 (by have:=h.2;rw[hPx2] at this;grind))))
     rw[decide_eq_false hx0] at HSM
     have HP2:=aA hPx2
     clear hPx hF hPy hx0 hPx2
     go_upto_region 15 with(first|(go_at_call 156;(with_reducible refine(subNA _ hc hx).mono ?_);rintro e wy ⟨zn,hzn,rfl,hb⟩;have HS:=aA (HS.out.call hb))|(refine wl_build0 rfl rfl (HZZ.out).1 ?_;(try refine nm ?_))|(refine wl_build0G rfl rfl (HZZ.out).1 ?_;(try refine nm ?_))|(go_at_call 159;(with_reducible refine(HSM.out _).mono ?_);rintro e wy ⟨rfl,hb⟩;have HS:=aA (HS.out.call hb))|(refine wl_loadG rfl rfl rfl HS.out (.head _) rowN (.all E9) ?_;(try refine nm ?_))|(refine wl_loadP rfl rfl rfl HS.out (.head _) rowN (.all E9) ?_;(try refine nm ?_))|(refine wl_storeR rfl rfl rfl rfl HS.out rowN (.head) E9 E9 ?_;intro wz hS9;have HS:=aA hS9;clear hS9;(try refine nm ?_)))
     rw[←HP2.out] at hzn
     clear hx
     have HS:=aA HS.out.drew
     refine aD [(0,0),(1,0),(3,0),(4,0),(2,2),(5,2),(6,1),(7,3),(8,1)] Bt Bt (fun _ _ _ _ h=>h) ?_
     refine aF rfl rfl rfl rfl HS.out (.head _) rowN (.all E9) ?_;(try refine nm ?_)
     refine aF rfl rfl rfl rfl HS.out (.tail _ (.tail _ (.tail _ (.head _)))) rowN (.all E9) ?_;(try refine nm ?_)
     refine aF rfl rfl rfl rfl HS.out (.head _) rowN (.all E9) ?_;(try refine nm ?_)
     refine aF rfl rfl rfl rfl HS.out (.tail _ (.tail _ (.tail _ (.head _)))) rowN (.all E9) ?_;(try refine nm ?_)
     refine aJ rfl rfl rfl en33_up rfl (smallNA1 _) ?_;rintro e wy ⟨z,hz,rfl,hb⟩;refine⟨_,rfl,hb,?_⟩;have HS:=aA (HS.out.call hb);(try refine nm ?_)
     refine aJ rfl rfl rfl en34_up rfl (bV _ ‹_› ‹_›) ?_;rintro e wy ⟨z,hz,rfl,hb⟩;refine⟨_,rfl,hb,?_⟩;have HS:=aA (HS.out.call hb);(try refine nm ?_)
     refine aI rfl rfl (fun x=>bB rfl rfl rfl rfl rfl buildQ (exN ‹_›) (exN ‹_›) (exN ‹_›) (exN ‹_›) x) ?_;(try refine nm ?_)
     refine wpT_late rfl rfl ?_;intro K hK;refine wp_storeR rfl rfl rfl HS.out rowQ (.tail (.tail (.tail (.tail (.tail (.head)))))) E8 E8 ?_;intro wz hS9;have HS:=aA hS9;clear hS9;refine hK _ _ ?_;(try refine nm ?_)
     (refine pT (v:=?_) rfl rfl ?_);(try refine nm ?_)
     refine wpT_nil ?_
     go_wp2_with fail
     refine bodyPost_ret (aB rfl _ _ _ _ _ _ _ rfl (HS.out.heapM Dt) Tryz.underlying132 rfl Dy) rfl ?_
     rw[HF.out]
     exact⟨_,HPT.out _ _ _ _ Df Df Df Df,rfl,HS.out.below⟩
 ·have qc1:(leB 32 (fbytes (lowL l)).val==lowL l)=false:=by simp[hcan]
  have qc2:(leB 32 (fbytes (lowL l)).val !=lowL l)=true:=by rw[bne,qc1];rfl
  have hF:pageL l=none:=by unfold pageL;rw[if_pos HL.out,if_neg hcan]
  have HFK:=aA hF
  clear hcan hF
  (refine pT (v:=?_) rfl rfl ?_);(try refine nm ?_)
  refine wpT_nil ?_
  clear qc1 qc2 cvc cv2
  go_wp2_with (first|(go_at_call 139;(with_reducible refine(zeroQ _).mono ?_);rintro e wy ⟨z0,hz0,rfl,hb⟩;have HS:=aA (HS.out.call hb))|(refine wl_storeR rfl rfl rfl rfl HS.out rowQ (.tail (.tail (.tail (.head)))) E8 E8 ?_;intro wz hS9;have HS:=aA hS9;clear hS9;(try refine nm ?_)))
  refine bodyPost_ret (aB rfl _ _ _ _ _ _ _ rfl (HS.out.heapM Dt) Tryz.underlying132 rfl Dy) rfl ?_
  rw[HFK.out]
  exact⟨_,hz0,rfl,HS.out.below⟩
theorem mulV_far (l:List UInt8)(j:Nat)(h:l.length≤j/8):mulV l/2^j=0:=by
 unfold mulV
 have h1:=bval_lt (l.take 32)
 refine Nat.div_eq_of_lt (Nat.lt_of_lt_of_le h1 ?_)
 rw[show(256:Nat)=2^8 from rfl,←Nat.pow_mul]
 exact Nat.pow_le_pow_right Bz Cm
theorem timesQ {v:Array Value}{P:Ed}(A:Option Addr)(n c:Nat)(l:List UInt8)(w:World)(hv:QtN v P)(hl:l.length=n)(hn:n≤1000)(hr:Rd w (.slice A n c) 1 n (bvs l)) :
  Calls Tryz.prog 100 #[.agg v,.slice A n c] w (ResQ w (tmE P (mulV l))):=by
 have HM:=aA (show mulV l<2^256 by
  unfold mulV
  have h1:=bval_lt (l.take 32)
  refine Nat.lt_of_lt_of_le h1 ?_
  rw[show(256:Nat)=2^8 from rfl,←Nat.pow_mul]
  exact Nat.pow_le_pow_right Bz Cm)
 have HBIT:=aA (fun(j:Nat) (c:UInt8) (hc:l[j/8]?=some c) (hj:j<256)=>show c.toNat/2^(j%8)%2=mulV l/2^j%2 from by
  have h:(l.take 32)[j/8]?=some c:=by rw[List.getElem?_take_of_lt An];exact hc
  have:=bval_bit (l.take 32) h (Nat.mod_lt j Bz)
  rwa [Nat.div_add_mod] at this)
 have HFAR:=aA (fun(j:Nat) (h:n≤j/8)=>mulV_far l j An)
 have HR:=aA hr
 have HL:=aA hl
 generalize mulV l=V at *
 have HS:=aA (St.init w NoB)
 clear hr hl
 go_enter Tryz.func100,Tryz.ntmps100
 go_wp2_with (first|(go_at_call 139;(with_reducible refine(zeroQ _).mono ?_);rintro e wy ⟨z,hz,rfl,hb⟩;have HS:=aA (HS.out.call hb);clear hb)|(have _q:=hz;refine wl_allocR rfl rfl HS.out newQ ?_;intro gz wz hS9;have HS:=aA hS9;clear hS9;(try refine nm ?_))|(refine wl_allocR rfl rfl HS.out newQ ?_;intro gR wz hS9;have HS:=aA hS9;clear hS9;(try refine nm ?_))|(refine wl_boxR rfl rfl rfl HS.out ?_;intro gP wz hS9;have HS:=aA hS9;clear hS9;(try refine nm ?_))|(refine wl_loadP rfl rfl rfl HS.out Dt Du Fo ?_;(try refine nm ?_))|(refine wl_storeR rfl rfl rfl rfl HS.out Du Dw Dv Dv ?_;intro wz hS9;have HS:=aA hS9;clear hS9;(try refine nm ?_))|(refine wl_allocR rfl rfl HS.out Dx ?_;intro gz wz hS9;have HS:=aA hS9;clear hS9;(try refine nm ?_))|(refine wl_boxR rfl rfl rfl HS.out ?_;intro gz wz hS9;have HS:=aA hS9;clear hS9;(try refine nm ?_)))
 go_loopw [6] (fun iv wr=>∃(j:Nat) (u:Array Value),j≤256∧iv=.int .i64 ((j:Int) - 1)∧Hid (QtN u (tmE P (V/2^j)))∧Hid (St w NoB wr [.cells gz u 132,.cells gR zQ 132,.cells gP v 132])) (fun iv _=>(1+intOf iv).toNat)
 case atStart =>
  refine⟨256,z,An,rfl,aA ?_,HS⟩
  rw[Nat.div_eq_of_lt HM.out]
  exact hz
 case round =>
  clear HS hz
  obtain⟨j,u,hj,rfl,HU,HS⟩:=hrel
  cases j with
  | zero =>
   have e0:((0:Nat):Int) - 1=-1:=An
   simp only[e0]
   have hu:=HU.out
   go_wp2_with (first|(refine wl_loadP rfl rfl rfl HS.out Dt Du Fo ?_;(try refine nm ?_))|(refine wl_storeR rfl rfl rfl rfl HS.out Du Dw Dv Dv ?_;intro wz hS9;have HS:=aA hS9;clear hS9;(try refine nm ?_))|(refine wl_allocR rfl rfl HS.out Dx ?_;intro gz wz hS9;have HS:=aA hS9;clear hS9;(try refine nm ?_))|(refine wl_boxR rfl rfl rfl HS.out ?_;intro gz wz hS9;have HS:=aA hS9;clear hS9;(try refine nm ?_)))
   refine bodyPost_ret (results_cell_row rfl _ _ _ _ _ _ _ rfl (HS.out.heapM Dt) Tryz.underlying132 rfl Dy) rfl ?_
   rw[Nat.pow_zero,Nat.div_one] at hu
   exact⟨_,hu,rfl,HS.out.below⟩
  | succ j =>
   have e1:(((j+1:Nat):Int) - 1)=(j:Int):=An
   simp only[e1]
   have di:decide ((0:Int)≤(j:Int))=true:=B0
   have j256:(j:Int)<256:=An
   obtain⟨q,hq⟩:∃q,q=j/8:=⟨_,rfl⟩
   obtain⟨r,hrr⟩:∃r,r=j%8:=⟨_,rfl⟩
   have tq:(j:Int).tdiv 8=(q:Int):=Fi
   have tr:(j:Int).tmod 8=(r:Int):=Fj
   have q32:(q:Int)<32:=An
   have r8:(r:Int)<8:=An
   have hu:=HU.out
   have HSTEP:=aA (tmE_bit P V j)
   have HJ:=aA hj
   clear e1 hj
   by_cases hqn:q<n
   ·have dq:decide ((q:Int)<(n:Int))=true:=by simp;omega
    have qn:(q:Int)<(n:Int):=An
    obtain⟨cb,hxb⟩:∃cb,l[q]?=some cb:=⟨l[q]'Ca,gE _⟩
    obtain⟨b,o,rfl,hcb⟩:=rd_at' HR.out (bE hxb)
    have hbl:=World.block_lt_of_cell? _ _ hcb
    obtain⟨ch,hch⟩:∃c:Nat,c=cb.toNat:=⟨_,rfl⟩
    have hbit:=HBIT.out j cb (by rw[←hq];exact hxb) An
    have hc8:ch<256:=Eb
    rw[←hch] at hcb hbit
    rw[←hrr] at hbit
    have HB:=aA (fun W (h:Below w.heap.size w W)=>(h.cell (p:=⟨b,o+q,none⟩) hbl).trans hcb)
    obtain⟨bt,hbt⟩:∃t,t=ch/2^r%2:=⟨_,rfl⟩
    obtain⟨cs,hcs⟩:∃t,t=ch/2^r:=⟨_,rfl⟩
    have s1:(ch:Int)/2^r=(cs:Int):=Eh
    have cs8':cs<256:=Ei
    have cs8:(cs:Int)<256:=An
    have s2:bits .and .u8 (cs:Int) 1=(bt:Int):=by rw[u8_and1 _ cs8',hbt,←hcs]
    rw[←hbt] at hbit
    rw[←hbit] at HSTEP
    clear hbt hcs hbit cs8' hxb hch hcb hbl hq hrr hqn
    by_cases hb1:bt=1
    ·subst hb1
     rw[if_pos rfl] at HSTEP
     go_wp2_with (first|(go_at_call 118;(with_reducible refine(plusQ _ hu2 hv).mono ?_);rintro e wy ⟨zhu3,hu3,rfl,hb⟩;have HS:=aA (HS.out.call hb);clear hb)|(go_at_call 118;(with_reducible refine(plusQ _ hu hu).mono ?_);rintro e wy ⟨zhu2,hu2,rfl,hb⟩;have HS:=aA (HS.out.call hb);clear hb)|(refine wl_storeR rfl rfl rfl rfl HS.out rowQ .head (QtN.arr hu2) (QtN.arr hu3) ?_;intro wz hS9;have HS:=aA hS9;have hq9:=HB.out _ hS9.below;clear hS9;(try refine nm ?_))|(refine wl_storeR rfl rfl rfl rfl HS.out rowQ .head (QtN.arr hu) (QtN.arr hu2) ?_;intro wz hS9;have HS:=aA hS9;have hq9:=HB.out _ hS9.below;clear hS9;(try refine nm ?_))|(refine wl_loadP rfl rfl rfl HS.out (.tail _ (.tail _ (.head _))) rowQ (.all (QtN.arr hv)) ?_;(try refine nm ?_))|(refine wl_loadP rfl rfl rfl HS.out (.head _) rowQ (.all (QtN.arr hu2)) ?_;(try refine nm ?_))|(refine wl_loadP rfl rfl rfl HS.out (.head _) rowQ (.all (QtN.arr hu)) ?_;(try refine nm ?_)))
     go_roundw
     case rel=>exact⟨j,_,Eg,Ef,aA Ee,HS⟩
     case measure=>(simp[intOf])<;>omega
    ·have b0:(((bt:Nat):Int)==1)=false:=by simp;omega
     have b0':(bt==1)=false:=A9
     have b0d:decide (((bt:Nat):Int)=1)=false:=A9
     rw[if_neg hb1] at HSTEP
     clear hb1
     go_wp2_with (first|(go_at_call 118;(with_reducible refine(plusQ _ hu hu).mono ?_);rintro e wy ⟨zhu2,hu2,rfl,hb⟩;have HS:=aA (HS.out.call hb);clear hb)|(refine wl_storeR rfl rfl rfl rfl HS.out rowQ .head (QtN.arr hu) (QtN.arr hu2) ?_;intro wz hS9;have HS:=aA hS9;have hq9:=HB.out _ hS9.below;clear hS9;(try refine nm ?_))|(refine wl_loadP rfl rfl rfl HS.out (.head _) rowQ (.all (QtN.arr hu2)) ?_;(try refine nm ?_))|(refine wl_loadP rfl rfl rfl HS.out (.head _) rowQ (.all (QtN.arr hu)) ?_;(try refine nm ?_)))
     go_roundw
     case rel=>exact⟨j,_,Eg,Ef,aA Ee,HS⟩
     case measure=>(simp[intOf])<;>omega
   ·have dq:decide ((q:Int)<(n:Int))=false:=by simp;omega
    have dq2:decide (q<n)=false:=A9
    have nq:¬(q:Int)<(n:Int):=An
    have hfar:=HFAR.out j An
    have HSTEP:=aA (HSTEP.out.trans (if_neg (by rw[hfar];decide)))
    clear hq hrr hqn hfar
    go_wp2_with (first|(go_at_call 118;(with_reducible refine(plusQ _ hu hu).mono ?_);rintro e wy ⟨zhu2,hu2,rfl,hb⟩;have HS:=aA (HS.out.call hb);clear hb)|(refine wl_storeR rfl rfl rfl rfl HS.out rowQ .head (QtN.arr hu) (QtN.arr hu2) ?_;intro wz hS9;have HS:=aA hS9;clear hS9;(try refine nm ?_))|(refine wl_loadP rfl rfl rfl HS.out (.head _) rowQ (.all (QtN.arr hu2)) ?_;(try refine nm ?_))|(refine wl_loadP rfl rfl rfl HS.out (.head _) rowQ (.all (QtN.arr hu)) ?_;(try refine nm ?_)))
    go_roundw
    case rel=>exact⟨j,_,Eg,Ef,aA Ee,HS⟩
    case measure=>(simp[intOf])<;>omega
theorem unpack_any {A:Option Addr}{n c:Nat}{l:List UInt8}(w:World)(hl:l.length=n)(hr:Rd w (.slice A n c) 1 n (bvs l)):Calls Tryz.prog 117 #[.slice A n c] w (ResG w (cB l)):=by
 rw[from_page]
 by_cases h:n=32
 ·subst h
  exact unpack_32 w hl hr
 ·exact unpack_no w hl h
theorem packQ32 {v:Array Value}{P:Ed}(w:World)(hv:QtN v P):Calls Tryz.prog 99 #[.agg v] w fun e w'=>∃A c,e=.returned (.slice A 32 c)∧Below w.heap.size w w'∧w'.ownsRow w.heap.size 5 1 (.slice A 32 c) 32 (bvs (packL P)):=
 (packQ w hv).mono fun e w' h=>by
  unfold iI at h
  rw[dV] at h
  exact h
theorem unpack_none {A:Option Addr}{n c:Nat}{l:List UInt8}(w:World)(h:cB l=none)(hl:l.length=n)(hr:Rd w (.slice A n c) 1 n (bvs l)):Calls Tryz.prog 117 #[.slice A n c] w fun e w'=>∃v,QtN v .zero∧e=.returned (.tuple #[.agg v,.bool false])∧Below w.heap.size w w':=by
 have:=unpack_any w hl hr
 rw[h] at this
 exact this
theorem unpack_some {A:Option Addr}{n c:Nat}{l:List UInt8}{P:Ed}(w:World)(h:cB l=some P)(hl:l.length=n)(hr:Rd w (.slice A n c) 1 n (bvs l)):Calls Tryz.prog 117 #[.slice A n c] w fun e w'=>∃v,QtN v P∧e=.returned (.tuple #[.agg v,.bool true])∧Below w.heap.size w w':=by
 have:=unpack_any w hl hr
 rw[h] at this
 exact this
def ob (c:Nat):Nat:=if c<128 then c+128 else c
end Go.Proofs.YtnohmgpmmhlloaaGreatDoor
