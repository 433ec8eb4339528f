/-
 Joined of texts of mine,in build order: Bh,Bi,Bj,Bn,Bo,Sa,Sb,Sc. Each says what it proves at its own head.
-/
import Derived.Test.YtnohmgpmmhlloaaGreatDoorRows
import Derived.Laws.Bits64b
import Derived.Laws.Externs
import Derived.Deep.DeepCutAuto
import Derived.Deep.LoopGhost
import Derived.Test.YtnohmgpmmhlloaaGreatDoorYe
set_option linter.unusedSimpArgs false
set_option linter.unusedVariables false
set_option maxRecDepth 100000
set_option maxHeartbeats 25600000
namespace Go.Proofs.YtnohmgpmmhlloaaGreatDoor
open Go.RowKit
structure PtN (v:Array Value)(P:Ed):Prop where
 ex:∃A a b c d,v=fS a b c d∧EA a A.X∧EA b A.Y∧EA c A.Z∧EA d A.T∧Rp A P
structure PtV (v:Array Value)(P:Ed):Prop where
 ex:∃A a b c d,v=fS a b c d∧EA a A.X∧EA b A.Y∧EA c A.Z∧EA d A.T∧(Rp A P∨(A.Z=0∧P=.zero))
theorem PtN.v {v:Array Value}{P:Ed}(h:PtN v P):PtV v P:=by
 obtain⟨A,a,b,c,d,h1,h2,h3,h4,h5,h6⟩:=h.ex
 exact⟨A,a,b,c,d,h1,h2,h3,h4,h5,.inl h6⟩
theorem PtV.arr {v:Array Value}{P:Ed}(h:PtV v P):Arr 20 v:=by
 obtain⟨A,a,b,c,d,rfl,h2,h3,h4,h5,_⟩:=h.ex
 exact quad_arr h2.arr h3.arr h4.arr h5.arr rfl
theorem PtN.arr {v:Array Value}{P:Ed}(h:PtN v P):Arr 20 v:=h.v.arr
def ResV (w:World)(P:Ed)(e:Ending)(w':World):Prop:=∃v,PtN v P∧e=.returned (.agg v)∧Below w.heap.size w w'
theorem ResP.v {w:World}{A:Pj}{P:Ed}{e:Ending}{w':World}(h:ResP w A e w')(hr:Rp A P):ResV w P e w':=by
 obtain⟨a,b,c,d,h1,h2,h3,h4,h5,h6⟩:=h
 exact⟨_,⟨A,a,b,c,d,rfl,h1,h2,h3,h4,hr⟩,h5,h6⟩
theorem plusP {u v k:Array Value}{P Q:Ed}(w:World)(hu:PtN u P)(hv:PtN v Q)(hk:EA k dF):Calls Tryz.prog 80 #[.agg u,.agg v,.agg k] w (ResV w (P.add Q)):=by
 obtain⟨⟨X,Y,Z,T⟩,a,b,c,d,rfl,h1,h2,h3,h4,h5⟩:=hu.ex
 obtain⟨⟨X',Y',Z',T'⟩,a',b',c',d',rfl,g1,g2,g3,g4,g5⟩:=hv.ex
 exact(plus_any w h1 h2 h3 h4 g1 g2 g3 g4 hk).mono fun e w' h=>h.v (rp_plus h5 g5)
theorem zeroP (w:World):Calls Tryz.prog 81 #[] w (ResV w .zero):=by
 have hz0:=ea_zero
 have HS:=aA (St.init w NoB)
 go_enter Tryz.func81,Tryz.ntmps81
 go_wp2_with (first|(go_at_call 89;(with_reducible refine(small1A _).mono ?_);rintro e wy ⟨z,hz,rfl,hb⟩;try have HS:=aA (HS.out.call hb))|(go_at_call 77;(with_reducible refine(at_any _ Df Df).mono ?_);rintro e wy ⟨qa,qb,qc,qd,hqa,hqb,hqc,hqd,rfl,hb⟩;have HS:=aA (HS.out.call hb))|(refine wl_loadP rfl rfl rfl HS.out Dt Du Fo ?_;(try refine nm ?_))|(refine wl_storeR rfl rfl rfl rfl HS.out Du Dw Dv Dv ?_;intro wz hS9;have HS:=aA hS9;clear hS9;(try refine nm ?_))|(refine wl_allocR rfl rfl HS.out Dx ?_;intro gz wz hS9;have HS:=aA hS9;clear hS9;(try refine nm ?_))|(refine wl_boxR rfl rfl rfl HS.out ?_;intro gz wz hS9;have HS:=aA hS9;clear hS9;(try refine nm ?_)))
 refine bodyPost_ret (results_cell_row rfl _ _ _ _ _ _ _ rfl (HS.out.heapM Dt) Tryz.underlying63 rfl Dy) rfl ?_
 exact⟨_,⟨⟨_,_,_,_⟩,_,_,_,_,rfl,hqa,hqb,hqc,hqd,by rw[show((0:FK)*1)=0 from fl8 0];exact rp_zero⟩,rfl,HS.out.below⟩
theorem baseP (w:World):Calls Tryz.prog 35 #[] w (ResV w Bp):=by
 have HS:=aA (St.init w NoB)
 go_enter Tryz.func35,Tryz.ntmps35
 go_wp2_with (first|(go_at_call 78;(with_reducible refine(numX _).mono ?_);rintro e wy ⟨z,hz,rfl,hb⟩;try have HS:=aA (HS.out.call hb))|(go_at_call 78;(with_reducible refine(numY _).mono ?_);rintro e wy ⟨z,hz,rfl,hb⟩;try have HS:=aA (HS.out.call hb))|(go_at_call 77;(with_reducible refine(at_any _ Df Df).mono ?_);rintro e wy ⟨qa,qb,qc,qd,hqa,hqb,hqc,hqd,rfl,hb⟩;have HS:=aA (HS.out.call hb))|(refine wl_loadP rfl rfl rfl HS.out Dt Du Fo ?_;(try refine nm ?_))|(refine wl_storeR rfl rfl rfl rfl HS.out Du Dw Dv Dv ?_;intro wz hS9;have HS:=aA hS9;clear hS9;(try refine nm ?_))|(refine wl_allocR rfl rfl HS.out Dx ?_;intro gz wz hS9;have HS:=aA hS9;clear hS9;(try refine nm ?_))|(refine wl_boxR rfl rfl rfl HS.out ?_;intro gz wz hS9;have HS:=aA hS9;clear hS9;(try refine nm ?_)))
 refine bodyPost_ret (results_cell_row rfl _ _ _ _ _ _ _ rfl (HS.out.heapM Dt) Tryz.underlying63 rfl Dy) rfl ?_
 exact⟨_,⟨⟨_,_,_,_⟩,_,_,_,_,rfl,hqa,hqb,hqc,hqd,rp_of Bp⟩,rfl,HS.out.below⟩
theorem iJ {v:Array Value}{P:Ed}(w:World)(hv:PtV v P):Calls Tryz.prog 79 #[.agg v] w (ResV w P):=by
 have hN:=hv
 obtain⟨⟨X,Y,Z,T⟩,a,b,c,d,rfl,h1,h2,h3,h4,h5⟩:=hv.ex
 have HS:=aA (St.init w NoB)
 have HZ:=aA (fun W=>zeroP W)
 by_cases hz:Z=0
 ·have hP:P=.zero:=by
   rcases h5 with h|h
   ·exact absurd hz h.z
   ·exact h.2
  subst hP
  have HC:=aA (fun W=>zeroA W h3)
  rw[decide_eq_true hz] at HC
  clear h5 hz
  go_enter Tryz.func79,Tryz.ntmps79
  go_wp2_with (first|(go_at_call 121;(with_reducible refine(HC.out _).mono ?_);rintro e wy ⟨rfl,hb⟩;have HS:=aA (HS.out.call hb))|(go_at_call 81;(with_reducible refine(HZ.out _).mono ?_);rintro e wy ⟨z,hz,rfl,hb⟩;try have HS:=aA (HS.out.call hb))|(refine wl_loadP rfl rfl rfl HS.out Dt Du Fo ?_;(try refine nm ?_))|(refine wl_storeR rfl rfl rfl rfl HS.out Du Dw Dv Dv ?_;intro wz hS9;have HS:=aA hS9;clear hS9;(try refine nm ?_))|(refine wl_allocR rfl rfl HS.out Dx ?_;intro gz wz hS9;have HS:=aA hS9;clear hS9;(try refine nm ?_))|(refine wl_boxR rfl rfl rfl HS.out ?_;intro gz wz hS9;have HS:=aA hS9;clear hS9;(try refine nm ?_)))
  refine bodyPost_ret (results_cell_row rfl _ _ _ _ _ _ _ rfl (HS.out.heapM Dt) Tryz.underlying63 rfl Dy) rfl ?_
  exact⟨_,Df,rfl,HS.out.below⟩
 ·have hr:Rp ⟨X,Y,Z,T⟩ P:=by
   rcases h5 with h|h
   ·exact h
   ·exact absurd h.1 hz
  have HC:=aA (fun W=>zeroA W h3)
  rw[decide_eq_false hz] at HC
  clear h5
  go_enter Tryz.func79,Tryz.ntmps79
  go_wp2_with (first|(go_at_call 121;(with_reducible refine(HC.out _).mono ?_);rintro e wy ⟨rfl,hb⟩;have HS:=aA (HS.out.call hb))|(refine wl_loadP rfl rfl rfl HS.out Dt Du Fo ?_;(try refine nm ?_))|(refine wl_storeR rfl rfl rfl rfl HS.out Du Dw Dv Dv ?_;intro wz hS9;have HS:=aA hS9;clear hS9;(try refine nm ?_))|(refine wl_allocR rfl rfl HS.out Dx ?_;intro gz wz hS9;have HS:=aA hS9;clear hS9;(try refine nm ?_))|(refine wl_boxR rfl rfl rfl HS.out ?_;intro gz wz hS9;have HS:=aA hS9;clear hS9;(try refine nm ?_)))
  refine bodyPost_ret (results_cell_row rfl _ _ _ _ _ _ _ rfl (HS.out.heapM Dt) Tryz.underlying63 rfl Dy) rfl ?_
  exact⟨_,⟨⟨X,Y,Z,T⟩,_,_,_,_,rfl,h1,h2,h3,h4,hr⟩,rfl,HS.out.below⟩
theorem enWh (args:Array Value)(w:World):(callFunc 79 args).run Tryz.prog w=.ok (.enter 79 args) w:=Bt
theorem en29_ad (args:Array Value)(w:World):(callFunc 78 args).run Tryz.prog w=.ok (.enter 78 args) w:=Bt
theorem en31_ad (args:Array Value)(w:World):(callFunc 80 args).run Tryz.prog w=.ok (.enter 80 args) w:=Bt
theorem en45_ng (args:Array Value)(w:World):(callFunc 91 args).run Tryz.prog w=.ok (.enter 91 args) w:=Bt
theorem addP {u v:Array Value}{P Q:Ed}(w:World)(hu:PtV u P)(hv:PtV v Q):Calls Tryz.prog 41 #[.agg u,.agg v] w (ResV w (P.add Q)):=by
 have HS:=aA (St.init w NoB)
 go_enter Tryz.func41,Tryz.ntmps41
 go_wp2_with (first|(refine wl_loadP rfl rfl rfl HS.out Dt Du Fo ?_;(try refine nm ?_))|(refine wl_storeR rfl rfl rfl rfl HS.out Du Dw Dv Dv ?_;intro wz hS9;have HS:=aA hS9;clear hS9;(try refine nm ?_))|(refine wl_allocR rfl rfl HS.out Dx ?_;intro gz wz hS9;have HS:=aA hS9;clear hS9;(try refine nm ?_))|(refine wl_boxR rfl rfl rfl HS.out ?_;intro gz wz hS9;have HS:=aA hS9;clear hS9;(try refine nm ?_)))
 have HS:=aA HS.out.drew
 have HX:=aA (aC.refl wz.drew)
 refine fZ (.two 0 2 (.two 1 2 (.op 2 2 (.op 3 2 (.op 4 3 (.op 5 4 (.nil))))) (.op 1 2 (.op 3 2 (.op 4 3 (.op 5 4 (.nil)))))) (.op 0 2 (.op 1 2 (.op 3 2 (.op 4 3 (.op 5 4 (.nil))))))) Bt Bt (fun _ _ _ _ h=>h) ?_
 refine wpS_two ?_ ?_
 ·refine aQ rfl rfl ?_;intro K hK;refine wp_loadP rfl rfl HS.out (.tail _ (.tail _ (.head _))) (.all Dv) rowP ?_;refine hK _ _ (aE HX.out ?_);(try refine nm ?_)
  refine wpS_two ?_ ?_
  ·refine aQ rfl rfl ?_;intro K hK;refine bG rfl enWh rfl (iJ _ Df) ?_;rintro e wy ⟨z,hz,rfl,hb⟩;refine⟨_,rfl,?_⟩;have HS:=aA (HS.out.call hb);have HX:=aA (HX.out.trans (hb.mono HX.out.size));refine hK _ _ (aE HX.out ?_);(try refine nm ?_)
   refine aQ rfl rfl ?_;intro K hK;refine wp_loadP rfl rfl HS.out (.tail _ (.head _)) (.all Dv) rowP ?_;refine hK _ _ (aE HX.out ?_);(try refine nm ?_)
   refine aQ rfl rfl ?_;intro K hK;refine bG rfl enWh rfl (iJ _ Df) ?_;rintro e wy ⟨z,hz,rfl,hb⟩;refine⟨_,rfl,?_⟩;have HS:=aA (HS.out.call hb);have HX:=aA (HX.out.trans (hb.mono HX.out.size));refine hK _ _ (aE HX.out ?_);(try refine nm ?_)
   refine wpS_late rfl rfl ?_;intro K hK;refine wp_storeR rfl rfl rfl HS.out rowP (.tail (.tail (.head))) Dv Dv ?_;intro wz hS9;have HS:=aA hS9;clear hS9;refine hK _ _ ?_;(try refine nm ?_)
   refine wpS_any rfl rfl ?_;intro K hK;refine wp_storeR rfl rfl rfl HS.out rowP (.tail (.head)) Dv Dv ?_;intro wz hS9;have HS:=aA hS9;clear hS9;refine hK _ _ ?_;(try refine nm ?_)
   refine bC ?_
   go_wp2_with fail
   have HS:=aA HS.out.drew
   refine aD [(0,0),(1,0),(2,2),(3,2),(4,3)] Bt Bt (fun _ _ _ _ h=>h) ?_
   refine aF rfl rfl rfl rfl HS.out (.tail _ (.tail _ (.head _))) rowP (.all D3) ?_;(try refine nm ?_)
   refine aF rfl rfl rfl rfl HS.out (.tail _ (.head _)) rowP (.all D3) ?_;(try refine nm ?_)
   refine aJ rfl rfl rfl en29_ad rfl (numD _) ?_;rintro e wy ⟨z,hz,rfl,hb⟩;refine⟨_,rfl,hb,?_⟩;have HS:=aA (HS.out.call hb);(try refine nm ?_)
   refine aJ rfl rfl rfl en31_ad rfl (plusP _ Df Df Df) ?_;rintro e wy ⟨z,hz,rfl,hb⟩;refine⟨_,rfl,hb,?_⟩;have HS:=aA (HS.out.call hb);(try refine nm ?_)
   refine wpT_late rfl rfl ?_;intro K hK;refine wp_storeR rfl rfl rfl HS.out rowP (.head) D3 D3 ?_;intro wz hS9;have HS:=aA hS9;clear hS9;refine hK _ _ ?_;(try refine nm ?_)
   refine wpT_nil ?_
   go_wp2_with fail
   refine bodyPost_ret (results_cell_row rfl _ _ _ _ _ _ _ rfl (HS.out.heapM Dt) Tryz.underlying63 rfl Dy) rfl ?_
   exact⟨_,Df,rfl,HS.out.below⟩
  ·refine aQ rfl rfl ?_;intro K hK;refine wp_loadP rfl rfl HS.out (.tail _ (.head _)) (.all Dv) rowP ?_;refine hK _ _ (aE HX.out ?_);(try refine nm ?_)
   refine aQ rfl rfl ?_;intro K hK;refine bG rfl enWh rfl (iJ _ Df) ?_;rintro e wy ⟨z,hz,rfl,hb⟩;refine⟨_,rfl,?_⟩;have HS:=aA (HS.out.call hb);have HX:=aA (HX.out.trans (hb.mono HX.out.size));refine hK _ _ (aE HX.out ?_);(try refine nm ?_)
   refine aQ rfl rfl ?_;intro K hK;refine bG rfl enWh rfl (iJ _ Df) ?_;rintro e wy ⟨z,hz,rfl,hb⟩;refine⟨_,rfl,?_⟩;have HS:=aA (HS.out.call hb);have HX:=aA (HX.out.trans (hb.mono HX.out.size));refine hK _ _ (aE HX.out ?_);(try refine nm ?_)
   refine wpS_late rfl rfl ?_;intro K hK;refine wp_storeR rfl rfl rfl HS.out rowP (.tail (.tail (.head))) Dv Dv ?_;intro wz hS9;have HS:=aA hS9;clear hS9;refine hK _ _ ?_;(try refine nm ?_)
   refine wpS_any rfl rfl ?_;intro K hK;refine wp_storeR rfl rfl rfl HS.out rowP (.tail (.head)) Dv Dv ?_;intro wz hS9;have HS:=aA hS9;clear hS9;refine hK _ _ ?_;(try refine nm ?_)
   refine bC ?_
   go_wp2_with fail
   have HS:=aA HS.out.drew
   refine aD [(0,0),(1,0),(2,2),(3,2),(4,3)] Bt Bt (fun _ _ _ _ h=>h) ?_
   refine aF rfl rfl rfl rfl HS.out (.tail _ (.tail _ (.head _))) rowP (.all D3) ?_;(try refine nm ?_)
   refine aF rfl rfl rfl rfl HS.out (.tail _ (.head _)) rowP (.all D3) ?_;(try refine nm ?_)
   refine aJ rfl rfl rfl en29_ad rfl (numD _) ?_;rintro e wy ⟨z,hz,rfl,hb⟩;refine⟨_,rfl,hb,?_⟩;have HS:=aA (HS.out.call hb);(try refine nm ?_)
   refine aJ rfl rfl rfl en31_ad rfl (plusP _ Df Df Df) ?_;rintro e wy ⟨z,hz,rfl,hb⟩;refine⟨_,rfl,hb,?_⟩;have HS:=aA (HS.out.call hb);(try refine nm ?_)
   refine wpT_late rfl rfl ?_;intro K hK;refine wp_storeR rfl rfl rfl HS.out rowP (.head) D3 D3 ?_;intro wz hS9;have HS:=aA hS9;clear hS9;refine hK _ _ ?_;(try refine nm ?_)
   refine wpT_nil ?_
   go_wp2_with fail
   refine bodyPost_ret (results_cell_row rfl _ _ _ _ _ _ _ rfl (HS.out.heapM Dt) Tryz.underlying63 rfl Dy) rfl ?_
   exact⟨_,Df,rfl,HS.out.below⟩
 ·refine aQ rfl rfl ?_;intro K hK;refine wp_loadP rfl rfl HS.out (.tail _ (.head _)) (.all Dv) rowP ?_;refine hK _ _ (aE HX.out ?_);(try refine nm ?_)
  refine aQ rfl rfl ?_;intro K hK;refine wp_loadP rfl rfl HS.out (.tail _ (.tail _ (.head _))) (.all Dv) rowP ?_;refine hK _ _ (aE HX.out ?_);(try refine nm ?_)
  refine aQ rfl rfl ?_;intro K hK;refine bG rfl enWh rfl (iJ _ Df) ?_;rintro e wy ⟨z,hz,rfl,hb⟩;refine⟨_,rfl,?_⟩;have HS:=aA (HS.out.call hb);have HX:=aA (HX.out.trans (hb.mono HX.out.size));refine hK _ _ (aE HX.out ?_);(try refine nm ?_)
  refine aQ rfl rfl ?_;intro K hK;refine bG rfl enWh rfl (iJ _ Df) ?_;rintro e wy ⟨z,hz,rfl,hb⟩;refine⟨_,rfl,?_⟩;have HS:=aA (HS.out.call hb);have HX:=aA (HX.out.trans (hb.mono HX.out.size));refine hK _ _ (aE HX.out ?_);(try refine nm ?_)
  refine wpS_late rfl rfl ?_;intro K hK;refine wp_storeR rfl rfl rfl HS.out rowP (.tail (.tail (.head))) Dv Dv ?_;intro wz hS9;have HS:=aA hS9;clear hS9;refine hK _ _ ?_;(try refine nm ?_)
  refine wpS_any rfl rfl ?_;intro K hK;refine wp_storeR rfl rfl rfl HS.out rowP (.tail (.head)) Dv Dv ?_;intro wz hS9;have HS:=aA hS9;clear hS9;refine hK _ _ ?_;(try refine nm ?_)
  refine bC ?_
  go_wp2_with fail
  have HS:=aA HS.out.drew
  refine aD [(0,0),(1,0),(2,2),(3,2),(4,3)] Bt Bt (fun _ _ _ _ h=>h) ?_
  refine aF rfl rfl rfl rfl HS.out (.tail _ (.tail _ (.head _))) rowP (.all D3) ?_;(try refine nm ?_)
  refine aF rfl rfl rfl rfl HS.out (.tail _ (.head _)) rowP (.all D3) ?_;(try refine nm ?_)
  refine aJ rfl rfl rfl en29_ad rfl (numD _) ?_;rintro e wy ⟨z,hz,rfl,hb⟩;refine⟨_,rfl,hb,?_⟩;have HS:=aA (HS.out.call hb);(try refine nm ?_)
  refine aJ rfl rfl rfl en31_ad rfl (plusP _ Df Df Df) ?_;rintro e wy ⟨z,hz,rfl,hb⟩;refine⟨_,rfl,hb,?_⟩;have HS:=aA (HS.out.call hb);(try refine nm ?_)
  refine wpT_late rfl rfl ?_;intro K hK;refine wp_storeR rfl rfl rfl HS.out rowP (.head) D3 D3 ?_;intro wz hS9;have HS:=aA hS9;clear hS9;refine hK _ _ ?_;(try refine nm ?_)
  refine wpT_nil ?_
  go_wp2_with fail
  refine bodyPost_ret (results_cell_row rfl _ _ _ _ _ _ _ rfl (HS.out.heapM Dt) Tryz.underlying63 rfl Dy) rfl ?_
  exact⟨_,Df,rfl,HS.out.below⟩
theorem negP {v:Array Value}{P:Ed}(w:World)(hv:PtV v P):Calls Tryz.prog 42 #[.agg v] w (ResV w P.neg):=by
 have HS:=aA (St.init w NoB)
 go_enter Tryz.func42,Tryz.ntmps42
 go_wp2_with (first|(go_at_call 79;(with_reducible refine(iJ _ Df).mono ?_);rintro e wy ⟨v2,hv2,rfl,hb⟩;obtain⟨⟨X,Y,Z,T⟩,a,b,c,d,rfl,h1,h2,h3,h4,h5⟩:=hv2.ex;have HS:=aA (HS.out.call hb))|(refine wl_loadP rfl rfl rfl HS.out Dt Du Fo ?_;(try refine nm ?_))|(refine wl_storeR rfl rfl rfl rfl HS.out Du Dw Dv Dv ?_;intro wz hS9;have HS:=aA hS9;clear hS9;(try refine nm ?_))|(refine wl_allocR rfl rfl HS.out Dx ?_;intro gz wz hS9;have HS:=aA hS9;clear hS9;(try refine nm ?_))|(refine wl_boxR rfl rfl rfl HS.out ?_;intro gz wz hS9;have HS:=aA hS9;clear hS9;(try refine nm ?_)))
 have HS:=aA HS.out.drew
 refine aD [(0,1),(1,0),(3,1),(4,0),(5,1),(6,0),(7,1),(8,0),(2,2),(9,2),(10,1),(11,3)] Bt Bt (fun _ _ _ _ h=>h) ?_
 (refine pT (v:=?_) rfl rfl ?_);(try refine nm ?_)
 refine aF rfl rfl rfl rfl HS.out (.tail _ (.head _)) rowE (.q0 (EA.arr ‹_›)) ?_;(try refine nm ?_)
 (refine pT (v:=?_) rfl rfl ?_);(try refine nm ?_)
 refine aF rfl rfl rfl rfl HS.out (.tail _ (.head _)) rowE (.q1 (EA.arr ‹_›) (EA.arr ‹_›)) ?_;(try refine nm ?_)
 (refine pT (v:=?_) rfl rfl ?_);(try refine nm ?_)
 refine aF rfl rfl rfl rfl HS.out (.tail _ (.head _)) rowE (.q2 (EA.arr ‹_›) (EA.arr ‹_›) (EA.arr ‹_›)) ?_;(try refine nm ?_)
 (refine pT (v:=?_) rfl rfl ?_);(try refine nm ?_)
 refine aF rfl rfl rfl rfl HS.out (.tail _ (.head _)) rowE (.q3 (EA.arr ‹_›) (EA.arr ‹_›) (EA.arr ‹_›) (EA.arr ‹_›)) ?_;(try refine nm ?_)
 refine aJ rfl rfl rfl en45_ng rfl (negA _ ‹_›) ?_;rintro e wy ⟨z,hz,rfl,hb⟩;refine⟨_,rfl,hb,?_⟩;have HS:=aA (HS.out.call hb);(try refine nm ?_)
 refine aJ rfl rfl rfl en45_ng rfl (negA _ ‹_›) ?_;rintro e wy ⟨z,hz,rfl,hb⟩;refine⟨_,rfl,hb,?_⟩;have HS:=aA (HS.out.call hb);(try refine nm ?_)
 refine aI rfl rfl (fun x=>bB rfl rfl rfl rfl rfl buildP (exE ‹_›) (exE ‹_›) (exE ‹_›) (exE ‹_›) x) ?_;(try refine nm ?_)
 refine wpT_late rfl rfl ?_;intro K hK;refine wp_storeR rfl rfl rfl HS.out rowP (.head) D3 D3 ?_;intro wz hS9;have HS:=aA hS9;clear hS9;refine hK _ _ ?_;(try refine nm ?_)
 refine wpT_nil ?_
 go_wp2_with fail
 refine bodyPost_ret (results_cell_row rfl _ _ _ _ _ _ _ rfl (HS.out.heapM Dt) Tryz.underlying63 rfl Dy) rfl ?_
 exact⟨_,⟨⟨-X,Y,Z,-T⟩,_,_,_,_,rfl,Df,h2,h3,Df,rp_neg h5⟩,rfl,HS.out.below⟩
theorem bval_bit (l:List UInt8){q r:Nat}{c:UInt8}(hc:l[q]?=some c)(hr:r<8):c.toNat/2^r%2=bval l/2^(8*q+r)%2:=by
 have hq:=(List.getElem?_eq_some_iff.1 hc).1
 have h1:bval l=bval (l.take q)+256^q*(c.toNat+256*bval (l.drop (q+1))):=by
  have e:=bval_append (l.take q) (l.drop q)
  rw[List.take_append_drop,List.length_take,Nat.min_eq_left An] at e
  rw[e,List.drop_eq_getElem_cons hq]
  rw[gE hq] at hc
  injection hc with hc
  rw[hc,bval]
 have h2:=bval_lt (l.take q)
 rw[List.length_take,Nat.min_eq_left An] at h2
 have hp:(2:Nat)^(8*q+r)=256^q*2^r:=by rw[Nat.pow_add,Nat.pow_mul]
 rw[hp,←Nat.div_div_eq_div_mul,h1,Nat.add_mul_div_left _ _ (Nat.pos_of_ne_zero An),Nat.div_eq_of_lt h2,Nat.zero_add]
 generalize bval (l.drop (q+1))=R
 generalize c.toNat=C
 match r,hr with
 | 0,_=>omega
 | 1,_=>omega
 | 2,_=>omega
 | 3,_=>omega
 | 4,_=>omega
 | 5,_=>omega
 | 6,_=>omega
 | 7,_=>omega
theorem u8_and1 (n:Nat)(h:n<256):bits .and .u8 (n:Int) 1=((n%2:Nat):Int):=by
 have:∀m:Fin 256,bits .and .u8 (m.val:Int) 1=((m.val%2:Nat):Int):=by decide +kernel
 exact this ⟨n,h⟩
def mulV (l:List UInt8):Nat:=bval (l.take 32)
theorem mulP_any {v:Array Value}{P:Ed}(A:Option Addr)(n c:Nat)(l:List UInt8)(w:World)(hv:PtV v P)(hl:l.length=n)(hn:n≤1000)(hr:Rd w (.slice A n c) 1 n (bvs l)) :
  Calls Tryz.prog 36 #[.agg v,.slice A n c] w (ResV w (tmE P (mulV l))):=by
 obtain⟨m,hm⟩:∃m,m=min n 32:=⟨_,rfl⟩
 have hmi:min (n:Int) 32=(m:Int):=An
 have hmi2:(if (n:Int)≤32 then (n:Int) else 32)=(m:Int):=by split<;>omega
 have hmi3:(if (32:Int)<(n:Int) then (32:Int) else (n:Int))=(m:Int):=by split<;>omega
 have hm32:m≤32:=An
 have hmn:m≤n:=An
 have HM:=aA (show mulV l<256^m by
  unfold mulV
  have:=bval_lt (l.take 32)
  rw[List.length_take,hl] at this
  rw[hm,Nat.min_comm]
  exact this)
 have HBIT:=aA (fun(i k:Nat) (c:UInt8) (hc:l[i]?=some c) (hi:i<m) (hk:k<8)=>show c.toNat/2^k%2=mulV l/2^(8*i+k)%2 from by
  have h:(l.take 32)[i]?=some c:=by rw[List.getElem?_take_of_lt An];exact hc
  exact bval_bit (l.take 32) h hk)
 have HR:=aA hr
 have HL:=aA hl
 generalize mulV l=V at *
 have HS:=aA (St.init w NoB)
 clear hr hl hm
 go_enter Tryz.func36,Tryz.ntmps36
 go_wp2_with (first|(go_at_call 79;(with_reducible refine(iJ _ Df).mono ?_);rintro e wy ⟨z,hz,rfl,hb⟩;try have HS:=aA (HS.out.call hb))|(go_at_call 78;(with_reducible refine(numD _).mono ?_);rintro e wy ⟨z,hz,rfl,hb⟩;try have HS:=aA (HS.out.call hb))|(go_at_call 81;(with_reducible refine(zeroP _).mono ?_);rintro e wy ⟨z,hz,rfl,hb⟩;try have HS:=aA (HS.out.call hb))|(refine wl_loadP rfl rfl rfl HS.out Dt Du Fo ?_;(try refine nm ?_))|(refine wl_storeR rfl rfl rfl rfl HS.out Du Dw Dv Dv ?_;intro wz hS9;have HS:=aA hS9;clear hS9;(try refine nm ?_))|(refine wl_allocR rfl rfl HS.out Dx ?_;intro gz wz hS9;have HS:=aA hS9;clear hS9;(try refine nm ?_))|(refine wl_boxR rfl rfl rfl HS.out ?_;intro gz wz hS9;have HS:=aA hS9;clear hS9;(try refine nm ?_)))
 rename_i HSa gP wa HSb gR wb HSc wc uP huP hbP HSd wd HSe we uD huD hbD HSf gD wf HSg wg HSh HSi wh HSj K1 a1
 clear HSa HSb HSc hbP HSd HSe hbD HSf HSg HSh HSi HSj hb
 go_loopw [8] (fun iv wr=>∃(j:Nat) (u:Array Value),j≤m∧iv=.int .i64 ((j:Int) - 1)∧Hid (PtN u (tmE P (V/2^(8*j))))∧Hid (St w NoB wr [.cells gz u 63,.cells gD uD 61,.cells gR zP 63,.cells gP uP 63])) (fun iv _=>(1+intOf iv).toNat)
 case atStart =>
  refine⟨m,z,An,rfl,aA ?_,HS⟩
  have h:=HM.out
  rw[show(256:Nat)^m=2^(8*m) from by rw[Nat.pow_mul]] at h
  rw[Nat.div_eq_of_lt h]
  exact hz
 case round =>
  clear HS hz
  obtain⟨j,u,hj,rfl,HU,HS⟩:=hrel
  cases j with
  | zero =>
   have e0:((0:Nat):Int) - 1=-1:=An
   simp only[e0]
   have hu:=HU.out
   go_wp2_with (first|(refine wl_loadP rfl rfl rfl HS.out Dt Du Fo ?_;(try refine nm ?_))|(refine wl_storeR rfl rfl rfl rfl HS.out Du Dw Dv Dv ?_;intro wz hS9;have HS:=aA hS9;clear hS9;(try refine nm ?_))|(refine wl_allocR rfl rfl HS.out Dx ?_;intro gz wz hS9;have HS:=aA hS9;clear hS9;(try refine nm ?_))|(refine wl_boxR rfl rfl rfl HS.out ?_;intro gz wz hS9;have HS:=aA hS9;clear hS9;(try refine nm ?_)))
   refine bodyPost_ret (results_cell_row rfl _ _ _ _ _ _ _ rfl (HS.out.heapM Dt) Tryz.underlying63 rfl Dy) rfl ?_
   rw[Nat.mul_zero,Nat.pow_zero,Nat.div_one] at hu
   exact⟨_,hu,rfl,HS.out.below⟩
  | succ j =>
   have e1:(((j+1:Nat):Int) - 1)=(j:Int):=An
   simp only[e1]
   have di:decide ((0:Int)≤(j:Int))=true:=B0
   have jn:(j:Int)<(n:Int):=An
   have j32:(j:Int)<32:=An
   obtain⟨cb,hxb⟩:∃cb,l[j]?=some cb:=⟨l[j]'Ca,gE _⟩
   obtain⟨b,o,rfl,hcb⟩:=rd_at' HR.out (bE hxb)
   have hbl:=World.block_lt_of_cell? _ _ hcb
   obtain⟨ch,hch⟩:∃c:Nat,c=cb.toNat:=⟨_,rfl⟩
   have HBB:=aA (fun k hk=>HBIT.out j k cb hxb An hk)
   have hc8:ch<256:=Eb
   rw[←hch] at hcb HBB
   have HB:=aA (fun W (h:Below w.heap.size w W)=>(h.cell (p:=⟨b,o+j,none⟩) hbl).trans hcb)
   have HJ:=aA hj
   clear hxb hch hcb hbl hj e1
   go_wp2_with fail
   go_loopw [9] (fun kv wr=>∃(q:Nat) (u:Array Value),q≤8∧kv=.int .i64 ((q:Int) - 1)∧Hid (PtN u (tmE P (V/2^(8*j+q))))∧Hid (St w NoB wr [.cells gz u 63,.cells gD uD 61,.cells gR zP 63,.cells gP uP 63])) (fun kv _=>(1+intOf kv).toNat)
   case atStart=>exact⟨8,u,An,Ef,HU,HS⟩
   case round =>
    clear HS HU
    obtain⟨q,u2,hq,rfl,HU,HS⟩:=hrel
    cases q with
    | zero =>
     have e0:((0:Nat):Int) - 1=-1:=An
     simp only[e0]
     go_wp2_with fail
     go_roundw
     case rel=>exact⟨j,u2,Eg,Ef,HU,HS⟩
     case measure=>(simp[intOf])<;>omega
    | succ r =>
     have e1:(((r+1:Nat):Int) - 1)=(r:Int):=An
     simp only[e1]
     have dr:decide ((0:Int)≤(r:Int))=true:=B0
     have r8:(r:Int)<8:=An
     obtain⟨bt,hbt⟩:∃t,t=ch/2^r%2:=⟨_,rfl⟩
     obtain⟨cs,hcs⟩:∃t,t=ch/2^r:=⟨_,rfl⟩
     have s1:(ch:Int)/2^r=(cs:Int):=Eh
     have cs8':cs<256:=Ei
     have cs8:(cs:Int)<256:=An
     have s2:bits .and .u8 (cs:Int) 1=(bt:Int):=by rw[u8_and1 _ cs8',hbt,←hcs]
     have hbit:=HBB.out r An
     rw[←hbt] at hbit
     have hu:=HU.out
     have HSTEP:=aA (tmE_bit P V (8*j+r))
     rw[←hbit] at HSTEP
     clear hbt hcs hbit e1 cs8'
     have HR9:=aA hq
     by_cases hb1:bt=1
     ·subst hb1
      rw[if_pos rfl] at HSTEP
      go_wp2_with (first|(go_at_call 80;(with_reducible refine(plusP _ hu2 huP huD).mono ?_);rintro e wy ⟨z,hu3,rfl,hb⟩;have HS:=aA (HS.out.call hb);clear hb)|(go_at_call 80;(with_reducible refine(plusP _ hu hu huD).mono ?_);rintro e wy ⟨z,hu2,rfl,hb⟩;have HS:=aA (HS.out.call hb);clear hb)|(refine wl_storeR rfl rfl rfl rfl HS.out rowP .head (PtN.arr hu2) (PtN.arr hu3) ?_;intro wz hS9;have HS:=aA hS9;have hq:=HB.out _ hS9.below;clear hS9;(try refine nm ?_))|(refine wl_storeR rfl rfl rfl rfl HS.out rowP .head (PtN.arr hu) (PtN.arr hu2) ?_;intro wz hS9;have HS:=aA hS9;have hq:=HB.out _ hS9.below;clear hS9;(try refine nm ?_))|(refine wl_loadP rfl rfl rfl HS.out (.tail _ (.tail _ (.tail _ (.head _)))) rowP (.all (PtN.arr huP)) ?_;(try refine nm ?_))|(refine wl_loadP rfl rfl rfl HS.out (.head _) rowP (.all (PtN.arr hu2)) ?_;(try refine nm ?_))|(refine wl_loadP rfl rfl rfl HS.out (.head _) rowP (.all (PtN.arr hu)) ?_;(try refine nm ?_))|(refine wl_loadP rfl rfl rfl HS.out (.tail _ (.head _)) rowE (.all huD.arr) ?_;(try refine nm ?_)))
      go_roundw
      case rel=>exact⟨r,_,by have:=HR9.out;omega,Ef,aA Ee,HS⟩
      case measure=>(simp[intOf])<;>omega
     ·have b0:(((bt:Nat):Int)==1)=false:=by simp;omega
      have b0':(bt==1)=false:=A9
      have b0d:decide (((bt:Nat):Int)=1)=false:=A9
      rw[if_neg hb1] at HSTEP
      clear hb1
      go_wp2_with (first|(go_at_call 80;(with_reducible refine(plusP _ hu hu huD).mono ?_);rintro e wy ⟨z,hu2,rfl,hb⟩;have HS:=aA (HS.out.call hb);clear hb)|(refine wl_storeR rfl rfl rfl rfl HS.out rowP .head (PtN.arr hu) (PtN.arr hu2) ?_;intro wz hS9;have HS:=aA hS9;have hq:=HB.out _ hS9.below;clear hS9;(try refine nm ?_))|(refine wl_loadP rfl rfl rfl HS.out (.head _) rowP (.all (PtN.arr hu)) ?_;(try refine nm ?_))|(refine wl_loadP rfl rfl rfl HS.out (.tail _ (.head _)) rowE (.all huD.arr) ?_;(try refine nm ?_)))
      go_roundw
      case rel=>exact⟨r,_,by have:=HR9.out;omega,Ef,aA Ee,HS⟩
      case measure=>(simp[intOf])<;>omega
theorem u8_or128 (n:Nat)(h:n<128):bits .or .u8 (n:Int) 128=((n+128:Nat):Int):=by
 have:∀m:Fin 128,bits .or .u8 (m.val:Int) 128=((m.val+128:Nat):Int):=by decide +kernel
 exact this ⟨n,h⟩
theorem list_top {l:List UInt8}{r:Nat}(hl:l.length=31)(x:UInt8):(l++[UInt8.ofNat r])[31]?=some (UInt8.ofNat r)∧(l++[UInt8.ofNat r]).set 31 x=l++[x]:=by
 constructor
 ·rw[List.getElem?_append_right An,hl];rfl
 ·rw[List.set_append_right _ _ An,hl];rfl
theorem bytesP {v:Array Value}{P:Ed}(w:World)(hv:PtV v P):Calls Tryz.prog 37 #[.agg v] w (iI 5 w (packL P)):=by
 have HS:=aA (St.init w NoB)
 obtain⟨l,r,hl31,hr128,e1,e2⟩:=top_bit P.y.val (Nat.lt_trans P.y.isLt pq_255)
 have HE1:=aA e1
 have HE2:=aA e2
 have HL31:=aA hl31
 have hpk:packL P=if P.x.val%2=1 then l++[UInt8.ofNat (r+128)] else l++[UInt8.ofNat r]:=by
  unfold packL packN
  split
  ·exact e2
  ·rw[Nat.add_zero];exact e1
 have HPK:=aA hpk
 have hlen:(l++[UInt8.ofNat r]).length=32:=by rw[List.length_append,hl31];rfl
 have HLEN:=aA hlen
 clear e1 e2 hpk hl31 hlen
 go_enter Tryz.func37,Tryz.ntmps37
 go_upto_region 4 with(first
  |(go_at_call 79;(with_reducible refine(iJ _ Df).mono ?_);rintro e wy ⟨v2,hv2,rfl,hb⟩;obtain⟨⟨X,Y,Z,T⟩,a,b,c,d,rfl,h1,h2,h3,h4,h5⟩:=hv2.ex;have HS:=aA (HS.out.call hb))
  |(go_at_call 82;(with_reducible refine(invA _ h3).mono ?_);rintro e wy ⟨zi,hzi,rfl,hb⟩;have HS:=aA (HS.out.call hb))
  |(go_at_call 83;(with_reducible refine(fT _ h2 hzi).mono ?_);rintro e wy ⟨zy,hzy,rfl,hb⟩;rw[rp_y h5] at hzy;have HS:=aA (HS.out.call hb))
  |(go_at_call 84;(with_reducible refine(bytesA _ hzy).mono ?_);rintro e wy hRB;rw[HE1.out] at hRB;obtain⟨B,dd,rfl,hb,ho⟩:=hRB;rw[HLEN.out] at ho ⊢;have HS:=aA (HS.out.row hb ho);clear ho)
  |(refine wl_loadP rfl rfl rfl HS.out Dt Du Fo ?_;(try refine nm ?_))|(refine wl_storeR rfl rfl rfl rfl HS.out Du Dw Dv Dv ?_;intro wz hS9;have HS:=aA hS9;clear hS9;(try refine nm ?_))|(refine wl_allocR rfl rfl HS.out Dx ?_;intro gz wz hS9;have HS:=aA hS9;clear hS9;(try refine nm ?_))|(refine wl_boxR rfl rfl rfl HS.out ?_;intro gz wz hS9;have HS:=aA hS9;clear hS9;(try refine nm ?_)))
 have gB:((bvs (l++[UInt8.ofNat r]))[31]?=some (.int .u8 (r:Int))):=by
  rw[bE (list_top HL31.out (UInt8.ofNat r)).1,UInt8.toNat_ofNat',Nat.mod_eq_of_lt An]
 have GB:=aA gB
 have hor:=u8_or128 r hr128
 have HR:=aA hr128
 clear gB
 have hx31:=rp_x h5
 by_cases hodd:P.x.val%2=1
 ·go_wp2_with (first
   |(go_at_call 83;(with_reducible refine(fT _ h1 hzi).mono ?_);rintro e wy ⟨zx,hzx,rfl,hb⟩;rw[hx31] at hzx;have HS:=aA (HS.out.call hb))
   |(go_at_call 85;(with_reducible refine(oddA _ hzx).mono ?_);rintro e wy ⟨rfl,hb⟩;rw[decide_eq_true hodd];have HS:=aA (HS.out.call hb);obtain⟨g,c1,hvv,_,_,hcs,hfr,_⟩:=HS.out.rowOpen 0 rfl An;injection hvv with hvv1 _ hvv3;subst hvv1 hvv3;have k31:=hcs 31 _ GB.out;have f31:=hfr 31;have HS9:=aA HS.out;clear hcs hfr)
   |(refine wl_loadP rfl rfl rfl HS.out Dt Du Fo ?_;(try refine nm ?_))|(refine wl_storeR rfl rfl rfl rfl HS.out Du Dw Dv Dv ?_;intro wz hS9;have HS:=aA hS9;clear hS9;(try refine nm ?_))|(refine wl_allocR rfl rfl HS.out Dx ?_;intro gz wz hS9;have HS:=aA hS9;clear hS9;(try refine nm ?_))|(refine wl_boxR rfl rfl rfl HS.out ?_;intro gz wz hS9;have HS:=aA hS9;clear hS9;(try refine nm ?_)))
  go_ret
  have h9:=HS9.out.rowSet 0 rfl 31 (.int .u8 ((r+128:Nat):Int)) An
  rw[fG _ _ _ (by have:=HR.out;omega),(list_top HL31.out _).2] at h9
  refine dY h9 0 rfl ?_
  rw[HPK.out,if_pos hodd]
 ·go_wp2_with (first
   |(go_at_call 83;(with_reducible refine(fT _ h1 hzi).mono ?_);rintro e wy ⟨zx,hzx,rfl,hb⟩;rw[hx31] at hzx;have HS:=aA (HS.out.call hb))
   |(go_at_call 85;(with_reducible refine(oddA _ hzx).mono ?_);rintro e wy ⟨rfl,hb⟩;rw[decide_eq_false hodd];have HS:=aA (HS.out.call hb))
   |(refine wl_loadP rfl rfl rfl HS.out Dt Du Fo ?_;(try refine nm ?_))|(refine wl_storeR rfl rfl rfl rfl HS.out Du Dw Dv Dv ?_;intro wz hS9;have HS:=aA hS9;clear hS9;(try refine nm ?_))|(refine wl_allocR rfl rfl HS.out Dx ?_;intro gz wz hS9;have HS:=aA hS9;clear hS9;(try refine nm ?_))|(refine wl_boxR rfl rfl rfl HS.out ?_;intro gz wz hS9;have HS:=aA hS9;clear hS9;(try refine nm ?_)))
  go_ret
  refine dY HS.out 0 rfl ?_
  rw[HPK.out,if_neg hodd]
theorem bytesP32 {v:Array Value}{P:Ed}(w:World)(hv:PtV v P):Calls Tryz.prog 37 #[.agg v] w fun e w'=>∃A c,e=.returned (.slice A 32 c)∧Below w.heap.size w w'∧w'.ownsRow w.heap.size 5 1 (.slice A 32 c) 32 (bvs (packL P)):=
 (bytesP w hv).mono fun e w' h=>by
  unfold iI at h
  rw[dV] at h
  exact h
theorem tyB8:RowTy Tryz.prog 22 5 1 1:=tyB
theorem clone32 {A:Option Addr}{c:Nat}{l:List UInt8}(w:World)(hr:Rd w (.slice A 32 c) 1 32 (bvs l)):Calls Tryz.prog 33 #[.slice A 32 c] w fun e w'=>∃B d,e=.returned (.slice B 32 d)∧Below w.heap.size w w'∧w'.ownsRow w.heap.size 5 1 (.slice B 32 d) 32 (bvs l):=by
 cases A with
 | none =>
  obtain⟨A',c',hv,_,h1,h2,h3,_⟩:=hr
  injection hv with hv1 hv2 hv3
  subst hv1
  have:=h3 rfl
  omega
 | some a =>
  have hS1:St w NoB (w.alloc (.cells #[] 5)) [.row (.slice (some ⟨w.heap.size,0,none⟩) 0 0) 5 1 0 []]:=(St.init w NoB).row ((Below.refl w.heap.size w).alloc (Nat.le_refl _) _) ⟨rfl,.inr ⟨w.heap.size,0,#[],rfl,Nat.le_refl _,by show(w.heap.push _)[w.heap.size]?=_;simp,Nat.le_refl _,Bz,rfl,rfl⟩⟩
  have HS1:=aA hS1
  have HR1:=aA (hr.below ((Below.refl w.heap.size w).alloc (Nat.le_refl _) (.cells #[] 5)))
  clear hS1 hr
  have hnil:∀W,(binOp .eql 22 (.slice (some a) 32 c) (.slice none 0 0)).run Tryz.prog W=.ok (.bool false) W:=fun W=>by kernel_rfl
  go_enter Tryz.func33,Tryz.ntmps33
  go_wp2_with (at_builtin;refine cQ rfl rfl tyB HS1.out 0 rfl rfl rfl HR1.out (bD l) An Bz ?_;intro A' c' w' hS2;rw[Nat.zero_add,List.nil_append] at hS2;have HS2:=aA hS2;clear hS2)
  go_ret
  exact⟨_,_,rfl,HS2.out.below,HS2.out.ownsRow 0 rfl⟩
theorem u8_and127 (n:Nat)(h:n<256):bits .and .u8 (n:Int) 127=((n%128:Nat):Int):=by
 have:∀m:Fin 256,bits .and .u8 (m.val:Int) 127=((m.val%128:Nat):Int):=by decide +kernel
 exact this ⟨n,h⟩
theorem zP_quad:zP=fS zE zE zE zE:=rfl
theorem zP_pt:PtV zP .zero:=⟨⟨0,0,0,0⟩,zE,zE,zE,zE,zP_quad,ea_zE,ea_zE,ea_zE,ea_zE,.inr ⟨rfl,rfl⟩⟩
def ResF (w:World)(o:Option Ed)(e:Ending)(w':World):Prop:=∃v,PtV v (o.getD .zero)∧e=.returned (.tuple #[.agg v,.bool o.isSome])∧Below w.heap.size w w'
theorem from_no {A:Option Addr}{n c:Nat}{l:List UInt8}(w:World)(hl:l.length=n)(hn:n≠32):Calls Tryz.prog 38 #[.slice A n c] w (ResF w (cB l)):=by
 have hF:cB l=none:=by unfold cB;rw[if_neg An]
 have q0:((n:Int) !=32)=true:=A9
 have HS:=aA (St.init w NoB)
 have hzpt:=show PtV (#[.int .u64 0,.int .u64 0,.int .u64 0,.int .u64 0,.int .u64 0,.int .u64 0,.int .u64 0,.int .u64 0,.int .u64 0,.int .u64 0,.int .u64 0,.int .u64 0,.int .u64 0,.int .u64 0,.int .u64 0,.int .u64 0,.int .u64 0,.int .u64 0,.int .u64 0,.int .u64 0]:Array Value) .zero from zP_pt
 rw[hF]
 clear hF hl hn
 go_enter Tryz.func38,Tryz.ntmps38
 go_wp2_with (first|(refine wl_loadP rfl rfl rfl HS.out Dt Du Fo ?_;(try refine nm ?_))|(refine wl_storeR rfl rfl rfl rfl HS.out Du Dw Dv Dv ?_;intro wz hS9;have HS:=aA hS9;clear hS9;(try refine nm ?_))|(refine wl_allocR rfl rfl HS.out Dx ?_;intro gz wz hS9;have HS:=aA hS9;clear hS9;(try refine nm ?_))|(refine wl_boxR rfl rfl rfl HS.out ?_;intro gz wz hS9;have HS:=aA hS9;clear hS9;(try refine nm ?_)))
 refine bodyPost_ret (aB rfl _ _ _ _ _ _ _ rfl (HS.out.heapM Dt) Tryz.underlying63 rfl Dy) rfl ?_
 exact⟨_,hzpt,rfl,HS.out.below⟩
theorem en29_fr (args:Array Value)(w:World):(callFunc 78 args).run Tryz.prog w=.ok (.enter 78 args) w:=Bt
theorem en36_fr (args:Array Value)(w:World):(callFunc 83 args).run Tryz.prog w=.ok (.enter 83 args) w:=Bt
theorem en48_fr (args:Array Value)(w:World):(callFunc 89 args).run Tryz.prog w=.ok (.enter 89 args) w:=Bt
theorem en51_fr (args:Array Value)(w:World):(callFunc 87 args).run Tryz.prog w=.ok (.enter 87 args) w:=Bt
theorem en52_fr (args:Array Value)(w:World):(callFunc 88 args).run Tryz.prog w=.ok (.enter 88 args) w:=Bt
theorem en53_fr (args:Array Value)(w:World):(callFunc 90 args).run Tryz.prog w=.ok (.enter 90 args) w:=Bt
theorem from_32 {A:Option Addr}{c:Nat}{l:List UInt8}(w:World)(hl:l.length=32)(hr:Rd w (.slice A 32 c) 1 32 (bvs l)):Calls Tryz.prog 38 #[.slice A 32 c] w (ResF w (cB l)):=by
 have HS:=aA (St.init w NoB)
 have hzpt:=show PtV (#[.int .u64 0,.int .u64 0,.int .u64 0,.int .u64 0,.int .u64 0,.int .u64 0,.int .u64 0,.int .u64 0,.int .u64 0,.int .u64 0,.int .u64 0,.int .u64 0,.int .u64 0,.int .u64 0,.int .u64 0,.int .u64 0,.int .u64 0,.int .u64 0,.int .u64 0,.int .u64 0]:Array Value) .zero from zP_pt
 obtain⟨cb,hxb⟩:∃cb,l[31]?=some cb:=⟨l[31],gE _⟩
 obtain⟨b,o,rfl,hcb⟩:=rd_at' hr (bE hxb)
 have hbl:=World.block_lt_of_cell? _ _ hcb
 have gB:=bE hxb
 obtain⟨ch,hch⟩:∃c:Nat,c=cb.toNat:=⟨_,rfl⟩
 have hc8:ch<256:=Eb
 have hlow:lowL l=l.set 31 (UInt8.ofNat (ch%128)):=Ej
 have htop:gZ l=decide (128≤ch):=Ek
 rw[←hch] at hcb gB
 have hand:=u8_and127 ch hc8
 have hm:ch%128<256:=An
 obtain⟨cm,hcm⟩:∃m,m=ch%128:=⟨_,rfl⟩
 rw[←hcm] at hand hm hlow
 clear hcm
 have HB:=aA (fun W (h:Below w.heap.size w W)=>(h.cell (p:=⟨b,o+31,none⟩) hbl).trans hcb)
 have HR:=aA hr
 have GB:=aA gB
 have HLOW:=aA hlow
 have HTOP:=aA htop
 have HL:=aA hl
 have HM:=aA hm
 clear hxb hch hcb hbl gB hlow htop hr hl hm
 go_enter Tryz.func38,Tryz.ntmps38
 go_upto_region 5 with(first
  |(go_at_call 33;(with_reducible refine(clone32 _ (HR.out.below HS.out.below)).mono ?_);rintro e wy ⟨B,d,rfl,hb,ho⟩;have HS:=aA (HS.out.row hb ho);obtain⟨g,c1,hvv,_,_,hcs,hfr,_⟩:=HS.out.rowOpen 0 rfl An;injection hvv with hvv1 _ hvv3;subst hvv1 hvv3;have k31:=hcs 31 _ GB.out;have f31:=hfr 31;have HS9:=aA HS.out;clear ho hcs hfr)
  |(refine wl_loadP rfl rfl rfl HS.out Dt Du Fo ?_;(try refine nm ?_))|(refine wl_storeR rfl rfl rfl rfl HS.out Du Dw Dv Dv ?_;intro wz hS9;have HS:=aA hS9;clear hS9;(try refine nm ?_))|(refine wl_allocR rfl rfl HS.out Dx ?_;intro gz wz hS9;have HS:=aA hS9;clear hS9;(try refine nm ?_))|(refine wl_boxR rfl rfl rfl HS.out ?_;intro gz wz hS9;have HS:=aA hS9;clear hS9;(try refine nm ?_)))
 have h9:=HS9.out.rowSet 0 rfl 31 (.int .u8 (cm:Int)) An
 simp only[List.set_cons_zero] at h9
 rw[fG _ _ _ HM.out,←HLOW.out] at h9
 have HS:=aA h9
 have hll:(lowL l).length=32:=by rw[hZ];exact HL.out
 clear h9 HS9 k31 f31
 go_upto_region 7 with(first
  |(go_at_call 86;(with_reducible refine(fromA _ hll Bz (HS.out.rd 0 rfl)).mono ?_);rintro e wy ⟨zy,hzy,rfl,hb⟩;have HS:=aA (HS.out.call hb))
  |(go_at_call 83;(with_reducible refine(fT _ hzy hzy).mono ?_);rintro e wy ⟨zs,hzs,rfl,hb⟩;have HS:=aA (HS.out.call hb))
  |(refine wl_storeR rfl rfl rfl rfl HS.out rowE (.head) D0 D0 ?_;intro wz hS9;have HS:=aA hS9;clear hS9;(try refine nm ?_))|(refine wl_loadP rfl rfl rfl HS.out (.head _) rowE (.all D0) ?_;(try refine nm ?_))|(refine wl_allocR rfl rfl HS.out newE ?_;intro gz wz hS9;have HS:=aA hS9;clear hS9;(try refine nm ?_)))
 have HS:=aA HS.out.drew
 refine aU [(12,7)] [(0,0),(3,0),(1,2),(2,2),(4,2),(5,2),(6,2),(7,2),(8,2),(9,1),(10,1),(11,1)] (.op 13 2 (.op 14 1 (.nil))) zE 61 Bt Bt Bt Dz (fun _ _ _ _ h=>h) ?_
 refine aG rfl rfl rfl rfl HS.out (.head _) rowE (.all D0) ?_;(try refine nm ?_)
 refine aG rfl rfl rfl rfl HS.out (.head _) rowE (.all D0) ?_;(try refine nm ?_)
 refine aH rfl rfl rfl en48_fr rfl (fun x=>small1A x) ?_;rintro xw e wy ⟨z,hz,rfl,hb⟩;refine⟨_,rfl,hb,?_⟩;(try refine nm ?_)
 refine aH rfl rfl rfl en52_fr rfl (fun x=>subA x ‹_› ‹_›) ?_;rintro xw e wy ⟨z,hz,rfl,hb⟩;refine⟨_,rfl,hb,?_⟩;(try refine nm ?_)
 refine aH rfl rfl rfl en29_fr rfl (fun x=>numD x) ?_;rintro xw e wy ⟨z,hz,rfl,hb⟩;refine⟨_,rfl,hb,?_⟩;(try refine nm ?_)
 refine aH rfl rfl rfl en36_fr rfl (fun x=>fT x ‹_› ‹_›) ?_;rintro xw e wy ⟨z,hz,rfl,hb⟩;refine⟨_,rfl,hb,?_⟩;(try refine nm ?_)
 refine aH rfl rfl rfl en48_fr rfl (fun x=>small1A x) ?_;rintro xw e wy ⟨z,hz,rfl,hb⟩;refine⟨_,rfl,hb,?_⟩;(try refine nm ?_)
 refine aH rfl rfl rfl en53_fr rfl (fun x=>addA x ‹_› ‹_›) ?_;rintro xw e wy ⟨z,hz,rfl,hb⟩;refine⟨_,rfl,hb,?_⟩;(try refine nm ?_)
 refine aH rfl rfl rfl en51_fr rfl (fun x=>root_any x Df Df) ?_;rintro xw e wy ⟨z,hz,rfl,hb⟩;refine⟨_,rfl,hb,?_⟩;(try refine nm ?_)
 (refine pX (v:=?_) rfl rfl ?_);(try refine nm ?_)
 (refine pX (v:=?_) rfl rfl ?_);(try refine nm ?_)
 (refine pX (v:=?_) rfl rfl ?_);(try refine nm ?_)
 refine wpX_nil ?_;intro G xz hx0 hx hF;have hS9:=HS.out.floats hx0 hF _ Bz (fun _ h=>h);simp only[List.map_cons,List.map_nil,List.cons_append,List.nil_append] at hS9;have HS:=aA hS9;have HX:=aA hx0;have HG:=aA hF.at_;clear hS9 hF hx0 hx;simp only[dU,List.foldl_cons,List.foldl_nil];(try refine nm ?_)
 refine aS rfl rfl rfl rfl rfl HS.out HX.out (HG.out 12 B0).1 rowE (.head) D0 D0 ?_;intro wz hS9 hX9;have HS:=aA hS9;have HX:=aA hX9;clear hS9 hX9;(try refine nm ?_)
 (refine pS (v:=?_) rfl rfl ?_);(try refine nm ?_)
 refine bC ?_
 cases hrt:rtF (fbytes (lowL l)*fbytes (lowL l) - 1) (fbytes (lowL l)*fbytes (lowL l)*dF+1) with
 | none =>
  have hF:cB l=none:=by unfold cB;rw[if_pos HL.out,unp_none hrt]
  simp only[Option.isSome_none]
  have HFK:=aA hF
  clear hrt hF
  go_wp2_with (first|(refine wl_storeR rfl rfl rfl rfl HS.out rowP (.tail (.tail (.tail (.tail (.head))))) D3 D3 ?_;intro wz hS9;have HS:=aA hS9;clear hS9;(try refine nm ?_)))
  refine bodyPost_ret (aB rfl _ _ _ _ _ _ _ rfl (HS.out.heapM Dt) Tryz.underlying63 rfl Dy) rfl ?_
  rw[HFK.out]
  exact⟨_,hzpt,rfl,HS.out.below⟩
 | some x =>
  have hx:=‹EA _ ((rtF (fbytes (lowL l)*fbytes (lowL l) - 1) (fbytes (lowL l)*fbytes (lowL l)*dF+1)).getD 0)›
  rw[hrt,Option.getD_some] at hx
  obtain⟨P,hP,hPx,hPy⟩:=unp_some (odd:=gZ l) hrt
  have hF:cB l=if packL P=l then some P else none:=by
   unfold cB
   rw[if_pos HL.out,hP]
  simp only[Option.isSome_some]
  have HF:=aA hF
  have HPY:=aA hPy
  clear hrt hF hP
  go_upto_region 10 with fail
  have hq:=HB.out _ HS.out.below
  have hbp:=fun(a b c d:Array Value) (W:World) (ha:EA a P.x) (hb:EA b P.y) (hc:EA c 1) (hd:EA d (P.x*P.y))=>bytesP32 W (PtN.v ⟨⟨P.x,P.y,1,P.x*P.y⟩,a,b,c,d,rfl,ha,hb,hc,hd,rp_of P⟩)
  have HBP:=aA hbp
  have hpt:=fun(a b c d:Array Value) (ha:EA a P.x) (hb:EA b P.y) (hc:EA c 1) (hd:EA d (P.x*P.y))=>(PtN.v ⟨⟨P.x,P.y,1,P.x*P.y⟩,a,b,c,d,rfl,ha,hb,hc,hd,rp_of P⟩:PtV (fS a b c d) P)
  have HPT:=aA hpt
  have HPL:=aA (dV P)
  clear hbp hpt hPy
  rw[HTOP.out] at hPx
  rw[←HPY.out] at hzy
  by_cases ht:128≤ch
  ·have d1:decide ((127:Int)<(ch:Int))=true:=by simp;omega
   have d1':decide (127<ch)=true:=A9
   rw[decide_eq_true ht] at hPx
   have hPx2:P.x=-x:=hPx
   clear ht hPx
   by_cases hk:packL P=l
   ·have HEQ:=aA (fun W B d (hr1:Rd W (.slice B 32 d) 1 32 (bvs (packL P))) (hr2:Rd W (.slice (some ⟨b,o,none⟩) 32 c) 1 32 (bvs l))=>eR B (some ⟨b,o,none⟩) 32 d c (packL P) l W HPL.out HL.out Bz hr1 hr2)
    rw[decide_eq_true hk] at HEQ
    have HFK:=aA (HF.out.trans (if_pos hk))
    clear hk
    go_wp2_with (first|(go_at_call 91;(with_reducible refine(negA _ hx).mono ?_);rintro e wy ⟨zn,hxn,rfl,hb⟩;rw[←hPx2] at hxn;have HS:=aA (HS.out.call hb))|(go_at_call 77;(with_reducible refine(at_any _ hxn hzy).mono ?_);rintro e wy ⟨qa,qb,qc,qd,hqa,hqb,hqc,hqd,rfl,hb⟩;have HS:=aA (HS.out.call hb);have hpv:=HPT.out _ _ _ _ hqa hqb hqc hqd)|(go_at_call 37;(with_reducible refine(HBP.out _ _ _ _ _ hqa hqb hqc hqd).mono ?_);rintro e wy ⟨B2,d2,rfl,hb,ho⟩;have HS:=aA (HS.out.row hb ho);clear ho)|(go_at_call 43;(with_reducible refine(HEQ.out _ _ _ (HS.out.rd 0 rfl) (HR.out.below HS.out.below)).mono ?_);rintro e wy ⟨rfl,hb⟩;have HS:=aA (HS.out.call hb))|(refine wl_loadP rfl rfl rfl HS.out (.head _) rowE (.all D0) ?_;(try refine nm ?_))|(refine wl_storeR rfl rfl rfl rfl HS.out rowE (.head) D0 D0 ?_;intro wz hS9;have HS:=aA hS9;clear hS9;(try refine nm ?_))|(refine wl_loadP rfl rfl rfl HS.out (.tail _ (.tail _ (.head _))) rowE (.all D0) ?_;(try refine nm ?_))|(refine wl_storeR rfl rfl rfl rfl HS.out rowP (.head) D3 D3 ?_;intro wz hS9;have HS:=aA hS9;clear hS9;(try refine nm ?_))|(refine wl_loadP rfl rfl rfl HS.out (.head _) rowP (.all D3) ?_;(try refine nm ?_))|(refine wl_storeR rfl rfl rfl rfl HS.out rowP (.tail (.tail (.tail (.tail (.tail (.tail (.head))))))) D3 D3 ?_;intro wz hS9;have HS:=aA hS9;clear hS9;(try refine nm ?_))|(refine wl_loadP rfl rfl rfl HS.out (.tail _ (.head _)) rowP (.all D3) ?_;(try refine nm ?_))|(refine wl_allocR rfl rfl HS.out newP ?_;intro gz wz hS9;have HS:=aA hS9;clear hS9;(try refine nm ?_)))
    refine bodyPost_ret (aB rfl _ _ _ _ _ _ _ rfl (HS.out.heapM Dt) Tryz.underlying63 rfl Dy) rfl ?_
    rw[HFK.out]
    exact⟨_,hpv,rfl,HS.out.below⟩
   ·have HEQ:=aA (fun W B d (hr1:Rd W (.slice B 32 d) 1 32 (bvs (packL P))) (hr2:Rd W (.slice (some ⟨b,o,none⟩) 32 c) 1 32 (bvs l))=>eR B (some ⟨b,o,none⟩) 32 d c (packL P) l W HPL.out HL.out Bz hr1 hr2)
    rw[decide_eq_false hk] at HEQ
    have HFK:=aA (HF.out.trans (if_neg hk))
    clear hk
    go_wp2_with (first|(go_at_call 91;(with_reducible refine(negA _ hx).mono ?_);rintro e wy ⟨zn,hxn,rfl,hb⟩;rw[←hPx2] at hxn;have HS:=aA (HS.out.call hb))|(go_at_call 77;(with_reducible refine(at_any _ hxn hzy).mono ?_);rintro e wy ⟨qa,qb,qc,qd,hqa,hqb,hqc,hqd,rfl,hb⟩;have HS:=aA (HS.out.call hb);have hpv:=HPT.out _ _ _ _ hqa hqb hqc hqd)|(go_at_call 37;(with_reducible refine(HBP.out _ _ _ _ _ hqa hqb hqc hqd).mono ?_);rintro e wy ⟨B2,d2,rfl,hb,ho⟩;have HS:=aA (HS.out.row hb ho);clear ho)|(go_at_call 43;(with_reducible refine(HEQ.out _ _ _ (HS.out.rd 0 rfl) (HR.out.below HS.out.below)).mono ?_);rintro e wy ⟨rfl,hb⟩;have HS:=aA (HS.out.call hb))|(refine wl_loadP rfl rfl rfl HS.out (.head _) rowE (.all D0) ?_;(try refine nm ?_))|(refine wl_storeR rfl rfl rfl rfl HS.out rowE (.head) D0 D0 ?_;intro wz hS9;have HS:=aA hS9;clear hS9;(try refine nm ?_))|(refine wl_loadP rfl rfl rfl HS.out (.tail _ (.tail _ (.head _))) rowE (.all D0) ?_;(try refine nm ?_))|(refine wl_storeR rfl rfl rfl rfl HS.out rowP (.head) D3 D3 ?_;intro wz hS9;have HS:=aA hS9;clear hS9;(try refine nm ?_))|(refine wl_loadP rfl rfl rfl HS.out (.head _) rowP (.all D3) ?_;(try refine nm ?_))|(refine wl_storeR rfl rfl rfl rfl HS.out rowP (.tail (.tail (.tail (.tail (.tail (.tail (.head))))))) D3 D3 ?_;intro wz hS9;have HS:=aA hS9;clear hS9;(try refine nm ?_))|(refine wl_loadP rfl rfl rfl HS.out (.tail _ (.head _)) rowP (.all D3) ?_;(try refine nm ?_))|(refine wl_allocR rfl rfl HS.out newP ?_;intro gz wz hS9;have HS:=aA hS9;clear hS9;(try refine nm ?_)))
    refine bodyPost_ret (aB rfl _ _ _ _ _ _ _ rfl (HS.out.heapM Dt) Tryz.underlying63 rfl Dy) rfl ?_
    rw[HFK.out]
    exact⟨_,hzpt,rfl,HS.out.below⟩
  ·have d1:decide ((127:Int)<(ch:Int))=false:=by simp;omega
   have d1':decide (127<ch)=false:=A9
   rw[decide_eq_false ht] at hPx
   have hPx2:P.x=x:=hPx
   clear ht hPx
   by_cases hk:packL P=l
   ·have HEQ:=aA (fun W B d (hr1:Rd W (.slice B 32 d) 1 32 (bvs (packL P))) (hr2:Rd W (.slice (some ⟨b,o,none⟩) 32 c) 1 32 (bvs l))=>eR B (some ⟨b,o,none⟩) 32 d c (packL P) l W HPL.out HL.out Bz hr1 hr2)
    rw[decide_eq_true hk] at HEQ
    have HFK:=aA (HF.out.trans (if_pos hk))
    clear hk
    have hxn:=hx
    rw[←hPx2] at hxn
    go_wp2_with (first|(go_at_call 77;(with_reducible refine(at_any _ hxn hzy).mono ?_);rintro e wy ⟨qa,qb,qc,qd,hqa,hqb,hqc,hqd,rfl,hb⟩;have HS:=aA (HS.out.call hb);have hpv:=HPT.out _ _ _ _ hqa hqb hqc hqd)|(go_at_call 37;(with_reducible refine(HBP.out _ _ _ _ _ hqa hqb hqc hqd).mono ?_);rintro e wy ⟨B2,d2,rfl,hb,ho⟩;have HS:=aA (HS.out.row hb ho);clear ho)|(go_at_call 43;(with_reducible refine(HEQ.out _ _ _ (HS.out.rd 0 rfl) (HR.out.below HS.out.below)).mono ?_);rintro e wy ⟨rfl,hb⟩;have HS:=aA (HS.out.call hb))|(refine wl_loadP rfl rfl rfl HS.out (.head _) rowE (.all D0) ?_;(try refine nm ?_))|(refine wl_storeR rfl rfl rfl rfl HS.out rowE (.head) D0 D0 ?_;intro wz hS9;have HS:=aA hS9;clear hS9;(try refine nm ?_))|(refine wl_loadP rfl rfl rfl HS.out (.tail _ (.tail _ (.head _))) rowE (.all D0) ?_;(try refine nm ?_))|(refine wl_storeR rfl rfl rfl rfl HS.out rowP (.head) D3 D3 ?_;intro wz hS9;have HS:=aA hS9;clear hS9;(try refine nm ?_))|(refine wl_loadP rfl rfl rfl HS.out (.head _) rowP (.all D3) ?_;(try refine nm ?_))|(refine wl_storeR rfl rfl rfl rfl HS.out rowP (.tail (.tail (.tail (.tail (.tail (.tail (.head))))))) D3 D3 ?_;intro wz hS9;have HS:=aA hS9;clear hS9;(try refine nm ?_))|(refine wl_loadP rfl rfl rfl HS.out (.tail _ (.head _)) rowP (.all D3) ?_;(try refine nm ?_))|(refine wl_allocR rfl rfl HS.out newP ?_;intro gz wz hS9;have HS:=aA hS9;clear hS9;(try refine nm ?_)))
    refine bodyPost_ret (aB rfl _ _ _ _ _ _ _ rfl (HS.out.heapM Dt) Tryz.underlying63 rfl Dy) rfl ?_
    rw[HFK.out]
    exact⟨_,hpv,rfl,HS.out.below⟩
   ·have HEQ:=aA (fun W B d (hr1:Rd W (.slice B 32 d) 1 32 (bvs (packL P))) (hr2:Rd W (.slice (some ⟨b,o,none⟩) 32 c) 1 32 (bvs l))=>eR B (some ⟨b,o,none⟩) 32 d c (packL P) l W HPL.out HL.out Bz hr1 hr2)
    rw[decide_eq_false hk] at HEQ
    have HFK:=aA (HF.out.trans (if_neg hk))
    clear hk
    have hxn:=hx
    rw[←hPx2] at hxn
    go_wp2_with (first|(go_at_call 77;(with_reducible refine(at_any _ hxn hzy).mono ?_);rintro e wy ⟨qa,qb,qc,qd,hqa,hqb,hqc,hqd,rfl,hb⟩;have HS:=aA (HS.out.call hb);have hpv:=HPT.out _ _ _ _ hqa hqb hqc hqd)|(go_at_call 37;(with_reducible refine(HBP.out _ _ _ _ _ hqa hqb hqc hqd).mono ?_);rintro e wy ⟨B2,d2,rfl,hb,ho⟩;have HS:=aA (HS.out.row hb ho);clear ho)|(go_at_call 43;(with_reducible refine(HEQ.out _ _ _ (HS.out.rd 0 rfl) (HR.out.below HS.out.below)).mono ?_);rintro e wy ⟨rfl,hb⟩;have HS:=aA (HS.out.call hb))|(refine wl_loadP rfl rfl rfl HS.out (.head _) rowE (.all D0) ?_;(try refine nm ?_))|(refine wl_storeR rfl rfl rfl rfl HS.out rowE (.head) D0 D0 ?_;intro wz hS9;have HS:=aA hS9;clear hS9;(try refine nm ?_))|(refine wl_loadP rfl rfl rfl HS.out (.tail _ (.tail _ (.head _))) rowE (.all D0) ?_;(try refine nm ?_))|(refine wl_storeR rfl rfl rfl rfl HS.out rowP (.head) D3 D3 ?_;intro wz hS9;have HS:=aA hS9;clear hS9;(try refine nm ?_))|(refine wl_loadP rfl rfl rfl HS.out (.head _) rowP (.all D3) ?_;(try refine nm ?_))|(refine wl_storeR rfl rfl rfl rfl HS.out rowP (.tail (.tail (.tail (.tail (.tail (.tail (.head))))))) D3 D3 ?_;intro wz hS9;have HS:=aA hS9;clear hS9;(try refine nm ?_))|(refine wl_loadP rfl rfl rfl HS.out (.tail _ (.head _)) rowP (.all D3) ?_;(try refine nm ?_))|(refine wl_allocR rfl rfl HS.out newP ?_;intro gz wz hS9;have HS:=aA hS9;clear hS9;(try refine nm ?_)))
    refine bodyPost_ret (aB rfl _ _ _ _ _ _ _ rfl (HS.out.heapM Dt) Tryz.underlying63 rfl Dy) rfl ?_
    rw[HFK.out]
    exact⟨_,hzpt,rfl,HS.out.below⟩
theorem from_any {A:Option Addr}{n c:Nat}{l:List UInt8}(w:World)(hl:l.length=n)(hr:Rd w (.slice A n c) 1 n (bvs l)):Calls Tryz.prog 38 #[.slice A n c] w (ResF w (cB l)):=by
 by_cases h:n=32
 ·subst h
  exact from_32 w hl hr
 ·exact from_no w hl h
theorem from_none {A:Option Addr}{n c:Nat}{l:List UInt8}(w:World)(h:cB l=none)(hl:l.length=n)(hr:Rd w (.slice A n c) 1 n (bvs l)):Calls Tryz.prog 38 #[.slice A n c] w fun e w'=>∃v,PtV v .zero∧e=.returned (.tuple #[.agg v,.bool false])∧Below w.heap.size w w':=by
 have:=from_any w hl hr
 rw[h] at this
 exact this
theorem from_some {A:Option Addr}{n c:Nat}{l:List UInt8}{P:Ed}(w:World)(h:cB l=some P)(hl:l.length=n)(hr:Rd w (.slice A n c) 1 n (bvs l)):Calls Tryz.prog 38 #[.slice A n c] w fun e w'=>∃v,PtV v P∧e=.returned (.tuple #[.agg v,.bool true])∧Below w.heap.size w w':=by
 have:=from_any w hl hr
 rw[h] at this
 exact this
end Go.Proofs.YtnohmgpmmhlloaaGreatDoor
namespace Go.Proofs.YtnohmgpmmhlloaaGreatDoor.S3
open Go.RowKit
theorem sub64_run0 (x y:Nat)(w:World):(callFunc 129 #[.int .u64 (x:Int),.int .u64 (y:Int),.int .u64 ((0:Nat):Int)]).run Tryz.prog w =
  .ok (.value (.tuple #[.int .u64 (((x+18446744073709551616 - y - 0)%18446744073709551616:Nat):Int),.int .u64 ((if x<y+0 then 1 else 0:Nat):Int)])) w:=by kernel_rfl
theorem sub64_run1 (x y:Nat)(w:World):(callFunc 129 #[.int .u64 (x:Int),.int .u64 (y:Int),.int .u64 ((1:Nat):Int)]).run Tryz.prog w =
  .ok (.value (.tuple #[.int .u64 (((x+18446744073709551616 - y - 1)%18446744073709551616:Nat):Int),.int .u64 ((if x<y+1 then 1 else 0:Nat):Int)])) w:=by kernel_rfl
theorem sub64_run (x y b:Nat)(hb:b≤1)(w:World):(callFunc 129 #[.int .u64 (x:Int),.int .u64 (y:Int),.int .u64 (b:Int)]).run Tryz.prog w =
  .ok (.value (.tuple #[.int .u64 (((x+18446744073709551616 - y - b)%18446744073709551616:Nat):Int),.int .u64 ((if x<y+b then 1 else 0:Nat):Int)])) w:=by
 have:b=0∨b=1:=by omega
 rcases this with h|h
 ·rw[h];exact sub64_run0 x y w
 ·rw[h];exact sub64_run1 x y w
theorem sub_any (x y b:Nat)(hb:b≤1):∀w,(callFunc 129 #[.int .u64 (x:Int),.int .u64 (y:Int),.int .u64 (b:Int)]).run Tryz.prog w=.ok (.value (.tuple #[.int .u64 (sbD x y b:Int),.int .u64 (sbB x y b:Int)])) w:=fun w=>by
 have:=sub64_run x y b hb w
 unfold sbD sbB
 exact this
def numA (xs:List Nat):Value:=.agg (uvs xs).toArray
def LessRel (w:World)(g2 g3:Nat)(H:List Chunk)(xs ys:List Nat)(bo i:Value)(wr:World):Prop:=
 ∃(k b:Nat) (cur:List Nat),k≤4∧i=.int .i64 (k:Int)∧bo=.int .u64 (b:Int)∧b≤1∧cur.length=4∧aT cur∧cur.drop k=xs.drop k ∧
  lv (cur.take k)+lv (ys.take k)+0=lv (xs.take k)+b*18446744073709551616^k∧St w NoB wr (.cells g2 (uvs cur).toArray 120::.cells g3 (uvs ys).toArray 120::H)
theorem less_step (xs ys cur:List Nat)(k b x y:Nat)(hk:k<4)(hl:cur.length=4)(hx:xs[k]?=some x)(hy:ys[k]?=some y)(hx2:x<18446744073709551616)(hy2:y<18446744073709551616)(hb:b≤1)
  (h:lv (cur.take k)+lv (ys.take k)+0=lv (xs.take k)+b*18446744073709551616^k) :
  lv ((cur.set k (sbD x y b)).take (k+1))+lv (ys.take (k+1))+0=lv (xs.take (k+1))+sbB x y b*18446744073709551616^(k+1):=by
 obtain⟨h1,_,_⟩:=sb_spec x y b hx2 hy2 hb
 rw[lv_take_set cur k _ An,gH hx,gH hy,Nat.pow_succ]
 have h2:=congrArg (·*18446744073709551616^k) h1
 simp only[Nat.add_mul] at h2
 rw[show sbB x y b*(18446744073709551616^k*18446744073709551616)=sbB x y b*18446744073709551616*18446744073709551616^k from by rw[Nat.mul_comm (18446744073709551616^k),Nat.mul_assoc]]
 omega
theorem less_walk (xs ys:List Nat)(w:World)(hxl:xs.length=4)(hyl:ys.length=4)(hxw:aT xs)(hyw:aT ys) :
  Calls Tryz.prog 93 #[numA xs,numA ys] w fun e w'=>∃rs:List Nat,rs.length=4∧aT rs∧∃b:Nat,b≤1∧lv rs+lv ys=lv xs+b*18446744073709551616^4 ∧
   e=.returned (.tuple #[numA rs,.bool (decide (0<b))])∧Below w.heap.size w w':=by
 unfold numA
 have hS0:=(((St.init w NoB).alloc (uvs xs).toArray 120).alloc (uvs ys).toArray 120).alloc #[.int .u64 0,.int .u64 0,.int .u64 0,.int .u64 0] 120
 have HS0:=aA hS0
 have HXL:=aA hxl
 have HYL:=aA hyl
 have HXW:=aA hxw
 have HYW:=aA hyw
 clear hS0 hxl hyl hxw hyw
 go_enter Tryz.func93,Tryz.ntmps93
 go_wp2_with fail
 go_loopw [6,8] (fun b i wr=>LessRel w w.heap.size (w.heap.size+1) [.cells (w.heap.size+1+1) #[.int .u64 0,.int .u64 0,.int .u64 0,.int .u64 0] 120] xs ys b i wr) (fun _ i _=>4 - (intOf i).toNat)
 case atStart =>
  have hS:=HS0.out
  simp only[size_alloc1] at hS
  exact⟨0,0,xs,An,rfl,rfl,An,HXL.out,HXW.out,rfl,rfl,hS.rot3⟩
 case round =>
  obtain⟨k,b,cur,hk,rfl,rfl,hb,hcl,hcw,hcd,hval,hS⟩:=hrel
  by_cases hlt:k<4
  ·obtain⟨x,hx⟩:=iR xs HXL.out k hlt
   obtain⟨y,hy⟩:=iR ys HYL.out k hlt
   have hcx:cur[k]?=some x:=by
    have:=congrArg (·[0]?) hcd
    simpa[List.getElem?_drop,hx] using this
   have hx2:=cG HXW.out hx
   have hy2:=cG HYW.out hy
   have hstep:=aA (less_step xs ys cur k b x y hlt hcl hx hy hx2 hy2 hb hval)
   obtain⟨_,hd1,hd2⟩:=sb_spec x y b hx2 hy2 hb
   have hS':=hS.drew
   have hHS:=aA hS'
   have cn:∀z,aC wr.drew z→z.cell? ⟨w.heap.size,k,none⟩=some (.int .u64 (x:Int)):=fun z hz=>by
    rw[hz.cell (p:=⟨w.heap.size,k,none⟩) (Chunk.lt (hHS.out.sat 0 _ rfl) rfl),hHS.out.cell 0 rfl k]
    exact aR hcx
   have cm:∀z,aC wr.drew z→z.cell? ⟨w.heap.size+1,k,none⟩=some (.int .u64 (y:Int)):=fun z hz=>by
    rw[hz.cell (p:=⟨w.heap.size+1,k,none⟩) (Chunk.lt (hHS.out.sat 1 _ rfl) rfl),hHS.out.cell 1 rfl k]
    exact aR hy
   have hsub:=sub_any x y b hb
   have D1:=aA hd1
   have HCD:=aA hcd
   have HCW:=aA hcw
   have HCL:=aA hcl
   clear hS hS' hx hy hcx hx2 hy2 hval hd1 hcd hcw hcl
   go_wp2_with fail
   refine aW (fun i=>i==13) (aC wr.drew) Bt ?_
   (refine mT 0 (v:=?_) fR ?_;(try refine nm ?_));(refine mT 1 (v:=?_) fR ?_;(try refine nm ?_));(refine mT 2 (v:=?_) fR ?_;(try refine nm ?_));(refine mT 3 (v:=?_) fR ?_;(try refine nm ?_));(refine mT 4 (v:=?_) fR ?_;(try refine nm ?_));(refine mT 5 (v:=?_) fR ?_;(try refine nm ?_));(refine mT 6 (v:=?_) fR ?_;(try refine nm ?_));(refine mT 7 (v:=?_) fR ?_;(try refine nm ?_));(refine mT 8 (v:=?_) fR ?_;(try refine nm ?_));(refine mT 9 (v:=?_) fR ?_;(try refine nm ?_));(refine mT 10 (v:=?_) fR ?_;(try refine nm ?_))
   (refine mU 11 (v:=?_) fR ?_;(try refine nm ?_));(refine mU 12 (v:=?_) fR ?_;(try refine nm ?_))
   (refine aZ (i:=13) Bt rfl rfl ?_;intro K hK;(try refine nm ?_))
   refine bO rfl rfl tyU64 hHS.out 0 rfl k (by rw[List.size_toArray,cE,HCL.out];exact hlt) rfl (v:=.int .u64 (sbD x y b:Nat)) rfl rfl ?_
   intro w2 hS2
   refine hK _ _ ?_
   clear hK K
   (try refine nm ?_)
   (refine wpAny_take (i:=14) (v:=?_) rfl Bt Bt Bt (fun _ _ _ h=>h) (Or.inl ⟨Ch,?_⟩) ?_;rotate_left;(intro wx;go_simp)<;>(with_reducible rfl);(try refine nm ?_))
   refine wpAny_done Bt ?_ _
   go_wp2_with fail
   go_roundw
   case rel =>
    rw[bH] at hS2
    refine⟨k+1,sbB x y b,cur.set k (sbD x y b),An,Cg,rfl,hd2,Cq,fH HCW.out k _ D1.out,?_,hstep.out,hS2⟩
    rw[dQ,←List.drop_drop,HCD.out,List.drop_drop]
   case measure=>simp[intOf];omega
  ·obtain rfl:k=4:=by omega
   match cur,hcl with
   | [a0,a1,a2,a3],_ =>
    have hS':St w NoB wr [.cells w.heap.size #[.int .u64 (a0:Int),.int .u64 (a1:Int),.int .u64 (a2:Int),.int .u64 (a3:Int)] 120,.cells (w.heap.size+1) (uvs ys).toArray 120,.cells (w.heap.size+1+1) #[.int .u64 0,.int .u64 0,.int .u64 0,.int .u64 0] 120]:=hS
    have n0:wr.cell? ⟨w.heap.size,0,none⟩=some (.int .u64 (a0:Int)):=hS'.cell 0 rfl 0
    have n1:wr.cell? ⟨w.heap.size,1,none⟩=some (.int .u64 (a1:Int)):=hS'.cell 0 rfl 1
    have n2:wr.cell? ⟨w.heap.size,2,none⟩=some (.int .u64 (a2:Int)):=hS'.cell 0 rfl 2
    have n3:wr.cell? ⟨w.heap.size,3,none⟩=some (.int .u64 (a3:Int)):=hS'.cell 0 rfl 3
    have r0:wr.cell? ⟨w.heap.size+1+1,0,none⟩=some (.int .u64 0):=hS'.cell 2 rfl 0
    have r1:wr.cell? ⟨w.heap.size+1+1,1,none⟩=some (.int .u64 0):=hS'.cell 2 rfl 1
    have r2:wr.cell? ⟨w.heap.size+1+1,2,none⟩=some (.int .u64 0):=hS'.cell 2 rfl 2
    have r3:wr.cell? ⟨w.heap.size+1+1,3,none⟩=some (.int .u64 0):=hS'.cell 2 rfl 3
    have f0:=hS'.free 2 rfl 0
    have f1:=hS'.free 2 rfl 1
    have f2:=hS'.free 2 rfl 2
    have f3:=hS'.free 2 rfl 3
    have HS:=aA ((((hS'.setCell 2 rfl 0 (.int .u64 (a0:Int))).setCell 2 rfl 1 (.int .u64 (a1:Int))).setCell 2 rfl 2 (.int .u64 (a2:Int))).setCell 2 rfl 3 (.int .u64 (a3:Int)))
    have HV:=aA hval
    have HW:=aA hcw
    clear hS hS' hval hcd hcw
    go_wp2_with fail
    refine bodyPost_ret (aB rfl _ _ (w.heap.size+1+1) _ _ _ _ rfl (HS.out.heap 2 rfl) Tryz.underlying120 rfl Bt) rfl ?_
    refine⟨[a0,a1,a2,a3],rfl,HW.out,b,hb,?_,?_,HS.out.below⟩
    ·have:=HV.out
     rw[List.take_of_length_le B0,List.take_of_length_le (by rw[HYL.out];omega),List.take_of_length_le (by rw[HXL.out];omega)] at this
     omega
    ·rfl
@[irreducible] def o0:Nat:=6346243789798364141
@[irreducible] def o1:Nat:=1503914060200516822
@[irreducible] def o2:Nat:=0
@[irreducible] def o3:Nat:=1152921504606846976
@[irreducible] def Lq:Nat:=7237005577332262213973186563042994240857116359379907606001950938285454250989
theorem ord_words:aT [o0,o1,o2,o3]:=by unfold o0 o1 o2 o3 aT;decide
theorem lv_ord:lv [o0,o1,o2,o3]=Lq:=by unfold o0 o1 o2 o3 Lq;decide
theorem Lq_lt:2*Lq<18446744073709551616^4∧0<Lq:=by unfold Lq;decide
theorem enOrder (args:Array Value)(w:World):(callFunc 94 args).run Tryz.prog w=.ok (.enter 94 args) w:=Bt
theorem enLess (args:Array Value)(w:World):(callFunc 93 args).run Tryz.prog w=.ok (.enter 93 args) w:=Bt
theorem order_any (w:World):Calls Tryz.prog 94 #[] w fun e w'=>e=.returned (.agg #[.int .u64 (o0:Int),.int .u64 (o1:Int),.int .u64 (o2:Int),.int .u64 (o3:Int)])∧Below w.heap.size w w':=by
 have hS:=(St.init w NoB).alloc #[.int .u64 6346243789798364141,.int .u64 1503914060200516822,.int .u64 0,.int .u64 1152921504606846976] 120
 have HS:=aA hS
 clear hS
 go_enter Tryz.func94,Tryz.ntmps94
 go_wp2_with fail
 refine bodyPost_ret (results_cell_row rfl _ _ w.heap.size _ _ _ _ rfl (HS.out.heap 0 rfl) Tryz.underlying120 rfl Bt) rfl ?_
 exact⟨by unfold o0 o1 o2 o3;rfl,HS.out.below⟩
theorem less_any (a0 a1 a2 a3 b0 b1 b2 b3:Nat)(w:World)(ha:aT [a0,a1,a2,a3])(hb:aT [b0,b1,b2,b3]) :
  Calls Tryz.prog 93 #[.agg #[.int .u64 (a0:Int),.int .u64 (a1:Int),.int .u64 (a2:Int),.int .u64 (a3:Int)],.agg #[.int .u64 (b0:Int),.int .u64 (b1:Int),.int .u64 (b2:Int),.int .u64 (b3:Int)]] w fun e w' =>
   ∃r0 r1 r2 r3 b:Nat,aT [r0,r1,r2,r3]∧b≤1∧lv [r0,r1,r2,r3]+lv [b0,b1,b2,b3]=lv [a0,a1,a2,a3]+b*18446744073709551616^4 ∧
    e=.returned (.tuple #[.agg #[.int .u64 (r0:Int),.int .u64 (r1:Int),.int .u64 (r2:Int),.int .u64 (r3:Int)],.bool (decide (0<b))])∧Below w.heap.size w w':=by
 refine(less_walk [a0,a1,a2,a3] [b0,b1,b2,b3] w rfl rfl ha hb).mono ?_
 rintro e w' ⟨rs,hrl,hrw,b,hb1,hv,rfl,hbl⟩
 match rs,hrl with
 | [r0,r1,r2,r3],_=>exact⟨r0,r1,r2,r3,b,hrw,hb1,hv,rfl,hbl⟩
@[irreducible] def dbW (x b:Nat):Nat:=2*x%18446744073709551616+b
@[irreducible] def dbH (x:Nat):Nat:=x/9223372036854775808
theorem db_spec (x b:Nat)(hx:x<18446744073709551616)(hb:b≤1):dbW x b+dbH x*18446744073709551616=2*x+b∧dbW x b<18446744073709551616∧dbH x≤1:=by
 unfold dbW dbH
 omega
theorem or_db (x b:Nat)(hx:x<18446744073709551616)(hb:b≤1):bits .or .u64 (IntKind.u64.wrap ((x:Int)*2)) (b:Int)=((dbW x b:Nat):Int):=by
 have e:IntKind.u64.wrap ((x:Int)*2)=((2*x%18446744073709551616:Nat):Int):=Cl
 rw[e,u64_or_nat _ _ An An]
 unfold dbW
 congr 1
 have h1:2*x%18446744073709551616%2=0:=An
 have:=nat_join 1 (2*x%18446744073709551616) b h1 An
 exact this
def NextRel (w:World)(g:Nat)(H:List Chunk)(xs:List Nat)(bit:Nat)(bv i:Value)(wr:World):Prop:=
 ∃(k b:Nat) (cur:List Nat),k≤4∧i=.int .i64 (k:Int)∧bv=.int .u64 (b:Int)∧b≤1∧cur.length=4∧aT cur∧cur.drop k=xs.drop k ∧
  lv (cur.take k)+b*18446744073709551616^k=2*lv (xs.take k)+bit∧St w NoB wr (.cells g (uvs cur).toArray 120::H)
theorem next_step (xs cur:List Nat)(k b bit x:Nat)(hk:k<4)(hl:cur.length=4)(hx:xs[k]?=some x)(hx2:x<18446744073709551616)(hb:b≤1)
  (h:lv (cur.take k)+b*18446744073709551616^k=2*lv (xs.take k)+bit) :
  lv ((cur.set k (dbW x b)).take (k+1))+dbH x*18446744073709551616^(k+1)=2*lv (xs.take (k+1))+bit:=by
 obtain⟨h1,_,_⟩:=db_spec x b hx2 hb
 rw[lv_take_set cur k _ An,gH hx,Nat.pow_succ]
 have h2:=congrArg (·*18446744073709551616^k) h1
 simp only[Nat.add_mul] at h2
 rw[show dbH x*(18446744073709551616^k*18446744073709551616)=dbH x*18446744073709551616*18446744073709551616^k from by rw[Nat.mul_comm (18446744073709551616^k),Nat.mul_assoc]]
 rw[Nat.mul_assoc 2 x] at h2
 omega
def ResNum (w:World)(v:Nat)(e:Ending)(w':World):Prop:=∃rs:List Nat,rs.length=4∧aT rs∧lv rs=v∧e=.returned (numA rs)∧Below w.heap.size w w'
theorem next_end (xs cur rs:List Nat)(b bo bit:Nat)(hx:lv xs<Lq)(hbit:bit≤1)(hc:aT cur)(hcl:cur.length=4)(hr:aT rs)(hrl:rs.length=4)
  (h:lv cur+b*18446744073709551616^4=2*lv xs+bit)(h2:lv rs+Lq=lv cur+bo*18446744073709551616^4)(hbo:bo≤1) :
  (0<bo→lv cur=(2*lv xs+bit)%Lq)∧(bo=0→lv rs=(2*lv xs+bit)%Lq):=by
 have hL:=Lq_lt
 have h3:=lv_lt cur hc
 have h4:=lv_lt rs hr
 rw[hcl] at h3
 rw[hrl] at h4
 generalize hB:18446744073709551616^4=B at *
 have hb0:b=0:=by
  rcases Nat.eq_zero_or_pos b with h|h
  ·exact h
  ·have:B≤b*B:=Nat.le_mul_of_pos_left B h
   omega
 subst hb0
 refine⟨fun hp=>?_,fun hp=>?_⟩
 ·have:bo=1:=by omega
  subst this
  rw[Nat.mod_eq_of_lt An]
  omega
 ·subst hp
  have e:2*lv xs+bit=lv rs+Lq:=An
  rw[e,Nat.add_mod_right,Nat.mod_eq_of_lt An]
theorem next_walk (xs:List Nat)(bit:Nat)(w:World)(hxl:xs.length=4)(hxw:aT xs)(hx:lv xs<Lq)(hbit:bit≤1) :
  Calls Tryz.prog 132 #[numA xs,.int .u64 (bit:Int)] w (ResNum w ((2*lv xs+bit)%Lq)):=by
 have EN:=next_end xs
 unfold numA
 have hS0:=((St.init w NoB).alloc (uvs xs).toArray 120).alloc #[.int .u64 0,.int .u64 0,.int .u64 0,.int .u64 0] 120
 have HS0:=aA hS0
 have HXL:=aA hxl
 have HXW:=aA hxw
 have HEN:=aA EN
 have HX:=aA hx
 clear hS0 hxl hxw EN hx
 go_enter Tryz.func132,Tryz.ntmps132
 go_wp2_with fail
 go_loopw [1,8] (fun b i wr=>NextRel w w.heap.size [.cells (w.heap.size+1) #[.int .u64 0,.int .u64 0,.int .u64 0,.int .u64 0] 120] xs bit b i wr) (fun _ i _=>4 - (intOf i).toNat)
 case atStart =>
  have hS:=HS0.out
  simp only[size_alloc1] at hS
  exact⟨0,bit,xs,An,rfl,rfl,hbit,HXL.out,HXW.out,rfl,by simp[lv],hS.swap⟩
 case round =>
  obtain⟨k,b,cur,hk,rfl,rfl,hb,hcl,hcw,hcd,hval,hS⟩:=hrel
  by_cases hlt:k<4
  ·obtain⟨x,hx⟩:=iR xs HXL.out k hlt
   have hcx:cur[k]?=some x:=by
    have:=congrArg (·[0]?) hcd
    simpa[List.getElem?_drop,hx] using this
   have hx2:=cG HXW.out hx
   have hstep:=aA (next_step xs cur k b bit x hlt hcl hx hx2 hb hval)
   obtain⟨_,hd1,hd2⟩:=db_spec x b hx2 hb
   have hS':=hS.drew
   have hHS:=aA hS'
   have cn:∀z,aC wr.drew z→z.cell? ⟨w.heap.size,k,none⟩=some (.int .u64 (x:Int)):=fun z hz=>by
    rw[hz.cell (p:=⟨w.heap.size,k,none⟩) (Chunk.lt (hHS.out.sat 0 _ rfl) rfl),hHS.out.cell 0 rfl k]
    exact aR hcx
   have hor:=or_db x b hx2 hb
   have hsh:(x:Int)/9223372036854775808=((dbH x:Nat):Int):=by unfold dbH;omega
   have D1:=aA hd1
   have HCD:=aA hcd
   have HCW:=aA hcw
   have HCL:=aA hcl
   clear hS hS' hx hcx hx2 hval hd1 hcd hcw hcl
   go_wp2_with fail
   refine aW (fun i=>i==12) (aC wr.drew) Bt ?_
   (refine mT 0 (v:=?_) fR ?_;(try refine nm ?_));(refine mT 1 (v:=?_) fR ?_;(try refine nm ?_));(refine mT 2 (v:=?_) fR ?_;(try refine nm ?_));(refine mT 3 (v:=?_) fR ?_;(try refine nm ?_));(refine mT 4 (v:=?_) fR ?_;(try refine nm ?_));(refine mT 5 (v:=?_) fR ?_;(try refine nm ?_));(refine mT 6 (v:=?_) fR ?_;(try refine nm ?_))
   (refine mU 7 (v:=?_) fR ?_;(try refine nm ?_))
   (refine mT 8 (v:=?_) fR ?_;(try refine nm ?_));(refine mT 9 (v:=?_) fR ?_;(try refine nm ?_))
   (refine mU 10 (v:=?_) fR ?_;(try refine nm ?_));(refine mU 11 (v:=?_) fR ?_;(try refine nm ?_))
   (refine aZ (i:=12) Bt rfl rfl ?_;intro K hK;(try refine nm ?_))
   refine bO rfl rfl tyU64 hHS.out 0 rfl k (by rw[List.size_toArray,cE,HCL.out];exact hlt) rfl (v:=.int .u64 (dbW x b:Nat)) rfl rfl ?_
   intro w2 hS2
   refine hK _ _ ?_
   clear hK K
   (try refine nm ?_)
   (refine wpAny_take (i:=13) (v:=?_) rfl Bt Bt Bt (fun _ _ _ h=>h) (Or.inl ⟨Ch,?_⟩) ?_;rotate_left;(intro wx;go_simp)<;>(with_reducible rfl);(try refine nm ?_))
   refine wpAny_done Bt ?_ _
   go_wp2_with fail
   go_roundw
   case rel =>
    rw[bH] at hS2
    refine⟨k+1,dbH x,cur.set k (dbW x b),An,Cg,rfl,hd2,Cq,fH HCW.out k _ D1.out,?_,hstep.out,hS2⟩
    rw[dQ,←List.drop_drop,HCD.out,List.drop_drop]
   case measure=>simp[intOf];omega
  ·obtain rfl:k=4:=by omega
   match cur,hcl with
   | [a0,a1,a2,a3],hcl =>
    have hS':St w NoB wr [.cells w.heap.size #[.int .u64 (a0:Int),.int .u64 (a1:Int),.int .u64 (a2:Int),.int .u64 (a3:Int)] 120,.cells (w.heap.size+1) #[.int .u64 0,.int .u64 0,.int .u64 0,.int .u64 0] 120]:=hS
    have HV:=aA hval
    have HW:=aA hcw
    have HCL:=aA hcl
    have hz0:w.heap.size<wr.heap.size:=Chunk.lt (hS'.sat 0 _ rfl) rfl
    have hz1:w.heap.size+1<wr.heap.size:=Chunk.lt (hS'.sat 1 _ rfl) rfl
    have hz0a:w.heap.size≤wr.heap.size:=An
    have hz0b:w.heap.size<wr.heap.size+1:=An
    clear hS hval hcd hcw hcl
    go_upto_region 6 with fail
    go_cut [6,7] (fun p q wx=>∃g6 r0 r1 r2 r3 bo:Nat,p=.pointer (some ⟨g6,0,none⟩)∧q=.bool (decide (0<bo))∧aT [r0,r1,r2,r3]∧bo≤1∧lv [r0,r1,r2,r3]+lv [o0,o1,o2,o3]=lv [a0,a1,a2,a3]+bo*18446744073709551616^4 ∧
     St w NoB wx [.cells g6 #[.int .u64 (r0:Int),.int .u64 (r1:Int),.int .u64 (r2:Int),.int .u64 (r3:Int)] 120,.cells w.heap.size #[.int .u64 (a0:Int),.int .u64 (a1:Int),.int .u64 (a2:Int),.int .u64 (a3:Int)] 120,.cells (w.heap.size+1) #[.int .u64 0,.int .u64 0,.int .u64 0,.int .u64 0] 120])
    case first =>
     have hS1:=hS'.drew
     have hSd:=aA hS1
     have n0:∀z,aC wr.drew z→z.cell? ⟨w.heap.size,0,none⟩=some (.int .u64 (a0:Int)):=fun z hz=>by
      rw[hz.cell (p:=⟨w.heap.size,0,none⟩) (Chunk.lt (hSd.out.sat 0 _ rfl) rfl)];exact hSd.out.cell 0 rfl 0
     have n1:∀z,aC wr.drew z→z.cell? ⟨w.heap.size,1,none⟩=some (.int .u64 (a1:Int)):=fun z hz=>by
      rw[hz.cell (p:=⟨w.heap.size,1,none⟩) (Chunk.lt (hSd.out.sat 0 _ rfl) rfl)];exact hSd.out.cell 0 rfl 1
     have n2:∀z,aC wr.drew z→z.cell? ⟨w.heap.size,2,none⟩=some (.int .u64 (a2:Int)):=fun z hz=>by
      rw[hz.cell (p:=⟨w.heap.size,2,none⟩) (Chunk.lt (hSd.out.sat 0 _ rfl) rfl)];exact hSd.out.cell 0 rfl 2
     have n3:∀z,aC wr.drew z→z.cell? ⟨w.heap.size,3,none⟩=some (.int .u64 (a3:Int)):=fun z hz=>by
      rw[hz.cell (p:=⟨w.heap.size,3,none⟩) (Chunk.lt (hSd.out.sat 0 _ rfl) rfl)];exact hSd.out.cell 0 rfl 3
     refine aW (fun i=>i==7) (aC wr.drew) Bt ?_
     (refine mT 0 (v:=?_) fR ?_;(try refine nm ?_))
     refine wpM_two (i:=1) (j:=6) Bt rfl rfl rfl rfl ?_ ?_<;>intro K hK<;>(try refine nm ?_)
     ·refine aO rfl rfl enOrder rfl (order_any _) ?_
      rintro e w2 ⟨rfl,hb2⟩
      have hS1:=hS1.call hb2
      refine⟨_,rfl,hK (aC w2) _ _ (aC.next hb2) fR ?_⟩
      clear hK K
      (try refine nm ?_)
      refine wpM_two (i:=2) (j:=6) Bt rfl rfl rfl rfl ?_ ?_<;>intro K hK<;>(try refine nm ?_)
      ·refine aO rfl rfl enLess rfl (less_any a0 a1 a2 a3 _ _ _ _ _ HW.out ord_words) ?_
       rintro e w3 ⟨r0,r1,r2,r3,bo,hrw,hbo,hrv,rfl,hb3⟩
       have hS1:=hS1.call hb3
       refine⟨_,rfl,hK (aC w3) _ _ (aC.next hb3) fR ?_⟩
       clear hK K
       (try refine nm ?_)
       (refine mU 3 (v:=?_) fR ?_;(try refine nm ?_));(refine mU 4 (v:=?_) fR ?_;(try refine nm ?_));(refine mU 5 (v:=?_) fR ?_;(try refine nm ?_))
       (refine cC (i:=6) Bt rfl rfl ?_;intro K hK;(try refine nm ?_))
       refine step_alloc (zs:=#[.int .u64 0,.int .u64 0,.int .u64 0,.int .u64 0]) (e:=120) rfl (fun _=>by go_simp) hS1 ?_
       intro g6 wa hS1 hba
       refine hK (aC wa) _ _ (aC.next hba) fR ?_
       clear hK K
       (try refine nm ?_)
       (refine aZ (i:=7) Bt rfl rfl ?_;intro K hK;(try refine nm ?_))
       refine eS rfl rfl hS1 0 rfl rfl (cs:=#[.int .u64 (r0:Int),.int .u64 (r1:Int),.int .u64 (r2:Int),.int .u64 (r3:Int)]) rfl Bt rfl Bt ?_
       intro w5 hS5
       refine hK _ _ ?_
       clear hK K
       (try refine nm ?_)
       (refine wpAny_take (i:=8) (v:=?_) rfl Bt Bt Bt (fun _ _ _ h=>h) (Or.inl ⟨Ch,?_⟩) ?_;rotate_left;(intro wx;go_simp)<;>(with_reducible rfl);(try refine nm ?_))
       refine wpAny_done Bt ?_ _
       go_wp2_with fail
       go_meet
       exact⟨g6,r0,r1,r2,r3,bo,rfl,rfl,hrw,hbo,hrv,hS5⟩
      ·refine step_alloc (zs:=#[.int .u64 0,.int .u64 0,.int .u64 0,.int .u64 0]) (e:=120) rfl (fun _=>by go_simp) hS1 ?_
       intro g6 wa hS1 hba
       refine hK (aC wa) _ _ (aC.next hba) fR ?_
       clear hK K
       (try refine nm ?_)
       (refine cC (i:=2) Bt rfl rfl ?_;intro K hK;(try refine nm ?_))
       refine aO rfl rfl enLess rfl (less_any a0 a1 a2 a3 _ _ _ _ _ HW.out ord_words) ?_
       rintro e w3 ⟨r0,r1,r2,r3,bo,hrw,hbo,hrv,rfl,hb3⟩
       have hS1:=hS1.call hb3
       refine⟨_,rfl,hK (aC w3) _ _ (aC.next hb3) fR ?_⟩
       clear hK K
       (try refine nm ?_)
       (refine mU 3 (v:=?_) fR ?_;(try refine nm ?_));(refine mU 4 (v:=?_) fR ?_;(try refine nm ?_));(refine mU 5 (v:=?_) fR ?_;(try refine nm ?_))
       (refine aZ (i:=7) Bt rfl rfl ?_;intro K hK;(try refine nm ?_))
       refine eS rfl rfl hS1 0 rfl rfl (cs:=#[.int .u64 (r0:Int),.int .u64 (r1:Int),.int .u64 (r2:Int),.int .u64 (r3:Int)]) rfl Bt rfl Bt ?_
       intro w5 hS5
       refine hK _ _ ?_
       clear hK K
       (try refine nm ?_)
       (refine wpAny_take (i:=8) (v:=?_) rfl Bt Bt Bt (fun _ _ _ h=>h) (Or.inl ⟨Ch,?_⟩) ?_;rotate_left;(intro wx;go_simp)<;>(with_reducible rfl);(try refine nm ?_))
       refine wpAny_done Bt ?_ _
       go_wp2_with fail
       go_meet
       exact⟨g6,r0,r1,r2,r3,bo,rfl,rfl,hrw,hbo,hrv,hS5⟩
     ·refine step_alloc (zs:=#[.int .u64 0,.int .u64 0,.int .u64 0,.int .u64 0]) (e:=120) rfl (fun _=>by go_simp) hS1 ?_
      intro g6 wa hS1 hba
      refine hK (aC wa) _ _ (aC.next hba) fR ?_
      clear hK K
      (try refine nm ?_)
      (refine cC (i:=1) Bt rfl rfl ?_;intro K hK;(try refine nm ?_))
      refine aO rfl rfl enOrder rfl (order_any _) ?_
      rintro e w2 ⟨rfl,hb2⟩
      have hS1:=hS1.call hb2
      refine⟨_,rfl,hK (aC w2) _ _ (aC.next hb2) fR ?_⟩
      clear hK K
      (try refine nm ?_)
      (refine cC (i:=2) Bt rfl rfl ?_;intro K hK;(try refine nm ?_))
      refine aO rfl rfl enLess rfl (less_any a0 a1 a2 a3 _ _ _ _ _ HW.out ord_words) ?_
      rintro e w3 ⟨r0,r1,r2,r3,bo,hrw,hbo,hrv,rfl,hb3⟩
      have hS1:=hS1.call hb3
      refine⟨_,rfl,hK (aC w3) _ _ (aC.next hb3) fR ?_⟩
      clear hK K
      (try refine nm ?_)
      (refine mU 3 (v:=?_) fR ?_;(try refine nm ?_));(refine mU 4 (v:=?_) fR ?_;(try refine nm ?_));(refine mU 5 (v:=?_) fR ?_;(try refine nm ?_))
      (refine aZ (i:=7) Bt rfl rfl ?_;intro K hK;(try refine nm ?_))
      refine eS rfl rfl hS1 0 rfl rfl (cs:=#[.int .u64 (r0:Int),.int .u64 (r1:Int),.int .u64 (r2:Int),.int .u64 (r3:Int)]) rfl Bt rfl Bt ?_
      intro w5 hS5
      refine hK _ _ ?_
      clear hK K
      (try refine nm ?_)
      (refine wpAny_take (i:=8) (v:=?_) rfl Bt Bt Bt (fun _ _ _ h=>h) (Or.inl ⟨Ch,?_⟩) ?_;rotate_left;(intro wx;go_simp)<;>(with_reducible rfl);(try refine nm ?_))
      refine wpAny_done Bt ?_ _
      go_wp2_with fail
      go_meet
      exact⟨g6,r0,r1,r2,r3,bo,rfl,rfl,hrw,hbo,hrv,hS5⟩
    case rest =>
     obtain⟨g6,r0,r1,r2,r3,bo,rfl,rfl,hrw,hbo,hrv,hS6⟩:=hcut
     obtain⟨hE1,hE2⟩:=HEN.out [a0,a1,a2,a3] [r0,r1,r2,r3] b bo bit HX.out hbit HW.out HCL.out hrw rfl (by
      have:=HV.out
      rw[List.take_of_length_le B0,List.take_of_length_le (by rw[HXL.out];omega)] at this
      exact this) (by rw[←lv_ord];exact hrv) hbo
     have HE1:=aA hE1
     have HE2:=aA hE2
     have HRW:=aA hrw
     have hne:g6≠w.heap.size+1:=fun h=>hS6.apart 0 2 _ _ g6 An rfl rfl rfl (by rw[h];rfl)
     have hne2:w.heap.size≠w.heap.size+1:=An
     clear hE1 hE2 hrv hrw
     by_cases hbo0:bo=0
     ·subst hbo0
      have qr0:wc.cell? ⟨g6,0,none⟩=some (.int .u64 (r0:Int)):=hS6.cell 0 rfl 0
      have qr1:wc.cell? ⟨g6,1,none⟩=some (.int .u64 (r1:Int)):=hS6.cell 0 rfl 1
      have qr2:wc.cell? ⟨g6,2,none⟩=some (.int .u64 (r2:Int)):=hS6.cell 0 rfl 2
      have qr3:wc.cell? ⟨g6,3,none⟩=some (.int .u64 (r3:Int)):=hS6.cell 0 rfl 3
      have z0:wc.cell? ⟨w.heap.size+1,0,none⟩=some (.int .u64 0):=hS6.cell 2 rfl 0
      have z1:wc.cell? ⟨w.heap.size+1,1,none⟩=some (.int .u64 0):=hS6.cell 2 rfl 1
      have z2:wc.cell? ⟨w.heap.size+1,2,none⟩=some (.int .u64 0):=hS6.cell 2 rfl 2
      have z3:wc.cell? ⟨w.heap.size+1,3,none⟩=some (.int .u64 0):=hS6.cell 2 rfl 3
      have f0:=hS6.free 2 rfl 0
      have f1:=hS6.free 2 rfl 1
      have f2:=hS6.free 2 rfl 2
      have f3:=hS6.free 2 rfl 3
      have HS:=aA ((((hS6.setCell 2 rfl 0 (.int .u64 (r0:Int))).setCell 2 rfl 1 (.int .u64 (r1:Int))).setCell 2 rfl 2 (.int .u64 (r2:Int))).setCell 2 rfl 3 (.int .u64 (r3:Int)))
      clear hS6
      go_wp2_with fail
      refine bodyPost_ret (results_cell_row rfl _ _ (w.heap.size+1) _ _ _ _ rfl (HS.out.heap 2 rfl) Tryz.underlying120 rfl Bt) rfl ?_
      exact⟨[r0,r1,r2,r3],rfl,HRW.out,HE2.out (by trivial),rfl,HS.out.below⟩
     ·have hdb:decide (0<bo)=true:=by simp;omega
      have qa0:wc.cell? ⟨w.heap.size,0,none⟩=some (.int .u64 (a0:Int)):=hS6.cell 1 rfl 0
      have qa1:wc.cell? ⟨w.heap.size,1,none⟩=some (.int .u64 (a1:Int)):=hS6.cell 1 rfl 1
      have qa2:wc.cell? ⟨w.heap.size,2,none⟩=some (.int .u64 (a2:Int)):=hS6.cell 1 rfl 2
      have qa3:wc.cell? ⟨w.heap.size,3,none⟩=some (.int .u64 (a3:Int)):=hS6.cell 1 rfl 3
      have z0:wc.cell? ⟨w.heap.size+1,0,none⟩=some (.int .u64 0):=hS6.cell 2 rfl 0
      have z1:wc.cell? ⟨w.heap.size+1,1,none⟩=some (.int .u64 0):=hS6.cell 2 rfl 1
      have z2:wc.cell? ⟨w.heap.size+1,2,none⟩=some (.int .u64 0):=hS6.cell 2 rfl 2
      have z3:wc.cell? ⟨w.heap.size+1,3,none⟩=some (.int .u64 0):=hS6.cell 2 rfl 3
      have f0:=hS6.free 2 rfl 0
      have f1:=hS6.free 2 rfl 1
      have f2:=hS6.free 2 rfl 2
      have f3:=hS6.free 2 rfl 3
      have HS:=aA ((((hS6.setCell 2 rfl 0 (.int .u64 (a0:Int))).setCell 2 rfl 1 (.int .u64 (a1:Int))).setCell 2 rfl 2 (.int .u64 (a2:Int))).setCell 2 rfl 3 (.int .u64 (a3:Int)))
      clear hS6
      go_wp2_with fail
      refine bodyPost_ret (results_cell_row rfl _ _ (w.heap.size+1) _ _ _ _ rfl (HS.out.heap 2 rfl) Tryz.underlying120 rfl Bt) rfl ?_
      exact⟨[a0,a1,a2,a3],rfl,HW.out,HE1.out An,rfl,HS.out.below⟩
theorem tyB:RowTy Tryz.prog 22 5 1 1:=fQ (z:=.int .u8 0) Tryz.underlying22 Bt rfl Bz
theorem bvs_snoc (l:List UInt8)(m:Nat)(h:m<256):bvs (l++[UInt8.ofNat m])=bvs l++[.int .u8 (m:Int)]:=by
 simp only[bvs,List.map_append,List.map_cons,List.map_nil,bv,UInt8.toNat_ofNat']
 rw[Nat.mod_eq_of_lt An]
def SpRel (w:World)(xs:List Nat)(v i:Value)(wr:World):Prop:=
 ∃(k:Nat) (B:Option Addr) (d:Nat) (l:List UInt8),k≤xs.length∧i=.int .i64 (k:Int)∧v=.slice B l.length d∧l=spB (xs.take k)∧St w NoB wr [.row (.slice B l.length d) 5 1 l.length (bvs l)]
def SpRel2 (w:World)(T:List UInt8)(v x i:Value)(wr:World):Prop:=
 ∃(j f y:Nat) (B:Option Addr) (d:Nat) (l:List UInt8),i=.int .i64 (j:Int)∧x=.int .u64 (y:Int)∧j+f=8∧v=.slice B l.length d∧l++leB f y=T∧St w NoB wr [.row (.slice B l.length d) 5 1 l.length (bvs l)]
theorem spelt_walk (A:Option Addr)(n c:Nat)(xs:List Nat)(w:World)(hn:xs.length=n)(hn2:n≤100)(hr:Rd w (.slice A n c) 1 n (uvs xs)) :
  Calls Tryz.prog 146 #[.slice A n c] w (iI 5 w (spB xs)):=by
 have HN:=aA hn
 have HR:=aA hr
 have HS0:=aA ((St.init w NoB).row (Below.refl _ _) (World.ownsRow_nil _ _ 5 1))
 clear hn hr
 go_enter Tryz.func146,Tryz.ntmps146
 go_wp2_with fail
 go_loopw [3,8] (fun v i wr=>SpRel w xs v i wr) (fun _ i _=>n - (intOf i).toNat)
 case atStart=>exact⟨0,none,0,[],An,rfl,rfl,rfl,HS0.out⟩
 case round =>
  obtain⟨k,B,d,l,hk,rfl,rfl,hl,hS⟩:=hrel
  rw[HN.out] at hk
  by_cases hlt:k<n
  ·obtain⟨x,hx⟩:∃x,xs[k]?=some x:=⟨xs[k]'(by rw[HN.out];exact hlt),gE _⟩
   rcases HR.out.cases with⟨_,h0,_⟩|⟨b,o,sp,c',hA,hb,_,_,_,hsp,hc⟩
   ·omega
   injection hA with hA1 _ hA3
   subst hA1 hA3
   obtain rfl:sp=none:=hsp An
   replace hb:=hb An
   have hcx:wr.cell? ⟨b,o+k,none⟩=some (.int .u64 (x:Int)):=by
    rw[hS.below.cell (p:=⟨b,o+k,none⟩) hb]
    exact hc k _ (by simp only[uvs,List.getElem?_map,hx];rfl)
   have hT:=spB_take xs k x hx
   rw[←hl] at hT
   have HT:=aA hT
   have hll:l.length=8*k:=by rw[hl,spB_len,List.length_take,HN.out];omega
   have HLL:=aA hll
   have HSK:=aA hS
   clear hS hT hl hx hc hsp hll
   go_wp2_with fail
   go_loopw [3,5,12] (fun v x i wr=>SpRel2 w (spB (xs.take (k+1))) v x i wr) (fun _ _ i _=>8 - (intOf i).toNat)
   case atStart=>exact⟨0,8,x,B,d,l,rfl,rfl,rfl,rfl,HT.out.symm,HSK.out⟩
   case round =>
    obtain⟨j,f,y,B2,d2,l2,rfl,rfl,hjf,rfl,hl2,hS2⟩:=hrel
    have HL2:=aA hl2
    have hbd:l2.length≤8*k+8:=by
     have:=congrArg List.length hl2
     rw[spB_len,List.length_append,List.length_take,HN.out] at this
     omega
    clear hl2 HSK
    by_cases hj:j<8
    ·go_wp2_with (at_builtin;refine bQ rfl rfl tyB hS2 0 rfl rfl (us:=[_]) rfl rfl ?_ ?_ Bz ?_;(intro u hu;simp only[List.mem_singleton] at hu;subst hu;rfl);(simp only[List.length_singleton];omega);intro B3 d3 w3 hS3)
     go_roundw
     case rel =>
      cases f with
      | zero=>omega
      | succ f =>
       refine⟨j+1,f,y/256,B3,d3,l2++[UInt8.ofNat (y%256)],Cg,B0,An,B0,?_,?_⟩
       ·rw[←HL2.out]
        simp[leB]
       ·rw[bvs_snoc _ _ An,List.length_append,List.length_singleton]
        exact hS3
     case measure=>simp[intOf];omega
    ·obtain rfl:f=0:=by omega
     have h8:j=8:=An
     subst h8
     have hfin:=HL2.out
     simp only[leB,List.append_nil] at hfin
     have HFIN:=aA hfin
     clear hfin
     go_wp2_with fail
     go_roundw
     case rel=>exact⟨k+1,B2,d2,l2,by rw[HN.out];omega,Cg,rfl,HFIN.out,hS2⟩
     case measure=>simp[intOf];omega
  ·obtain rfl:k=n:=by omega
   have hfin:l=spB xs:=by rw[hl,←HN.out,List.take_length]
   have HFIN:=aA hfin
   clear hl hfin
   go_wp2_with fail
   go_ret
   exact dY hS 0 rfl (by rw[HFIN.out])
theorem bytes_walk (a0 a1 a2 a3:Nat)(w:World)(ha:aT [a0,a1,a2,a3]) :
  Calls Tryz.prog 133 #[.agg #[.int .u64 (a0:Int),.int .u64 (a1:Int),.int .u64 (a2:Int),.int .u64 (a3:Int)]] w (iI 5 w (leB 32 (lv [a0,a1,a2,a3]))):=by
 have e:leB 32 (lv [a0,a1,a2,a3])=spB [a0,a1,a2,a3]:=(spB_eq _ ha).symm
 rw[e]
 have S:=fun w1=>spelt_walk (some ⟨w.heap.size,0,none⟩) 4 4 [a0,a1,a2,a3] w1 rfl An
 have HS0:=aA ((St.init w NoB).alloc (uvs [a0,a1,a2,a3]).toArray 120)
 have HS:=aA S
 clear S e ha
 go_enter Tryz.func133,Tryz.ntmps133
 go_wp2_with (go_at_call 146;refine(HS.out _ (rd_cells HS0.out 0 rfl 4 (by rfl) Bz)).mono ?_;rintro e w2 ⟨B,d,rfl,hb,ho⟩)
 go_ret
 exact⟨B,d,rfl,((Below.refl _ _).alloc (Nat.le_refl _) _).trans (hb.mono B0),ho.base_le B0⟩
end Go.Proofs.YtnohmgpmmhlloaaGreatDoor.S3
