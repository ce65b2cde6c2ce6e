/- A part of the proof: texts PjH, PjI, PkA, PkB, PkC, PkD, PkE, PkF, PkG, PkH, PkI, PkJ, PkK, PkL, PkM, PkN, PkO, PkP, PkQ, joined. Conditions: none. -/
import Derived.Test.YtdpamjikmlbmhaaGreatDoorPG
set_option linter.all false
set_option maxHeartbeats 32000000
open Nat (reduceEqDiff reduceAdd reduceLeDiff reduceLT reduceMul reduceSub)
namespace Go.PM
open Go.Lib
variable {cf:aJ} {st:St} {mk:PV->St->Fr×St} {A:Fr×St->Prop} {s:Nat}
def Qx{rs:List PV}{l:List Ch}{c:Ch}(h:aQ rs=cc c++l.flatMap cc):∃ c0 c1 ca ta cb tb c4 c5 c6 c7 cg tg c9 c10 c11 rs',rs=c0::c1:: .list c.node.labels.length ca ta:: .list c.node.fields.length cb tb::c4::c5::c6::c7:: .list c.edge.fields.length cg tg::c9::c10::c11::rs'/\
  aQ ca=c.node.labels.map S/\aQ cb=c.node.fields.flatMap fc/\aQ cg=c.edge.fields.flatMap fc/\aQ rs'=l.flatMap cc:=by
 obtain⟨c0,c1,c2,c3,c4,c5,c6,c7,c8,c9,c10,c11,rs',rfl⟩:∃ c0 c1 c2 c3 c4 c5 c6 c7 c8 c9 c10 c11 rs',rs=c0::c1::c2::c3::c4::c5::c6::c7::c8::c9::c10::c11::rs':=by
  have hlen:rs.length=12+(l.flatMap cc).length:=by rw[<-ch,h,ae,iC]
  match rs,hlen with
  |c0::c1::c2::c3::c4::c5::c6::c7::c8::c9::c10::c11::rs',_=>exact⟨c0,c1,c2,c3,c4,c5,c6,c7,c8,c9,c10,c11,rs',rfl⟩
  | [],h=>simp at h;omega
  | [_],h=>simp at h;omega
  | [_,_],h=>simp at h;omega
  | [_,_,_],h=>simp at h;omega
  | [_,_,_,_],h=>simp at h;omega
  | [_,_,_,_,_],h=>simp at h;omega
  | [_,_,_,_,_,_],h=>simp at h;omega
  | [_,_,_,_,_,_,_],h=>simp at h;omega
  | [_,_,_,_,_,_,_,_],h=>simp at h;omega
  | [_,_,_,_,_,_,_,_,_],h=>simp at h;omega
  | [_,_,_,_,_,_,_,_,_,_],h=>simp at h;omega
  | [_,_,_,_,_,_,_,_,_,_,_],h=>simp at h;omega
 simp only[dX,bg,cc,bo,aU,List.cons.injEq]at h;obtain⟨-,-,h2,h3,-,-,-,-,h8,-,-,-,hr⟩:=h;rw[<-dX]at hr;obtain⟨ca,ta,rfl,hca,-⟩:=bu h2;obtain⟨cb,tb,rfl,hcb,-⟩:=bu h3;obtain⟨cg,tg,rfl,hcg,-⟩:=bu h8;exact⟨c0,c1,ca,ta,cb,tb,c4,c5,c6,c7,cg,tg,c9,c10,c11,rs',rfl,hca,hcb,hcg,hr⟩
def FF(K:bO cf)(k:Nat)(l:List Ch)(hk:fF (l.map i8) k<=1000000000000){cs:List PV}{tk:aF}(hs:aY (.list l.length cs tk)=true)(hL:fK cc 12 l cs)(hT:a8 st (aB (.list l.length cs tk))):
  ∃ p ns,uP cf 20 [.list l.length cs tk,I k] st=some (I (fF (l.map i8) k:Nat),p,fA ((aB (.list l.length cs tk)).map (·.1)) ns st)/\dC st.nx ns p/\aO p= .list l.length ((pT (l.map i8) k).flatMap cc) .no/\dn [.list l.length cs tk,I k] [0] st=(aB (.list l.length cs tk)).map (·.1):=by
 refine yg K.tab (f:=20) (F:=FB20) (t:=4) rfl rfl rfl hs hL.np hT (lb rfl) (l.length+1) (fun cs0 tk0 ns h1 h2 h3 h4 h5=>?_);have hcl:cs0.length=l.length*12:=by rw[h2,hL.len]
 have hst:aQ cs0=l.flatMap cc:=by rw[h1,hL.st]
 have hN:l.length<=1000000000000:=by have:=wD (l.map i8) k;rw[bJ]at this;omega
 clear hs hL hT h1 h2;simp only[FB20,↓qU,seval];simp only[↓pa,seval];refine a7 (fun q fr st=>∃ (i:Nat) (ds rs:List PV),q=l.length-i/\i<=l.length/\fr 0= .list l.length (ds++rs) tk0/\fr 1=I (fF ((l.take i).map i8) k:Nat)/\fr 5=I i/\ds.length=i*12/\aQ ds=(pT ((l.take i).map i8) k).flatMap cc/\aQ rs=(l.drop i).flatMap cc/\aX (ds++rs)=true/\aY (.list l.length (ds++rs) tk0)=true/\a8 st ([]++aB (.list l.length (ds++rs) tk0)++[])/\st.fl=0) l.length (by omega)
  ⟨0,[],cs0,by simp,by omega,by simp only[↓pa,ah,seval]<;>simp,by simp only[↓pa,seval]<;>simp[fF],by simp only[↓pa,seval]<;>rfl,rfl,rfl,hst,by simpa using h3,by simpa using h4,by simpa using h5,rfl⟩ ?_
 rintro q fr st ⟨i,ds,rs,rfl,hi,f0,f1,f5,hd1,hd2,hr2,np0,so0,T0,hfl⟩;simp only[↓pa,pb,ak,seval,f0,f5];refine af (fun h=>?_) (fun h=>?_)
 ·have hlt:i<l.length:=h;rw[bj hlt,be]at hr2;have hkk:fF ((l.take (i+1)).map i8) k=mE (fF ((l.take i).map i8) k) (i8 l[i]):=by
   rw[aV hlt,cn];exact(zV _ _ _).2
  have hkm:pT ((l.take (i+1)).map i8) k=pT ((l.take i).map i8) k++[B2 (fF ((l.take i).map i8) k) (i8 l[i])]:=by
   rw[aV hlt,cn];exact(zV _ _ _).1
  have hkl:fF ((l.take (i+1)).map i8) k<=fF (l.map i8) k:=by
   have e:l.map i8=(l.take (i+1)).map i8++(l.drop (i+1)).map i8:=by rw[<-cn,dy]
   rw[e,Ac];exact HE _ _
  generalize hm:fF ((l.take i).map i8) k=m at*;obtain⟨c0,c1,ca,ta,cb,tb,c4,c5,c6,c7,cg,tg,c9,c10,c11,rs',rfl,hca,hcb,hcg,hr5⟩:=Qx hr2;have hrl:rs'.length+12=(l.length-i) *12:=by
   have:=bX List.length hr5;rw[ch,bC cc 12 iC,bl]at this;omega
  obtain⟨j,t0,rfl⟩:=xJ so0;have la:ca.length=l[i].node.labels.length:=by rw[<-ch,hca,bJ]
  have lb:cb.length=l[i].node.fields.length*2:=by rw[<-ch,hcb,eH]
  have lg:cg.length=l[i].edge.fields.length*2:=by rw[<-ch,hcg,eH]
  have hbd:mB m (i8 l[i])=m+2+l[i].node.labels.length+2*l[i].node.fields.length:=rfl;have hbe:mE m (i8 l[i])=mB m (i8 l[i])+4+2*l[i].edge.fields.length+3:=rfl;have hcm:=Nj m (i8 l[i]);rw[hkk]at hkl;generalize hb:mB m (i8 l[i])=b at*;have ht5:=fun st=>gL (st:=st) K (b+1) (by omega);have ht9:=fun st=>gL (st:=st) K (b+4+2*l[i].edge.fields.length) (by omega);have ht10:=fun st=>gL (st:=st) K (b+4+2*l[i].edge.fields.length+1) (by omega);have ht11:=fun st=>gL (st:=st) K (b+4+2*l[i].edge.fields.length+2) (by omega);have len:∀ (a:List PV) (b:PV) (c:List PV),a.length+(c.length+1)=l.length*12->(a++b::c).length=l.length*12:=fun a b c h=>by rw[ae,aA];exact h
  have o0:i*12=ds.length:=hd1.symm;have n0:=len ds c0 (c1::(.list l[i].node.labels.length ca ta)::(.list l[i].node.fields.length cb tb)::c4::c5::c6::c7::(.list l[i].edge.fields.length cg tg)::c9::c10::c11::rs') (by simp only[aA];omega);simp (maxSteps:=1000000) (disch:=omega)only[↓pa,pb,ah,seval,f0,f1,f5,h,bK,aI];refine fC (X:=[]) (Y:=[]) o0 (by omega) so0 np0 T0 ⟨rfl,rfl,rfl⟩ (fun so1 np1 T1=>?_);have b0:=fun cs' E'=> @ib l.length j t0 E' (i*12) ds (c1::(.list l[i].node.labels.length ca ta)::(.list l[i].node.fields.length cb tb)::c4::c5::c6::c7::(.list l[i].edge.fields.length cg tg)::c9::c10::c11::rs') cs' c0 (I m) o0;have e0:ds++I m::c1::(.list l[i].node.labels.length ca ta)::(.list l[i].node.fields.length cb tb)::c4::c5::c6::c7::(.list l[i].edge.fields.length cg tg)::c9::c10::c11::rs'=(ds++[I m])++c1::(.list l[i].node.labels.length ca ta)::(.list l[i].node.fields.length cb tb)::c4::c5::c6::c7::(.list l[i].edge.fields.length cg tg)::c9::c10::c11::rs':=by simp
  rw[e0]at b0 so1 np1 T1;have o1:i*12+1=(ds++[I m]).length:=by rw[ae,hd1];rfl
  have n1:=len (ds++[I m]) c1 ((.list l[i].node.labels.length ca ta)::(.list l[i].node.fields.length cb tb)::c4::c5::c6::c7::(.list l[i].edge.fields.length cg tg)::c9::c10::c11::rs') (by simp only[ae,aA,a6];omega);simp (maxSteps:=1000000) (disch:=omega)only[↓pa,pb,ah,ak,seval,f0,f1,f5,bK,aI,b0];refine fC (X:=[]) (Y:=[]) o1 (by omega) so1 np1 T1 ⟨rfl,rfl,rfl⟩ (fun so2 np2 T2=>?_);have b1:=fun cs' E'=> @ib l.length j t0 E' (i*12+1) (ds++[I m]) ((.list l[i].node.labels.length ca ta)::(.list l[i].node.fields.length cb tb)::c4::c5::c6::c7::(.list l[i].edge.fields.length cg tg)::c9::c10::c11::rs') cs' c1 (I (m+1:Nat)) o1;have e1:(ds++[I m])++I (m+1:Nat)::(.list l[i].node.labels.length ca ta)::(.list l[i].node.fields.length cb tb)::c4::c5::c6::c7::(.list l[i].edge.fields.length cg tg)::c9::c10::c11::rs'=(ds++[I m,I (m+1:Nat)])++(.list l[i].node.labels.length ca ta)::(.list l[i].node.fields.length cb tb)::c4::c5::c6::c7::(.list l[i].edge.fields.length cg tg)::c9::c10::c11::rs':=by simp
  rw[e1]at b1 so2 np2 T2;have o2:i*12+2=(ds++[I m,I (m+1:Nat)]).length:=by rw[ae,hd1];rfl
  have n2:=len (ds++[I m,I (m+1:Nat)]) (.list l[i].node.labels.length ca ta) ((.list l[i].node.fields.length cb tb)::c4::c5::c6::c7::(.list l[i].edge.fields.length cg tg)::c9::c10::c11::rs') (by simp only[ae,aA,a6];omega);have p2:bL ((ds++[I m,I (m+1:Nat)])++(.list l[i].node.labels.length ca ta)::(.list l[i].node.fields.length cb tb)::c4::c5::c6::c7::(.list l[i].edge.fields.length cg tg)::c9::c10::c11::rs') (i*12+2) 1 false=some (.list l[i].node.labels.length ca ta):=oI (by rw[<-o2]);simp (maxSteps:=1000000) (disch:=omega)only[↓pa,pb,ak,seval,f0,f5,bK,b0,b1,p2];refine pD (sz:=1) (X:=[]) (Y:=[]) (HR K (m+2) l[i].node.labels.length (by omega) (rK so2) (yF np2) la (sa T2)) (by omega) (by decide) (fun e=>by rw[e];rfl) so2 np2 T2 hfl (fun u2 ms2 q2 hu2 k2 so3 np3 z2 T3=>?_);have e2:(ds++[I m,I (m+1:Nat)])++q2::(.list l[i].node.fields.length cb tb)::c4::c5::c6::c7::(.list l[i].edge.fields.length cg tg)::c9::c10::c11::rs'=(ds++[I m,I (m+1:Nat),q2])++(.list l[i].node.fields.length cb tb)::c4::c5::c6::c7::(.list l[i].edge.fields.length cg tg)::c9::c10::c11::rs':=by simp
  rw[e2]at k2 so3 np3 T3;have o3:i*12+3=(ds++[I m,I (m+1:Nat),q2]).length:=by rw[ae,hd1];rfl
  have n3:=len (ds++[I m,I (m+1:Nat),q2]) (.list l[i].node.fields.length cb tb) (c4::c5::c6::c7::(.list l[i].edge.fields.length cg tg)::c9::c10::c11::rs') (by simp only[ae,aA,a6];omega);have p3:bL ((ds++[I m,I (m+1:Nat),q2])++(.list l[i].node.fields.length cb tb)::c4::c5::c6::c7::(.list l[i].edge.fields.length cg tg)::c9::c10::c11::rs') (i*12+3) 1 false=some (.list l[i].node.fields.length cb tb):=oI (by rw[<-o3]);simp (maxSteps:=1000000) (disch:=omega)only[↓pa,pb,seval,f0,f5,bK,b0,b1,hu2,k2,p3];refine pD (sz:=2) (X:=[]) (Y:=[]) (yQ K (m+2+l[i].node.labels.length) l[i].node.fields.length (by omega) (rK so3) (yF np3) lb (sa T3)) lb (by decide) (fun e=>by rw[e];rfl) so3 np3 T3 hfl (fun u3 ms3 q3 hu3 k3 so4 np4 z3 T4=>?_);have e3:(ds++[I m,I (m+1:Nat),q2])++q3::c4::c5::c6::c7::(.list l[i].edge.fields.length cg tg)::c9::c10::c11::rs'=(ds++[I m,I (m+1:Nat),q2,q3])++c4::c5::c6::c7::(.list l[i].edge.fields.length cg tg)::c9::c10::c11::rs':=by simp
  rw[e3]at k3 so4 np4 T4;rw[<-hbd]at hu3 k3 ⊢;have o4:i*12+4=(ds++[I m,I (m+1:Nat),q2,q3]).length:=by rw[ae,hd1];rfl
  have n4:=len (ds++[I m,I (m+1:Nat),q2,q3]) c4 (c5::c6::c7::(.list l[i].edge.fields.length cg tg)::c9::c10::c11::rs') (by simp only[ae,aA,a6];omega);simp (maxSteps:=1000000) (disch:=omega)only[↓pa,pb,ah,seval,f0,f5,bK,aI,b0,b1,k2,hu3,k3];refine fC (X:=[]) (Y:=[]) o4 (by omega) so4 np4 T4 ⟨rfl,rfl,rfl⟩ (fun so5 np5 T5=>?_);have b4:=fun cs' E'=> @ib l.length j t0 E' (i*12+4) (ds++[I m,I (m+1:Nat),q2,q3]) (c5::c6::c7::(.list l[i].edge.fields.length cg tg)::c9::c10::c11::rs') cs' c4 (I (b:Nat)) o4;have e4:(ds++[I m,I (m+1:Nat),q2,q3])++I (b:Nat)::c5::c6::c7::(.list l[i].edge.fields.length cg tg)::c9::c10::c11::rs'=(ds++[I m,I (m+1:Nat),q2,q3,I (b:Nat)])++c5::c6::c7::(.list l[i].edge.fields.length cg tg)::c9::c10::c11::rs':=by simp
  rw[e4]at b4 so5 np5 T5;have o5:i*12+5=(ds++[I m,I (m+1:Nat),q2,q3,I (b:Nat)]).length:=by rw[ae,hd1];rfl
  have n5:=len (ds++[I m,I (m+1:Nat),q2,q3,I (b:Nat)]) c5 (c6::c7::(.list l[i].edge.fields.length cg tg)::c9::c10::c11::rs') (by simp only[ae,aA,a6];omega);simp (maxSteps:=1000000) (disch:=omega)only[↓pa,pb,ah,ak,seval,f0,f5,bK,b0,b1,k2,k3,b4,ht5];refine fC (X:=[]) (Y:=[]) o5 (by omega) so5 np5 T5 ⟨rfl,rfl,rfl⟩ (fun so6 np6 T6=>?_);have b5:=fun cs' E'=> @ib l.length j t0 E' (i*12+5) (ds++[I m,I (m+1:Nat),q2,q3,I (b:Nat)]) (c6::c7::(.list l[i].edge.fields.length cg tg)::c9::c10::c11::rs') cs' c5 (S (mt (b+1))) o5;have e5:(ds++[I m,I (m+1:Nat),q2,q3,I (b:Nat)])++S (mt (b+1))::c6::c7::(.list l[i].edge.fields.length cg tg)::c9::c10::c11::rs'=(ds++[I m,I (m+1:Nat),q2,q3,I (b:Nat),S (mt (b+1))])++c6::c7::(.list l[i].edge.fields.length cg tg)::c9::c10::c11::rs':=by simp
  rw[e5]at b5 so6 np6 T6;have o6:i*12+6=(ds++[I m,I (m+1:Nat),q2,q3,I (b:Nat),S (mt (b+1))]).length:=by rw[ae,hd1];rfl
  have n6:=len (ds++[I m,I (m+1:Nat),q2,q3,I (b:Nat),S (mt (b+1))]) c6 (c7::(.list l[i].edge.fields.length cg tg)::c9::c10::c11::rs') (by simp only[ae,aA,a6];omega);simp (maxSteps:=1000000) (disch:=omega)only[↓pa,pb,ah,ak,seval,f0,f5,bK,b0,b1,k2,k3,b4,b5];refine fC (X:=[]) (Y:=[]) o6 (by omega) so6 np6 T6 ⟨rfl,rfl,rfl⟩ (fun so7 np7 T7=>?_);have b6:=fun cs' E'=> @ib l.length j t0 E' (i*12+6) (ds++[I m,I (m+1:Nat),q2,q3,I (b:Nat),S (mt (b+1))]) (c7::(.list l[i].edge.fields.length cg tg)::c9::c10::c11::rs') cs' c6 (I (b+2:Nat)) o6;have e6:(ds++[I m,I (m+1:Nat),q2,q3,I (b:Nat),S (mt (b+1))])++I (b+2:Nat)::c7::(.list l[i].edge.fields.length cg tg)::c9::c10::c11::rs'=(ds++[I m,I (m+1:Nat),q2,q3,I (b:Nat),S (mt (b+1)),I (b+2:Nat)])++c7::(.list l[i].edge.fields.length cg tg)::c9::c10::c11::rs':=by simp
  rw[e6]at b6 so7 np7 T7;have o7:i*12+7=(ds++[I m,I (m+1:Nat),q2,q3,I (b:Nat),S (mt (b+1)),I (b+2:Nat)]).length:=by rw[ae,hd1];rfl
  have n7:=len (ds++[I m,I (m+1:Nat),q2,q3,I (b:Nat),S (mt (b+1)),I (b+2:Nat)]) c7 ((.list l[i].edge.fields.length cg tg)::c9::c10::c11::rs') (by simp only[ae,aA,a6];omega);simp (maxSteps:=1000000) (disch:=omega)only[↓pa,pb,ah,ak,seval,f0,f5,bK,b0,b1,k2,k3,b4,b5,b6];refine fC (X:=[]) (Y:=[]) o7 (by omega) so7 np7 T7 ⟨rfl,rfl,rfl⟩ (fun so8 np8 T8=>?_);have b7:=fun cs' E'=> @ib l.length j t0 E' (i*12+7) (ds++[I m,I (m+1:Nat),q2,q3,I (b:Nat),S (mt (b+1)),I (b+2:Nat)]) ((.list l[i].edge.fields.length cg tg)::c9::c10::c11::rs') cs' c7 (I (b+3:Nat)) o7;have e7:(ds++[I m,I (m+1:Nat),q2,q3,I (b:Nat),S (mt (b+1)),I (b+2:Nat)])++I (b+3:Nat)::(.list l[i].edge.fields.length cg tg)::c9::c10::c11::rs'=(ds++[I m,I (m+1:Nat),q2,q3,I (b:Nat),S (mt (b+1)),I (b+2:Nat),I (b+3:Nat)])++(.list l[i].edge.fields.length cg tg)::c9::c10::c11::rs':=by simp
  rw[e7]at b7 so8 np8 T8;have o8:i*12+8=(ds++[I m,I (m+1:Nat),q2,q3,I (b:Nat),S (mt (b+1)),I (b+2:Nat),I (b+3:Nat)]).length:=by rw[ae,hd1];rfl
  have n8:=len (ds++[I m,I (m+1:Nat),q2,q3,I (b:Nat),S (mt (b+1)),I (b+2:Nat),I (b+3:Nat)]) (.list l[i].edge.fields.length cg tg) (c9::c10::c11::rs') (by simp only[ae,aA,a6];omega);have p8:bL ((ds++[I m,I (m+1:Nat),q2,q3,I (b:Nat),S (mt (b+1)),I (b+2:Nat),I (b+3:Nat)])++(.list l[i].edge.fields.length cg tg)::c9::c10::c11::rs') (i*12+8) 1 false=some (.list l[i].edge.fields.length cg tg):=oI (by rw[<-o8]);simp (maxSteps:=1000000) (disch:=omega)only[↓pa,pb,ak,seval,f0,f5,bK,b0,b1,k2,k3,b4,b5,b6,b7,p8];refine pD (sz:=2) (X:=[]) (Y:=[]) (yQ K (b+4) l[i].edge.fields.length (by omega) (rK so8) (yF np8) lg (sa T8)) lg (by decide) (fun e=>by rw[e];rfl) so8 np8 T8 hfl (fun u8 ms8 q8 hu8 k8 so9 np9 z8 T9=>?_);have e8:(ds++[I m,I (m+1:Nat),q2,q3,I (b:Nat),S (mt (b+1)),I (b+2:Nat),I (b+3:Nat)])++q8::c9::c10::c11::rs'=(ds++[I m,I (m+1:Nat),q2,q3,I (b:Nat),S (mt (b+1)),I (b+2:Nat),I (b+3:Nat),q8])++c9::c10::c11::rs':=by simp
  rw[e8]at k8 so9 np9 T9;have o9:i*12+9=(ds++[I m,I (m+1:Nat),q2,q3,I (b:Nat),S (mt (b+1)),I (b+2:Nat),I (b+3:Nat),q8]).length:=by rw[ae,hd1];rfl
  have n9:=len (ds++[I m,I (m+1:Nat),q2,q3,I (b:Nat),S (mt (b+1)),I (b+2:Nat),I (b+3:Nat),q8]) c9 (c10::c11::rs') (by simp only[ae,aA,a6];omega);simp (maxSteps:=1000000) (disch:=omega)only[↓pa,pb,ah,seval,f0,f5,bK,b0,b1,k2,k3,b4,b5,b6,b7,hu8,k8,ht9];refine fC (X:=[]) (Y:=[]) o9 (by omega) so9 np9 T9 ⟨rfl,rfl,rfl⟩ (fun so10 np10 T10=>?_);have b9:=fun cs' E'=> @ib l.length j t0 E' (i*12+9) (ds++[I m,I (m+1:Nat),q2,q3,I (b:Nat),S (mt (b+1)),I (b+2:Nat),I (b+3:Nat),q8]) (c10::c11::rs') cs' c9 (S (mt (b+4+2*l[i].edge.fields.length))) o9;have e9:(ds++[I m,I (m+1:Nat),q2,q3,I (b:Nat),S (mt (b+1)),I (b+2:Nat),I (b+3:Nat),q8])++S (mt (b+4+2*l[i].edge.fields.length))::c10::c11::rs'=(ds++[I m,I (m+1:Nat),q2,q3,I (b:Nat),S (mt (b+1)),I (b+2:Nat),I (b+3:Nat),q8,S (mt (b+4+2*l[i].edge.fields.length))])++c10::c11::rs':=by simp
  rw[e9]at b9 so10 np10 T10;have o10:i*12+10=(ds++[I m,I (m+1:Nat),q2,q3,I (b:Nat),S (mt (b+1)),I (b+2:Nat),I (b+3:Nat),q8,S (mt (b+4+2*l[i].edge.fields.length))]).length:=by rw[ae,hd1];rfl
  have n10:=len (ds++[I m,I (m+1:Nat),q2,q3,I (b:Nat),S (mt (b+1)),I (b+2:Nat),I (b+3:Nat),q8,S (mt (b+4+2*l[i].edge.fields.length))]) c10 (c11::rs') (by simp only[ae,aA,a6];omega);simp (maxSteps:=1000000) (disch:=omega)only[↓pa,pb,ah,ak,seval,f0,f5,bK,b0,b1,k2,k3,b4,b5,b6,b7,k8,b9,ht10];refine fC (X:=[]) (Y:=[]) o10 (by omega) so10 np10 T10 ⟨rfl,rfl,rfl⟩ (fun so11 np11 T11=>?_);have b10:=fun cs' E'=> @ib l.length j t0 E' (i*12+10) (ds++[I m,I (m+1:Nat),q2,q3,I (b:Nat),S (mt (b+1)),I (b+2:Nat),I (b+3:Nat),q8,S (mt (b+4+2*l[i].edge.fields.length))]) (c11::rs') cs' c10 (S (mt (b+4+2*l[i].edge.fields.length+1))) o10;have e10:(ds++[I m,I (m+1:Nat),q2,q3,I (b:Nat),S (mt (b+1)),I (b+2:Nat),I (b+3:Nat),q8,S (mt (b+4+2*l[i].edge.fields.length))])++S (mt (b+4+2*l[i].edge.fields.length+1))::c11::rs'=(ds++[I m,I (m+1:Nat),q2,q3,I (b:Nat),S (mt (b+1)),I (b+2:Nat),I (b+3:Nat),q8,S (mt (b+4+2*l[i].edge.fields.length)),S (mt (b+4+2*l[i].edge.fields.length+1))])++c11::rs':=by simp
  rw[e10]at b10 so11 np11 T11;have o11:i*12+11=(ds++[I m,I (m+1:Nat),q2,q3,I (b:Nat),S (mt (b+1)),I (b+2:Nat),I (b+3:Nat),q8,S (mt (b+4+2*l[i].edge.fields.length)),S (mt (b+4+2*l[i].edge.fields.length+1))]).length:=by rw[ae,hd1];rfl
  have n11:=len (ds++[I m,I (m+1:Nat),q2,q3,I (b:Nat),S (mt (b+1)),I (b+2:Nat),I (b+3:Nat),q8,S (mt (b+4+2*l[i].edge.fields.length)),S (mt (b+4+2*l[i].edge.fields.length+1))]) c11 (rs') (by simp only[ae,aA,a6];omega);simp (maxSteps:=1000000) (disch:=omega)only[↓pa,pb,ah,ak,seval,f0,f5,bK,b0,b1,k2,k3,b4,b5,b6,b7,k8,b9,b10,ht11];refine fC (X:=[]) (Y:=[]) o11 (by omega) so11 np11 T11 ⟨rfl,rfl,rfl⟩ (fun so12 np12 T12=>?_);have b11:=fun cs' E'=> @ib l.length j t0 E' (i*12+11) (ds++[I m,I (m+1:Nat),q2,q3,I (b:Nat),S (mt (b+1)),I (b+2:Nat),I (b+3:Nat),q8,S (mt (b+4+2*l[i].edge.fields.length)),S (mt (b+4+2*l[i].edge.fields.length+1))]) (rs') cs' c11 (S (mt (b+4+2*l[i].edge.fields.length+2))) o11;simp (maxSteps:=1000000) (disch:=omega)only[↓pa,pb,ak,seval,f0,f5,bK,b0,b1,k2,k3,b4,b5,b6,b7,k8,b9,b10,b11];have hcat:ds++[I m,I (m+1:Nat),q2,q3,I (b:Nat),S (mt (b+1)),I (b+2:Nat),I (b+3:Nat),q8,S (mt (b+4+2*l[i].edge.fields.length)),S (mt (b+4+2*l[i].edge.fields.length+1)),S (mt (b+4+2*l[i].edge.fields.length+2))]++rs'=(ds++[I m,I (m+1:Nat),q2,q3,I (b:Nat),S (mt (b+1)),I (b+2:Nat),I (b+3:Nat),q8,S (mt (b+4+2*l[i].edge.fields.length)),S (mt (b+4+2*l[i].edge.fields.length+1))])++S (mt (b+4+2*l[i].edge.fields.length+2))::rs':=by simp
  refine⟨l.length- (i+1),by omega,i+1,ds++[I m,I (m+1:Nat),q2,q3,I (b:Nat),S (mt (b+1)),I (b+2:Nat),I (b+3:Nat),q8,S (mt (b+4+2*l[i].edge.fields.length)),S (mt (b+4+2*l[i].edge.fields.length+1)),S (mt (b+4+2*l[i].edge.fields.length+2))],rs',rfl,by omega,by rw[hcat],by rw[hkk,hbe],rfl,by simp only[ae,hd1,aA,a6];omega,?_,hr5,by rw[hcat];exact np12,by rw[hcat];exact so12,by rw[hcat];exact T12,hfl⟩;rw[gv,hd2,hkm,bA,be,jG,aD,hcm];congr 1;simp only[aH,z2,z3,z8,i8]
 ·have hie:l.take i=l:=aM (by omega);have hdr:l.drop i=[]:=ei (by omega);rw[hdr]at hr2;have hrn:rs=[]:=cq (by rw[<-ch,hr2];rfl);subst hrn;rw[aD]at np0 so0 T0 f0;rw[hie]at hd2 f1;simp only[↓pa,pb,seval,f0,f1,h,bK];refine⟨_,rfl,rfl,np0,so0,by simpa using T0,rfl,?_⟩;rw[fO,hd2]
def Jf(c:Ch):Prop:=c.node.labels.length<=10/\c.node.fields.length<=20/\c.edge.fields.length<=20
def oY(l:List Ch):Prop:=∀ c∈l,Jf c
def iT:oY []:=fun c h=>by simp at h
def nM{c:Ch}(h:Jf c):oY [c]:=fun d hd=>by rw[dM]at hd;rw[hd];exact h
def nN{a b:List Ch}(ha:oY a)(hb:oY b):oY (a++b):=fun c h=>by
 rcases aG.1 h with h|h
 ·exact ha c h
 ·exact hb c h
def kT{α:Type}{f:α->List Ch}{l:List α}(h:∀ a∈l,oY (f a)):oY (l.flatMap f):=fun c hc=>by
 obtain⟨a,ha,hc⟩:=nP.1 hc;exact h a ha c hc
def GR(w n v:List UInt8):Jf (HJ w n v):=⟨aW _,aW _,aW _⟩
def Do(w:List UInt8)(a b:List Fd):oY (nV w a b):=by
 unfold nV;refine nN (kT fun s _=>?_) (kT fun s _=>?_)
 ·unfold rX;split
  ·exact nM (GR _ _ _)
  ·exact iT
 ·unfold rW;split
  ·exact iT
  ·split
   ·exact nM (GR _ _ _)
   ·exact iT
def IY{a b:cj}(ha:oi a)(hb:oi b):oY (pz a b):=by
 unfold pz;refine nN (nN (nN (nN (nN (kT fun e he=>?_) (kT fun n hn=>?_)) (kT fun n hn=>?_)) (kT fun e he=>?_)) (kT fun n hn=>?_)) (kT fun e he=>?_)
 ·unfold oR;split
  ·exact iT
  ·exact nM ⟨aW _,aW _,aW _⟩
 ·unfold oQ;split
  ·exact nM ⟨aW _,aW _,aW _⟩
  ·exact iT
 ·unfold oW;split
  ·exact nM ⟨(hb.ns n hn).ll,(hb.ns n hn).fl,aW _⟩
  ·exact iT
 ·unfold uk;split
  ·exact iT
  ·exact nM ⟨aW _,aW _,(hb.es e he).fl⟩
 ·unfold rH;split
  ·exact iT
  ·rename_i m hm;refine nN ?_ (Do _ _ _);unfold sR;split
   ·exact iT
   ·exact nM ⟨(hb.ns m (sm hm).1).ll,aW _,aW _⟩
 ·unfold qT;split
  ·exact iT
  ·split
   ·exact Do _ _ _
   ·exact iT
def Mq{a b:cj}(ha:oi a)(hb:oi b):(pz a b).length<=97400:=by
 have h1:=kO (l:=a.edges) (f:=oR b.edges) (m:=1) fun e _=>Cf _ e;have h2:=kO (l:=a.nodes) (f:=oQ b.nodes) (m:=1) fun e _=>Ce _ e;have h3:=kO (l:=b.nodes) (f:=oW a.nodes) (m:=1) fun e _=>Ct _ e;have h4:=kO (l:=b.edges) (f:=uk a.edges) (m:=1) fun e _=>H6 _ e;have h5:=kO (l:=a.nodes) (f:=rH b.nodes) (m:=161) fun n hn=>Hi (ha.ns n hn) hb.ns;have h6:=kO (l:=a.edges) (f:=qT b.edges) (m:=160) fun n hn=>HF (ha.es n hn) hb.es;have:=ha.nl;have:=ha.el;have:=hb.nl;have:=hb.el;unfold pz;simp only[ae];omega
def Bq:∀ {l:List Ch} (k:Nat),oY l->fF (l.map i8) k<=k+l.length*200
 | [],k,_=>by simp[fF]
 |c::l,k,h=>by
  have h1:=h c List.mem_cons_self;have ih:=Bq (l:=l) (mE k (i8 c)) fun x hx=>h x (ce _ hx);obtain⟨e1,e2,e3⟩:=h1;have h2:mE k (i8 c)=k+2+c.node.labels.length+2*c.node.fields.length+4+2*c.edge.fields.length+3:=rfl;rw[bg,fF,aA,gW];omega
def MZ{cs ds:List PV}(h:aX cs=true)(h2:aX ds=true):([.agg cs,.agg ds]:List PV).all bF=true:=by
 simp only[cT,dd,bF,aH,h,h2,ay]
end Go.PM
namespace Go.PM
def jo(J mv:List Nat)(i:Nat):List PV->List PV
 | []=>[]
 |p::ps=>(if mv.contains i then ren (bi J) false p else aO p)::jo J mv (i+1) ps
def Dj(J mv:List Nat):∀ (a9z:List PV) (i n:Nat),a9z.all bF=true->fe J mv i n a9z=jo J mv i a9z
 | [],_,_,_=>rfl
 |p::ps,i,n,h=>by
  rw[cT,aj]at h;have ih:=Dj J mv ps (i+1) n h.2;cases p<;>first|(simp only[fe,jo,ih];done)|exact absurd h.1 (by simp[bF])
section
variable {cf:aJ} {f:Nat} {F:bw} {st:St} {rs:List iG}
def pH(J ns:List Nat)(b:Bool)(st:St):St:={fA J ns st with fl:=if b then st.fl else st.nx}
def J9{J ns:List Nat}{b:Bool}{st:St}:(pH J ns b st).nx=st.nx+ns.length:=St.more_nx st ns
def wL{a9z:List PV}{mv:List Nat}(hmv:mv≠ [])(hr:a9z.all bF=true)(hk:a8 st (gu mv 0 a9z))(hsp:iu ((gu mv 0 a9z).map (·.1)) mv 0 a9z=true){r:PV}{ns:List Nat}
  (hc:cf f (jo ((gu mv 0 a9z).map (·.1)) mv 0 a9z) ((gu mv 0 a9z).map (·.2)) []=some (r,ns,[])):
  az cf f a9z mv st=some (ren (fun k=>some (st.nx+k)) false r,pH ((gu mv 0 a9z).map (·.1)) ns (fU r) st)/\dn a9z mv st=(gu mv 0 a9z).map (·.1):=by
 have hb:∀ J l,tB l ([]:List (List PV))=[]/\me J l ([]:List (List PV))=[]/\nI J l ([]:List (List PV))=true:=by intro J l;cases l<;>exact⟨rfl,rfl,rfl⟩
 have hm:d5 mv a9z []=gu mv 0 a9z:=by rw[d5,(hb [] _).1,aD]
 cases mv with
 |nil=>exact absurd rfl hmv
 |cons m mv=>
 constructor
 ·simp only[az,eY hr,dz,hm,ne hk.1,hk.ok,hsp,(hb _ _).2.1,(hb _ _).2.2,ay,if_true,Dj _ _ _ _ _ hr,hc,a6,fx,dd,bv];rfl
 ·simp only[dn,eY hr,dz,hm]
def MB{a9z:List PV}{s:Nat}{c:List PV}(hs:st.objs s=some c)(hr:a9z.all bF=true)(hk:a8 st (aw c))(hsp:iu ((aw c).map (·.1)) [0] 1 a9z=true){r:PV}{ns:List Nat}{c':List PV}
  (hc:cf f (.ptr 0 0::a9z.map aO) ((aw c).map (·.2)) [bm (bi ((aw c).map (·.1))) false c]=some (r,ns,[c'])):
  az cf f (.ptr s 0::a9z) [0] st=some (ren (fun k=>some (st.nx+k)) false r,cA (pH ((aw c).map (·.1)) ns (fU r && fT c') st) s (bm (fun k=>some (st.nx+k)) false c'))/\dn (.ptr s 0::a9z) [0] st=(aw c).map (·.1):=by
 have hm:d5 [0] (.ptr s 0::a9z) [c]=aw c:=by
  rw[d5,gu,rk _ _ (by omega)];simp[aB,kc,tB,Ao _ _ _ hr]
 have hh:fe ((aw c).map (·.1)) [0] 0 0 (.ptr s 0::a9z)= .ptr 0 0::a9z.map aO:=by
  rw[fe,sp _ _ _ _ (by omega) hr]
 have hb:kc [0] 0 (.ptr s 0::a9z)=[true]:=by rw[kc,Ao _ _ _ hr];rfl
 have hs2:iu ((aw c).map (·.1)) [0] 0 (.ptr s 0::a9z)=true:=by rw[iu,hsp];rfl
 constructor
 ·simp only[az,wt hr,dz,hs,hm,ne hk.1,hk.ok,hs2,hb,nI,me,jZ,ay,if_true,hh,hc,aA,a6,fx,bg,cJ,cT,dd,bv];rfl
 ·simp only[dn,wt hr,dz,hs,hm]
def LU(Q:PV->St->Prop)(o:Option (List PV))(st:St):Prop:=match o with
 |some ps=>ft ps=true/\Q (fW ps) st
 |none=>False
def nO(rs:List iG)(Q:PV->St->Prop)(e:Ex)(y:Fr×St):Prop:=kD e/\LU Q (fG y.1 y.2 rs) y.2
def gh:
  (∀ {fr:Fr} {st:St} {Q:PV->St->Prop} {rs:List iG},nO rs Q .ret (fr,st)↔LU Q (fG fr st rs) st)/\(∀ {fr:Fr} {st:St} {r:iG} {rs:List iG},fG fr st (r::rs)=wG (od fr st r) (fG fr st rs))/\(∀ {fr:Fr} {st:St},fG fr st []=some [])/\
  (∀ {fr:Fr} {st:St} {t:Nat},od fr st (.tmp t)=some (fr t))/\(∀ {fr:Fr} {st:St} {a sz:Nat} {ag:Bool},od fr st (.cell a sz ag)=wJ (fr a) sz ag st)/\(∀ {s off sz:Nat} {ag:Bool} {st:St},wJ (.ptr s off) sz ag st=xO (st.objs s) off sz ag)/\
  (∀ {p:PV} {ps:List PV},wG (some p) (some ps)=some (p::ps))/\(∀ {Q:PV->St->Prop} {ps:List PV} {st:St},LU Q (some ps) st↔ft ps=true/\Q (fW ps) st)/\(∀ {p:PV},fW [p]=p)/\(∀ {p q:PV} {ps:List PV},fW (p::q::ps)= .tup (p::q::ps))/\
  (∀ {J ns:List Nat} {b:Bool} {st:St} {s:Nat},(pH J ns b st).objs s=(st.objs s).map fun c=>c.map (bY J)):=
 ⟨by intros;exact⟨fun h=>h.2,fun h=>⟨oL.2 trivial,h⟩⟩,s8,rfl,rfl,rfl,rfl,rfl,Iff.rfl,rfl,rfl,rfl⟩
def Lv{r0:PV}{s1:St}{cs:List (List PV)}:(a8 s1 (aB r0++jP cs)/\lD true s1 r0 cs=(ren (bi ((aB r0++jP cs).map (·.1))) false r0,(aB r0++jP cs).map (·.2),cs.map (bm (bi ((aB r0++jP cs).map (·.1))) false)))\/(¬a8 s1 (aB r0++jP cs)/\(lD true s1 r0 cs=(aO r0,[],cs.map aQ)\/∃ f:Nat->Option Nat,lD true s1 r0 cs=(ren f false r0,(aB r0++jP cs).map (·.2),cs.map (bm f false)))):=by
 by_cases h:a8 s1 (aB r0++jP cs)
 ·refine .inl ⟨h,?_⟩;simp only[lD,ne h.1,h.ok,ay,if_true]
 ·refine .inr ⟨h,?_⟩;unfold lD;split
  ·exact .inr ⟨_,rfl⟩
  ·exact .inl rfl
structure yp (s1:St) (r0 r:PV) (ns:List Nat):Prop where
 st:aO r=aO r0
 np:np r=np r0
 ok:a8 s1 (aB r0)->∃ g:Nat->Option Nat,r=ren g false r0/\(∀ q∈aB r0,(g q.1).isSome=true)/\ns=(aB r0).map (·.2)/\aB r=cB 0 ns
def Im{a9z:List PV}(hown:F.own=true)(hres:F.res=rs)(N:Nat){ns0:List Nat}{P:PV->St->Prop}(hnt:a9z.length<=F.nt)(h:Wp cf N F.body (eM a9z,bV ns0 []) (nO rs P)):
  ∃ r0 s1 r ns,P r0 s1/\gr cf N F a9z ns0 []=some (r,ns,[])/\PM.np r0=true/\yp s1 r0 r ns:=by
 obtain⟨e,⟨fr,s1⟩,hev,he,ho⟩:=h;subst hres;revert ho;generalize hps:fG fr s1 F.res=o1;intro ho
 match o1,ho with
 |some ps,ho=>
  obtain⟨hg,hP⟩:=ho;have h0:dz s1 (List.range 0)=some []:=rfl;obtain⟨hrow,-⟩:=sq hg;have hm:=oc F.nk s1 ps hrow;have hn:=tY hg;have hf:im F 0 fr s1=some (lD true s1 (fW ps) []):=by
   simp only[im,hps,h0,hm,hn,dd,ay,if_true,hown]
  have hrun:gr cf N F a9z ns0 []=some (lD true s1 (fW ps) []):=by
   unfold gr;rw[am ⟨hnt,aW _⟩,hev];cases e with
   |go=>exact hf
   |ret=>exact hf
   |exit i=>exact he.elim
  have hta:jP []=[]:=rfl;have h2:=Lv (r0:=fW ps) (s1:=s1) (cs:=[]);simp only[hta,aD,cJ]at h2;rcases h2 with⟨hk,h2⟩|⟨hk,h2|⟨g,h2⟩⟩
  ·rw[h2]at hrun;refine⟨fW ps,s1,_,_,hP,hrun,hn,by rw[ij],by simp only[PM.np,gT],fun _=>⟨_,rfl,fun q hq=>md (cX.2 ⟨q,hq,rfl⟩),rfl,?_⟩⟩;have h1:aB (ren (bi ((aB (fW ps)).map (·.1))) false (fW ps))=(aB (fW ps)).map fun q=>((bi ((aB (fW ps)).map (·.1)) q.1).getD 0,q.2):=
    mm _ (fun k=>(bi ((aB (fW ps)).map (·.1)) k).getD 0) (fW ps) fun q hq=>by
     obtain⟨i,hi⟩:=cu.1 (md (cX.2 ⟨q,hq,rfl⟩));rw[hi];rfl
   rw[h1];have:=nD 0 hk.1;simpa using this
  ·rw[h2]at hrun;exact⟨fW ps,s1,_,_,hP,hrun,hn,uB _ _ _,by rw[LX],fun h=>absurd h hk⟩
  ·rw[h2]at hrun;exact⟨fW ps,s1,_,_,hP,hrun,hn,by rw[ij],by simp only[PM.np,gT],fun h=>absurd h hk⟩
end
def lL(x:Fd):List Fd->List Fd
 | []=>[x]
 |y::l=>if d4 y.1 x.1=true then y::lL x l else x::y::l
def jB(l:List Fd):List Fd:=l.foldl (fun o x=>lL x o) []
def qZ(l:List Fd)(x:Fd):jB (l++[x])=lL x (jB l):=by simp[jB]
def E5(x:Fd):∀ l:List Fd,(lL x l).length=l.length+1
 | []=>rfl
 |y::l=>by
  rw[lL];split
  ·rw[aA,E5 x l,aA]
  ·rfl
def JA:∀ (l:List Fd),(jB l).length=l.length:=by
 have h:∀ (l o:List Fd),(l.foldl (fun o x=>lL x o) o).length=l.length+o.length:=by
  intro l
  induction l with
  |nil=>intro o;simp
  |cons x l ih=>intro o;rw[mj,ih,E5,aA];omega
 intro l;have:=h l [];rw[jB,this];simp
def zX{x y:Fd}:∀ {l:List Fd},y∈lL x l↔y=x\/y∈l
 | []=>by simp[lL]
 |z::l=>by
  rw[lL];split
  ·rw[aZ,zX (l:=l),aZ];constructor
   ·rintro(h|h|h)<;>simp[h]
   ·rintro(h|h|h)<;>simp[h]
  ·rw[aZ]
def xM{y:Fd}:∀ {l:List Fd},y∈jB l↔y∈l:=by
 have h:∀ (l o:List Fd),y∈l.foldl (fun o x=>lL x o) o↔y∈l\/y∈o:=by
  intro l
  induction l with
  |nil=>intro o;simp
  |cons x l ih=>
   intro o;rw[mj,ih,zX,aZ];constructor
   ·rintro(h|h|h)<;>simp[h]
   ·rintro((h|h)|h)<;>simp[h]
 intro l;rw[jB,h l []];simp
def pK(l:List Fd):Prop:=l.Pairwise fun a b=>d4 a.1 b.1=true
def z7{x:Fd}:∀ {l:List Fd},pK l->(∀ y∈l,y.1≠x.1)->pK (lL x l)
 | [],_,_=>gH _ _
 |y::l,h,hn=>by
  have h2:=bI.1 h;rw[lL];split
  ·rename_i hy;refine bI.2 ⟨fun z hz=>?_,z7 h2.2 fun z hz=>hn z (ce _ hz)⟩;rcases zX.1 hz with rfl|hz
   ·exact hy
   ·exact h2.1 z hz
  ·rename_i hy;have hxy:d4 x.1 y.1=true:=by
    cases hc:d4 x.1 y.1 with
    |true=>rfl
    |false=>exact absurd (oE (by simpa using hy) hc) (hn y List.mem_cons_self)
   refine bI.2 ⟨fun z hz=>?_,h⟩;rcases aZ.1 hz with rfl|hz
   ·exact hxy
   ·exact oD hxy (h2.1 z hz)
def Jz:∀ {l:List Fd},(l.map (·.1)).Nodup->pK (jB l):=by
 intro l
 induction h:l.length generalizing l with
 |zero=>intro _;rw[gI.1 h];exact List.Pairwise.nil
 |succ n ih=>
  intro hn;obtain⟨l0,x,rfl⟩:∃ l0 x,l=l0++[x]:=⟨l.dropLast,l.getLast (by intro e;rw[e]at h;simp at h),(List.dropLast_concat_getLast _).symm⟩;rw[ae]at h;rw[cn,List.nodup_append]at hn;rw[qZ];refine z7 (ih (by simpa using h) hn.1) fun y hy e=>?_;exact hn.2.2 _ (cX.2 ⟨y,xM.1 hy,rfl⟩) _ (by simp) e
def xW{x:Fd}:∀ {l:List Fd} {k:Nat},k<=l.length->(∀ j (h:j<l.length),j<k->d4 l[j].1 x.1=true)->(∀ h:k<l.length,d4 l[k].1 x.1=false)->lL x l=l.take k++x::l.drop k
 | [],k,hk,_,_=>by
  have:k=0:=by simpa using hk
  subst this;rfl
 |y::l,0,_,_,h2=>by
  have hy:d4 y.1 x.1=false:=h2 (by simp);rw[lL,ai (by rw[hy];simp)];rfl
 |y::l,k+1,hk,h1,h2=>by
  have hy:d4 y.1 x.1=true:=h1 0 (by simp) (by omega);rw[lL,am hy,xW (k:=k) (by simpa using hk) (fun j h hj=>by have:=h1 (j+1) (by simpa using h) (by omega);simpa using this) (fun h=>by have:=h2 (by simpa using h);simpa using this)];rfl
def Bj{x:Fd}{l:List Fd}{k:Nat}(ho:pK l)(hn:∀ y∈l,y.1≠x.1)(hk:k<=l.length)(h1:∀ j (h:j<l.length),k<=j->d4 x.1 l[j].1=true)(h2:k=0\/∃ h:k-1<l.length,d4 x.1 l[k-1].1=false):lL x l=l.take k++x::l.drop k:=by
 refine xW hk (fun j h hj=>?_) fun h=>qH (h1 k h (aP _));obtain⟨h3,h4⟩:=h2.resolve_left (by omega);have h5:d4 l[k-1].1 x.1=true:=by
  cases hc:d4 l[k-1].1 x.1 with
  |true=>rfl
  |false=>exact absurd (oE hc h4) (hn _ (cp h3))
 by_cases e:j=k-1
 ·subst e;exact h5
 ·exact oD (kF.1 ho j (k-1) h h3 (by omega)) h5
def AD:∀ {l:List Fd},pK l->jB l=l:=by
 intro l
 induction h:l.length generalizing l with
 |zero=>intro _;rw[gI.1 h];rfl
 |succ n ih=>
  intro ho;obtain⟨l0,x,rfl⟩:∃ l0 x,l=l0++[x]:=⟨l.dropLast,l.getLast (by intro e;rw[e]at h;simp at h),(List.dropLast_concat_getLast _).symm⟩;rw[ae]at h;have h2:=List.pairwise_append.1 ho;rw[qZ,ih (by simpa using h) h2.1,xW (k:=l0.length) (aP _) (fun j hj _=>h2.2.2 _ (cp hj) x (by simp)) (fun h=>absurd h (by omega))];simp
def iX(l:List Fd)(n v:List UInt8):List Fd:=if v=fX then l.filter (fun f=>decide (f.1≠n))else jB (l.filter (fun f=>decide (f.1≠n))++[(n,v)])
def re(n v:List UInt8):Bool->List Fd->List Fd
 |b,[]=>if b then []else [(n,v)]
 |b,f::l=>(if b=false/\d4 f.1 n=false then [(n,v)]else [])++(if f.1≠n then [f]else [])++re n v (b||!d4 f.1 n) l
def fp(l:List Fd)(n v:List UInt8):List Fd:=re n v (decide (v=fX)) l
def wb(n v:List UInt8):∀ l:List Fd,re n v true l=l.filter fun f=>decide (f.1≠n)
 | []=>rfl
 |f::l=>by
  rw[re,jZ,wb n v l,List.filter_cons];by_cases h:f.1=n<;>simp[h]
def CR{n v:List UInt8}:∀ {l:List Fd},pK l->re n v false l=lL (n,v) (l.filter fun f=>decide (f.1≠n))
 | [],_=>rfl
 |f::l,h=>by
  have h2:=bI.1 h;rw[re,kr];cases hf:d4 f.1 n with
  |true=>
   have hne:f.1≠n:=fun e=>by rw[e,lY]at hf;cases hf
   rw[List.filter_cons_of_pos (by simpa using hne),lL,am hf,Bool.not_true,CR h2.2];simp[hne]
  |false=>
   rw[Bool.not_false,wb];by_cases hne:f.1=n
   ·rw[List.filter_cons_of_neg (by simp[hne])];have hall:∀ y∈l.filter (fun f=>decide (f.1≠n)),d4 y.1 n=false:=fun y hy=>by
     have:=h2.1 y (iM.1 hy).1;rw[hne]at this;exact qH this
    generalize l.filter (fun f=>decide (f.1≠n))=m at*;cases m with
    |nil=>simp[lL,hne]
    |cons y m=>simp[lL,hall y List.mem_cons_self,hne]
   ·rw[List.filter_cons_of_pos (by simpa using hne)];simp[lL,hf,hne]
def EB{l:List Fd}(ho:pK l)(n v:List UInt8):fp l n v=iX l n v:=by
 have hk:pK (l.filter fun f=>decide (f.1≠n)):=List.Pairwise.filter _ ho;unfold fp iX;by_cases hv:v=fX
 ·rw[am hv,decide_eq_true hv,wb]
 ·rw[ai hv,decide_eq_false hv,CR ho,qZ,AD hk]
def zJ{l:List Fd}(ho:pK l)(n v:List UInt8):pK (iX l n v):=by
 have hk:pK (l.filter fun f=>decide (f.1≠n)):=List.Pairwise.filter _ ho;unfold iX;by_cases hv:v=fX
 ·rw[am hv];exact hk
 ·rw[ai hv,qZ,AD hk];exact z7 hk fun y hy=>by simpa using(iM.1 hy).2
def vJ{l:List Fd}(h:j8 (l.map (·.1))):pK l:=pM.1 h
def Bp{l:List Fd}(h:pK l):(l.map (·.1)).Nodup:=pM.2 (h.imp fun{a b} hab e=>by rw[e,lY]at hab;cases hab)
def kw(c:Ch):Bool:=
 if c.kind=1 then pQ c.node else if c.kind=2 then lk c.node.id else if c.kind=3 then oN c.edge else if c.kind=4 then lk c.edge.id
 else if c.kind=5 then lk c.node.id && jn 10 c.node.labels
 else if c.kind=6 then(match fV c.value with
  |some v=>decide (v.kind=8)||decide (v.kind=9)
  |none=>false) && (dW c.name && (decide (c.text=fX)||kX c.text))
 else false
structure BC where
 insN:Nd->List Nd->List Nd
 insE:Eg->List Eg->List Eg
 put:List Fd->List UInt8->List UInt8->List Fd
def uw(w:BC)(g:cj)(c:Ch)(id:Int):cj×Int:=
 if h:cU g.nodes id<0 then(g,5)else
  if 20<(w.put (uK g.nodes (cU g.nodes id).toNat).fields c.name c.text).length then(g,4)
  else(⟨g.nodes.set (cU g.nodes id).toNat {uK g.nodes (cU g.nodes id).toNat with fields:=w.put (uK g.nodes (cU g.nodes id).toNat).fields c.name c.text},g.edges⟩,0)
def ux(w:BC)(g:cj)(c:Ch)(id:Int):cj×Int:=
 if h:eJ g.edges id<0 then(g,5)else
  if 20<(w.put (uf g.edges (eJ g.edges id).toNat).fields c.name c.text).length then(g,4)
  else(⟨g.nodes,g.edges.set (eJ g.edges id).toNat {uf g.edges (eJ g.edges id).toNat with fields:=w.put (uf g.edges (eJ g.edges id).toNat).fields c.name c.text}⟩,0)
def jK(w:BC)(g:cj)(c:Ch):cj×Int:=match fV c.value with
 |some v=>if v.kind=9 then ux w g c v.num else uw w g c v.num
 |none=>(g,0)
def lJ(w:BC)(g:cj)(c:Ch):cj×Int:=
 if kw c=false then(g,1)
 else if c.kind=1 then(if 0<=cU g.nodes c.node.id then(g,9)else if g.nodes.length=200 then(g,4)else(⟨w.insN c.node g.nodes,g.edges⟩,0))
 else if c.kind=2 then(if cU g.nodes c.node.id<0 then(g,5)else if g.edges.any (fun e=>decide (e.src=c.node.id)||decide (e.dst=c.node.id))=true then(g,6)else(⟨g.nodes.eraseIdx (cU g.nodes c.node.id).toNat,g.edges⟩,0))
 else if c.kind=3 then(if 0<=eJ g.edges c.edge.id then(g,9)else if cU g.nodes c.edge.src<0\/cU g.nodes c.edge.dst<0 then(g,5)else if g.edges.length=400 then(g,4)else(⟨g.nodes,w.insE c.edge g.edges⟩,0))
 else if c.kind=4 then(if eJ g.edges c.edge.id<0 then(g,5)else(⟨g.nodes,g.edges.eraseIdx (eJ g.edges c.edge.id).toNat⟩,0))
 else if c.kind=5 then(if cU g.nodes c.node.id<0 then(g,5)else(⟨g.nodes.set (cU g.nodes c.node.id).toNat {uK g.nodes (cU g.nodes c.node.id).toNat with labels:=c.node.labels},g.edges⟩,0))
 else jK w g c
def hZ(w:BC):Nat->cj->List Ch->cj×Nat×Int
 |_,g,[]=>(g,0,0)
 |i,g,c::l=>if(lJ w g c).2≠0 then((lJ w g c).1,i,(lJ w g c).2)else hZ w (i+1) (lJ w g c).1 l
def i6(x:Nd):List Nd->List Nd
 | []=>[x]
 |y::l=>if x.id<y.id then x::y::l else y::i6 x l
def gJ(x:Eg):List Eg->List Eg
 | []=>[x]
 |y::l=>if x.id<y.id then x::y::l else y::gJ x l
def nC(x:Eg):List Eg->List Eg
 | []=>[x]
 |y::l=>if y.id<x.id then y::nC x l else x::y::l
def wS:BC:=⟨i6,gJ,iX⟩
def wP:BC:=⟨mq,nC,fp⟩
def AS{l:List Nd}{id:Int}(h:¬0<=cU l id):∀ y∈l,y.id≠id:=by
 have hg:∀ (l:List Nd) (i:Nat),¬0<=nB id l i->∀ y∈l,y.id≠id:=by
  intro l
  induction l with
  |nil=>intro i _ y hy;cases hy
  |cons x l ih=>
   intro i hi y hy;rw[nB]at hi;by_cases he:x.id=id
   ·rw[am he]at hi;omega
   ·rw[ai he]at hi;rcases aZ.1 hy with rfl|hy
    ·exact he
    ·exact ih _ hi y hy
 exact hg l 0 h
def Bs{l:List Eg}{id:Int}(h:¬0<=eJ l id):∀ y∈l,y.id≠id:=by
 have hg:∀ (l:List Eg) (i:Nat),¬0<=pL id l i->∀ y∈l,y.id≠id:=by
  intro l
  induction l with
  |nil=>intro i _ y hy;cases hy
  |cons x l ih=>
   intro i hi y hy;rw[pL]at hi;by_cases he:x.id=id
   ·rw[am he]at hi;omega
   ·rw[ai he]at hi;rcases aZ.1 hy with rfl|hy
    ·exact he
    ·exact ih _ hi y hy
 exact hg l 0 h
def jS{l:List Nd}{id:Int}:cU l id<l.length:=by
 have hg:∀ (l:List Nd) (i:Nat),nB id l i<(i+l.length:Nat):=by
  intro l
  induction l with
  |nil=>intro i;rw[nB];omega
  |cons x l ih=>
   intro i;rw[nB];split
   ·simp only[aA];omega
   ·have:=ih (i+1);simp only[aA];omega
 simpa [cU]using hg l 0
def oO{l:List Eg}{id:Int}:eJ l id<l.length:=by
 have hg:∀ (l:List Eg) (i:Nat),pL id l i<(i+l.length:Nat):=by
  intro l
  induction l with
  |nil=>intro i;rw[pL];omega
  |cons x l ih=>
   intro i;rw[pL];split
   ·simp only[aA];omega
   ·have:=ih (i+1);simp only[aA];omega
 simpa [eJ]using hg l 0
def Df{x:Nd}:∀ {l:List Nd},(∀ y∈l,y.id≠x.id)->mq x l=i6 x l
 | [],_=>rfl
 |y::l,h=>by
  have h1:=h y List.mem_cons_self;rw[mq,i6];by_cases hy:y.id<x.id
  ·rw[am hy,ai (by omega),Df fun z hz=>h z (ce _ hz)]
  ·rw[ai hy,am (by omega)]
def Dg{x:Eg}:∀ {l:List Eg},(∀ y∈l,y.id≠x.id)->nC x l=gJ x l
 | [],_=>rfl
 |y::l,h=>by
  have h1:=h y List.mem_cons_self;rw[nC,gJ];by_cases hy:y.id<x.id
  ·rw[am hy,ai (by omega),Dg fun z hz=>h z (ce _ hz)]
  ·rw[ai hy,am (by omega)]
def wj{x y:Nd}:∀ {l:List Nd},y∈i6 x l->y=x\/y∈l
 | [],h=>by simpa [i6]using h
 |z::l,h=>by
  rw[i6]at h;split at h
  ·simpa using h
  ·rcases aZ.1 h with rfl|h
   ·simp
   ·rcases wj h with h|h<;>simp[h]
def uM{x y:Eg}:∀ {l:List Eg},y∈gJ x l->y=x\/y∈l
 | [],h=>by simpa [gJ]using h
 |z::l,h=>by
  rw[gJ]at h;split at h
  ·simpa using h
  ·rcases aZ.1 h with rfl|h
   ·simp
   ·rcases uM h with h|h<;>simp[h]
def z6(x:Nd):∀ l:List Nd,(i6 x l).length=l.length+1
 | []=>rfl
 |y::l=>by rw[i6];split<;>simp[z6 x l]
def xX(x:Eg):∀ l:List Eg,(gJ x l).length=l.length+1
 | []=>rfl
 |y::l=>by rw[gJ];split<;>simp[xX x l]
structure mW (g:cj):Prop where
 nl:g.nodes.length<=200
 el:g.edges.length<=400
 ns:∀ n∈g.nodes,n.labels.length<=10/\n.fields.length<=20/\pK n.fields
 es:∀ e∈g.edges,e.fields.length<=20/\pK e.fields
def B1{g:cj}(h:eD g=true):mW g:=by
 have:=Nh h;exact⟨this.nl,this.el,fun n hn=>⟨(this.ns n hn).ll,(this.ns n hn).fl,vJ (this.ns n hn).fd.ord⟩,fun e he=>⟨(this.es e he).fl,vJ (this.es e he).fd.ord⟩⟩
def vD{l:List Nd}{i:Nat}(h:i<l.length):uK l i∈l:=by rw[l9 h];exact cp h
def Cb{l:List Eg}{i:Nat}(h:i<l.length):uf l i∈l:=by rw[oP h];exact cp h
def dR{p:Prop}[Decidable p]{a b:cj×Int}{P:cj->Prop}(h1:p->P a.1)(h2:¬p->P b.1):P (if p then a else b).1:=by
 split
 ·exact h1 ‹_›
 ·exact h2 ‹_›
def tW{g:cj}(c:Ch)(h:mW g):mW (lJ wS g c).1:=by
 unfold lJ;refine dR (fun _=>h) fun hf=>?_;have hf:kw c=true:=by simpa using hf
 unfold kw at hf;refine dR (fun hk=>?_) fun hk1=>?_
 ·rw[am hk]at hf;refine dR (fun _=>h) fun _=>dR (fun _=>h) fun h2=>?_;rw[pQ,aj,aj]at hf;refine⟨?_,h.el,fun n hn=>?_,h.es⟩
  ·show(i6 _ _).length<=200;rw[z6];have:=h.nl;omega
  ·rcases wj hn with rfl|hn
   ·exact⟨rm hf.2.1,pu hf.2.2,vJ (qR hf.2.2).ord⟩
   ·exact h.ns n hn
 rw[ai hk1]at hf;refine dR (fun hk=>?_) fun hk2=>?_
 ·refine dR (fun _=>h) fun _=>dR (fun _=>h) fun h2=>?_;exact⟨dJ (lN _ _) h.nl,h.el,fun n hn=>h.ns n (lz hn),h.es⟩
 rw[ai hk2]at hf;refine dR (fun hk=>?_) fun hk3=>?_
 ·rw[am hk]at hf;refine dR (fun _=>h) fun _=>dR (fun _=>h) fun _=>dR (fun _=>h) fun h2=>?_;rw[oN,aj,aj,aj,aj]at hf;refine⟨h.nl,?_,h.ns,fun e he=>?_⟩
  ·show(gJ _ _).length<=400;rw[xX];have:=h.el;omega
  ·rcases uM he with rfl|he
   ·exact⟨pu hf.2.2.2.2,vJ (qR hf.2.2.2.2).ord⟩
   ·exact h.es e he
 rw[ai hk3]at hf;refine dR (fun hk=>?_) fun hk4=>?_
 ·refine dR (fun _=>h) fun _=>?_;exact⟨h.nl,dJ (lN _ _) h.el,h.ns,fun e he=>h.es e (lz he)⟩
 rw[ai hk4]at hf;refine dR (fun hk=>?_) fun hk5=>?_
 ·rw[am hk,aj]at hf;refine dR (fun _=>h) fun h0=>?_;have hlt:= @jS g.nodes c.node.id;refine⟨by simpa using h.nl,h.el,fun n hn=>?_,h.es⟩;rcases dK hn with hn|rfl
  ·exact h.ns n hn
  ·have:=h.ns _ (vD (l:=g.nodes) (i:=(cU g.nodes c.node.id).toNat) (by omega));exact⟨rm hf.2,this.2⟩
 unfold jK;split
 ·rename_i v _;refine dR (fun _=>?_) fun _=>?_
  ·unfold ux;split
   ·exact h
   ·have hlt:= @oO g.edges v.num;refine dR (fun _=>h) fun hl=>?_;refine⟨h.nl,by simpa using h.el,h.ns,fun e he=>?_⟩;rcases dK he with he|rfl
    ·exact h.es e he
    ·exact⟨by simpa using hl,zJ (h.es _ (Cb (by omega))).2 _ _⟩
  ·unfold uw;split
   ·exact h
   ·have hlt:= @jS g.nodes v.num;refine dR (fun _=>h) fun hl=>?_;refine⟨by simpa using h.nl,h.el,fun n hn=>?_,h.es⟩;rcases dK hn with hn|rfl
    ·exact h.ns n hn
    ·have:=h.ns _ (vD (l:=g.nodes) (i:=(cU g.nodes v.num).toNat) (by omega));exact⟨this.1,by simpa using hl,zJ this.2.2 _ _⟩
 ·exact h
def Fs{g:cj}(c:Ch)(h:mW g):lJ wP g c=lJ wS g c:=by
 have h1:¬0<=cU g.nodes c.node.id->wP.insN c.node g.nodes=wS.insN c.node g.nodes:=fun hn=>Df (AS hn);have h2:¬0<=eJ g.edges c.edge.id->wP.insE c.edge g.edges=wS.insE c.edge g.edges:=fun hn=>Dg (Bs hn);have h3:∀ v,fV c.value=some v->uw wP g c v.num=uw wS g c v.num:=fun v _=>by
  unfold uw;by_cases h0:cU g.nodes v.num<0
  ·rw[dif_pos h0,dif_pos h0]
  ·have hlt:= @jS g.nodes v.num;have:=EB (h.ns _ (vD (l:=g.nodes) (i:=(cU g.nodes v.num).toNat) (by omega))).2.2 c.name c.text;rw[dif_neg h0,dif_neg h0,show wP.put=fp from rfl,show wS.put=iX from rfl,this]
 have h4:∀ v,fV c.value=some v->ux wP g c v.num=ux wS g c v.num:=fun v _=>by
  unfold ux;by_cases h0:eJ g.edges v.num<0
  ·rw[dif_pos h0,dif_pos h0]
  ·have hlt:= @oO g.edges v.num;have:=EB (h.es _ (Cb (l:=g.edges) (i:=(eJ g.edges v.num).toNat) (by omega))).2 c.name c.text;rw[dif_neg h0,dif_neg h0,show wP.put=fp from rfl,show wS.put=iX from rfl,this]
 have h5:jK wP g c=jK wS g c:=by
  unfold jK;cases hv:fV c.value with
  |none=>rfl
  |some v=>simp only[h3 v hv,h4 v hv]
 unfold lJ;rw[h5];by_cases a:0<=cU g.nodes c.node.id<;>by_cases b:0<=eJ g.edges c.edge.id<;>simp only[a,b,if_true,if_false,h1,h2,not_false_eq_true]
def Du:∀ (l:List Ch) (i:Nat) {g:cj},mW g->hZ wP i g l=hZ wS i g l
 | [],_,_,_=>rfl
 |c::l,i,g,h=>by
  rw[hZ,hZ,Fs c h];split
  ·rfl
  ·exact Du l (i+1) (tW c h)
def J4:∀ (l:List Ch) (i:Nat) {g:cj},mW g->mW (hZ wS i g l).1
 | [],_,_,h=>h
 |c::l,i,g,h=>by
  rw[hZ];split
  ·exact tW c h
  ·exact J4 l (i+1) (tW c h)
end Go.PM
namespace Go.PM
open Go.Lib
variable {cf:aJ} {st:St} {mk:PV->St->Fr×St} {A:Fr×St->Prop} {s:Nat}
def Of(K:bO cf)(l:List Fd)(hn:(l.map (·.1)).Nodup)(hl:l.length<=2000000):∃ r,r=FX (jB l)/\∃ fl,az cf 132 [FX l] [] st=some (r,db st fl):=by
 refine lu K.tab (F:=F132) (Q:=fun r=>r=FX (jB l)) rfl rfl rfl (lb rfl) (by simp[eL]) (l.length+2) ?_;have hm:=eH l;simp only[F132,↓qU,reduceAdd,reduceSub];simp only[↓pa,↓au,pb,ah,↓reduceIte,reduceAdd,reduceLT,cG,da];refine a7 (fun q fr st=>∃ (i:Nat) (tok:aF),q=l.length-i/\i<=l.length/\fr 3= .list (jB (l.take i)).length ((jB (l.take i)).flatMap fc) tok/\fr 0=FX l/\fr 4=I i/\((tok= .full 133/\jB (l.take i)=[])\/∃ j,tok= .own j 133/\j<st.nx/\st.cnt j=(jB (l.take i)).length)/\st.fl=0) l.length (by omega)
  ⟨0,.full 133,by simp,by omega,by simp only[↓pa,↓reduceIte,reduceEqDiff];rfl,by simp only[↓pa,↓reduceIte,reduceCtorEq],by simp only[↓pa,↓reduceIte];rfl,.inl ⟨rfl,rfl⟩,rfl⟩ ?_
 rintro q fr st ⟨i,tok,rfl,hi,f3,f0,f4,hG,hfl⟩;have holen:=JA (l.take i);rw[aL]at holen;simp only[↓pa,pb,ak,↓reduceIte,reduceEqDiff,reduceCtorEq,f0,f4];refine af (fun h1=>?_) (fun h1=>?_);rotate_left
 ·have hie:l.take i=l:=aM (by omega);rw[hie]at f3;simp only[↓pa,pb,aH,↓reduceIte,reduceEqDiff,f3,h1,EF]
  try rw[FX]
 have hlt:i<l.length:=by omega
 have ho:pK (jB (l.take i)):=Jz (by rw[List.map_take];exact hn.sublist (List.take_sublist _ _));have hnext:jB (l.take (i+1))=lL l[i] (jB (l.take i)):=by rw[aV hlt,qZ]
 have hxo:∀ y∈jB (l.take i),y.1≠l[i].1:=by
  intro y hy;rw[xM]at hy;obtain⟨j,hj,he⟩:=d7 hy;rw[aL]at hj;rw[List.getElem_take]at he;have hp:=kF.1 (pM.1 hn) j i (by omega) hlt (by omega);rw[<-he];exact hp
 generalize hod:jB (l.take i)=o at*;simp only[↓pa,pb,↓reduceIte,reduceEqDiff,f3,h1];have hmo:=eH o;have hpos:∀ (k:Nat),k<=o.length->(((k:Int) -1).toNat)=k-1:=fun k _=>by omega
 refine a7 (fun k fr st=>k<=o.length/\fr 0=FX l/\fr 3= .list o.length (o.flatMap fc) tok/\fr 4=I i/\fr 5=I k/\(∀ j (h:j<o.length),k<=j->d4 l[i].1 o[j].1=true)/\((tok= .full 133/\o=[])\/∃ j,tok= .own j 133/\j<st.nx/\st.cnt j=o.length)/\st.fl=0) o.length (by omega)
  ⟨aP _,by simp only[↓pa,↓reduceIte,reduceCtorEq,f0],by simp only[↓pa,↓reduceIte,reduceEqDiff,f3],by simp only[↓pa,↓reduceIte,reduceEqDiff,f4],by simp only[↓pa,↓reduceIte],fun j h hj=>by omega,hG,hfl⟩ ?_
 clear f0 f3 f4 hG hfl;rintro k fr st ⟨hk,f0,f3,f4,f5,hgt,hG,hfl⟩;simp only[↓pa,pb,↓reduceIte,f5];refine af (fun h2=>?_) (fun h2=>?_);rotate_left
 ·have hend:k=0\/∃ h:k-1<o.length,d4 l[i].1 o[k-1].1=false:= .inl (by omega);simp only[↓pa,↓au,pb,ah,↓reduceIte,reduceEqDiff,reduceAdd,reduceLT,f3,f5,h2];have hp:=fun st=> @qg st 2 o.length k (o.flatMap fc) tok (eH o) hk;have hq:=fun st=> @qf st 2 o.length k (o.flatMap fc) tok (eH o) hk;have hins:=Bj ho hxo hk hgt hend;have hins2:k+1+(0+(o.length-k))=(o.take k++l[i]::o.drop k).length:=by simp;omega
  have hcell:(o.take k).flatMap fc++[PV.str ⟨l[i].1.toArray⟩,.str ⟨l[i].2.toArray⟩]++(o.drop k).flatMap fc=(o.take k++l[i]::o.drop k).flatMap fc:=by
   rw[bA,be,<-bn];rfl
  have htl:((o.take k).flatMap fc).length=k*2:=by rw[eH,aL];congr 1;omega
  have hdl:((o.drop k).flatMap fc).length=(0+(o.length-k)) *2:=by rw[eH,bl];congr 1;omega
  simp only[↓pa,↓reduceIte,reduceEqDiff,eF,hq,jV fc 2 ru,cG,da];refine bc (n:=0) (m:=o.length-k) gV rfl (by rw[eH,bl]) (by omega) (by omega) (by decide) ?_;simp (maxSteps:=1000000) (disch:=omega)only[↓pa,↓au,pb,ah,↓reduceIte,reduceEqDiff,reduceAdd,reduceLeDiff,reduceLT,reduceCtorEq,f0,f3,f4,f5,eF,hp,mn hlt,jU fc 2 ru];have hpl1:=gK (o.drop k);have hpl2:=gK (o.take k);rcases hG with⟨rfl,ho0⟩|⟨j,rfl,hj,hjc⟩
  ·have hm0:o.length=0:=by rw[ho0];rfl
   have hk0:k=0:=by omega
   have hcut:aF.cut true o.length k (.full 133)= .full 133:=by simp[aF.cut,hk0,hm0]
   have g1:Gr 133 (st.more [0+(o.length-k)]).nx (st.more [0+(o.length-k)]).cnt k (.full 133):=⟨rfl,hk0⟩;simp only[hcut,eF,cV];refine bc g1 htl rfl (by omega) (by omega) (by decide) ?_;have g2:=cD (m:=1) g1;simp only[cS,cV]at g2;simp only[↓pa,↓reduceIte,reduceEqDiff,eF,cS,cV];refine bc g2 (by rw[ae,htl];simp;omega) hdl (by omega) (by omega) (by decide) ?_;have g3:=cD (m:=0+(o.length-k)) g2;simp only[cS,cV]at g3;simp (maxSteps:=1000000) (disch:=omega)only[↓pa,pb,ak,↓reduceIte,reduceEqDiff,reduceCtorEq,f0,f4,eF,cS,cV];refine⟨l.length- (i+1),by omega,i+1,_,rfl,by omega,?_,rfl,.inr ⟨_,rfl,g3.1,by rw[hnext,hins,<-hins2];exact g3.2.1⟩,by simp[St.count,St.more_fl,hfl]⟩;rw[hnext,hins,hins2,hcell]
  ·by_cases hkm:k=o.length
   ·have hcut:aF.cut true o.length k (.own j 133)= .own j 133:=by simp[aF.cut,hkm]
    have g1:Gr 133 (st.more [0+(o.length-k)]).nx (st.more [0+(o.length-k)]).cnt k (.own j 133):=⟨by simp[St.more];omega,by simp[St.more,hj,hjc,hkm],rfl⟩;simp only[hcut,eF,cV];refine bc g1 htl rfl (by omega) (by omega) (by decide) ?_;have g2:=cD (m:=1) g1;simp only[cS,cV]at g2;simp only[↓pa,↓reduceIte,reduceEqDiff,eF,cS,cV];refine bc g2 (by rw[ae,htl];simp;omega) hdl (by omega) (by omega) (by decide) ?_;have g3:=cD (m:=0+(o.length-k)) g2;simp only[cS,cV]at g3;simp (maxSteps:=1000000) (disch:=omega)only[↓pa,pb,ak,↓reduceIte,reduceEqDiff,reduceCtorEq,f0,f4,eF,cS,cV];refine⟨l.length- (i+1),by omega,i+1,_,rfl,by omega,?_,rfl,.inr ⟨_,rfl,g3.1,by rw[hnext,hins,<-hins2];exact g3.2.1⟩,by simp[St.count,St.more_fl,hfl]⟩;rw[hnext,hins,hins2,hcell]
   ·have hcut:aF.cut true o.length k (.own j 133)= .el j 133 o.length:=by simp[aF.cut,hkm,aF.elt]
    obtain⟨ha,hJ⟩:=wR (st:=st.more [0+(o.length-k)]) (e:=133) (sz:=2) (b:=32) (n:=k) (c:=o.length) (j:=j) (cs:=(o.take k).flatMap fc) (y:= .list 1 [S l[i].1,S l[i].2] (.full 133)) (by omega) (by simp[St.more];omega) (by simp[St.more,hj,hjc]) (by rw[St.more_fl,hfl];omega) (oz hpl2) rfl;have g1:Gr 133 (fY (st.more [0+(o.length-k)]) j k).nx (fY (st.more [0+(o.length-k)]) j k).cnt k (.own (st.more [0+(o.length-k)]).nx 133):=⟨by simp[fY,St.more],by
     have:¬ (st.nx+1=j):=by omega
     simp[fY,St.more,this],rfl⟩
    have k0:= @gU [j] _ (eL l);have k4:bY [j] (I i)=I i:=gU (bh _ _);have k6:bY [j] (.list (0+(o.length-k)) ((o.drop k).flatMap fc) (.own st.nx 133))= .list (0+(o.length-k)) ((o.drop k).flatMap fc) (.own st.nx 133):=by
     have:¬ (st.nx=j):=by omega
     have ht:=oz (J:=[j]) hpl1;rw[bY,am];simp only[tf,ht,bv];simp[aF.free,aF.of,this]
    simp only[hcut,ha,hJ,cV];refine bc g1 htl rfl (by omega) (by omega) (by decide) ?_;have g2:=cD (m:=1) g1;simp only[cS,cV]at g2;simp only[↓pa,↓reduceIte,reduceEqDiff,eF,cS,cV,k6];refine bc g2 (by rw[ae,htl];simp;omega) hdl (by omega) (by omega) (by decide) ?_;have g3:=cD (m:=0+(o.length-k)) g2;simp only[cS,cV]at g3;simp (maxSteps:=1000000) (disch:=omega)only[↓pa,pb,ak,↓reduceIte,reduceEqDiff,reduceCtorEq,f0,f4,eF,cS,cV,k0,k4];refine⟨l.length- (i+1),by omega,i+1,_,rfl,by omega,?_,rfl,.inr ⟨_,rfl,g3.1,by rw[hnext,hins,<-hins2];exact g3.2.1⟩,by simp[St.count,St.more_fl,fY,hfl]⟩;rw[hnext,hins,hins2,hcell]
 ·have hk0:0<k:=by omega
  have hk1:k-1<o.length:=by omega
  have hne:¬o[k-1].1=l[i].1:=hxo _ (cp hk1);simp (maxSteps:=1000000) (disch:=omega)only[↓pa,pb,↓reduceIte,reduceEqDiff,reduceCtorEq,f0,f3,f4,f5,h2,hpos k hk,aI,km hk1,km hlt];refine af (fun h3=>?_) (fun h3=>?_);rotate_left
  ·have h3':d4 l[i].1 o[k-1].1=true:=by
    cases hc:d4 l[i].1 o[k-1].1 with
    |true=>rfl
    |false=>exact absurd (oE (by simpa [hne]using h3) hc) hne
   simp (maxSteps:=1000000) (disch:=omega)only[↓pa,pb,↓reduceIte,reduceEqDiff,reduceCtorEq,f0,f3,f4,f5];refine⟨k-1,by omega,by omega,?_,fun j h hj=>?_,hG,hfl⟩
   ·congr 1;omega
   ·by_cases e:j=k-1
    ·subst e;exact h3'
    ·exact hgt j h (by omega)
  ·have h3':d4 o[k-1].1 l[i].1=true:=by simpa [hne]using h3
   have hend:k=0\/∃ h:k-1<o.length,d4 l[i].1 o[k-1].1=false:= .inr ⟨hk1,qH h3'⟩;simp only[↓pa,↓au,pb,ah,↓reduceIte,reduceEqDiff,reduceAdd,reduceLT,f3,f5];have hp:=fun st=> @qg st 2 o.length k (o.flatMap fc) tok (eH o) hk;have hq:=fun st=> @qf st 2 o.length k (o.flatMap fc) tok (eH o) hk;have hins:=Bj ho hxo hk hgt hend;have hins2:k+1+(0+(o.length-k))=(o.take k++l[i]::o.drop k).length:=by simp;omega
   have hcell:(o.take k).flatMap fc++[PV.str ⟨l[i].1.toArray⟩,.str ⟨l[i].2.toArray⟩]++(o.drop k).flatMap fc=(o.take k++l[i]::o.drop k).flatMap fc:=by
    rw[bA,be,<-bn];rfl
   have htl:((o.take k).flatMap fc).length=k*2:=by rw[eH,aL];congr 1;omega
   have hdl:((o.drop k).flatMap fc).length=(0+(o.length-k)) *2:=by rw[eH,bl];congr 1;omega
   simp only[↓pa,↓reduceIte,reduceEqDiff,eF,hq,jV fc 2 ru,cG,da];refine bc (n:=0) (m:=o.length-k) gV rfl (by rw[eH,bl]) (by omega) (by omega) (by decide) ?_;simp (maxSteps:=1000000) (disch:=omega)only[↓pa,↓au,pb,ah,↓reduceIte,reduceEqDiff,reduceAdd,reduceLeDiff,reduceLT,reduceCtorEq,f0,f3,f4,f5,eF,hp,mn hlt,jU fc 2 ru];have hpl1:=gK (o.drop k);have hpl2:=gK (o.take k);rcases hG with⟨rfl,ho0⟩|⟨j,rfl,hj,hjc⟩
   ·have hm0:o.length=0:=by rw[ho0];rfl
    have hk0:k=0:=by omega
    have hcut:aF.cut true o.length k (.full 133)= .full 133:=by simp[aF.cut,hk0,hm0]
    have g1:Gr 133 (st.more [0+(o.length-k)]).nx (st.more [0+(o.length-k)]).cnt k (.full 133):=⟨rfl,hk0⟩;simp only[hcut,eF,cV];refine bc g1 htl rfl (by omega) (by omega) (by decide) ?_;have g2:=cD (m:=1) g1;simp only[cS,cV]at g2;simp only[↓pa,↓reduceIte,reduceEqDiff,eF,cS,cV];refine bc g2 (by rw[ae,htl];simp;omega) hdl (by omega) (by omega) (by decide) ?_;have g3:=cD (m:=0+(o.length-k)) g2;simp only[cS,cV]at g3;simp (maxSteps:=1000000) (disch:=omega)only[↓pa,pb,ak,↓reduceIte,reduceEqDiff,reduceCtorEq,f0,f4,eF,cS,cV];refine⟨l.length- (i+1),by omega,i+1,_,rfl,by omega,?_,rfl,.inr ⟨_,rfl,g3.1,by rw[hnext,hins,<-hins2];exact g3.2.1⟩,by simp[St.count,St.more_fl,hfl]⟩;rw[hnext,hins,hins2,hcell]
   ·by_cases hkm:k=o.length
    ·have hcut:aF.cut true o.length k (.own j 133)= .own j 133:=by simp[aF.cut,hkm]
     have g1:Gr 133 (st.more [0+(o.length-k)]).nx (st.more [0+(o.length-k)]).cnt k (.own j 133):=⟨by simp[St.more];omega,by simp[St.more,hj,hjc,hkm],rfl⟩;simp only[hcut,eF,cV];refine bc g1 htl rfl (by omega) (by omega) (by decide) ?_;have g2:=cD (m:=1) g1;simp only[cS,cV]at g2;simp only[↓pa,↓reduceIte,reduceEqDiff,eF,cS,cV];refine bc g2 (by rw[ae,htl];simp;omega) hdl (by omega) (by omega) (by decide) ?_;have g3:=cD (m:=0+(o.length-k)) g2;simp only[cS,cV]at g3;simp (maxSteps:=1000000) (disch:=omega)only[↓pa,pb,ak,↓reduceIte,reduceEqDiff,reduceCtorEq,f0,f4,eF,cS,cV];refine⟨l.length- (i+1),by omega,i+1,_,rfl,by omega,?_,rfl,.inr ⟨_,rfl,g3.1,by rw[hnext,hins,<-hins2];exact g3.2.1⟩,by simp[St.count,St.more_fl,hfl]⟩;rw[hnext,hins,hins2,hcell]
    ·have hcut:aF.cut true o.length k (.own j 133)= .el j 133 o.length:=by simp[aF.cut,hkm,aF.elt]
     obtain⟨ha,hJ⟩:=wR (st:=st.more [0+(o.length-k)]) (e:=133) (sz:=2) (b:=32) (n:=k) (c:=o.length) (j:=j) (cs:=(o.take k).flatMap fc) (y:= .list 1 [S l[i].1,S l[i].2] (.full 133)) (by omega) (by simp[St.more];omega) (by simp[St.more,hj,hjc]) (by rw[St.more_fl,hfl];omega) (oz hpl2) rfl;have g1:Gr 133 (fY (st.more [0+(o.length-k)]) j k).nx (fY (st.more [0+(o.length-k)]) j k).cnt k (.own (st.more [0+(o.length-k)]).nx 133):=⟨by simp[fY,St.more],by
      have:¬ (st.nx+1=j):=by omega
      simp[fY,St.more,this],rfl⟩
     have k0:= @gU [j] _ (eL l);have k4:bY [j] (I i)=I i:=gU (bh _ _);have k6:bY [j] (.list (0+(o.length-k)) ((o.drop k).flatMap fc) (.own st.nx 133))= .list (0+(o.length-k)) ((o.drop k).flatMap fc) (.own st.nx 133):=by
      have:¬ (st.nx=j):=by omega
      have ht:=oz (J:=[j]) hpl1;rw[bY,am];simp only[tf,ht,bv];simp[aF.free,aF.of,this]
     simp only[hcut,ha,hJ,cV];refine bc g1 htl rfl (by omega) (by omega) (by decide) ?_;have g2:=cD (m:=1) g1;simp only[cS,cV]at g2;simp only[↓pa,↓reduceIte,reduceEqDiff,eF,cS,cV,k6];refine bc g2 (by rw[ae,htl];simp;omega) hdl (by omega) (by omega) (by decide) ?_;have g3:=cD (m:=0+(o.length-k)) g2;simp only[cS,cV]at g3;simp (maxSteps:=1000000) (disch:=omega)only[↓pa,pb,ak,↓reduceIte,reduceEqDiff,reduceCtorEq,f0,f4,eF,cS,cV,k0,k4];refine⟨l.length- (i+1),by omega,i+1,_,rfl,by omega,?_,rfl,.inr ⟨_,rfl,g3.1,by rw[hnext,hins,<-hins2];exact g3.2.1⟩,by simp[St.count,St.more_fl,fY,hfl]⟩;rw[hnext,hins,hins2,hcell]
def mc(n:List UInt8)(l:List Fd):List Fd:=l.filter fun f=>decide (f.1≠n)
def Kg(n:List UInt8)(l:List Fd):(mc n l).length<=l.length:=List.length_filter_le _ _
def Kf{l:List Fd}{n:List UInt8}{i:Nat}(h:i<l.length):mc n (l.take (i+1))=if l[i].1=n then mc n (l.take i)else mc n (l.take i)++[l[i]]:=by
 unfold mc;rw[aV h,pe];by_cases e:l[i].1=n<;>simp[e]
def JP{l:List Fd}{n v:List UInt8}(h:v=fX):iX l n v=mc n l:=by unfold iX;rw[am h];rfl
def LN{l:List Fd}{n v:List UInt8}(h:¬v=fX):iX l n v=jB (mc n l++[(n,v)]):=by unfold iX;rw[ai h];rfl
def Gw{l:List Fd}{n:List UInt8}(h:(l.map (·.1)).Nodup)(v:List UInt8):((mc n l++[(n,v)]).map (·.1)).Nodup:=by
 rw[cn,List.nodup_append];refine⟨h.sublist (List.filter_sublist.map _),by simp,fun a ha b hb=>?_⟩;obtain⟨f,hf,rfl⟩:=cX.1 ha;have:b=n:=by simpa using hb
 subst this;simpa [mc]using(iM.1 hf).2
def KS(K:bO cf)(l:List Fd)(n v:List UInt8)(hn:(l.map (·.1)).Nodup)(hl:l.length<=1000000):∃ r,r=FX (iX l n v)/\∃ fl,az cf 187 [FX l,S n,S v] [] st=some (r,db st fl):=by
 refine lu K.tab (F:=F187) (Q:=fun r=>r=FX (iX l n v)) rfl rfl rfl (lb rfl) (by simp[eL,bR]) (l.length+2) ?_;have hm:=eH l;simp only[F187,↓qU,reduceAdd,reduceSub];simp only[↓pa,↓au,pb,ah,↓reduceIte,reduceAdd,reduceLT,cG,da];refine a7 (fun q fr st=>∃ (i:Nat) (tok:aF),q=l.length-i/\i<=l.length/\fr 0=FX l/\fr 1=S n/\fr 2=S v/\fr 8=I i/\fr 7= .list (mc n (l.take i)).length ((mc n (l.take i)).flatMap fc) tok/\Gr 133 st.nx st.cnt (mc n (l.take i)).length tok) l.length (by omega)
  ⟨0,.full 133,by simp,by omega,by simp only[↓pa,↓reduceIte,reduceCtorEq],by simp only[↓pa,↓reduceIte,reduceEqDiff],by simp only[↓pa,↓reduceIte,reduceEqDiff],by simp only[↓pa,↓reduceIte];rfl,by simp only[↓pa,↓reduceIte,reduceEqDiff];rfl,gV⟩ ?_
 rintro q fr st ⟨i,tok,rfl,hi,f0,f1,f2,f8,f7,hG⟩;have hkl:(mc n (l.take i)).length<=(l.take i).length:=Kg _ _;rw[aL]at hkl;simp only[↓pa,pb,ak,↓reduceIte,reduceEqDiff,reduceCtorEq,f0,f8];refine af (fun h1=>?_) (fun h1=>?_)
 ·have hlt:i<l.length:=h1;have hnext:=Kf (n:=n) hlt;simp (maxSteps:=1000000) (disch:=omega)only[↓pa,pb,↓reduceIte,reduceEqDiff,al,reduceCtorEq,f0,f1,f8,h1,aI,km hlt];refine af (fun h2=>?_) (fun h2=>?_)
  ·have h2':l[i].1=n:=by simpa using h2
   rw[am h2']at hnext;simp (maxSteps:=1000000) (disch:=omega)only[↓pa,pb,ak,↓reduceIte,reduceEqDiff,reduceCtorEq,f0,f1,f2,f8,f7,h2];refine⟨l.length- (i+1),by omega,i+1,tok,rfl,by omega,rfl,by rw[hnext],by rw[hnext];exact hG⟩
  ·have h2':¬l[i].1=n:=by simpa using h2
   rw[ai h2']at hnext;simp (maxSteps:=1000000) (disch:=omega)only[↓pa,↓au,pb,ah,↓reduceIte,reduceEqDiff,reduceAdd,reduceLeDiff,reduceLT,reduceCtorEq,f0,f8,f7,h2,mn hlt];refine bc hG (eH _) rfl (by omega) (by omega) (by decide) ?_;simp (maxSteps:=1000000) (disch:=omega)only[↓pa,pb,ak,↓reduceIte,reduceEqDiff,reduceCtorEq,f0,f1,f2,f8];refine⟨l.length- (i+1),by omega,i+1,cS 133 tok st,rfl,by omega,rfl,?_,?_⟩
   ·rw[hnext,ae,bA];rfl
   ·rw[hnext,ae];exact cD hG
 ·have hie:l.take i=l:=aM (by omega);rw[hie]at f7 hG hkl;simp only[↓pa,pb,↓reduceIte,reduceEqDiff,f2,h1];refine af (fun h2=>?_) (fun h2=>?_)
  ·have h2':v=fX:=h2;simp only[↓pa,pb,aH,↓reduceIte,reduceEqDiff,f7,h2,EF];rw[<-h2,JP h2',FX]
  ·have h2':¬v=fX:=h2;simp only[↓pa,↓au,pb,ah,↓reduceIte,reduceEqDiff,reduceAdd,reduceLeDiff,reduceLT,f1,f2,f7,h2];refine bc hG (eH _) rfl (by omega) (by omega) (by decide) ?_;have hcell:(mc n l).flatMap fc++[PV.str ⟨n.toArray⟩,.str ⟨v.toArray⟩]=(mc n l++[(n,v)]).flatMap fc:=by rw[bA];rfl
   have hlen:(mc n l).length+1=(mc n l++[(n,v)]).length:=by simp
   simp only[↓pa,pb,↓reduceIte,hcell,hlen];rw[vw (gK _)];refine yr (Of K _ (Gw hn v) (by rw[<-hlen];omega)) (fun r fl hr=>?_);subst hr;simp only[↓pa,pb,aH,↓reduceIte,EF];rw[LN h2']
def wg(e n:Nat):aF->Prop
 | .nil=>n=0
 | .full e'=>e'=e/\n=0
 | .own _ e'=>e'=e
 |_=>False
def pG(t:aF)(n:Nat):List (Nat×Nat):=match t with
 | .own k _=>[(k,n)]
 |_=>[]
def k7{n:Nat}{cs:List PV}{t:aF}:aB (.list n cs t)=pG t n++aw cs:=by cases t<;>rfl
mutual
theorem Ic:∀ p:PV,aB (aO p)=[]
 | .list n cs t=>by have ih:=kZ cs;rw[fO,k7,ih];rfl
 | .iptr cs _ _=>by have ih:=kZ cs;simp only[aO,aQ,ren,aB]at ih ⊢;exact ih
 | .agg cs=>by have ih:=kZ cs;simp only[aO,aQ,ren,aB]at ih ⊢;exact ih
 | .tup cs=>by have ih:=kZ cs;simp only[aO,aQ,ren,aB]at ih ⊢;exact ih
 | .fn _ cs=>by have ih:=kZ cs;simp only[aO,aQ,ren,aB]at ih ⊢;exact ih
 | .any| .hole| .int _ _| .bool _| .str _| .nilp| .nili| .err| .ptr _ _| .osl _ _ _ _| .mp _=>rfl
theorem kZ:∀ ps:List PV,aw (aQ ps)=[]
 | []=>rfl
 |p::ps=>by
  have h1:=Ic p;have h2:=kZ ps;simp only[aO,aQ,bm,aw]at h1 h2 ⊢;rw[h1,h2];rfl
end
def Eh{cs:List PV}(h:cZ cs):aw cs=[]:=by rw[<-h.2.1];exact kZ cs
def BV{f:Nat->Option Nat}{b:Bool}{cs:List PV}(h:cZ cs):bm f b cs=cs:=by
 have:=kM f b cs;have h2:bm (fun _=>none) true cs=cs:=h.2.1;rwa [h2]at this
def mo(g:cj):cZ (g.nodes.flatMap nc):=fP nc ny _
def nG(g:cj):cZ (g.edges.flatMap ec):=fP ec nH _
def gq(g:cj)(t u:aF):PV:= .agg [.list g.nodes.length (g.nodes.flatMap nc) t,.list g.edges.length (g.edges.flatMap ec) u]
def il(g:cj)(t u:aF):Prop:=wg 72 g.nodes.length t/\wg 68 g.edges.length u
def dI(g:cj)(t u:aF):List (Nat×Nat):=pG t g.nodes.length++pG u g.edges.length
def pp(g:cj)(t u:aF):aB (gq g t u)=dI g t u:=by
 have h1:=Eh (mo g);have h2:=Eh (nG g)
 show aw [_,_]=_;rw[aw,aw,aw,k7,k7,h1,h2,aD,aD,aD];rfl
def Bl(g:cj)(t u:aF):np (gq g t u)=true:=by
 have h1:=(mo g).1;have h2:=(nG g).1;simp only[gq,np,off,dS,bv,aj];exact⟨h1,h2⟩
def wx(g:cj)(t u:aF):aO (gq g t u)= .agg (gc g):=by
 simp only[gq,aH,(mo g).2.1,(nG g).2.1];rfl
def xZ(f:Nat->Option Nat)(g:cj)(t u:aF):ren f false (gq g t u)=gq g (t.ren f false) (u.ren f false):=by
 simp only[gq,ren,bm,BV (mo g),BV (nG g)]
def EH{f:Nat->Option Nat}{e n:Nat}{t:aF}(h:wg e n t)(hf:∀ q∈pG t n,(f q.1).isSome=true):wg e n (t.ren f false):=by
 cases t with
 |own k e'=>
  obtain⟨j,hj⟩:=cu.1 (hf (k,n) (by simp[pG]));have hj:f k=some j:=hj;simp only[aF.ren,hj];exact h
 |nil=>exact h
 |full e'=>exact h
 |no=>exact h.elim
 |sub k=>exact h.elim
 |el k e n=>exact h.elim
def tV{f:Nat->Option Nat}{g:cj}{t u:aF}(h:il g t u)(hf:∀ q∈dI g t u,(f q.1).isSome=true):il g (t.ren f false) (u.ren f false):=
 ⟨EH h.1 fun q hq=>hf q (dk _ hq),EH h.2 fun q hq=>hf q (dG _ hq)⟩
def Nr{e n:Nat}{t:aF}(h:wg e n t)(hk:a8 st (pG t n)):Gr e st.nx st.cnt n t:=by
 cases t with
 |own k e'=>
  obtain⟨h1,h2,-⟩:=hk.2 (k,n) (by simp[pG]);exact⟨h1,h2,h⟩
 |nil=>exact h
 |full e'=>exact h
 |no=>exact h.elim
 |sub k=>exact h.elim
 |el k e n=>exact h.elim
def MW{g:cj}{t u:aF}(hk:a8 st (dI g t u)):jr t u:=by
 cases t<;>cases u<;>try trivial
 rename_i k e j e'
 show k≠j;rintro rfl;have:=hk.1 k;simp[dI,pG,ck]at this
def ub{g:cj}{t u:aF}{e e':Nat}(h1:Gr e st.nx st.cnt g.nodes.length t)(h2:Gr e' st.nx st.cnt g.edges.length u)(ha:jr t u)(hf:∀ k e,t= .own k e\/u= .own k e->st.fl<=k):a8 st (dI g t u):=by
 refine⟨fun k=>?_,fun q hq=>?_⟩
 ·cases t<;>cases u<;>simp only[dI,pG,aD,aU,kf,ck]<;>(try omega)<;>(try (split<;>omega))
  rename_i k1 e1 k2 e2;have:k1≠k2:=ha;by_cases h:k1=k
  ·rw[am h,ai (by omega)];omega
  ·rw[ai h];split<;>omega
 ·rcases aG.1 hq with hq|hq
  ·cases t<;>simp only[pG,dM,eo]at hq
   subst hq;exact⟨h1.1,h1.2.1,hf _ _ (.inl rfl)⟩
  ·cases u<;>simp only[pG,dM,eo]at hq
   subst hq;exact⟨h2.1,h2.2.1,hf _ _ (.inr rfl)⟩
def oX(ns:List Nat):a8 (bV ns []) (cB 0 ns):=
 ⟨fun k=>qS k ns,fun q hq=>by have:=lq hq;exact⟨by simpa [bV]using this.2.1,by simpa [bV]using this.2.2,aW _⟩⟩
def pw(nx:Nat):∀ (ns:List Nat),(cB 0 ns).map (fun q=>(nx+q.1,q.2))=cB nx ns:=fun ns=>by
 have:=Fh nx ns 0;rwa [aI]at this
def u6{ns:List Nat}{J:List Nat}{b:Bool}(hf:st.fl<=st.nx)(hJ:∀ k∈J,k<st.nx):a8 (pH J ns b st) (cB st.nx ns):=by
 refine⟨fun k=>qS k ns,fun q hq=>?_⟩;obtain⟨h1,h2,h3⟩:=lq hq;have hc:J.contains q.1=false:=by
  rw[Bool.eq_false_iff];intro h;have:=hJ _ (ff.1 h);omega
 have hn:(pH J ns b st).nx=st.nx+ns.length:=J9;refine⟨by rw[hn];omega,?_,?_⟩
 ·show(if J.contains q.1 then 0 else(st.more ns).cnt q.1)=q.2;rw[hc,ai (by simp),St.more_new _ _ h1 h2];exact h3
 ·show(if b then st.fl else st.nx)<=q.1;split<;>omega
section
variable {f:Nat} {F:bw} {rs:List iG} {g:cj} {t u:aF} {rest:List PV}
def Ci(K:jj cf)(hT:T f=some F)(hres:F.res=rs)(hown:F.own=true)(hg:il g t u)(hk:a8 st (dI g t u))(hr:∀ p∈rest,dq p)(hnt:rest.length+1<=F.nt)(N:Nat){Q:PV->St->Prop}
  (h:∀ t0 u0 ns,il g t0 u0->dI g t0 u0=cB 0 ns->Wp cf N F.body (eM (gq g t0 u0::rest),bV ns []) (nO rs Q)):
  ∃ r0 s1 r ns b,Q r0 s1/\az cf f (gq g t u::rest) [0] st=some (ren (fun k=>some (st.nx+k)) false r,pH ((dI g t u).map (·.1)) ns b st)/\dn (gq g t u::rest) [0] st=(dI g t u).map (·.1)/\yp s1 r0 r ns:=by
 obtain⟨q1,q2⟩:=dD hr;have hp:(gq g t u::rest).all bF=true:=by
  rw[cT,q1,bv];have:=Bl g t u;unfold gq at this ⊢;simp only[bF,this,ay]
 have hm:gu [0] 0 (gq g t u::rest)=dI g t u:=by
  rw[gu,rk _ _ (by omega),pp];simp
 have hJ:∀ q∈dI g t u,(bi ((dI g t u).map (·.1)) q.1).isSome=true:=fun q hq=>md (cX.2 ⟨q,hq,rfl⟩);have htk:dI g (t.ren (bi ((dI g t u).map (·.1))) false) (u.ren (bi ((dI g t u).map (·.1))) false)=cB 0 ((dI g t u).map (·.2)):=by
  rw[<-pp,<-xZ,mm _ (fun k=>(bi ((dI g t u).map (·.1)) k).getD 0) _ fun q hq=>by
   rw[pp]at hq;obtain⟨i,hi⟩:=cu.1 (hJ q hq);rw[hi];rfl,pp]
  have:=nD 0 hk.1;simpa using this
 have hh:jo ((dI g t u).map (·.1)) [0] 0 (gq g t u::rest)=gq g (t.ren (bi ((dI g t u).map (·.1))) false) (u.ren (bi ((dI g t u).map (·.1))) false)::rest:=by
  have hrest:∀ (i:Nat) (l:List PV),0<i->(l.map aO=l)->jo ((dI g t u).map (·.1)) [0] i l=l:=by
   intro i l
   induction l generalizing i with
   |nil=>intro _ _;rfl
   |cons p ps ih=>
    intro hi hl;rw[bg,List.cons.injEq]at hl;have hc:([0]:List Nat).contains i=false:=by simp;omega
    rw[jo,hc,ai (by simp),hl.1,ih (i+1) (by omega) hl.2]
  rw[jo,hrest 1 rest (by omega) q2,xZ];rfl
 have hsp:iu ((dI g t u).map (·.1)) [0] 0 (gq g t u::rest)=true:=by
  have hrest:∀ (i:Nat) (l:List PV),(l.map aO=l)->iu ((dI g t u).map (·.1)) [0] i l=true:=by
   intro i l
   induction l generalizing i with
   |nil=>intro _;rfl
   |cons p ps ih=>
    intro hl;rw[bg,List.cons.injEq]at hl;have:=tF (((dI g t u).map (·.1)).contains ·) p;rw[hl.1]at this;rw[iu,this,ih (i+1) hl.2,lB];rfl
  rw[iu,hrest 1 rest q2];rfl
 obtain⟨r0,s1,r,ns,hQ,hrun,-,hS⟩:=Im hown hres N (a9z:=gq g _ _::rest) (ns0:=(dI g t u).map (·.2)) (by simpa using hnt) (h _ _ _ (tV hg hJ) htk);have hcf:=K f F hT N _ _ _ _ hrun;obtain⟨h1,h2⟩:=wL (f:=f) (mv:=[0]) (by simp) hp (by rw[hm];exact hk) (by rw[hm];exact hsp) (by rw[hm,hh];exact hcf);rw[hm]at h1 h2;exact⟨r0,s1,r,ns,fU r,hQ,h1,h2,hS⟩
def BW{f:Nat->Option Nat}{n:Nat}{p:PV}{ns:List Nat}(h:aB p=cB 0 ns):aB (ren (fun k=>some (n+k)) false p)=cB n ns:=by
 rw[mm _ (fun k=>n+k) _ fun _ _=>rfl,h,pw]
def IP{s1:St}{r0 r:PV}{ns:List Nat}(hS:yp s1 r0 r ns)(h0:r0=gq g t u)(hg:il g t u)(hk:a8 s1 (dI g t u))(n:Nat):∃ t' u',ren (fun k=>some (n+k)) false r=gq g t' u'/\il g t' u'/\dI g t' u'=cB n ns:=by
 subst h0;obtain⟨f,rfl,hf,-,htk⟩:=hS.ok (by rw[pp];exact hk);rw[pp]at hf;have h2:=BW (f:=f) (n:=n) htk;rw[xZ,xZ]at h2 ⊢;exact⟨_,_,rfl,tV (tV hg hf) fun _ _=>rfl,by rw[<-pp];exact h2⟩
end
def LS{x:Eg}:bL (ec x) 0 1 false=some (I x.id):=rfl
def jx{t:aF}{st:St}{n:Nat}:(cV t st n).fl=st.fl:=by cases t<;>rfl
def x3{g:cj}{t u:aF}:ft [gq g t u]=true:=by
 have:=Bl g t u;simp only[ft,this,bv,cH];rfl
def rV{g:cj}{t u:aF}(hk:a8 st (dI g t u))(hg:il g t u):Gr 72 st.nx st.cnt g.nodes.length t/\Gr 68 st.nx st.cnt g.edges.length u/\jr t u:=
 ⟨Nr hg.1 (fo hk (fun k=>by rw[dI,bt];omega) (fun q hq=>dk _ hq)),Nr hg.2 (fo hk (fun k=>by rw[dI,bt];omega) (fun q hq=>dG _ hq)),MW hk⟩
def sx{e:Nat}{u:aF}:jr (.full e) u:=by cases u<;>trivial
def lS{e n nx:Nat}{cnt:Nat->Nat}{t:aF}(h:Gr e nx cnt n t):wg e n t:=by
 cases t with
 |own k e'=>exact h.2.2
 |nil=>exact h
 |full e'=>exact h
 |no=>exact h.elim
 |sub k=>exact h.elim
 |el k e n=>exact h.elim
def vG{t u:aF}(h:st.fl=0):∀ k e,t= .own k e\/u= .own k e->st.fl<=k:=fun k e _=>by omega
def Mh{l:List Nd}{i:Nat}(h:i<l.length)(x:Nd):i6 x (l.drop i)=if x.id<l[i].id then x::l[i]::l.drop (i+1)else l[i]::i6 x (l.drop (i+1)):=by
 rw[bj h,i6]
def Pw(K:bO cf)(g:cj)(x:Nd){t u:aF}(hg:il g t u)(hk:a8 st (dI g t u))(hl:g.nodes.length<=1000000):
  ∃ t' u' ns b,az cf 63 [gq g t u,.agg (nc x)] [0] st=some (gq ⟨i6 x g.nodes,g.edges⟩ t' u',pH ((dI g t u).map (·.1)) ns b st)/\dn [gq g t u,.agg (nc x)] [0] st=(dI g t u).map (·.1)/\il ⟨i6 x g.nodes,g.edges⟩ t' u'/\dI ⟨i6 x g.nodes,g.edges⟩ t' u'=cB st.nx ns:=by
 have hw:∀ t0 u0 ns,il g t0 u0->dI g t0 u0=cB 0 ns->Wp cf (g.nodes.length+2) F63.body (eM [gq g t0 u0,.agg (nc x)],bV ns []) (nO F63.res fun r s=>∃ t' u',r=gq ⟨i6 x g.nodes,g.edges⟩ t' u'/\il ⟨i6 x g.nodes,g.edges⟩ t' u'/\a8 s (dI ⟨i6 x g.nodes,g.edges⟩ t' u')):=by
  clear hg hk;intro t u ns hg hns;obtain⟨hG1,hG2,-⟩:=rV (st:=bV ns []) (by rw[hns];exact oX ns) hg;have hxl:=cP x;have hx3:List.take 3 (nc x)=nc x:=rfl;have hm:=bC nc 3 cP g.nodes;simp only[F63,↓qU,reduceAdd,reduceSub];unfold gq;simp only[↓pa,↓au,pb,ah,↓reduceIte,reduceEqDiff,reduceAdd,reduceLT,hxl,cG,da];refine a7 (fun q fr st=>∃ (i:Nat) (d:Bool) (L:List Nd) (tok:aF),q=g.nodes.length-i/\i<=g.nodes.length/\fr 2= .ptr 2 0/\fr 3= .ptr 3 0/\fr 4= .ptr 4 0/\fr 5= .list L.length (L.flatMap nc) tok/\fr 6= .bool d/\fr 7=I i/\st.objs 2=some [.list g.nodes.length (g.nodes.flatMap nc) t,.list g.edges.length (g.edges.flatMap ec) u]/\st.objs 3=some (nc x)/\st.objs 4=some [.list 0 [] .nil,.list 0 [] .nil]/\
   L.length<=i+d.toNat/\i6 x g.nodes=L++(if d then g.nodes.drop i else i6 x (g.nodes.drop i))/\Gr 72 st.nx st.cnt L.length tok/\Gr 68 st.nx st.cnt g.edges.length u/\jr tok u/\st.fl=0) g.nodes.length (by omega)
   ⟨0,false,[],.full 72,by simp,by omega,by simp only[↓pa,pb,↓reduceIte,reduceEqDiff],by simp only[↓pa,pb,↓reduceIte,reduceEqDiff],by simp only[↓pa,↓reduceIte,reduceEqDiff],by simp only[↓pa,↓reduceIte,reduceEqDiff];rfl,by simp only[↓pa,↓reduceIte,reduceEqDiff],by simp only[↓pa,↓reduceIte];rfl,by simp only[pb,↓reduceIte,reduceEqDiff],by simp only[pb,↓reduceIte,reduceEqDiff],by simp only[pb,↓reduceIte],by simp,by simp,gV,hG2,sx,rfl⟩ ?_
  clear hG1 hG2;rintro q fr st ⟨i,d,L,tok,rfl,hi,f2,f3,f4,f5,f6,f7,o2,o3,o4,hL,hQ,hG,hE,hap,hfl⟩;simp only[↓pa,pb,ah,ak,↓reduceIte,reduceEqDiff,f2,f7,o2,aI];refine af (fun h1=>?_) (fun h1=>?_)
  ·have hlt:i<g.nodes.length:=h1;have hnow:=Mh hlt x;have hdr:=bj hlt;have hnl:=cP g.nodes[i];have hn3:List.take 3 (nc g.nodes[i])=nc g.nodes[i]:=rfl;cases d with
   |true=>
    have hL:L.length<=i+1:=hL;simp only[if_true]at hQ;rw[hdr]at hQ;simp (maxSteps:=1000000) (disch:=omega)only[↓pa,↓au,pb,ah,↓reduceIte,reduceEqDiff,reduceAdd,reduceLeDiff,reduceLT,f2,f5,f6,f7,o2,h1,aI,ar,lR hlt,hnl,pj hnl];refine bc hG (bC nc 3 cP _) (by rw[hnl]) (by omega) (by omega) (by decide) ?_;simp (maxSteps:=1000000) (disch:=omega)only[↓pa,pb,ah,ak,↓reduceIte,reduceEqDiff,f2,f3,f4,f6,f7,o2,o3,o4];have hc:L.flatMap nc++nc g.nodes[i]=(L++[g.nodes[i]]).flatMap nc:=by simp
    obtain⟨hE2,hap2⟩:=io (m:=L.length+1) hG hE hap;refine⟨g.nodes.length- (i+1),by omega,i+1,true,L++[g.nodes[i]],cS 72 tok st,rfl,by omega,by rw[hc];simp,rfl,rfl,by simp only[ae,aA,a6,ml];omega,by rw[hQ];simp,by rw[ae];exact cD hG,hE2,hap2,by rw[jx];exact hfl⟩
   |false=>
    have hL:L.length<=i:=hL;simp only[if_false,cz]at hQ;rw[hnow]at hQ;simp (maxSteps:=1000000) (disch:=omega)only[↓pa,pb,ah,↓reduceIte,reduceEqDiff,f2,f3,f6,f7,o2,o3,h1,aI,ja hlt,uE];refine af (fun h2=>?_) (fun h2=>?_)
    ·rw[am h2]at hQ;simp only[↓pa,↓au,pb,ah,↓reduceIte,reduceEqDiff,reduceAdd,reduceLeDiff,reduceLT,f3,f5,o3,h2,ar,hxl,hx3,pj hxl];refine bc hG (bC nc 3 cP _) (by rw[hxl]) (by omega) (by omega) (by decide) ?_;have hc0:L.flatMap nc++nc x=(L++[x]).flatMap nc:=by simp
     have hc:(L++[x]).flatMap nc++nc g.nodes[i]=(L++[x]++[g.nodes[i]]).flatMap nc:=by simp
     have hlx:(L++[x]).length=L.length+1:=by simp
     have hG2:=cD (m:=1) hG;obtain⟨hE2,hap2⟩:=io (m:=L.length+1) hG hE hap;simp (maxSteps:=1000000) (disch:=omega)only[↓pa,↓au,pb,ah,↓reduceIte,reduceEqDiff,reduceAdd,reduceLeDiff,reduceLT,f2,f7,o2,aI,ar,lR hlt,hnl,pj hnl,hc0];rw[<-hlx]at hG2 hE2 ⊢;refine bc hG2 (bC nc 3 cP _) (by rw[hnl]) (by omega) (by omega) (by decide) ?_;have hG3:=cD (m:=1) hG2;obtain⟨hE3,hap3⟩:=io (m:=(L++[x]).length+1) hG2 hE2 hap2;simp (maxSteps:=1000000) (disch:=omega)only[↓pa,pb,ah,ak,↓reduceIte,reduceEqDiff,f2,f3,f4,f7,o2,o3,o4,hc];refine⟨g.nodes.length- (i+1),by omega,i+1,true,L++[x]++[g.nodes[i]],_,rfl,by omega,by simp,rfl,rfl,by simp only[ae,aA,a6,ml];omega,by rw[hQ];simp,by rw[@ae _ (L++[x])];exact hG3,hE3,hap3,by simp only[jx];exact hfl⟩
    ·rw[ai h2]at hQ;simp (maxSteps:=1000000) (disch:=omega)only[↓pa,↓au,pb,ah,↓reduceIte,reduceEqDiff,reduceAdd,reduceLeDiff,reduceLT,f2,f5,f7,o2,h2,aI,ar,lR hlt,hnl,pj hnl];refine bc hG (bC nc 3 cP _) (by rw[hnl]) (by omega) (by omega) (by decide) ?_;simp (maxSteps:=1000000) (disch:=omega)only[↓pa,pb,ah,ak,↓reduceIte,reduceEqDiff,f2,f3,f4,f6,f7,o2,o3,o4];have hc:L.flatMap nc++nc g.nodes[i]=(L++[g.nodes[i]]).flatMap nc:=by simp
     obtain⟨hE2,hap2⟩:=io (m:=L.length+1) hG hE hap;refine⟨g.nodes.length- (i+1),by omega,i+1,false,L++[g.nodes[i]],cS 72 tok st,rfl,by omega,by rw[hc];simp,rfl,rfl,by simp only[ae,aA,a6,Bool.toNat_false];omega,by rw[hQ];simp,by rw[ae];exact cD hG,hE2,hap2,by rw[jx];exact hfl⟩
  ·have hie:g.nodes.drop i=[]:=ei (by omega);rw[hie]at hQ;cases d with
   |true=>
    have hL:L.length<=i+1:=hL;simp only[if_true,aD]at hQ;simp only[↓pa,pb,ah,↓reduceIte,reduceEqDiff,reduceAdd,reduceLeDiff,gh,f2,f4,f5,f6,o2,o4,h1];have e:PV.agg [.list L.length (L.flatMap nc) tok,.list g.edges.length (g.edges.flatMap ec) u]=gq ⟨i6 x g.nodes,g.edges⟩ tok u:=by simp only[gq,hQ]
    rw[e];refine⟨x3,_,_,rfl,⟨lS (by rw[hQ];exact hG),lS hE⟩,ub (by rw[hQ];exact hG) hE hap (vG hfl)⟩
   |false=>
    have hL:L.length<=i:=hL;simp only[if_false,cz,i6]at hQ;simp only[↓pa,↓au,pb,ah,↓reduceIte,reduceEqDiff,reduceAdd,reduceLeDiff,reduceLT,f3,f5,f6,o3,h1,hxl,hx3,pj hxl];refine bc hG (bC nc 3 cP _) (by rw[hxl]) (by omega) (by omega) (by decide) ?_;have hc:L.flatMap nc++nc x=(L++[x]).flatMap nc:=by simp
    have hlx:(L++[x]).length=L.length+1:=by simp
    have hG2:=cD (m:=1) hG;obtain⟨hE2,hap2⟩:=io (m:=L.length+1) hG hE hap;simp only[↓pa,pb,ah,↓reduceIte,reduceEqDiff,reduceAdd,reduceLeDiff,gh,f2,f4,o2,o4,hc];rw[<-hlx]at hG2 hE2 ⊢;have e:PV.agg [.list (L++[x]).length ((L++[x]).flatMap nc) (cS 72 tok st),.list g.edges.length (g.edges.flatMap ec) u]=gq ⟨i6 x g.nodes,g.edges⟩ (cS 72 tok st) u:=by simp only[gq,hQ]
    rw[e];refine⟨x3,_,_,rfl,⟨lS (by rw[hQ];exact hG2),lS hE2⟩,ub (by rw[hQ];exact hG2) hE2 hap2 (vG ((@jx tok st (L++[x]).length).trans hfl))⟩
 obtain⟨r0,s1,r,ns,b,⟨t0,u0,h0,h1,h2⟩,hc,ht,hS⟩:=Ci (f:=63) (F:=F63) K.tab rfl rfl rfl hg hk (rest:=[.agg (nc x)]) (by simp[gF]) (lb rfl) (g.nodes.length+2) hw;obtain⟨t',u',e,h3,h4⟩:=IP hS h0 h1 h2 st.nx;exact⟨t',u',ns,b,by rw[hc,e],ht,h3,h4⟩
def Kl{l:List Eg}{i:Nat}(h:i<l.length)(x:Eg):gJ x (l.drop i)=if x.id<l[i].id then x::l[i]::l.drop (i+1)else l[i]::gJ x (l.drop (i+1)):=by
 rw[bj h,gJ]
def Px(K:bO cf)(g:cj)(x:Eg){t u:aF}(hg:il g t u)(hk:a8 st (dI g t u))(hl:g.edges.length<=1000000):
  ∃ t' u' ns b,az cf 64 [gq g t u,.agg (ec x)] [0] st=some (gq ⟨g.nodes,gJ x g.edges⟩ t' u',pH ((dI g t u).map (·.1)) ns b st)/\dn [gq g t u,.agg (ec x)] [0] st=(dI g t u).map (·.1)/\il ⟨g.nodes,gJ x g.edges⟩ t' u'/\dI ⟨g.nodes,gJ x g.edges⟩ t' u'=cB st.nx ns:=by
 have hw:∀ t0 u0 ns,il g t0 u0->dI g t0 u0=cB 0 ns->Wp cf (g.edges.length+2) F64.body (eM [gq g t0 u0,.agg (ec x)],bV ns []) (nO F64.res fun r s=>∃ t' u',r=gq ⟨g.nodes,gJ x g.edges⟩ t' u'/\il ⟨g.nodes,gJ x g.edges⟩ t' u'/\a8 s (dI ⟨g.nodes,gJ x g.edges⟩ t' u')):=by
  clear hg hk;intro t u ns hg hns;obtain⟨hG1,hG2,-⟩:=rV (st:=bV ns []) (by rw[hns];exact oX ns) hg;have hxl:=cN x;have hx3:List.take 5 (ec x)=ec x:=rfl;have hm:=bC ec 5 cN g.edges;simp only[F64,↓qU,reduceAdd,reduceSub];unfold gq;simp only[↓pa,↓au,pb,ah,↓reduceIte,reduceEqDiff,reduceAdd,reduceLT,hxl,cG,da];refine a7 (fun q fr st=>∃ (i:Nat) (d:Bool) (L:List Eg) (tok:aF),q=g.edges.length-i/\i<=g.edges.length/\fr 2= .ptr 2 0/\fr 3= .ptr 3 0/\fr 4= .ptr 4 0/\fr 5= .list L.length (L.flatMap ec) tok/\fr 6= .bool d/\fr 7=I i/\st.objs 2=some [.list g.nodes.length (g.nodes.flatMap nc) t,.list g.edges.length (g.edges.flatMap ec) u]/\st.objs 3=some (ec x)/\st.objs 4=some [.list 0 [] .nil,.list 0 [] .nil]/\
   L.length<=i+d.toNat/\gJ x g.edges=L++(if d then g.edges.drop i else gJ x (g.edges.drop i))/\Gr 68 st.nx st.cnt L.length tok/\Gr 72 st.nx st.cnt g.nodes.length t/\jr tok t/\st.fl=0) g.edges.length (by omega)
   ⟨0,false,[],.full 68,by simp,by omega,by simp only[↓pa,pb,↓reduceIte,reduceEqDiff],by simp only[↓pa,pb,↓reduceIte,reduceEqDiff],by simp only[↓pa,↓reduceIte,reduceEqDiff],by simp only[↓pa,↓reduceIte,reduceEqDiff];rfl,by simp only[↓pa,↓reduceIte,reduceEqDiff],by simp only[↓pa,↓reduceIte];rfl,by simp only[pb,↓reduceIte,reduceEqDiff],by simp only[pb,↓reduceIte,reduceEqDiff],by simp only[pb,↓reduceIte],by simp,by simp,gV,hG1,sx,rfl⟩ ?_
  clear hG1 hG2;rintro q fr st ⟨i,d,L,tok,rfl,hi,f2,f3,f4,f5,f6,f7,o2,o3,o4,hL,hQ,hG,hE,hap,hfl⟩;simp only[↓pa,pb,ah,ak,↓reduceIte,reduceEqDiff,f2,f7,o2,ar];refine af (fun h1=>?_) (fun h1=>?_)
  ·have hlt:i<g.edges.length:=h1;have hnow:=Kl hlt x;have hdr:=bj hlt;have hnl:=cN g.edges[i];have hn3:List.take 5 (ec g.edges[i])=ec g.edges[i]:=rfl;cases d with
   |true=>
    have hL:L.length<=i+1:=hL;simp only[if_true]at hQ;rw[hdr]at hQ;simp (maxSteps:=1000000) (disch:=omega)only[↓pa,↓au,pb,ah,↓reduceIte,reduceEqDiff,reduceAdd,reduceLeDiff,reduceLT,f2,f5,f6,f7,o2,h1,ar,ia hlt,hnl,ol hnl];refine bc hG (bC ec 5 cN _) (by rw[hnl]) (by omega) (by omega) (by decide) ?_;simp (maxSteps:=1000000) (disch:=omega)only[↓pa,pb,ah,ak,↓reduceIte,reduceEqDiff,f2,f3,f4,f6,f7,o2,o3,o4];have hc:L.flatMap ec++ec g.edges[i]=(L++[g.edges[i]]).flatMap ec:=by simp
    obtain⟨hE2,hap2⟩:=io (m:=L.length+1) hG hE hap;refine⟨g.edges.length- (i+1),by omega,i+1,true,L++[g.edges[i]],cS 68 tok st,rfl,by omega,by rw[hc];simp,rfl,rfl,by simp only[ae,aA,a6,ml];omega,by rw[hQ];simp,by rw[ae];exact cD hG,hE2,hap2,by rw[jx];exact hfl⟩
   |false=>
    have hL:L.length<=i:=hL;simp only[if_false,cz]at hQ;rw[hnow]at hQ;simp (maxSteps:=1000000) (disch:=omega)only[↓pa,pb,ah,↓reduceIte,reduceEqDiff,f2,f3,f6,f7,o2,o3,h1,aI,ar,m9 hlt,LS];refine af (fun h2=>?_) (fun h2=>?_)
    ·rw[am h2]at hQ;simp only[↓pa,↓au,pb,ah,↓reduceIte,reduceEqDiff,reduceAdd,reduceLeDiff,reduceLT,f3,f5,o3,h2,ar,hxl,hx3,ol hxl];refine bc hG (bC ec 5 cN _) (by rw[hxl]) (by omega) (by omega) (by decide) ?_;have hc0:L.flatMap ec++ec x=(L++[x]).flatMap ec:=by simp
     have hc:(L++[x]).flatMap ec++ec g.edges[i]=(L++[x]++[g.edges[i]]).flatMap ec:=by simp
     have hlx:(L++[x]).length=L.length+1:=by simp
     have hG2:=cD (m:=1) hG;obtain⟨hE2,hap2⟩:=io (m:=L.length+1) hG hE hap;simp (maxSteps:=1000000) (disch:=omega)only[↓pa,↓au,pb,ah,↓reduceIte,reduceEqDiff,reduceAdd,reduceLeDiff,reduceLT,f2,f7,o2,ar,ia hlt,hnl,ol hnl,hc0];rw[<-hlx]at hG2 hE2 ⊢;refine bc hG2 (bC ec 5 cN _) (by rw[hnl]) (by omega) (by omega) (by decide) ?_;have hG3:=cD (m:=1) hG2;obtain⟨hE3,hap3⟩:=io (m:=(L++[x]).length+1) hG2 hE2 hap2;simp (maxSteps:=1000000) (disch:=omega)only[↓pa,pb,ah,ak,↓reduceIte,reduceEqDiff,f2,f3,f4,f7,o2,o3,o4,hc];refine⟨g.edges.length- (i+1),by omega,i+1,true,L++[x]++[g.edges[i]],_,rfl,by omega,by simp,rfl,rfl,by simp only[ae,aA,a6,ml];omega,by rw[hQ];simp,by rw[@ae _ (L++[x])];exact hG3,hE3,hap3,by simp only[jx];exact hfl⟩
    ·rw[ai h2]at hQ;simp (maxSteps:=1000000) (disch:=omega)only[↓pa,↓au,pb,ah,↓reduceIte,reduceEqDiff,reduceAdd,reduceLeDiff,reduceLT,f2,f5,f7,o2,h2,ar,ia hlt,hnl,ol hnl];refine bc hG (bC ec 5 cN _) (by rw[hnl]) (by omega) (by omega) (by decide) ?_;simp (maxSteps:=1000000) (disch:=omega)only[↓pa,pb,ah,ak,↓reduceIte,reduceEqDiff,f2,f3,f4,f6,f7,o2,o3,o4];have hc:L.flatMap ec++ec g.edges[i]=(L++[g.edges[i]]).flatMap ec:=by simp
     obtain⟨hE2,hap2⟩:=io (m:=L.length+1) hG hE hap;refine⟨g.edges.length- (i+1),by omega,i+1,false,L++[g.edges[i]],cS 68 tok st,rfl,by omega,by rw[hc];simp,rfl,rfl,by simp only[ae,aA,a6,Bool.toNat_false];omega,by rw[hQ];simp,by rw[ae];exact cD hG,hE2,hap2,by rw[jx];exact hfl⟩
  ·have hie:g.edges.drop i=[]:=ei (by omega);rw[hie]at hQ;cases d with
   |true=>
    have hL:L.length<=i+1:=hL;simp only[if_true,aD]at hQ;simp only[↓pa,pb,ah,↓reduceIte,reduceEqDiff,reduceAdd,reduceLeDiff,gh,f2,f4,f5,f6,o2,o4,h1];have e:PV.agg [.list g.nodes.length (g.nodes.flatMap nc) t,.list L.length (L.flatMap ec) tok]=gq ⟨g.nodes,gJ x g.edges⟩ t tok:=by simp only[gq,hQ]
    rw[e];refine⟨x3,_,_,rfl,⟨lS hE,lS (by rw[hQ];exact hG)⟩,ub hE (by rw[hQ];exact hG) (gC hap) (vG hfl)⟩
   |false=>
    have hL:L.length<=i:=hL;simp only[if_false,cz,gJ]at hQ;simp only[↓pa,↓au,pb,ah,↓reduceIte,reduceEqDiff,reduceAdd,reduceLeDiff,reduceLT,f3,f5,f6,o3,h1,hxl,hx3,ol hxl];refine bc hG (bC ec 5 cN _) (by rw[hxl]) (by omega) (by omega) (by decide) ?_;have hc:L.flatMap ec++ec x=(L++[x]).flatMap ec:=by simp
    have hlx:(L++[x]).length=L.length+1:=by simp
    have hG2:=cD (m:=1) hG;obtain⟨hE2,hap2⟩:=io (m:=L.length+1) hG hE hap;simp only[↓pa,pb,ah,↓reduceIte,reduceEqDiff,reduceAdd,reduceLeDiff,gh,f2,f4,o2,o4,hc];rw[<-hlx]at hG2 hE2 ⊢;have e:PV.agg [.list g.nodes.length (g.nodes.flatMap nc) t,.list (L++[x]).length ((L++[x]).flatMap ec) (cS 68 tok st)]=gq ⟨g.nodes,gJ x g.edges⟩ t (cS 68 tok st):=by simp only[gq,hQ]
    rw[e];refine⟨x3,_,_,rfl,⟨lS hE2,lS (by rw[hQ];exact hG2)⟩,ub hE2 (by rw[hQ];exact hG2) (gC hap2) (vG ((@jx tok st (L++[x]).length).trans hfl))⟩
 obtain⟨r0,s1,r,ns,b,⟨t0,u0,h0,h1,h2⟩,hc,ht,hS⟩:=Ci (f:=64) (F:=F64) K.tab rfl rfl rfl hg hk (rest:=[.agg (ec x)]) (by simp[fR]) (lb rfl) (g.edges.length+2) hw;obtain⟨t',u',e,h3,h4⟩:=IP hS h0 h1 h2 st.nx;exact⟨t',u',ns,b,by rw[hc,e],ht,h3,h4⟩
def MU{a9z:List PV}(has:∀ p∈a9z,dq p):a9z.all (tf fun _=>true)=true:=by
 rw[cw];exact fun p hp=>BO p (has p hp).2.1
def Hx{f fl:Nat}{a9z:List PV}{r:PV}(hf:nU f=true)(has:∀ p∈a9z,dq p)(h:az cf f a9z [] st=some (r,db st fl)):db st fl=st:=by
 obtain⟨h1,-⟩:=dD has;simp only[az,eY h1,dz,cJ]at h;split at h
 ·split at h
  ·have h2:=bX St.fl (Prod.mk.inj (Option.some.inj h)).2;have h3:oo f a9z []=true:=by simp only[oo,hf,MU has,dd,jZ,ay]
   simp only[h3,lB,if_true,db]at h2;have h2:st.fl=fl:=h2;rw[<-h2];rfl
  ·cases h
 ·cases h
def qu{f:Nat}{a9z:List PV}{v:PV}(hf:nU f=true)(has:∀ p∈a9z,dq p)(h:∃ r,r=v/\∃ fl,az cf f a9z [] st=some (r,db st fl))(k:A (mk v st)):dj (az cf f a9z [] st) mk A:=by
 obtain⟨r,rfl,fl,h⟩:=h;rw[h,Hx hf has h];exact⟨_,_,rfl,k⟩
def u7{f:Nat}{a9z:List PV}{Q:PV->Prop}(hf:nU f=true)(has:∀ p∈a9z,dq p)(h:∃ r,Q r/\∃ fl,az cf f a9z [] st=some (r,db st fl))(k:∀ r,Q r->A (mk r st)):dj (az cf f a9z [] st) mk A:=by
 obtain⟨r,hQ,fl,h⟩:=h;rw[h,Hx hf has h];exact⟨_,_,rfl,k r hQ⟩
def N8{f:Nat}{F:bw}{a9z:List PV}{rs:List iG}(K:jj cf)(hT:T f=some F)(hres:F.res=rs)(hown:F.own=true)(has:∀ p∈a9z,dq p)(hnt:a9z.length<=F.nt)(N:Nat){Q:PV->St->Prop}
  (h:Wp cf N F.body (eM a9z,bV [] []) (nO rs Q)):∃ r0 s1 r ns fl,Q r0 s1/\az cf f a9z [] st=some (ren (fun k=>some (st.nx+k)) false r,db (st.more ns) fl)/\(fl=st.fl\/fl=st.nx)/\yp s1 r0 r ns:=by
 obtain⟨h1,h2⟩:=dD has;obtain⟨r0,s1,r,ns,hQ,hrun,-,hS⟩:=Im hown hres N hnt h;have hcf:=K f F hT N _ _ _ _ hrun;refine⟨r0,s1,r,ns,_,hQ,p4 h1 (by rw[h2];exact hcf),?_,hS⟩;split
 ·exact .inl rfl
 ·exact .inr rfl
def GH{ns:List Nat}{fl:Nat}(hf:fl<=st.nx):a8 (db (st.more ns) fl) (cB st.nx ns):=by
 refine⟨fun k=>qS k ns,fun q hq=>?_⟩;obtain⟨h1,h2,h3⟩:=lq hq;refine⟨by show q.1<(st.more ns).nx;rw[St.more_nx];omega,by show(st.more ns).cnt q.1=q.2;rw[St.more_new _ _ h1 h2];exact h3,by show fl<=q.1;omega⟩
def OA(K:bO cf)(g:cj)(h1:g.nodes.length<=1000000)(h2:g.edges.length<=1000000)(hn:∀ n∈g.nodes,n.labels.length<=2000000/\n.fields.length<=2000000)(he:∀ e∈g.edges,e.fields.length<=2000000):
  ∃ t' u' ns fl,az cf 112 [.agg (gc g)] [] st=some (gq g t' u',db (st.more ns) fl)/\(fl=st.fl\/fl=st.nx)/\il g t' u'/\dI g t' u'=cB st.nx ns:=by
 have hw:Wp cf (g.nodes.length+g.edges.length+2) F112.body (eM [.agg (gc g)],bV [] []) (nO F112.res fun r s=>∃ t' u',r=gq g t' u'/\il g t' u'/\a8 s (dI g t' u')):=by
  have hm1:=bC nc 3 cP g.nodes;have hm2:=bC ec 5 cN g.edges;simp only[F112,↓qU,seval];simp only[↓pa,↓au,pb,ah,seval,gc];refine a7 (fun q fr st=>∃ (i:Nat) (tok:aF),q=g.nodes.length-i/\i<=g.nodes.length/\fr 1= .ptr 1 0/\fr 2= .ptr 2 0/\fr 3= .ptr 3 0/\fr 4=I i/\st.objs 1=some [NX g.nodes,EX g.edges]/\st.objs 2=some [.list 0 [] .nil,.list 0 [] .nil]/\st.objs 3=some [.list (g.nodes.take i).length ((g.nodes.take i).flatMap nc) tok,.list 0 [] .nil]/\Gr 72 st.nx st.cnt (g.nodes.take i).length tok/\st.fl=0) g.nodes.length (by omega)
   ⟨0,.nil,by simp,by omega,by simp only[↓pa,pb,seval],by simp only[↓pa,pb,seval],by simp only[↓pa,seval],by simp only[↓pa,seval]<;>rfl,by simp only[pb,seval],by simp only[pb,seval],by simp only[pb,seval]<;>rfl,rfl,rfl⟩ ?_
  rintro q fr st ⟨i,tok,rfl,hi,f1,f2,f3,f4,o1,o2,o3,hG,hfl⟩;have hti:(g.nodes.take i).length=i:=by rw[aL];omega
  simp only[↓pa,pb,ah,ak,seval,f1,f4,o1,aI];refine af (fun k1=>?_) (fun k1=>?_)
  ·have hlt:i<g.nodes.length:=k1;have hnl:=cP g.nodes[i];have hn3:List.take 3 (nc g.nodes[i])=nc g.nodes[i]:=rfl;have hnn:=hn _ (cp hlt);have hpv:∀ p∈ [PV.agg (nc g.nodes[i])],dq p:=by simp[gF]
   simp (maxSteps:=1000000) (disch:=omega)only[↓pa,↓ax,pb,ah,ap,seval,f1,f3,f4,o1,o3,k1,aI,lR hlt];refine qu rfl hpv (Cp K g.nodes[i] hnn.1 hnn.2) ?_;simp only[↓pa,↓au,↓ax,pb,ah,ap,↓reduceIte,reduceEqDiff,reduceAdd,reduceLeDiff,reduceLT,ar,hnl,pj hnl,gG (gF g.nodes[i])];refine bc hG (bC nc 3 cP _) (by rw[hnl]) (by omega) (by omega) (by decide) ?_;have hnext:g.nodes.take (i+1)=g.nodes.take i++[g.nodes[i]]:=aV hlt;have hc:(g.nodes.take i).flatMap nc++nc g.nodes[i]=(g.nodes.take (i+1)).flatMap nc:=by rw[hnext,bA];simp only[be,jG,aD]
   have hl:(g.nodes.take i).length+1=(g.nodes.take (i+1)).length:=by rw[hnext,ae];rfl
   simp (maxSteps:=1000000) (disch:=omega)only[↓pa,↓ax,pb,ah,ap,aq,ak,ad,aa,↓reduceIte,reduceEqDiff,reduceAdd,reduceLeDiff,f1,f2,f3,f4,o1,o2,o3,aI,ar,hc,hl];refine⟨g.nodes.length- (i+1),by omega,i+1,cS 72 tok st,rfl,by omega,rfl,rfl,by rw[<-hl];exact cD hG,by rw[jx];exact hfl⟩
  have hie:g.nodes.take i=g.nodes:=aM (by omega);rw[hie]at o3 hG;simp only[↓pa,pb,seval,k1];refine a7 (fun q fr st=>∃ (i:Nat) (tok2:aF),q=g.edges.length-i/\i<=g.edges.length/\fr 1= .ptr 1 0/\fr 2= .ptr 2 0/\fr 3= .ptr 3 0/\fr 5=I i/\st.objs 1=some [NX g.nodes,EX g.edges]/\st.objs 2=some [.list 0 [] .nil,.list 0 [] .nil]/\st.objs 3=some [.list g.nodes.length (g.nodes.flatMap nc) tok,.list (g.edges.take i).length ((g.edges.take i).flatMap ec) tok2]/\Gr 68 st.nx st.cnt (g.edges.take i).length tok2/\Gr 72 st.nx st.cnt g.nodes.length tok/\jr tok2 tok/\st.fl=0) g.edges.length (by omega)
   ⟨0,.nil,by simp,by omega,by simp only[↓pa,seval,f1],by simp only[↓pa,seval,f2],by simp only[↓pa,seval,f3],by simp only[↓pa,seval]<;>rfl,by simp only[seval,o1],by simp only[seval,o2],by simp only[seval,o3]<;>rfl,rfl,hG,by cases tok<;>trivial,hfl⟩ ?_
  clear f1 f2 f3 f4 o1 o2 o3 hG hfl;rintro q fr st ⟨i,tok2,rfl,hi,f1,f2,f3,f5,o1,o2,o3,hG,hG1,hap,hfl⟩;have hti:(g.edges.take i).length=i:=by rw[aL];omega
  simp only[↓pa,pb,ah,ak,seval,f1,f5,o1,ar];refine af (fun k1=>?_) (fun k1=>?_)
  ·have hlt:i<g.edges.length:=k1;have hnl:=cN g.edges[i];have hn3:List.take 5 (ec g.edges[i])=ec g.edges[i]:=rfl;have hnn:=he _ (cp hlt);have hpv:∀ p∈ [PV.agg (ec g.edges[i])],dq p:=by simp[fR]
   simp (maxSteps:=1000000) (disch:=omega)only[↓pa,↓ax,pb,ah,ap,seval,f1,f3,f5,o1,o3,k1,ar,ia hlt];refine qu rfl hpv (Cq K g.edges[i] hnn) ?_;simp only[↓pa,↓au,↓ax,pb,ah,ap,↓reduceIte,reduceEqDiff,reduceAdd,reduceLeDiff,reduceLT,ar,hnl,ol hnl,gG (fR g.edges[i])];refine bc hG (bC ec 5 cN _) (by rw[hnl]) (by omega) (by omega) (by decide) ?_;have hnext:g.edges.take (i+1)=g.edges.take i++[g.edges[i]]:=aV hlt;have hc:(g.edges.take i).flatMap ec++ec g.edges[i]=(g.edges.take (i+1)).flatMap ec:=by rw[hnext,bA];simp only[be,jG,aD]
   have hl:(g.edges.take i).length+1=(g.edges.take (i+1)).length:=by rw[hnext,ae];rfl
   obtain⟨hG2,hap2⟩:=io (m:=(g.edges.take i).length+1) hG hG1 hap;simp (maxSteps:=1000000) (disch:=omega)only[↓pa,↓ax,pb,ah,ap,aq,ak,ad,aa,↓reduceIte,reduceEqDiff,reduceAdd,reduceLeDiff,f1,f2,f3,f5,o1,o2,o3,ar,hc,hl];rw[hl]at hG2;refine⟨g.edges.length- (i+1),by omega,i+1,cS 68 tok2 st,rfl,by omega,rfl,rfl,by rw[<-hl];exact cD hG,hG2,hap2,by rw[jx];exact hfl⟩
  ·have hie:g.edges.take i=g.edges:=aM (by omega);rw[hie]at o3 hG;simp only[↓pa,pb,ah,seval,gh,f2,f3,o2,o3,k1,ar];exact⟨x3,tok,tok2,rfl,⟨lS hG1,lS hG⟩,ub hG1 hG (gC hap) (vG hfl)⟩
 obtain⟨r0,s1,r,ns,fl,⟨t0,u0,h0,h1,h2⟩,hc,hfl,hS⟩:=N8 (st:=st) (f:=112) (F:=F112) K.tab rfl rfl rfl (a9z:=[.agg (gc g)]) (by simp[dE]) (lb rfl) (g.nodes.length+g.edges.length+2) hw;obtain⟨t',u',e,h3,h4⟩:=IP hS h0 h1 h2 st.nx;exact⟨t',u',ns,fl,by rw[hc,e],hfl,h3,h4⟩
def cC{c:Ch}:bL (cc c) 0 1 false=some (I c.kind)/\bL (cc c) 1 3 true=some (.agg (nc c.node))/\bL (cc c) 1 1 false=some (I c.node.id)/\bL (cc c) 2 1 false=some (TX c.node.labels)/\bL (cc c) 4 5 true=some (.agg (ec c.edge))/\bL (cc c) 4 1 false=some (I c.edge.id)/\
  bL (cc c) 6 1 false=some (I c.edge.src)/\bL (cc c) 7 1 false=some (I c.edge.dst)/\bL (cc c) 9 1 false=some (S c.value)/\bL (cc c) 10 1 false=some (S c.name)/\bL (cc c) 11 1 false=some (S c.text)/\bL (cc c) 0 12 true=some (.agg (cc c)):=
 ⟨rfl,rfl,rfl,rfl,rfl,rfl,rfl,rfl,rfl,rfl,rfl,rfl⟩
def oG{v:V}:bL v.cb 0 1 false=some (I v.kind):=by cases v;rfl
def xH{v:V}:bL v.ca 0 1 false=some (I v.kind):=by cases v;rfl
def CW{v:V}:bL v.cb 1 1 false=some (I v.num):=by cases v;rfl
def CY{v:V}:bL v.ca 1 1 false=some (I v.num):=by cases v;rfl
def Ow(K:bO cf)(c:Ch):az cf 155 [.agg (cc c)] [] st=some (.bool (kw c),st):=by
 refine df K.tab (F:=F155) (t:=2) rfl rfl rfl (lb rfl) (by simp[gd,gz]) (ct _) 1 ?_;have hcl:(cc c).length=12:=rfl;simp only[F155,↓qU,seval];unfold kw;simp only[↓pa,pb,ah,seval,cC,hcl,ar];refine af (fun k1=>?_) (fun k1=>?_)
 ·rw[am k1];simp only[↓pa,pb,ah,seval,cC,Dy K]
 rw[ai k1];simp only[↓pa,pb,seval];refine af (fun k2=>?_) (fun k2=>?_)
 ·rw[am k2];simp only[↓pa,pb,ah,seval,cC,qV K.tab]
 rw[ai k2];simp only[↓pa,pb,seval];refine af (fun k3=>?_) (fun k3=>?_)
 ·rw[am k3];simp only[↓pa,pb,ah,seval,cC,DD K]
 rw[ai k3];simp only[↓pa,pb,seval];refine af (fun k4=>?_) (fun k4=>?_)
 ·rw[am k4];simp only[↓pa,pb,ah,seval,cC,qV K.tab]
 rw[ai k4];simp only[↓pa,pb,seval];refine af (fun k5=>?_) (fun k5=>?_)
 ·rw[am k5];cases h1:lk c.node.id
  ·simp only[↓pa,pb,ah,seval,cC,qV K.tab,h1]
  ·simp only[↓pa,pb,ah,seval,cC,qV K.tab,DA K.tab,h1]
 rw[ai k5];simp only[↓pa,pb,seval];refine af (fun k6=>?_) (fun k6=>?_)
 ·rw[am k6];simp only[↓pa,pb,ah,seval,cC];refine u7 rfl (by simp[bR]) (Cn K) (fun r hr=>?_);unfold vd at hr;cases hp:fV c.value with
  |none=>
   rw[hp]at hr;subst hr;simp only[↓pa,pb,ah,seval,fZ]
  |some v=>
   rw[hp]at hr;subst hr;simp only[↓pa,pb,seval,oG];refine af (fun h8=>?_) (fun h8=>?_)
   ·have e8:(decide (v.kind=8)||decide (v.kind=9))=true:=by simp[h8]
    simp only[↓pa,pb,ah,seval,cC,h8];cases hn:dW c.name
    ·simp only[↓pa,pb,seval,pB K.tab,hn]
    simp only[↓pa,pb,ah,seval,cC,pB K.tab,hn];refine af (fun hx=>?_) (fun hx=>?_)
    ·have hx':decide (c.text=fX)=true:=decide_eq_true hx;simp only[↓pa,pb,seval,hx];rfl
    ·have hx':decide (c.text=fX)=false:=decide_eq_false hx;simp only[↓pa,pb,ah,seval,cC,hx,hx',qa K]
   ·simp only[↓pa,pb,seval,h8];refine af (fun h9=>?_) (fun h9=>?_)
    ·have e8:(decide (v.kind=8)||decide (v.kind=9))=true:=by simp[h9]
     simp only[↓pa,pb,ah,seval,cC,h9];cases hn:dW c.name
     ·simp only[↓pa,pb,seval,pB K.tab,hn]
     simp only[↓pa,pb,ah,seval,cC,pB K.tab,hn];refine af (fun hx=>?_) (fun hx=>?_)
     ·have hx':decide (c.text=fX)=true:=decide_eq_true hx;simp only[↓pa,pb,seval,hx];rfl
     ·have hx':decide (c.text=fX)=false:=decide_eq_false hx;simp only[↓pa,pb,ah,seval,cC,hx,hx',qa K]
    ·have e8:(decide (v.kind=8)||decide (v.kind=9))=false:=by simp[h8,h9]
     simp only[↓pa,pb,seval,h9]
 ·rw[ai k6];simp only[↓pa,pb,seval]
def vO{f:Nat}{g:cj}{t u:aF}{rest:List PV}(hr:∀ p∈rest,dq p)(hf:nU f=false:=by rfl):az cf f (.agg [.list g.nodes.length (g.nodes.flatMap nc) t,.list g.edges.length (g.edges.flatMap ec) u]::rest) [] st=az cf f (.agg (gc g)::rest) [] st:=by
 obtain⟨q1,q2⟩:=dD hr;have hs:(PV.agg [.list g.nodes.length (g.nodes.flatMap nc) t,.list g.edges.length (g.edges.flatMap ec) u]::rest).map aO= .agg (gc g)::rest:=by
  rw[bg,q2];have:=wx g t u;unfold gq at this;rw[this]
 obtain⟨q3,q4⟩:=dD (ps:= .agg (gc g)::rest) (by
  intro p hp;rcases aZ.1 hp with rfl|hp
  ·exact dE g
  ·exact hr p hp)
 have hn:=Bl g t u;unfold gq at hn;rw[kR (by rw[cT,q1,bv];simp only[bF,hn,ay]) (by rw[hs];exact q3) (by rw[hs];exact q4) hf,hs]
def wW{K E n off:Nat}{cs:List PV}{v:PV}(hn:0<n)(hoff:off+1<=cs.length)(hk:st.cnt K=n)(hx:K<st.nx)(hf:st.fl<=K)(hc:cZ cs)(hv:dq v)(k:A (mk .hole (FO (ir cs off K E n [v]) st))):
  dj (xq 1 (.iptr cs off (.el K E n)) (some [v]) st) mk A:=
 ⟨_,_,BR rfl hoff hn hk hx hf (oz hc) (oz (bQ hv eC)),k⟩
def qo{α:Type}(enc:α->List PV)(m:Nat)(henc:∀ a,(enc a).length=m){off:Nat}(ho:off<m){v:PV}:∀ {l:List α} {i:Nat} {b:α} (hi:i<l.length),(enc l[i]).set off v=enc b->(l.flatMap enc).set (i*m+off) v=(l.set i b).flatMap enc
 |a::l,0,b,_,h=>by
  have h:(enc a).set off v=enc b:=h;rw[be,Nat.zero_mul,ar,List.set_append_left _ _ (by rw[henc];exact ho),h,List.set_cons_zero,be]
 |a::l,i+1,b,hi,h=>by
  have ih:=qo enc m henc ho (l:=l) (i:=i) (b:=b) (by simpa using hi) (by simpa using h);rw[be,List.set_append_right _ _ (by rw[henc,fM];omega),henc,show(i+1) *m+off-m=i*m+off by rw[fM];omega,ih,List.set_cons_succ,be]
def FN{K E n off m:Nat}{cs vs ds:List PV}{t:aF}(hd:cZ ds)(ha:∀ k e,t= .own k e->k≠K)(hs:∀ k,t≠ .sub k)(hl:∀ k e n,t≠ .el k e n):gn (ir cs off K E n vs) (.list m ds t)= .list m ds t:=by
 refine yS _ (by simp[ir]) _ ?_;have h:=oz (J:=[K]) hd;simp only[tf,ir,aj];refine⟨?_,h⟩;cases t with
 |own k e=>have:=ha k e rfl;simp[aF.free,aF.of,this]
 |sub k=>exact absurd rfl (hs k)
 |el k e n=>exact absurd rfl (hl k e n)
 |_=>rfl
def K6{g:cj}{K E n off:Nat}{cs vs:List PV}{t:aF}(hg:wg 72 g.nodes.length t)(ha:jr t (.own K E)):gn (ir cs off K E n vs) (.list g.nodes.length (g.nodes.flatMap nc) t)= .list g.nodes.length (g.nodes.flatMap nc) t:=
 FN (mo g) (by rintro k e rfl;exact ha) (by rintro k rfl;exact hg) (by rintro k e n rfl;exact hg)
def DJ{g:cj}{K E n off:Nat}{cs vs:List PV}{t:aF}(hg:wg 68 g.edges.length t)(ha:jr t (.own K E)):gn (ir cs off K E n vs) (.list g.edges.length (g.edges.flatMap ec) t)= .list g.edges.length (g.edges.flatMap ec) t:=
 FN (nG g) (by rintro k e rfl;exact ha) (by rintro k rfl;exact hg) (by rintro k e n rfl;exact hg)
def zN{e n:Nat}{t:aF}(h:wg e n t)(hn:0<n):∃ k,t= .own k e:=by
 cases t with
 |own k e'=>have h:e'=e:=h;exact⟨k,by rw[h]⟩
 |nil=>have h:n=0:=h;omega
 |full e'=>have h:=h.2;omega
 |no=>exact h.elim
 |sub k=>exact h.elim
 |el k e n=>exact h.elim
def Ed(x:cj×Int)(nx:Nat)(ns:List Nat)(r:PV):Prop:=∃ q,r= .tup [q,I x.2]/\aO q= .agg (gc x.1)/\np q=true/\(x.2=0->∃ t u,q=gq x.1 t u/\il x.1 t u/\dI x.1 t u=cB nx ns)
def BJ(x:cj×Int)(r:PV)(st:St):Prop:=∃ q,r= .tup [q,I x.2]/\aO q= .agg (gc x.1)/\(x.2=0->∃ t u,q=gq x.1 t u/\il x.1 t u/\a8 st (dI x.1 t u))
def M9{x:cj×Int}{t u:aF}(hg:il x.1 t u)(hk:a8 st (dI x.1 t u)):BJ x (.tup [gq x.1 t u,I x.2]) st:=⟨_,rfl,wx _ _ _,fun _=>⟨t,u,rfl,hg,hk⟩⟩
def QI{x:cj×Int}{s1:St}{r0 r:PV}{ns:List Nat}(hS:yp s1 r0 r ns)(h0:BJ x r0 s1)(hn:np r0=true)(n:Nat):Ed x n ns (ren (fun k=>some (n+k)) false r):=by
 obtain⟨q,rfl,hq,hown⟩:=h0;have h1:aO (ren (fun k=>some (n+k)) false r)= .tup [.agg (gc x.1),I x.2]:=by
  rw[ij,hS.st];simp only[aH,hq]
 have h2:np (ren (fun k=>some (n+k)) false r)=true:=by simp only[PM.np,gT];exact hS.np.trans hn
 by_cases h0:x.2=0
 ·obtain⟨t,u,rfl,hg,hk⟩:=hown h0;have ht:aB (.tup [gq x.1 t u,I x.2])=dI x.1 t u:=by
   show aw [_,_]=_;rw[aw,aw,aw,pp];simp[aB]
  obtain⟨f,rfl,hf,-,htk⟩:=hS.ok (by rw[ht];exact hk);rw[ht]at hf;have e2:=BW (f:=f) (n:=n) htk;have e1:∀ h:Nat->Option Nat,∀ t u,ren h false (.tup [gq x.1 t u,I x.2])= .tup [gq x.1 (t.ren h false) (u.ren h false),I x.2]:=fun h t u=>by
   simp only[ren,bm,xZ]
  have ht2:∀ t u,aB (.tup [gq x.1 t u,I x.2])=dI x.1 t u:=fun t u=>by
   show aw [_,_]=_;rw[aw,aw,aw,pp];simp[aB]
  rw[e1,e1,ht2]at e2;rw[e1,e1];exact⟨_,rfl,wx _ _ _,Bl _ _ _,fun _=>⟨_,_,rfl,tV (tV hg hf) fun _ _=>rfl,e2⟩⟩
 ·generalize ren (fun k=>some (n+k)) false r=r' at h1 h2 ⊢;obtain⟨q',c,rfl⟩:∃ q' c,r'= .tup [q',c]:=by
   cases r' with
   |tup cs=>
    match cs,h1 with
    | [a,b],_=>exact⟨a,b,rfl⟩
    | [],h=>simp[aO,ren,bm]at h
    | [_],h=>simp[aO,ren,bm]at h
    |_::_::_::_,h=>simp[aO,ren,bm]at h
   |_=>simp[aO,ren]at h1
  have h3:aO q'= .agg (gc x.1)/\aO c=I x.2:=by simpa [aO,ren,bm]using h1
  have hc:c=I x.2:=by cases c<;>simp_all [aO,ren]
  subst hc;refine⟨q',rfl,h3.1,?_,fun h=>absurd h h0⟩;simp only[np,off,dS,bv]at h2 ⊢;exact h2
def bG{sz s off:Nat}{vs:Option (List PV)}{st:St}:xq sz (.ptr s off) vs st=BS sz s off vs (st.objs s) st:=by
 cases vs<;>simp only[xq,BS]
 cases st.objs s<;>rfl
def BX:(∀ {u:kS},i7 u []=[])/\(∀ {u:kS} {p:PV} {ps:List PV},i7 u (p::ps)=gn u p::i7 u ps):=⟨rfl,rfl⟩
def E8{g:cj}{t u:aF}{n:Int}:ft [gq g t u,I n]=true:=by
 have:=Bl g t u;simp only[ft,this,bv,cH];rfl
def Fu{f:Nat}{F:bw}{g:cj}{t u:aF}{rest:List PV}{x:cj×Int}{rs:List iG}(K:jj cf)(hT:T f=some F)(hres:F.res=rs)(hown:F.own=true)(hg:il g t u)(hk:a8 st (dI g t u))(hr:∀ p∈rest,dq p)(hnt:rest.length+1<=F.nt)(N:Nat)
  (h:∀ t0 u0 ns,il g t0 u0->dI g t0 u0=cB 0 ns->Wp cf N F.body (eM (gq g t0 u0::rest),bV ns []) (nO rs fun p s=>np p=true/\BJ x p s)):
  ∃ r ns b,az cf f (gq g t u::rest) [0] st=some (r,pH ((dI g t u).map (·.1)) ns b st)/\dn (gq g t u::rest) [0] st=(dI g t u).map (·.1)/\Ed x st.nx ns r:=by
 obtain⟨r0,s1,r,ns,b,⟨hn,h0⟩,hc,ht,hS⟩:=Ci K hT hres hown hg hk hr hnt N h;exact⟨_,ns,b,hc,ht,QI hS h0 hn st.nx⟩
def iP{x:cj×Int}{t u:aF}(hg:il x.1 t u)(hk:a8 st (dI x.1 t u)):ft [gq x.1 t u,I x.2]=true/\np (.tup [gq x.1 t u,I x.2])=true/\BJ x (.tup [gq x.1 t u,I x.2]) st:=by
 have h:= @E8 x.1 t u x.2;exact⟨h,tY h,M9 hg hk⟩
def Og(K:bO cf)(g:cj)(c:Ch)(v:V)(hv:fV c.value=some v){t u:aF}(hg:il g t u)(hk:a8 st (dI g t u))(ho:mW g):
  ∃ r ns b,az cf 156 [gq g t u,.agg (cc c)] [0] st=some (r,pH ((dI g t u).map (·.1)) ns b st)/\dn [gq g t u,.agg (cc c)] [0] st=(dI g t u).map (·.1)/\Ed (jK wS g c) st.nx ns r:=by
 refine Fu (f:=156) (F:=F156) K.tab rfl rfl rfl hg hk (by simp[gd,gz]) (lb rfl) 1 ?_;clear hg hk;intro t u ns hg hns;have hk:a8 (bV ns []) (dI g t u):=by rw[hns];exact oX ns
 obtain⟨hG1,hG2,hap⟩:=rV hk hg;have hcl:(cc c).length=12:=rfl;have hm1:=bC nc 3 cP g.nodes;have hm2:=bC ec 5 cN g.edges;have hvl:=v.cb_len;have hp6:∀ {a b c d e f:PV},bS [a,b,c,d,e,f] 0 v.cb=v.cb:=jm (by rw[hvl];rfl);have hN:∀ st id,az cf 83 [.agg [.list g.nodes.length (g.nodes.flatMap nc) t,.list g.edges.length (g.edges.flatMap ec) u],I id] [] st=some (I (cU g.nodes id),st):=fun st id=>(vO (by simp[bh])).trans (sN K g id (by have:=ho.nl;omega));have hE:∀ st id,az cf 99 [.agg [.list g.nodes.length (g.nodes.flatMap nc) t,.list g.edges.length (g.edges.flatMap ec) u],I id] [] st=some (I (eJ g.edges id),st):=fun st id=>(vO (by simp[bh])).trans (uZ K g id (by have:=ho.el;omega));simp only[F156,↓qU,seval];unfold gq jK;rw[hv];simp only[↓pa,pb,ah,seval,cC,hcl,ar];refine u7 rfl (by simp[bR]) (Cn K) (fun r hr=>?_);unfold vd at hr;rw[hv]at hr;subst hr;simp only[↓pa,pb,ah,seval,bK,bG,eB,hp6,ar,oG,CW,hN];refine af (fun h9=>?_) (fun h9=>?_)
 ·simp only[am h9];unfold ux;simp only[↓pa,pb,ah,seval,h9,ar,CW,hE];refine af (fun h0=>?_) (fun h0=>?_)
  ·rw[dif_pos h0];simp only[↓pa,pb,ah,seval,bK,bG,gh,h0];exact iP (x:=(g,5)) hg hk
  ·rw[dif_neg h0];have hlt:= @oO g.edges v.num;obtain⟨j,hj⟩:∃ j:Nat,eJ g.edges v.num=j:=⟨_,(eK (by omega)).symm⟩;rw[hj]at h0 hlt ⊢;have hlt:j<g.edges.length:=by omega
   have hfo:=(ho.es _ (cp hlt));obtain⟨k,rfl⟩:=zN hg.2 (by omega);simp only[eQ,oP hlt,show wS.put=iX from rfl];simp (maxSteps:=1000000) (disch:=omega)only[↓pa,↓au,pb,ah,seval,bK,h9,h0,cC,ar,oG,uF hlt,cG,da];refine qu rfl (by simp[eL,bR]) (KS K _ _ _ (Bp hfo.2) (by omega)) ?_;simp only[↓pa,pb,seval];refine af (fun hln=>?_) (fun hln=>?_)
   ·have hln':20<(iX g.edges[j].fields c.name c.text).length:=by omega
    rw[am hln'];simp only[↓pa,pb,ah,seval,bK,bG,gh,hln];exact iP (x:=(g,4)) hg hk
   ·have hln':¬20<(iX g.edges[j].fields c.name c.text).length:=by omega
    rw[ai hln'];simp (maxSteps:=1000000) (disch:=omega)only[↓pa,pb,ah,seval,bK,h9,ar,oG];have hset:bS (g.edges.flatMap ec) (j*5+4) [FX (iX g.edges[j].fields c.name c.text)]=(g.edges.set j {g.edges[j]with fields:=iX g.edges[j].fields c.name c.text}).flatMap ec:=qo ec 5 cN (by decide) hlt rfl;have hbE:=fun vs off cs=> @K6 g k 68 g.edges.length off cs vs t hg.1 hap;have hK:=hk.2 (k,g.edges.length) (by simp[dI,pG]);refine wW (by omega) (by omega) hK.2.1 hK.1 hK.2.2 (nG g) (eL _) ?_;simp only[↓pa,pb,ah,seval,bK,bG,gh,BX,BB,hset,hbE,ar];have e:PV.agg [.list g.nodes.length (g.nodes.flatMap nc) t,.list g.edges.length ((g.edges.set j {g.edges[j]with fields:=iX g.edges[j].fields c.name c.text}).flatMap ec) (.own k 68)]=gq ⟨g.nodes,g.edges.set j {g.edges[j]with fields:=iX g.edges[j].fields c.name c.text}⟩ t (.own k 68):=by simp only[gq,iN]
    rw[e];exact iP (x:=(⟨g.nodes,g.edges.set j {g.edges[j]with fields:=iX g.edges[j].fields c.name c.text}⟩,0)) ⟨hg.1,rfl⟩ (by unfold dI at hk ⊢;rw[iN];exact hk)
 ·simp only[ai h9];unfold uw;simp only[↓pa,pb,seval,h9];refine af (fun h0=>?_) (fun h0=>?_)
  ·rw[dif_pos h0];simp only[↓pa,pb,ah,seval,bK,bG,gh,h0];exact iP (x:=(g,5)) hg hk
  ·rw[dif_neg h0];have hlt:= @jS g.nodes v.num;obtain⟨j,hj⟩:∃ j:Nat,cU g.nodes v.num=j:=⟨_,(eK (by omega)).symm⟩;rw[hj]at h0 hlt ⊢;have hlt:j<g.nodes.length:=by omega
   have hfo:=(ho.ns _ (cp hlt)).2;obtain⟨k,rfl⟩:=zN hg.1 (by omega);simp only[eQ,l9 hlt,show wS.put=iX from rfl];simp (maxSteps:=1000000) (disch:=omega)only[↓pa,↓au,pb,ah,seval,bK,h9,h0,cC,ar,oG,oH hlt,cG,da];refine qu rfl (by simp[eL,bR]) (KS K _ _ _ (Bp hfo.2) (by omega)) ?_;simp only[↓pa,pb,seval];refine af (fun hln=>?_) (fun hln=>?_)
   ·have hln':20<(iX g.nodes[j].fields c.name c.text).length:=by omega
    rw[am hln'];simp only[↓pa,pb,ah,seval,bK,bG,gh,hln];exact iP (x:=(g,4)) hg hk
   ·have hln':¬20<(iX g.nodes[j].fields c.name c.text).length:=by omega
    rw[ai hln'];simp (maxSteps:=1000000) (disch:=omega)only[↓pa,pb,ah,seval,bK,h9,ar,oG];have hset:bS (g.nodes.flatMap nc) (j*3+2) [FX (iX g.nodes[j].fields c.name c.text)]=(g.nodes.set j {g.nodes[j]with fields:=iX g.nodes[j].fields c.name c.text}).flatMap nc:=qo nc 3 cP (by decide) hlt rfl;have hbE:=fun vs off cs=> @DJ g k 72 g.nodes.length off cs vs u hg.2 (gC hap);have hK:=hk.2 (k,g.nodes.length) (by simp[dI,pG]);refine wW (by omega) (by omega) hK.2.1 hK.1 hK.2.2 (mo g) (eL _) ?_;simp only[↓pa,pb,ah,seval,bK,bG,gh,BX,BB,hset,hbE,ar];have e:PV.agg [.list g.nodes.length ((g.nodes.set j {g.nodes[j]with fields:=iX g.nodes[j].fields c.name c.text}).flatMap nc) (.own k 72),.list g.edges.length (g.edges.flatMap ec) u]=gq ⟨g.nodes.set j {g.nodes[j]with fields:=iX g.nodes[j].fields c.name c.text},g.edges⟩ (.own k 72) u:=by simp only[gq,iN]
    rw[e];exact iP (x:=(⟨g.nodes.set j {g.nodes[j]with fields:=iX g.nodes[j].fields c.name c.text},g.edges⟩,0)) ⟨rfl,hg.2⟩ (by unfold dI at hk ⊢;rw[iN];exact hk)
def uU(b:Bool)(e:Eg):Int:=if b then e.src else e.dst
def lM(b:Bool)(l:List Eg)(id:Int):List Int:=(l.filter fun e=>decide (uU b e=id)).map Eg.id
def OF{l:List Eg}{i:Nat}(h:i<l.length)(b:Bool)(id:Int):lM b (l.take (i+1)) id=if uU b l[i]=id then lM b (l.take i) id++[l[i].id]else lM b (l.take i) id:=by
 unfold lM;rw[aV h,pe,cn];by_cases hd:uU b l[i]=id<;>simp[hd]
def P0(l:List Eg)(b:Bool)(id:Int):(lM b l id).length<=l.length:=by
 unfold lM;rw[bJ];exact List.length_filter_le _ _
def H0{l:List Eg}{b:Bool}{id:Int}:lM b l id=[]↔∀ e∈l,uU b e≠id:=by
 unfold lM;rw[List.map_eq_nil_iff,List.filter_eq_nil_iff];simp
def P7{l:List Eg}{id:Int}:(l.any fun e=>decide (e.src=id)||decide (e.dst=id))=(decide (0<(lM true l id).length)||decide (0<(lM false l id).length)):=by
 rw[oy,List.any_eq_true,cY,decide_eq_true_eq,decide_eq_true_eq,List.length_pos_iff,List.length_pos_iff,al,al,H0,H0];constructor
 ·rintro⟨e,he,h⟩;rcases cY _ _▸h with h|h
  ·exact .inl fun hn=>hn e he (by simpa [uU]using h)
  ·exact .inr fun hn=>hn e he (by simpa [uU]using h)
 ·intro h;rcases h with h|h
  ·simp only[Classical.not_forall,al,Decidable.not_not]at h;obtain⟨e,he,h⟩:=h;exact⟨e,he,by simpa [uU]using .inl h⟩
  ·simp only[Classical.not_forall,al,Decidable.not_not]at h;obtain⟨e,he,h⟩:=h;exact⟨e,he,by simpa [uU]using .inr h⟩
def KG(K:bO cf)(g:cj)(b:Bool)(id:Int)(hl:g.edges.length<=2000000):cf 43 [.agg (gc g),I id,.bool b] [] []=some (IX (lM b g.edges id),[],[]):=by
 refine K.tab 43 F43 rfl (g.edges.length+1) _ _ _ _ (GV rfl rfl (lb rfl) _ ?_);have hm:=bC ec 5 cN g.edges;simp only[F43,↓qU,reduceAdd,reduceSub];simp only[↓pa,↓au,pb,ah,↓reduceIte,reduceAdd,reduceLT,gc,cG,da];refine a7 (fun k fr st=>∃ (i:Nat) (tok:aF),k=g.edges.length-i/\i<=g.edges.length/\fr 1=I id/\fr 2= .bool b/\fr 3= .ptr 3 0/\st.objs 3=some [NX g.nodes,EX g.edges]/\fr 8=I i/\fr 7= .list (lM b (g.edges.take i) id).length ((lM b (g.edges.take i) id).map I) tok/\Gr 2 st.nx st.cnt (lM b (g.edges.take i) id).length tok) g.edges.length (by omega)
  ⟨0,.full 2,by simp,by omega,by simp only[↓pa,pb,↓reduceIte,reduceEqDiff],by simp only[↓pa,pb,↓reduceIte,reduceEqDiff],by simp only[↓pa,↓reduceIte,reduceEqDiff],by simp only[pb,↓reduceIte],by simp only[↓pa,↓reduceIte];rfl,by simp only[↓pa,↓reduceIte,reduceEqDiff];rfl,gV⟩ ?_
 rintro k fr st ⟨i,tok,rfl,hi,f1,f2,f3,o3,f8,f7,hG⟩;simp only[↓pa,pb,ah,ak,↓reduceIte,reduceEqDiff,reduceAdd,f3,o3,f8];refine af (fun h1=>?_) (fun h1=>?_);rotate_left
 ·have hii:i=g.edges.length:=by omega
  have ht:g.edges.take i=g.edges:=aM (by omega);rw[ht]at f7;have hpl:=Bf (lM b g.edges id);simp only[↓pa,pb,aH,↓reduceIte,reduceEqDiff,f7,h1,hpl.1,hpl.2.1]
 have hlt:i<g.edges.length:=h1;have hn:=OF hlt b id;have hle:=P0 (g.edges.take i) b id;have hle2:(g.edges.take i).length<=g.edges.length:=by rw[aL];omega
 cases b with
 |false=>
  simp (maxSteps:=1000000) (disch:=omega)only[↓pa,pb,ah,↓reduceIte,reduceEqDiff,reduceAdd,f1,f2,f3,o3,f8,h1,rh hlt];refine af (fun h2=>?_) (fun h2=>?_)
  ·
   rw[am (by exact h2)]at hn;simp (maxSteps:=1000000) (disch:=omega)only[↓pa,↓au,pb,ah,↓reduceIte,reduceEqDiff,reduceAdd,reduceLeDiff,reduceLT,f3,o3,f8,f7,h2,aI,m9 hlt];refine bc hG (by rw[bJ,eh]) rfl (by omega) (by omega) (by decide) ?_;simp (maxSteps:=1000000) (disch:=omega)only[↓pa,pb,ah,ak,↓reduceIte,reduceEqDiff,f1,f2,f3,o3,f8];refine⟨g.edges.length- (i+1),by omega,i+1,cS 2 tok st,rfl,by omega,rfl,?_,?_⟩
   ·rw[hn,ae,cn];rfl
   ·rw[hn,ae];exact cD hG
  ·
   rw[ai (by exact h2)]at hn;simp (maxSteps:=1000000) (disch:=omega)only[↓pa,pb,ak,↓reduceIte,reduceEqDiff,f1,f2,f3,o3,f8,f7,h2];refine⟨g.edges.length- (i+1),by omega,i+1,tok,rfl,by omega,rfl,?_,?_⟩
   ·rw[hn]
   ·rw[hn];exact hG
 |true=>
  simp (maxSteps:=1000000) (disch:=omega)only[↓pa,pb,ah,↓reduceIte,reduceEqDiff,reduceAdd,f1,f2,f3,o3,f8,h1,nw hlt];refine af (fun h2=>?_) (fun h2=>?_)
  ·
   rw[am (by exact h2)]at hn;simp (maxSteps:=1000000) (disch:=omega)only[↓pa,↓au,pb,ah,↓reduceIte,reduceEqDiff,reduceAdd,reduceLeDiff,reduceLT,f3,o3,f8,f7,h2,aI,m9 hlt];refine bc hG (by rw[bJ,eh]) rfl (by omega) (by omega) (by decide) ?_;simp (maxSteps:=1000000) (disch:=omega)only[↓pa,pb,ah,ak,↓reduceIte,reduceEqDiff,f1,f2,f3,o3,f8];refine⟨g.edges.length- (i+1),by omega,i+1,cS 2 tok st,rfl,by omega,rfl,?_,?_⟩
   ·rw[hn,ae,cn];rfl
   ·rw[hn,ae];exact cD hG
  ·
   rw[ai (by exact h2)]at hn;simp (maxSteps:=1000000) (disch:=omega)only[↓pa,pb,ak,↓reduceIte,reduceEqDiff,f1,f2,f3,o3,f8,f7,h2];refine⟨g.edges.length- (i+1),by omega,i+1,tok,rfl,by omega,rfl,?_,?_⟩
   ·rw[hn]
   ·rw[hn];exact hG
def K4(K:bO cf)(g:cj)(b:Bool)(id:Int)(hl:g.edges.length<=2000000){t u:aF}:∃ fl,az cf 43 [.agg [.list g.nodes.length (g.nodes.flatMap nc) t,.list g.edges.length (g.edges.flatMap ec) u],I id,.bool b] [] st=some (IX (lM b g.edges id),db st fl)/\(lM b g.edges id=[]->fl=st.fl):=by
 rw[vO (by simp[bh,vn])];obtain⟨q1,q2⟩:=dD (ps:=[PV.agg (gc g),I id,PV.bool b]) (by simp[dE,bh,vn]);rw[p4 q1 (by rw[q2];exact KG K g b id hl)];refine⟨_,bX some (Prod.ext ?_ rfl),fun h=>?_⟩
 ·have:=Bf (lM b g.edges id);simp only[IX,ren,BV this];rfl
 ·rw[h];rfl
def wV{l:List (Nat×Nat)}(hk:a8 st l):∀ k∈l.map (·.1),k<st.nx:=by
 intro k h;obtain⟨q,hq,rfl⟩:=cX.1 h;exact(hk.2 q hq).1
def GI(K:bO cf){g:cj}{x:Nd}{t u:aF}(hg:il g t u)(hk:a8 st (dI g t u))(hf:st.fl<=st.nx)(hl:g.nodes.length<=1000000)
  (k:∀ t' u' ns b,dn [.agg [.list g.nodes.length (g.nodes.flatMap nc) t,.list g.edges.length (g.edges.flatMap ec) u],.agg (nc x)] [0] st=(dI g t u).map (·.1)->il ⟨i6 x g.nodes,g.edges⟩ t' u'->a8 (pH ((dI g t u).map (·.1)) ns b st) (dI ⟨i6 x g.nodes,g.edges⟩ t' u')->A (mk (gq ⟨i6 x g.nodes,g.edges⟩ t' u') (pH ((dI g t u).map (·.1)) ns b st))):
  dj (az cf 63 [.agg [.list g.nodes.length (g.nodes.flatMap nc) t,.list g.edges.length (g.edges.flatMap ec) u],.agg (nc x)] [0] st) mk A:=by
 obtain⟨t',u',ns,b,hc,ht,h1,h2⟩:=Pw K g x hg hk hl;exact⟨_,_,hc,k t' u' ns b ht h1 (by rw[h2];exact u6 hf (wV hk))⟩
def GJ(K:bO cf){g:cj}{x:Eg}{t u:aF}(hg:il g t u)(hk:a8 st (dI g t u))(hf:st.fl<=st.nx)(hl:g.edges.length<=1000000)
  (k:∀ t' u' ns b,dn [.agg [.list g.nodes.length (g.nodes.flatMap nc) t,.list g.edges.length (g.edges.flatMap ec) u],.agg (ec x)] [0] st=(dI g t u).map (·.1)->il ⟨g.nodes,gJ x g.edges⟩ t' u'->a8 (pH ((dI g t u).map (·.1)) ns b st) (dI ⟨g.nodes,gJ x g.edges⟩ t' u')->A (mk (gq ⟨g.nodes,gJ x g.edges⟩ t' u') (pH ((dI g t u).map (·.1)) ns b st))):
  dj (az cf 64 [.agg [.list g.nodes.length (g.nodes.flatMap nc) t,.list g.edges.length (g.edges.flatMap ec) u],.agg (ec x)] [0] st) mk A:=by
 obtain⟨t',u',ns,b,hc,ht,h1,h2⟩:=Px K g x hg hk hl;exact⟨_,_,hc,k t' u' ns b ht h1 (by rw[h2];exact u6 hf (wV hk))⟩
def xi(K:bO cf){g:cj}{b:Bool}{id:Int}(hl:g.edges.length<=2000000){t u:aF}(k:∀ fl,(lM b g.edges id=[]->fl=st.fl)->A (mk (IX (lM b g.edges id)) (db st fl))):
  dj (az cf 43 [.agg [.list g.nodes.length (g.nodes.flatMap nc) t,.list g.edges.length (g.edges.flatMap ec) u],I id,.bool b] [] st) mk A:=by
 obtain⟨fl,hc,hfl⟩:=K4 (st:=st) K g b id hl (t:=t) (u:=u);exact⟨_,_,hc,k fl hfl⟩
def Hv{q:PV}{g:cj}(h:aO q= .agg (gc g)):∃ n m cs ds t u,q= .agg [.list n cs t,.list m ds u]:=by
 obtain⟨cs,rfl,hcs⟩:=fi h
 match cs,hcs with
 | [a,b],hcs=>
  simp only[aH,gc,List.cons.injEq,and_true]at hcs;obtain⟨d1,u1,rfl,-,-⟩:=bu hcs.1;obtain⟨d2,u2,rfl,-,-⟩:=bu hcs.2;exact⟨_,_,_,_,_,_,rfl⟩
 | [],h=>simp[aQ,bm,gc]at h
 | [_],h=>simp[aQ,bm,gc]at h
 |_::_::_::_,h=>simp[aQ,bm,gc]at h
def FY(K:bO cf){g:cj}{c:Ch}{v:V}(hv:fV c.value=some v){t u:aF}(hg:il g t u)(hk:a8 st (dI g t u))(hf:st.fl<=st.nx)(ho:mW g)
  (k:∀ q ns b n m cs ds t' u',dn [.agg [.list g.nodes.length (g.nodes.flatMap nc) t,.list g.edges.length (g.edges.flatMap ec) u],.agg (cc c)] [0] st=(dI g t u).map (·.1)->q= .agg [.list n cs t',.list m ds u']->aO q= .agg (gc (jK wS g c).1)->np q=true->
   ((jK wS g c).2=0->∃ t2 u2,q=gq (jK wS g c).1 t2 u2/\il (jK wS g c).1 t2 u2/\a8 (pH ((dI g t u).map (·.1)) ns b st) (dI (jK wS g c).1 t2 u2))->A (mk (.tup [.agg [.list n cs t',.list m ds u'],I (jK wS g c).2]) (pH ((dI g t u).map (·.1)) ns b st))):
  dj (az cf 156 [.agg [.list g.nodes.length (g.nodes.flatMap nc) t,.list g.edges.length (g.edges.flatMap ec) u],.agg (cc c)] [0] st) mk A:=by
 obtain⟨r,ns,b,hc,ht,q,rfl,h1,h2,h3⟩:=Og K g c v hv hg hk ho;obtain⟨n,m,cs,ds,t',u',rfl⟩:=Hv h1;refine⟨_,_,hc,k _ ns b n m cs ds t' u' ht rfl h1 h2 fun h0=>?_⟩;obtain⟨t2,u2,e,h4,h5⟩:=h3 h0;exact⟨t2,u2,e,h4,by rw[h5];exact u6 hf (wV hk)⟩
def Hw{x:cj×Int}{t u:aF}(h:x.2≠0):ft [gq x.1 t u,I x.2]=true/\np (.tup [gq x.1 t u,I x.2])=true/\BJ x (.tup [gq x.1 t u,I x.2]) st:=by
 have h1:= @E8 x.1 t u x.2;exact⟨h1,tY h1,_,rfl,wx _ _ _,fun h0=>absurd h0 h⟩
def K2(K:bO cf)(g:cj)(c:Ch){t u:aF}(hg:il g t u)(hk:a8 st (dI g t u))(ho:mW g)(hc1:c.node.labels.length<=2000000/\c.node.fields.length<=2000000)(hc2:c.edge.fields.length<=2000000):
  ∃ r ns b,az cf 113 [gq g t u,.agg (cc c)] [0] st=some (r,pH ((dI g t u).map (·.1)) ns b st)/\dn [gq g t u,.agg (cc c)] [0] st=(dI g t u).map (·.1)/\Ed (lJ wS g c) st.nx ns r:=by
 refine Fu (f:=113) (F:=F113) K.tab rfl rfl rfl hg hk (by simp[gd,gz]) (lb rfl) 1 ?_;clear hg hk;intro t u ns hg hns;have hk:a8 (bV ns []) (dI g t u):=by rw[hns];exact oX ns
 have hcl:(cc c).length=12:=rfl;have hct:List.take 12 (cc c)=cc c:=rfl;have hnl:=ho.nl;have hel:=ho.el;have hm1:=bC nc 3 cP g.nodes;have hm2:=bC ec 5 cN g.edges;have hF:=fun st=>Ow (st:=st) K c;have hN:∀ st id,az cf 83 [.agg [.list g.nodes.length (g.nodes.flatMap nc) t,.list g.edges.length (g.edges.flatMap ec) u],I id] [] st=some (I (cU g.nodes id),st):=fun st id=>(vO (by simp[bh])).trans (sN K g id (by omega));have hE:∀ st id,az cf 99 [.agg [.list g.nodes.length (g.nodes.flatMap nc) t,.list g.edges.length (g.edges.flatMap ec) u],I id] [] st=some (I (eJ g.edges id),st):=fun st id=>(vO (by simp[bh])).trans (uZ K g id (by omega));have hkp:=gG (gF c.node);have hkp2:=gG (fR c.edge);have hkp3:=gG (fy c.node.labels);simp only[F113,↓qU,seval];unfold gq lJ;cases hf:kw c
 ·rw[am rfl];simp only[↓pa,pb,ah,seval,bK,bG,gh,hcl,hct,hF,hf,ar];exact iP (x:=(g,1)) hg hk
 rw[ai (by simp)];simp only[↓pa,pb,ah,seval,cC,hcl,hct,hF,hf,hN,hE,ar];refine af (fun k1=>?_) (fun k1=>?_)
 ·rw[am k1];simp only[↓pa,pb,seval];refine af (fun a1=>?_) (fun a1=>?_)
  ·rw[am a1];simp only[↓pa,pb,ah,seval,bK,bG,gh,ar];exact iP (x:=(g,9)) hg hk
  rw[ai a1];simp only[↓pa,pb,ah,seval,ar];refine af (fun a2=>?_) (fun a2=>?_)
  ·rw[am (by omega)];simp only[↓pa,pb,ah,seval,bK,bG,gh,ar];exact iP (x:=(g,4)) hg hk
  rw[ai (by omega)];simp only[↓pa,↓ax,pb,ah,ap,seval,cC,ar];refine qu rfl (by simp[gF]) (Cp K c.node hc1.1 hc1.2) ?_;simp only[↓pa,↓ax,pb,ap,seval,m7,hkp];refine GI K hg hk (aW _) (by omega) (fun t' u' ns' b ht hg' hk'=>?_);simp only[↓pa,↓ax,pb,ah,ap,aq,ad,aa,seval,bK,bG,m7,gh,ar,ht,gq];exact iP (x:=(⟨i6 c.node g.nodes,g.edges⟩,0)) hg' hk'
 rw[ai k1];simp only[↓pa,pb,seval];refine af (fun k2=>?_) (fun k2=>?_)
 ·rw[am k2];simp only[↓pa,pb,seval];refine af (fun a1=>?_) (fun a1=>?_)
  ·rw[am a1];simp only[↓pa,pb,ah,seval,bK,bG,gh,ar];exact iP (x:=(g,5)) hg hk
  rw[ai a1,P7];obtain⟨j,hj⟩:∃ j:Nat,cU g.nodes c.node.id=j:=⟨_,(eK (by omega)).symm⟩;have hlt:= @jS g.nodes c.node.id;rw[hj]at hlt;simp only[hj]at*;simp only[↓pa,pb,ah,seval,cC,ar];refine xi K (by omega) (fun fl1 hfl1=>?_);simp only[↓pa,pb,seval];refine af (fun b1=>?_) (fun b1=>?_)
  ·rw[am (.inl (by omega))];simp only[↓pa,pb,ah,seval,bK,bG,gh,ar,b1];exact Hw (x:=(g,6)) (show(6:Int)≠0 by decide)
  have hn1:lM true g.edges c.node.id=[]:=gI.1 (by omega);rw[hfl1 hn1];simp only[↓pa,pb,ah,seval,cC,ar,b1];refine xi K (by omega) (fun fl2 hfl2=>?_);simp only[↓pa,pb,seval];refine af (fun b2=>?_) (fun b2=>?_)
  ·rw[am (.inr (by omega))];simp only[↓pa,pb,ah,seval,bK,bG,gh,ar,b2];exact Hw (x:=(g,6)) (show(6:Int)≠0 by decide)
  have hn2:lM false g.edges c.node.id=[]:=gI.1 (by omega);rw[hfl2 hn2,ai (by rw[hn1,hn2];simp)];simp only[↓pa,↓au,pb,ah,seval,ar,b2];obtain⟨hG0,hE0,-⟩:=rV hk hg;have hp:=fun st=>qg (st:=st) (t:=t) (k:=j) hm1 (by omega);have hq:∀ st,vi 3 (.list g.nodes.length (g.nodes.flatMap nc) t) (some (I ((j+1:Nat):Int))) none st=some (.list (g.nodes.length- (j+1)) ((g.nodes.flatMap nc).drop ((j+1) *3)) t.der,st):=fun st=>qf (k:=j+1) hm1 (by omega);have e1:=jU nc 3 cP g.nodes j;have e2:=jV nc 3 cP g.nodes (j+1);have l1:((g.nodes.take j).flatMap nc).length=j*3:=by rw[bC nc 3 cP,aL];congr 1;omega
  have l2:((g.nodes.drop (j+1)).flatMap nc).length=(g.nodes.length- (j+1)) *3:=by rw[bC nc 3 cP,bl]
  simp only[↓pa,↓au,seval,hp,e1,da];obtain⟨hE1,hap1⟩:=io (st:=bV ns []) (m:=0+j) (gV (e:=72)) hE0 sx;have hG1:=cD (st:=bV ns []) (m:=j) (gV (e:=72));refine bc (n:=0) (m:=j) gV rfl l1 (by omega) (by omega) (by decide) ?_;simp (maxSteps:=1000000) (disch:=omega)only[↓pa,↓au,pb,ah,ak,seval,ar,hq,e2,aU];rw[ar]at hE1 hG1;refine bc (n:=j) (m:=g.nodes.length- (j+1)) hG1 l1 l2 (by omega) (by omega) (by decide) ?_;obtain⟨hE2,hap2⟩:=io (m:=j+(g.nodes.length- (j+1))) hG1 hE1 hap1;have hG2:=cD (m:=g.nodes.length- (j+1)) hG1;have e3:(g.nodes.take j).flatMap nc++(g.nodes.drop (j+1)).flatMap nc=(g.nodes.eraseIdx j).flatMap nc:=by rw[jh,bA]
  have e4:j+(g.nodes.length- (j+1))=(g.nodes.eraseIdx j).length:=by rw[kq (by omega)];omega
  simp only[↓pa,pb,ah,seval,bK,bG,gh,ar,e3,e4];rw[e4]at hG2 hE2;exact iP (x:=(⟨g.nodes.eraseIdx j,g.edges⟩,0)) ⟨lS hG2,hg.2⟩ (ub (g:=⟨g.nodes.eraseIdx j,g.edges⟩) hG2 hE2 hap2 fun k e _=>aW _)
 rw[ai k2];simp only[↓pa,pb,seval];refine af (fun k3=>?_) (fun k3=>?_)
 ·rw[am k3];simp only[↓pa,pb,seval];refine af (fun a1=>?_) (fun a1=>?_)
  ·rw[am a1];simp only[↓pa,pb,ah,seval,bK,bG,gh,ar];exact iP (x:=(g,9)) hg hk
  rw[ai a1];simp only[↓pa,pb,ah,seval,cC,ar,hN];refine af (fun b1=>?_) (fun b1=>?_)
  ·rw[am (.inl b1)];simp only[↓pa,pb,ah,seval,bK,bG,gh,ar,b1];exact iP (x:=(g,5)) hg hk
  simp only[↓pa,pb,ah,seval,cC,ar,hN,b1];refine af (fun b2=>?_) (fun b2=>?_)
  ·rw[am b2];simp only[↓pa,pb,ah,seval,bK,bG,gh,ar,b2];exact iP (x:=(g,5)) hg hk
  rw[ai b2];simp only[↓pa,pb,ah,seval,ar,b2];refine af (fun a2=>?_) (fun a2=>?_)
  ·rw[am (by omega)];simp only[↓pa,pb,ah,seval,bK,bG,gh,ar];exact iP (x:=(g,4)) hg hk
  rw[ai (by omega)];simp only[↓pa,↓ax,pb,ah,ap,seval,cC,ar];refine qu rfl (by simp[fR]) (Cq K c.edge hc2) ?_;simp only[↓pa,↓ax,pb,ap,seval,m7,hkp2];refine GJ K hg hk (aW _) (by omega) (fun t' u' ns' b ht hg' hk'=>?_);simp only[↓pa,↓ax,pb,ah,ap,aq,ad,aa,seval,bK,bG,m7,gh,ar,ht,gq];exact iP (x:=(⟨g.nodes,gJ c.edge g.edges⟩,0)) hg' hk'
 rw[ai k3];simp only[↓pa,pb,seval];refine af (fun k4=>?_) (fun k4=>?_)
 ·rw[am k4];simp only[↓pa,pb,seval];refine af (fun a1=>?_) (fun a1=>?_)
  ·rw[am a1];simp only[↓pa,pb,ah,seval,bK,bG,gh,ar];exact iP (x:=(g,5)) hg hk
  rw[ai a1];obtain⟨j,hj⟩:∃ j:Nat,eJ g.edges c.edge.id=j:=⟨_,(eK (by omega)).symm⟩;have hlt:= @oO g.edges c.edge.id;rw[hj]at hlt;simp only[hj]at*;obtain⟨hG0,hE0,hap0⟩:=rV hk hg;have hp:=fun st=>qg (st:=st) (t:=u) (k:=j) hm2 (by omega);have hq:∀ st,vi 5 (.list g.edges.length (g.edges.flatMap ec) u) (some (I ((j+1:Nat):Int))) none st=some (.list (g.edges.length- (j+1)) ((g.edges.flatMap ec).drop ((j+1) *5)) u.der,st):=fun st=>qf (k:=j+1) hm2 (by omega);have e1:=jU ec 5 cN g.edges j;have e2:=jV ec 5 cN g.edges (j+1);have l1:((g.edges.take j).flatMap ec).length=j*5:=by rw[bC ec 5 cN,aL];congr 1;omega
  have l2:((g.edges.drop (j+1)).flatMap ec).length=(g.edges.length- (j+1)) *5:=by rw[bC ec 5 cN,bl]
  simp only[↓pa,↓au,pb,ah,seval,ar,hp,e1,cG,da];obtain⟨hE1,hap1⟩:=io (st:=bV ns []) (m:=0+j) (gV (e:=68)) hG0 sx;have hG1:=cD (st:=bV ns []) (m:=j) (gV (e:=68));refine bc (n:=0) (m:=j) gV rfl l1 (by omega) (by omega) (by decide) ?_;simp (maxSteps:=1000000) (disch:=omega)only[↓pa,↓au,pb,ah,ak,seval,ar,hq,e2,aU];rw[ar]at hE1 hG1;refine bc (n:=j) (m:=g.edges.length- (j+1)) hG1 l1 l2 (by omega) (by omega) (by decide) ?_;obtain⟨hE2,hap2⟩:=io (m:=j+(g.edges.length- (j+1))) hG1 hE1 hap1;have hG2:=cD (m:=g.edges.length- (j+1)) hG1;have e3:(g.edges.take j).flatMap ec++(g.edges.drop (j+1)).flatMap ec=(g.edges.eraseIdx j).flatMap ec:=by rw[jh,bA]
  have e4:j+(g.edges.length- (j+1))=(g.edges.eraseIdx j).length:=by rw[kq (by omega)];omega
  simp only[↓pa,pb,ah,seval,bK,bG,gh,ar,e3,e4];rw[e4]at hG2 hE2;exact iP (x:=(⟨g.nodes,g.edges.eraseIdx j⟩,0)) ⟨hg.1,lS hG2⟩ (ub (g:=⟨g.nodes,g.edges.eraseIdx j⟩) hE2 hG2 (gC hap2) fun k e _=>aW _)
 rw[ai k4];simp only[↓pa,pb,seval];refine af (fun k5=>?_) (fun k5=>?_)
 ·rw[am k5];simp only[↓pa,pb,seval];refine af (fun a1=>?_) (fun a1=>?_)
  ·rw[am a1];simp only[↓pa,pb,ah,seval,bK,bG,gh,ar];exact iP (x:=(g,5)) hg hk
  rw[ai a1];obtain⟨j,hj⟩:∃ j:Nat,cU g.nodes c.node.id=j:=⟨_,(eK (by omega)).symm⟩;have hlt:= @jS g.nodes c.node.id;rw[hj]at hlt;simp only[hj,eQ]at*;have hlt:j<g.nodes.length:=by omega
  rw[l9 hlt];obtain⟨k,rfl⟩:=zN hg.1 (by omega);obtain⟨hG0,hE0,hap⟩:=rV hk hg;simp only[↓pa,↓ax,pb,ah,ap,seval,cC,ar];refine qu rfl (by simp[fy]) (Co K c.node.labels hc1.1) ?_;have hset:bS (g.nodes.flatMap nc) (j*3+1) [TX c.node.labels]=(g.nodes.set j {g.nodes[j]with labels:=c.node.labels}).flatMap nc:=qo nc 3 cP (by decide) hlt rfl;have hbE:=fun vs off cs=> @DJ g k 72 g.nodes.length off cs vs u hg.2 (gC hap);have hK:=hk.2 (k,g.nodes.length) (by simp[dI,pG]);simp (maxSteps:=1000000) (disch:=omega)only[↓pa,↓ax,pb,ah,ap,seval,bK,hkp3];refine wW (by omega) (by omega) hK.2.1 hK.1 hK.2.2 (mo g) (fy _) ?_;simp only[↓pa,↓ax,pb,ah,ap,aq,ad,aa,seval,bK,bG,gh,BX,BB,hset,hbE,ar];have e:PV.agg [.list g.nodes.length ((g.nodes.set j {g.nodes[j]with labels:=c.node.labels}).flatMap nc) (.own k 72),.list g.edges.length (g.edges.flatMap ec) u]=gq ⟨g.nodes.set j {g.nodes[j]with labels:=c.node.labels},g.edges⟩ (.own k 72) u:=by simp only[gq,iN]
  rw[e];exact iP (x:=(⟨g.nodes.set j {g.nodes[j]with labels:=c.node.labels},g.edges⟩,0)) ⟨rfl,hg.2⟩ (by unfold dI at hk ⊢;rw[iN];exact hk)
 rw[ai k5];simp only[↓pa,pb,ah,seval,m7,hcl,hct,ar];have k6:c.kind=6:=by
  by_cases k6:c.kind=6
  ·exact k6
  ·simp[kw,k1,k2,k3,k4,k5,k6]at hf
 obtain⟨v,hv⟩:∃ v,fV c.value=some v:=by
  cases h:fV c.value with
  |none=>simp[kw,k6,h]at hf
  |some v=>exact⟨v,rfl⟩
 refine FY K hv hg hk (aW _) ho (fun q ns' b n m cs ds t' u' ht hq hs hn hown=>?_);simp only[↓pa,pb,ah,ad,aa,seval,bK,bG,m7,gh,ar,ht];subst hq;have h1:ft [PV.agg [.list n cs t',.list m ds u'],I (jK wS g c).2]=true:=by
  simp only[ft,hn,bv,cH];rfl
 exact⟨h1,tY h1,_,rfl,hs,hown⟩
def Cw(K:bO cf){g:cj}{c:Ch}{t u:aF}(hg:il g t u)(hk:a8 st (dI g t u))(hf:st.fl<=st.nx)(ho:mW g)(hc:lH c)
  (k:∀ ns b n m cs ds t' u',dn [.agg [.list g.nodes.length (g.nodes.flatMap nc) t,.list g.edges.length (g.edges.flatMap ec) u],.agg (cc c)] [0] st=(dI g t u).map (·.1)->aO (.agg [.list n cs t',.list m ds u'])= .agg (gc (lJ wS g c).1)->np (.agg [.list n cs t',.list m ds u'])=true->
   ((lJ wS g c).2=0->∃ t2 u2,PV.agg [.list n cs t',.list m ds u']=gq (lJ wS g c).1 t2 u2/\il (lJ wS g c).1 t2 u2/\a8 (pH ((dI g t u).map (·.1)) ns b st) (dI (lJ wS g c).1 t2 u2))->A (mk (.tup [.agg [.list n cs t',.list m ds u'],I (lJ wS g c).2]) (pH ((dI g t u).map (·.1)) ns b st))):
  dj (az cf 113 [.agg [.list g.nodes.length (g.nodes.flatMap nc) t,.list g.edges.length (g.edges.flatMap ec) u],.agg (cc c)] [0] st) mk A:=by
 obtain⟨r,ns,b,hc,ht,q,rfl,h1,h2,h3⟩:=K2 K g c hg hk ho ⟨hc.ll,hc.nf⟩ hc.ef;obtain⟨n,m,cs,ds,t',u',rfl⟩:=Hv h1;refine⟨_,_,hc,k ns b n m cs ds t' u' ht h1 h2 fun h0=>?_⟩;obtain⟨t2,u2,e,h4,h5⟩:=h3 h0;exact⟨t2,u2,e,h4,by rw[h5];exact u6 hf (wV hk)⟩
def FZ(K:bO cf){g:cj}(hf:st.fl<=st.nx)(h1:g.nodes.length<=1000000)(h2:g.edges.length<=1000000)(hn:∀ n∈g.nodes,n.labels.length<=2000000/\n.fields.length<=2000000)(he:∀ e∈g.edges,e.fields.length<=2000000)
  (k:∀ t u ns fl,il g t u->a8 (db (st.more ns) fl) (dI g t u)->fl<=(st.more ns).nx->A (mk (gq g t u) (db (st.more ns) fl))):dj (az cf 112 [.agg [NX g.nodes,EX g.edges]] [] st) mk A:=by
 obtain⟨t,u,ns,fl,hc,hfl,hg,hk⟩:=OA (st:=st) K g h1 h2 hn he;refine⟨_,_,hc,k t u ns fl hg (by rw[hk];exact GH (by omega)) (by rw[St.more_nx];omega)⟩
def Hc{l:List Ch}{j:Nat}(h:j<l.length):bL (l.flatMap cc) (j*12) 12 true=some (.agg (cc l[j])):=by
 have:=dY cc 12 iC 0 12 true (by decide) l j h;rw[show j*12=j*12+0 from rfl,this];rfl
def Dv{w:BC}{l:List Ch}{i:Nat}(h:i<l.length)(g:cj):hZ w i g (l.drop i)=if(lJ w g l[i]).2≠0 then((lJ w g l[i]).1,i,(lJ w g l[i]).2)else hZ w (i+1) (lJ w g l[i]).1 (l.drop (i+1)):=by
 rw[bj h,hZ]
def H5(x:cj×Nat×Int):PV:= .tup [.agg (gc x.1),I x.2.1,I x.2.2]
def MP(K:bO cf)(g:cj)(l:List Ch)(ho:mW g)(hl:l.length<=2000000)(hb:∀ c∈l,lH c):∃ r,r=H5 (hZ wS 0 g l)/\∃ fl,az cf 76 [.agg (gc g),HX l] [] st=some (r,db st fl):=by
 refine lu K.tab (F:=F76) (Q:=fun r=>r=H5 (hZ wS 0 g l)) rfl rfl rfl (lb rfl) (by simp[dE,fS]) (l.length+2) ?_;have hm:=bC cc 12 iC l;have hkl:=fun J=> @gU J _ (fS l);simp only[F76,↓qU,seval];simp only[↓pa,pb,ah,seval,gc];refine FZ K (aW _) (by have:=ho.nl;omega) (by have:=ho.el;omega) (fun n hn=>by have:=ho.ns n hn;omega) (fun e he=>by have:=ho.es e he;omega) (fun t u ns fl hg hk hfl=>?_);simp only[↓pa,pb,ah,seval,di,gq];refine a7 (fun q fr st=>∃ (i:Nat) (G:cj) (t u:aF),q=l.length-i/\i<=l.length/\fr 1=HX l/\fr 2= .ptr 2 0/\fr 4= .ptr 4 0/\fr 8=I i/\st.objs 2=some [.list G.nodes.length (G.nodes.flatMap nc) t,.list G.edges.length (G.edges.flatMap ec) u]/\(∃ a b,st.objs 4=some [a,b])/\il G t u/\a8 st (dI G t u)/\st.fl<=st.nx/\mW G/\hZ wS 0 g l=hZ wS i G (l.drop i)) l.length (by omega)
  ⟨0,g,t,u,by simp,by omega,by simp only[↓pa,pb,seval],by simp only[↓pa,pb,seval],by simp only[↓pa,seval],by simp only[↓pa,seval]<;>rfl,by simp only[pb,seval],⟨_,_,by simp only[pb,ah,seval,di]<;>rfl⟩,hg,hk,hfl,ho,rfl⟩ ?_
 clear hg hk hfl ho;rintro q fr st ⟨i,G,t,u,rfl,hi,f1,f2,f4,f8,o2,⟨a,b,o4⟩,hg,hk,hfl,ho,hQ⟩;simp only[↓pa,pb,ak,seval,f1,f8];refine af (fun k1=>?_) (fun k1=>?_)
 ·have hlt:i<l.length:=k1;rw[Dv hlt]at hQ;simp (maxSteps:=1000000) (disch:=omega)only[↓pa,pb,ah,seval,f1,f2,f8,o2,m7,Hc hlt];refine Cw K hg hk hfl ho (hb _ (cp hlt)) (fun ns b2 n m cs ds t' u' ht hs hn hown=>?_);simp only[↓pa,pb,ah,ad,aa,seval,al,f2,o2,m7,gh,ht];refine af (fun h0=>?_) (fun h0=>?_)
  ·obtain⟨t2,u2,e,hg2,hk2⟩:=hown h0;simp only[gq,PV.agg.injEq,List.cons.injEq,PV.list.injEq,and_true]at e;obtain⟨⟨rfl,rfl,rfl⟩,rfl,rfl,rfl⟩:=e;rw[ai (by simp[h0])]at hQ;simp (maxSteps:=1000000) (disch:=omega)only[↓pa,pb,ak,seval,f1,f2,f4,f8,o4,m7,gh,hkl];refine⟨l.length- (i+1),by omega,i+1,_,t',u',rfl,by omega,rfl,rfl,⟨_,_,rfl⟩,hg2,hk2,?_,tW _ ho,hQ⟩;show(if b2 then st.fl else st.nx)<=(pH _ _ _ _).nx;rw[J9];split<;>omega
  ·rw[am (by simpa using h0)]at hQ;simp only[aH,gc]at hs;simp only[↓pa,pb,ah,aH,seval,f2,f4,f8,o4,m7,gh];rw[hs,hQ];simp only[np,off,dS,bv,aj]at hn;exact⟨hn,rfl⟩
 ·have hie:l.drop i=[]:=ei (by omega);rw[hie,hZ]at hQ;simp only[↓pa,pb,ah,aH,seval,f2,f4,o2,o4];exact⟨⟨(mo G).1,(nG G).1⟩,by rw[hQ,H5,(mo G).2.1,(nG G).2.1];rfl⟩
def g0:cj:=⟨[],[]⟩
structure yX where
 code:Int
 at_:Int
 graph:cj
def JI(r:yX):List PV:=[I r.code,I r.at_,NX r.graph.nodes,EX r.graph.edges]
def iL(w:BC)(g:cj)(l:List Ch):yX:=
 if 1000<l.length then⟨2,0,g0⟩else if eD g=false then⟨1,0,g0⟩
 else if(hZ w 0 g l).2.2≠0 then⟨(hZ w 0 g l).2.2,(hZ w 0 g l).2.1,g0⟩else⟨0,0,(hZ w 0 g l).1⟩
def I2{g:cj}(l:List Ch):iL wP g l=iL wS g l:=by
 unfold iL;cases hg:eD g with
 |false=>rfl
 |true=>rw[Du l 0 (B1 hg)]
def Pu(K:bO cf)(g:cj)(l:List Ch)(hl:l.length<=2000000)(hb:∀ c∈l,lH c):∃ r,r= .agg (JI (iL wS g l))/\∃ fl,az cf 30 [.agg (gc g),HX l] [] st=some (r,db st fl):=by
 refine lu K.tab (F:=F30) (Q:=fun r=>r= .agg (JI (iL wS g l))) rfl rfl rfl (lb rfl) (by simp[dE,fS]) 1 ?_;have hfa:∀ st,az cf 40 [.agg [NX g.nodes,EX g.edges]] [] st=some (I (ti g),st):=fun st=>Oy K g;simp only[F30,↓qU,seval];unfold iL;simp only[↓pa,pb,ah,seval,al,gc];refine af (fun k1=>?_) (fun k1=>?_)
 ·rw[am (by omega)];simp only[↓pa,↓au,pb,ah,aH,seval,k1];rfl
 rw[ai (by omega)];cases hg:eD g
 ·have hf1:ti g=1:=by simp[ti,hg]
  simp only[↓pa,↓au,pb,ah,aH,seval,al,k1,hfa,hf1];rfl
 have hf1:ti g=0:=by simp[ti,hg]
 rw[ai (by simp)];simp only[↓pa,pb,ah,seval,al,k1,hfa,hf1];refine jd (MP K g l (B1 hg) hl hb) (fun fl=>?_);simp only[↓pa,pb,ah,ad,aa,seval,al,H5,gc];refine af (fun k2=>?_) (fun k2=>?_)
 ·rw[ai (by simpa using k2)];have h1:=mo (hZ wS 0 g l).1;have h2:=nG (hZ wS 0 g l).1;simp only[↓pa,↓au,pb,ah,aH,seval,h1.1,h1.2.1,h2.1,h2.2.1];rfl
 ·rw[am (by simpa using k2)];simp only[↓pa,↓au,pb,ah,aH,seval];rfl
section
variable {f:Nat} {F:bw} {rs:List iG}
def wi{J ns:List Nat}:pH J ns true st=fA J ns st:=rfl
def HM(K:jj cf)(hT:T f=some F)(hres:F.res=rs)(hown:F.own=true){a9z:List PV}{mv:List Nat}(hmv:mv≠ [])(has:a9z.all bF=true)(hk:a8 st (gu mv 0 a9z))(hsp:iu ((gu mv 0 a9z).map (·.1)) mv 0 a9z=true)(hnt:(jo ((gu mv 0 a9z).map (·.1)) mv 0 a9z).length<=F.nt)(N:Nat){Q:PV->Option Nat->Prop}
  (h:Wp cf N F.body (eM (jo ((gu mv 0 a9z).map (·.1)) mv 0 a9z),bV ((gu mv 0 a9z).map (·.2)) []) (sA rs Q)):
  ∃ r ns,az cf f a9z mv st=some (r,fA ((gu mv 0 a9z).map (·.1)) ns st)/\dC st.nx ns r/\Q (aO r) (nn r)/\dn a9z mv st=(gu mv 0 a9z).map (·.1):=by
 obtain⟨r,ns,hrun,hFr,hF,hQ⟩:=GW hown hres N hnt h;have hcf:=K f F hT N _ _ _ _ hrun;obtain⟨h1,h2⟩:=wL hmv has hk hsp hcf;rw[ld r hFr.so,wi]at h1;exact⟨_,ns,h1,hF st.nx,by rw[ij,vW fun _ _=>rfl];exact hQ,h2⟩
def BH(t:Nat)(Q:Int->List PV->Prop)(e:Ex)(y:Fr×St):Prop:=kD e/\∃ k c,y.1 t=I k/\y.2.objs 0=some c/\aX c=true/\bq c=true/\a8 y.2 (aw c)/\Q k c
def M5(Q:Int->List PV->Prop)(r:PV)(c:Option (List PV))(st:St):Prop:=∃ k c0,r=I k/\c=some c0/\aX c0=true/\bq c0=true/\a8 st (aw c0)/\Q k c0
def Lf{t:Nat}{Q:Int->List PV->Prop}{fr:Fr}{st:St}:BH t Q .ret (fr,st)↔M5 Q (fr t) (st.objs 0) st:=
 ⟨fun h=>h.2,fun h=>⟨oL.2 trivial,h⟩⟩
def NI{t:Nat}(hown:F.own=true)(hres:F.res=[.tmp t]){a9z:List PV}{ns0:List Nat}{c0:List PV}(hnt:a9z.length+1<=F.nt)(hnk:1<=F.nk)(N:Nat){Q:Int->List PV->Prop}
  (h:Wp cf N F.body (eM (.ptr 0 0::a9z),bV ns0 [c0]) (BH t Q)):
  ∃ k c ns,Q k c/\aX c=true/\bq c=true/\(∀ k,ck k (aw c)<=1)/\ns=(aw c).map (·.2)/\gr cf N F (.ptr 0 0::a9z) ns0 [c0]=some (I k,ns,[bm (bi ((aw c).map (·.1))) false c]):=by
 obtain⟨e,⟨fr,s1⟩,hev,he,k,c,hr,hc,hn,hs,hk,hQ⟩:=h;refine⟨k,c,_,hQ,hn,hs,hk.1,rfl,?_⟩;have hps:fG fr s1 F.res=some [I k]:=by
  rw[hres,s8];have:od fr s1 (.tmp t)=some (fr t):=rfl;rw[this,show fr t=I k from hr];rfl
 have hg:dz s1 (List.range [c0].length)=some [c]:=by
  have:List.range [c0].length=[0]:=rfl;rw[this];simp only[dz,show s1.objs 0=some c from hc]
 have hm:dh F.nk [I k] s1=([I k],s1):=oc F.nk s1 [I k] (by simp[li]);have hta:jP [c]=aw c:=by simp[jP]
 have hf:im F [c0].length fr s1=some (I k,(aw c).map (·.2),[bm (bi ((aw c).map (·.1))) false c]):=by
  have h0:aB (I k)=[]:=rfl;simp only[im,hps,hg,hm,hown,fW,cT,dd,hn,bv,show np (I k)=true from rfl,if_true,lD,h0,hta,aU,ne hk.1,hk.ok,bg,cJ];rfl
 unfold gr;rw[am ⟨by simpa using hnt,by simpa using hnk⟩,hev];cases e with
 |go=>exact hf
 |ret=>exact hf
 |exit i=>exact he.elim
def Fq(f:Nat->Option Nat){cs:List PV}(h:bq cs=true)(hk:∀ q∈aw cs,(f q.1).isSome=true):fT (bm f false cs)=true:=lQ _ (gA f cs h hk)
def Pz{t:Nat}(K:jj cf)(hT:T f=some F)(hres:F.res=[.tmp t])(hown:F.own=true){a9z:List PV}{c:List PV}(hs:st.objs s=some c)(has:∀ p∈a9z,dq p)(hk:a8 st (aw c))(hnt:a9z.length+1<=F.nt)(hnk:1<=F.nk)(N:Nat){Q:Int->List PV->Prop}
  (h:Wp cf N F.body (eM (.ptr 0 0::a9z),bV ((aw c).map (·.2)) [bm (bi ((aw c).map (·.1))) false c]) (BH t Q)):
  ∃ k c1 c2 ns,az cf f (.ptr s 0::a9z) [0] st=some (I k,cA (fA ((aw c).map (·.1)) ns st) s c2)/\dn (.ptr s 0::a9z) [0] st=(aw c).map (·.1)/\Q k c1/\aw c2=cB st.nx ns/\aX c2=true/\bq c2=true/\∃ g h:Nat->Option Nat,c2=bm g false (bm h false c1)/\(∀ q∈aw c1,(h q.1).isSome=true)/\∀ k,(g k).isSome=true:=by
 obtain⟨k,c1,ns,hQ,hn,hso,hd,rfl,hrun⟩:=NI hown hres hnt hnk N h;have hcf:=K f F hT N _ _ _ _ hrun;obtain⟨q1,q2⟩:=dD has;have hsp:∀ (i:Nat) (l:List PV),(l.map aO=l)->iu ((aw c).map (·.1)) [0] i l=true:=by
  intro i l
  induction l generalizing i with
  |nil=>intro _;rfl
  |cons p ps ih=>
   intro hl;rw[bg,List.cons.injEq]at hl;have:=tF (((aw c).map (·.1)).contains ·) p;rw[hl.1]at this;rw[iu,this,ih (i+1) hl.2,lB];rfl
 have hm:∀ q∈aw c1,(bi ((aw c1).map (·.1)) q.1).isSome=true:=fun q hq=>md (cX.2 ⟨q,hq,rfl⟩);obtain⟨h1,h2⟩:=MB hs q1 hk (hsp 1 a9z q2) (by rw[q2];exact hcf);have hcl:(fU (I k) && fT (bm (bi ((aw c1).map (·.1))) false c1))=true:=by rw[Fq _ hso hm];rfl
 rw[hcl,wi]at h1;refine⟨k,c1,_,_,h1,h2,hQ,?_,?_,?_,_,_,rfl,hm,fun _=>rfl⟩
 ·have t1:aw (bm (bi ((aw c1).map (·.1))) false c1)=(aw c1).map fun q=>((bi ((aw c1).map (·.1)) q.1).getD 0,q.2):=
   lV _ (fun k=>(bi ((aw c1).map (·.1)) k).getD 0) c1 fun q hq=>by
    obtain⟨i,hi⟩:=cu.1 (hm q hq);rw[hi];rfl
  rw[lV _ (fun k=>st.nx+k) _ fun _ _=>rfl,t1];have:=nD 0 hd;rw[show(fun q:Nat×Nat=>((bi ((aw c1).map (·.1)) q.1).getD 0,q.2))=fun q=>(0+(bi ((aw c1).map (·.1)) q.1).getD 0,q.2) by funext q;rw[ar],this,pw]
 ·rw[aX,ge,ge];exact hn
 ·exact gA _ _ (gA _ _ hso hm) fun _ _=>rfl
def yn{A B C R:List (Nat×Nat)}{ns:List Nat}(h:a8 st (A++B++C))(hf:st.fl<=st.nx)(hR:∀ k,ck k R<=ck k (cB st.nx ns))(hm:∀ q∈R,q∈cB st.nx ns):a8 (fA (B.map (·.1)) ns st) (A++R++C):=
 fo (nL h hf) (fun k=>by have:=hR k;rw[bt,bt,bt,bt];omega) fun q hq=>by
  simp only[aG]at hq ⊢;rcases hq with(hq|hq)|hq
  ·exact .inl (.inl hq)
  ·exact .inl (.inr (hm q hq))
  ·exact .inr hq
end
structure lK (g:cj) (c:List PV):Prop where
 st:aQ c=gc g
 np:aX c=true
 so:bq c=true
 sh:∃ cs ds t u,c=[.list g.nodes.length cs t,.list g.edges.length ds u]/\jA 72 t/\jA 68 u
def tT{f:Nat->Option Nat}{e n:Nat}{cs:List PV}{t:aF}(h:jA e t)(hf:∀ q∈aB (.list n cs t),(f q.1).isSome=true):jA e (t.ren f false):=by
 rcases h with rfl|⟨k,rfl⟩
 ·exact .inl rfl
 ·obtain⟨j,hj⟩:=cu.1 (hf (k,n) (by simp[aB]));have hj:f k=some j:=hj;exact .inr ⟨j,by simp only[aF.ren,hj]⟩
def tE{f:Nat->Option Nat}{g:cj}{c:List PV}(h:lK g c)(hf:∀ q∈aw c,(f q.1).isSome=true):lK g (bm f false c):=by
 obtain⟨cs,ds,t,u,rfl,ht,hu⟩:=h.sh;refine⟨by rw[fw];exact h.st,by rw[aX,ge];exact h.np,gA f _ h.so hf,bm f false cs,bm f false ds,t.ren f false,u.ren f false,?_,tT (n:=g.nodes.length) (cs:=cs) ht fun q hq=>hf q ?_,tT (n:=g.edges.length) (cs:=ds) hu fun q hq=>hf q ?_⟩
 ·simp only[bm,gx]
 ·simp only[aw,aG];exact .inl hq
 ·simp only[aw,aG];exact .inr (.inl hq)
structure Eb (cf:aJ) (a m e:Nat):Prop where
 nil:∀ (ds:List PV) (ns:List Nat) (e':Nat),ds.length=m->aX ds=true->cf a [.list 0 [] .nil,I 0,.list 1 ds (.full e')] ns []=some (.list 1 ds (.own ns.length e),ns++[1],[])
 own:∀ (n i:Nat) (cs ds:List PV) (ns:List Nat) (e':Nat),cs.length=n*m->ds.length=m->aX cs=true->aX ds=true->dN ([0].contains ·) cs=true->dN ([0].contains ·) ds=true->i<=n->n<=10000000->cf a [.list n cs (.own 0 e),I i,.list 1 ds (.full e')] (n::ns) []=some (.list (n+1) (cs.take (i*m)++ds++cs.drop (i*m)) (.own 0 e),(n+1)::ns,[])
structure BI (cf:aJ) (b m e:Nat):Prop where
 own:∀ (n i:Nat) (cs:List PV) (ns:List Nat),cs.length=n*m->aX cs=true->dN ([0].contains ·) cs=true->i<n->n<=10000000->cf b [.list n cs (.own 0 e),I i,I ((i+1:Nat):Int)] (n::ns) []=some (.list (n-1) (cs.take (i*m)++cs.drop ((i+1) *m)) (.own 0 e),(n-1)::ns,[])
structure sy (cf:aJ):Prop where
 insN:Eb cf 128 3 72
 insE:Eb cf 189 5 68
 delN:BI cf 160 3 72
 delE:BI cf 163 5 68
def KF{nx k:Nat}:∀ {l l':List (Nat×Nat)},(∀ k,ck k l<=ck k l')->ck k (l.map fun q=>(nx+q.1,q.2))<=ck k (l'.map fun q=>(nx+q.1,q.2)):=by
 have h:∀ l:List (Nat×Nat),ck k (l.map fun q=>(nx+q.1,q.2))=if nx<=k then ck (k-nx) l else 0:=by
  intro l
  induction l with
  |nil=>simp[ck]
  |cons q l ih=>
   rw[bg,ck,ck,ih];by_cases hk:nx<=k
   ·have:(nx+q.1=k)↔(q.1=k-nx):=by omega
    simp only[hk,if_true,this]
   ·rw[ai (show ¬nx+q.1=k by omega),ai hk,ai hk]
 intro l l' hl;rw[h,h];split
 ·exact hl _
 ·exact aP _
def iA{l:List (Nat×Nat)}:∀ q∈l,(bi (l.map (·.1)) q.1).isSome=true:=fun q hq=>md (cX.2 ⟨q,hq,rfl⟩)
def qB{cs:List PV}{l:List (Nat×Nat)}(h:∀ q∈aw cs,q∈l):aw (bm (bi (l.map (·.1))) false cs)=(aw cs).map fun q=>((bi (l.map (·.1)) q.1).getD 0,q.2):=
 lV _ (fun k=>(bi (l.map (·.1)) k).getD 0) cs fun q hq=>by
  obtain⟨i,hi⟩:=cu.1 (iA q (h q hq));rw[hi];rfl
def ua{l:List (Nat×Nat)}(h:∀ k,ck k l<=1):l.map (fun q=>((bi (l.map (·.1)) q.1).getD 0,q.2))=cB 0 (l.map (·.2)):=by
 have:=nD 0 h;simpa using this
def Ld{B:List (Nat×Nat)}{r:PV}{ns:List Nat}(hB:a8 st B)(hf:st.fl<=st.nx)(hR:∀ k,ck k (aB r)<=ck k (cB 0 ns))(hm:∀ q∈aB r,q∈cB 0 ns):a8 (fA (B.map (·.1)) ns st) (aB (ren (fun k=>some (st.nx+k)) false r)):=by
 have e:aB (ren (fun k=>some (st.nx+k)) false r)=(aB r).map fun q=>(st.nx+q.1,q.2):=mm _ (fun k=>st.nx+k) _ fun _ _=>rfl;have:=yn (A:=[]) (B:=B) (C:=[]) (R:=(aB r).map fun q=>(st.nx+q.1,q.2)) (ns:=ns) (st:=st) (by simpa using hB) hf (fun k=>by rw[<-pw];exact KF hR) (fun q hq=>by
  obtain⟨q0,h0,rfl⟩:=cX.1 hq;rw[<-pw];exact cX.2 ⟨q0,hm q0 h0,rfl⟩)
 rw[e];simpa using this
def yR{a m e:Nat}(hI:Eb cf a m e){n i:Nat}{cs ds:List PV}{tk:aF}(ht:jA e tk)(hs:aY (.list n cs tk)=true)(hn:aX cs=true)(hds:bq ds=true)(hdn:aX ds=true)(hk:a8 st (aB (.list n cs tk)++aw ds))(hf:st.fl<=st.nx)(h1:cs.length=n*m)(h2:ds.length=m)(hm0:0<m)(hi:i<=n)(hl:n<=10000000)(e':Nat):
  ∃ r ns,az cf a [.list n cs tk,I i,.list 1 ds (.full e')] [0,2] st=some (r,fA ((aB (.list n cs tk)++aw ds).map (·.1)) ns st)/\dn [.list n cs tk,I i,.list 1 ds (.full e')] [0,2] st=(aB (.list n cs tk)++aw ds).map (·.1)/\np r=true/\aY r=true/\a8 (fA ((aB (.list n cs tk)++aw ds).map (·.1)) ns st) (aB r)/\aO r= .list (n+1) ((aQ cs).take (i*m)++aQ ds++(aQ cs).drop (i*m)) .no/\nn r=some e:=by
 generalize hM:aB (.list n cs tk)++aw ds=M at hk ⊢;have hpl:[PV.list n cs tk,I i,.list 1 ds (.full e')].all bF=true:=by simp only[cT,dd,bF,aH,hn,hdn,ay]
 have hmv:gu [0,2] 0 [PV.list n cs tk,I i,.list 1 ds (.full e')]=M:=by
  rw[<-hM];simp[gu,aB]
 have hfull:aB (.list 1 ds (.full e'))=aw ds:=rfl;have hsp:iu (M.map (·.1)) [0,2] 0 [PV.list n cs tk,I i,.list 1 ds (.full e')]=true:=by simp[iu,tf]
 have hh:jo (M.map (·.1)) [0,2] 0 [PV.list n cs tk,I i,.list 1 ds (.full e')]=[ren (bi (M.map (·.1))) false (.list n cs tk),I i,.list 1 (bm (bi (M.map (·.1))) false ds) (.full e')]:=by
  simp[jo,aF.ren,aO,ren]
 have hd2:=qB (cs:=ds) (l:=M) fun q hq=>by rw[<-hM];exact dG _ hq
 have hie:=ua hk.1;have hdso:bq (bm (bi (M.map (·.1))) false ds)=true:=gA _ _ hds fun q hq=>iA q (by rw[<-hM];exact dG _ hq);have hdnp:aX (bm (bi (M.map (·.1))) false ds)=true:=by rw[aX,ge];exact hdn
 have hdl:(bm (bi (M.map (·.1))) false ds).length=m:=by rw[gB,h2]
 have hdst:=fw (bi (M.map (·.1))) ds;have key:∀ r0 ns,cf a (jo (M.map (·.1)) [0,2] 0 [PV.list n cs tk,I i,.list 1 ds (.full e')]) (M.map (·.2)) []=some (r0,ns,[])->aY r0=true->np r0=true->(∀ k,ck k (aB r0)<=ck k (cB 0 ns))->(∀ q∈aB r0,q∈cB 0 ns)->aO r0= .list (n+1) ((aQ cs).take (i*m)++aQ ds++(aQ cs).drop (i*m)) .no->nn r0=some e->
   ∃ r ns,az cf a [.list n cs tk,I i,.list 1 ds (.full e')] [0,2] st=some (r,fA (M.map (·.1)) ns st)/\dn [.list n cs tk,I i,.list 1 ds (.full e')] [0,2] st=M.map (·.1)/\np r=true/\aY r=true/\a8 (fA (M.map (·.1)) ns st) (aB r)/\aO r= .list (n+1) ((aQ cs).take (i*m)++aQ ds++(aQ cs).drop (i*m)) .no/\nn r=some e:=by
  intro r0 ns hc h1 h2 h3 h4 h5 h6;obtain⟨g1,g2⟩:=wL (cf:=cf) (f:=a) (st:=st) (mv:=[0,2]) (by simp) hpl (by rw[hmv];exact hk) (by rw[hmv];exact hsp) (by rw[hmv];exact hc);rw[hmv]at g1 g2;rw[ld r0 h1,wi]at g1;exact⟨_,ns,g1,g2,by simp only[PM.np,gT];exact h2,kI _ _ h1 fun _ _=>rfl,Ld hk hf h3 h4,by rw[ij];exact h5,by rw[vW fun _ _=>rfl];exact h6⟩
 rw[hh]at key;rcases ht with rfl|⟨k,rfl⟩
 ·have hc:cs=[]:=by simp only[aY,aj,qz]at hs;exact hs.1
  subst hc;have hn0:n=0:=by
   have h1:(0:Nat)=n*m:=h1;rcases Nat.mul_eq_zero.1 h1.symm with h|h
   ·exact h
   ·omega
  subst hn0;have hi0:i=0:=by omega
  subst hi0;have hM:aw ds=M:=hM;subst hM;have hd3:aw (bm (bi ((aw ds).map (·.1))) false ds)=cB 0 ((aw ds).map (·.2)):=by rw[hd2];exact hie
  refine key _ _ (hI.nil _ _ e' hdl hdnp) ?_ ?_ (fun k=>?_) (fun q hq=>?_) ?_ rfl
  ·simp only[aY,hdso,ay]
  ·exact hdnp
  ·rw[k7,hd3,vr,bt,bt,Nat.add_comm];simp[pG,cB,ck]
  ·rw[k7,hd3,aG]at hq;rw[vr,aG];rcases hq with hq|hq
   ·right;simpa [pG,cB]using hq
   ·exact .inl hq
  ·rw[fO,hdst];simp[aQ,bm]
 ·have hM:(k,n)::aw cs++aw ds=M:=hM;subst hM;have hx:bi (((k,n)::aw cs++aw ds).map (·.1)) k=some 0:=by simp[bi]
  have hc2:=qB (cs:=cs) (l:=(k,n)::aw cs++aw ds) fun q hq=>by simp[hq]
  have hcso:bq (bm (bi (((k,n)::aw cs++aw ds).map (·.1))) false cs)=true:=by
   have:bq cs=true:=by simpa [aY]using hs
   exact gA _ _ this fun q hq=>iA q (by simp[hq])
  have hcnp:aX (bm (bi (((k,n)::aw cs++aw ds).map (·.1))) false cs)=true:=by rw[aX,ge];exact hn
  have hcl:(bm (bi (((k,n)::aw cs++aw ds).map (·.1))) false cs).length=n*m:=by rw[gB,h1]
  have hcst:=fw (bi (((k,n)::aw cs++aw ds).map (·.1))) cs;have hrest:aw (bm (bi (((k,n)::aw cs++aw ds).map (·.1))) false cs)++aw (bm (bi (((k,n)::aw cs++aw ds).map (·.1))) false ds)=cB 1 ((aw cs++aw ds).map (·.2)):=by
   rw[hc2,hd2,<-cn];have h3:=hie;simp[cB]at h3;simpa using h3.2
  rw[gx]at key;simp only[aF.ren,hx]at key;generalize bm (bi (((k,n)::aw cs++aw ds).map (·.1))) false cs=cs' at*;generalize bm (bi (((k,n)::aw cs++aw ds).map (·.1))) false ds=ds' at*;have hge:∀ q∈aw cs'++aw ds',1<=q.1:=fun q hq=>by rw[hrest]at hq;exact B9 _ _ _ hq
  have t1:dN ([0].contains ·) cs'=true:=mZ _ _ hcso fun q hq=>by have:=hge q (dk _ hq);simp;omega
  have t2:dN ([0].contains ·) ds'=true:=mZ _ _ hdso fun q hq=>by have:=hge q (dG _ hq);simp;omega
  have hcut:=dy (i*m) cs';have hcso':=hcso;have hcnp':=hcnp;rw[<-hcut,eu,aj]at hcso';rw[<-hcut,iy,aj]at hcnp';rw[<-hcut,dP]at hrest;have hc:=hI.own n i cs' ds' ((aw cs++aw ds).map fun q:Nat×Nat=>q.2) e' hcl hdl hcnp hdnp t1 t2 hi hl;refine key _ _ hc ?_ ?_ (fun j=>?_) (fun q hq=>?_) ?_ rfl
  ·simp only[aY,eu,hcso'.1,hcso'.2,hdso,ay]
  ·show aX _=true;simp only[iy,hcnp'.1,hcnp'.2,hdnp,ay]
  ·rw[k7,cB,<-hrest];simp only[pG,dP,bt,ck,kf];omega
  ·rw[k7]at hq;rw[cB,<-hrest];simp only[pG,dP,aG,aZ,eo,or_false]at hq ⊢;rcases hq with h|(h|h)|h<;>simp[h]
  ·rw[fO,gv,gv,hdst,vf,vg,hcst]
def KW(K:bO cf)(x:Nd){ds:List PV}(h:aQ ds=nc x)(hn:aX ds=true):az cf 159 [.agg ds] [] st=some (I x.id,st):=by
 have hm:[PV.agg ds].map aO=[.agg (nc x)]:=by simp only[bg,cJ,aH,h]
 obtain⟨q1,q2⟩:=dD (ps:=[PV.agg (nc x)]) (by simp[gF]);have hk:az cf 159 [.agg (nc x)] [] st=some (I x.id,st):=by
  refine df K.tab (F:=F159) (t:=2) rfl rfl rfl (lb rfl) (by simp[gF]) (d6 _ _) 1 ?_;simp only[F159,↓qU,seval];simp only[↓pa,pb,ah,seval,nc]
 rw[kR ?_ (by rw[hm];exact q1) (by rw[hm];exact q2),hm]
 ·exact hk
 ·simp only[cT,dd,bF,aH,hn,ay]
def GF(K:bO cf)(hI:sy cf)(x:Nd){l:List Nd}{cs xs:List PV}{tk:aF}(ht:jA 72 tk)(hs:aY (.list l.length cs tk)=true)(hL:fK nc 3 l cs)(hxs:aQ xs=nc x)(hxn:aX xs=true)(hxso:bq xs=true)(hk:a8 st (aB (.list l.length cs tk)++aw xs))(hl:l.length<=10000000):
  ∃ r ns,az cf 91 [.list l.length cs tk,.agg xs,.fn 159 []] [0,1] st=some (r,fA ((aB (.list l.length cs tk)++aw xs).map (·.1)) ns st)/\dC st.nx ns r/\aO r= .list (l.length+1) ((mq x l).flatMap nc) .no/\nn r=some 72/\dn [.list l.length cs tk,.agg xs,.fn 159 []] [0,1] st=(aB (.list l.length cs tk)++aw xs).map (·.1):=by
 generalize hM:aB (.list l.length cs tk)++aw xs=M at hk ⊢;have hmv:gu [0,1] 0 [PV.list l.length cs tk,.agg xs,.fn 159 []]=M:=by
  rw[<-hM];simp[gu,aB]
 have hpl:[PV.list l.length cs tk,.agg xs,.fn 159 []].all bF=true:=by simp only[cT,dd,bF,aH,hL.np,hxn,ay];rfl
 have hw:Wp cf (l.length+1) F91.body (eM (jo (M.map (·.1)) [0,1] 0 [PV.list l.length cs tk,.agg xs,.fn 159 []]),bV (M.map (·.2)) []) (sA F91.res fun p o=>p= .list (l.length+1) ((mq x l).flatMap nc) .no/\o=some 72):=by
  have hh:jo (M.map (·.1)) [0,1] 0 [PV.list l.length cs tk,.agg xs,.fn 159 []]=[.list l.length (bm (bi (M.map (·.1))) false cs) (tk.ren (bi (M.map (·.1))) false),.agg (bm (bi (M.map (·.1))) false xs),.fn 159 []]:=by
   simp[jo,ren,aO,bm]
  have hsl:=kI (bi (M.map (·.1))) _ hs fun q hq=>iA q (by rw[<-hM];exact dk _ hq);have hsx:=gA (bi (M.map (·.1))) _ hxso fun q hq=>iA q (by rw[<-hM];exact dG _ hq);have htl:aB (ren (bi (M.map (·.1))) false (.list l.length cs tk))++aw (bm (bi (M.map (·.1))) false xs)=cB 0 (M.map (·.2)):=by
   rw[<-ua hk.1,qB (l:=M) (fun q hq=>by rw[<-hM];exact dG _ hq),mm _ (fun k=>(bi (M.map (·.1)) k).getD 0) (.list l.length cs tk) fun q hq=>by
    obtain⟨i,hi⟩:=cu.1 (iA (l:=M) q (by rw[<-hM];exact dk (aw xs) hq));rw[hi];rfl]
   rw[<-cn,hM]
  have h4:=tT (f:=bi (M.map (·.1))) ht fun q hq=>iA q (by rw[<-hM];exact dk _ hq);have hst:=(fw (bi (M.map (·.1))) cs).trans hL.st;have hxs:=(fw (bi (M.map (·.1))) xs).trans hxs;have h3:aX (bm (bi (M.map (·.1))) false cs)=true:=by rw[aX,ge];exact hL.np
  have hxn:aX (bm (bi (M.map (·.1))) false xs)=true:=by rw[aX,ge];exact hxn
  have hcl:(bm (bi (M.map (·.1))) false cs).length=l.length*3:=by rw[gB,hL.len]
  rw[hh];rw[gx]at hsl htl;clear hmv hpl hh;generalize M.map (·.2)=ns at*;generalize bi (M.map (·.1))=f at*;generalize bm f false cs=cs0 at*;generalize bm f false xs=xs0 at*;generalize tk.ren f false=tk0 at*;clear hk hs ht hL hM;have hxl:xs0.length=3:=by rw[<-ch,hxs,cP]
  have hxt:List.take 3 xs0=xs0:=aM (by omega);have hlso:=hsl;have hxso:=hsx;simp only[F91,↓qU,reduceAdd,reduceSub];simp only[↓pa,ah,↓reduceIte,hxl];refine a7 (fun q fr st=>∃ i:Nat,q=l.length-i/\i<=l.length/\fr 0= .list l.length cs0 tk0/\fr 2= .fn 159 []/\fr 4= .ptr 4 0/\st.objs 4=some xs0/\fr 7=I i/\st.fl<=st.nx/\a8 st (aB (.list l.length cs0 tk0)++aw xs0)/\mq x l=l.take i++mq x (l.drop i)) l.length (by omega)
   ⟨0,by simp,by omega,by simp only[↓pa,pb,↓reduceIte,reduceCtorEq],by simp only[↓pa,pb,↓reduceIte,reduceEqDiff],by simp only[↓pa,↓reduceIte,reduceEqDiff],by simp only[pb,↓reduceIte],by simp only[↓pa,↓reduceIte];rfl,aW _,by rw[htl];exact aT (oX ns),rfl⟩ ?_
  rintro q fr st ⟨i,rfl,hi,f0,f2,f4,o4,f7,hfl,hk,hQ⟩;simp only[↓pa,↓ax,pb,ap,ak,↓reduceIte,reduceEqDiff,reduceCtorEq,f0,f7];refine af (fun h1=>?_) (fun h1=>?_)
  ·have hlt:i<l.length:=h1;obtain⟨hp1,hp2,hp3⟩:=yu cP hst h3 hcl hlt;have hkey:=fun st=>KW (st:=st) K l[i] hp2 hp3;have hkx:=fun st=>KW (st:=st) K x hxs hxn;simp (maxSteps:=1000000) (disch:=omega)only[↓pa,↓ax,pb,ah,ap,aq,ad,aa,↓reduceIte,reduceEqDiff,reduceLeDiff,reduceCtorEq,f0,f2,f4,o4,f7,h1,hp1,hkey,hkx,hxl,hxt,zh,pm hp3,pm hxn];rw[bj hlt,mq]at hQ;refine af (fun h2=>?_) (fun h2=>?_)
   ·rw[am h2]at hQ;simp (maxSteps:=1000000) (disch:=omega)only[↓pa,pb,ak,↓reduceIte,reduceEqDiff,reduceCtorEq,f0,f2,f4,o4,f7,h2];exact⟨l.length- (i+1),by omega,i+1,rfl,by omega,rfl,hfl,hk,by rw[aV hlt,bn];exact hQ⟩
   ·rw[ai h2]at hQ;rw[<-bj hlt]at hQ;simp only[↓pa,↓au,pb,ah,↓reduceIte,reduceEqDiff,reduceAdd,reduceLeDiff,reduceLT,reduceCtorEq,f0,f4,o4,f7,h2,hxl,hxt,pj hxl];obtain⟨r,ns',hc,htk,h4',h5',h6',h7',h8'⟩:=yR (st:=st) hI.insN (i:=i) h4 hlso h3 hxso hxn hk hfl hcl hxl (by decide) hi hl 72;rw[hc];refine fg.2 ?_;simp only[↓pa,↓reduceIte,di];refine⟨?_,h4',h5',h6',?_,h8'⟩
    ·obtain⟨_,_,e,-,-⟩:=bu h7';rw[e];rfl
    ·rw[h7',hQ,hst,hxs,bA,be,<-bn,jU nc 3 cP,jV nc 3 cP]
  ·have hd:l.drop i=[]:=ei (by omega);rw[hd,mq]at hQ;rw[<-hd]at hQ;simp only[↓pa,↓au,↓ax,pb,ah,ap,aq,ad,aa,↓reduceIte,reduceEqDiff,reduceAdd,reduceLeDiff,reduceLT,reduceCtorEq,f0,f4,o4,f7,h1,hxl,zh,hxt,pj hxl];obtain⟨r,ns',hc,htk,h4',h5',h6',h7',h8'⟩:=yR (st:=st) hI.insN (i:=i) h4 hlso h3 hxso hxn hk hfl hcl hxl (by decide) hi hl 72;rw[hc];refine fg.2 ?_;simp only[↓pa,↓reduceIte,di];refine⟨?_,h4',h5',h6',?_,h8'⟩
   ·obtain⟨_,_,e,-,-⟩:=bu h7';rw[e];rfl
   ·rw[h7',hQ,hst,hxs,bA,be,<-bn,jU nc 3 cP,jV nc 3 cP]
 obtain⟨r,ns,h1,h2,h3,h4⟩:=HM (f:=91) (F:=F91) K.tab rfl rfl rfl (mv:=[0,1]) (by simp) hpl (by rw[hmv];exact hk) (by rw[hmv];simp[iu,tf,dN]) (by simp[jo,F91]) (l.length+1) (by rw[hmv];exact hw);rw[hmv]at h1 h4;exact⟨r,ns,h1,h2,h3.1,h3.2,h4⟩
def KX(K:bO cf)(x:Eg){ds:List PV}(h:aQ ds=ec x)(hn:aX ds=true):az cf 162 [.agg ds] [] st=some (I x.id,st):=by
 have hm:[PV.agg ds].map aO=[.agg (ec x)]:=by simp only[bg,cJ,aH,h]
 obtain⟨q1,q2⟩:=dD (ps:=[PV.agg (ec x)]) (by simp[fR]);have hk:az cf 162 [.agg (ec x)] [] st=some (I x.id,st):=by
  refine df K.tab (F:=F162) (t:=2) rfl rfl rfl (lb rfl) (by simp[fR]) (d6 _ _) 1 ?_;simp only[F162,↓qU,seval];simp only[↓pa,pb,ah,seval,ec]
 rw[kR ?_ (by rw[hm];exact q1) (by rw[hm];exact q2),hm]
 ·exact hk
 ·simp only[cT,dd,bF,aH,hn,ay]
def GG(K:bO cf)(hI:sy cf)(x:Eg){l:List Eg}{cs xs:List PV}{tk:aF}(ht:jA 68 tk)(hs:aY (.list l.length cs tk)=true)(hL:fK ec 5 l cs)(hxs:aQ xs=ec x)(hxn:aX xs=true)(hxso:bq xs=true)(hk:a8 st (aB (.list l.length cs tk)++aw xs))(hl:l.length<=10000000):
  ∃ r ns,az cf 161 [.list l.length cs tk,.agg xs,.fn 162 []] [0,1] st=some (r,fA ((aB (.list l.length cs tk)++aw xs).map (·.1)) ns st)/\dC st.nx ns r/\aO r= .list (l.length+1) ((nC x l).flatMap ec) .no/\nn r=some 68/\dn [.list l.length cs tk,.agg xs,.fn 162 []] [0,1] st=(aB (.list l.length cs tk)++aw xs).map (·.1):=by
 generalize hM:aB (.list l.length cs tk)++aw xs=M at hk ⊢;have hmv:gu [0,1] 0 [PV.list l.length cs tk,.agg xs,.fn 162 []]=M:=by
  rw[<-hM];simp[gu,aB]
 have hpl:[PV.list l.length cs tk,.agg xs,.fn 162 []].all bF=true:=by simp only[cT,dd,bF,aH,hL.np,hxn,ay];rfl
 have hw:Wp cf (l.length+1) F161.body (eM (jo (M.map (·.1)) [0,1] 0 [PV.list l.length cs tk,.agg xs,.fn 162 []]),bV (M.map (·.2)) []) (sA F161.res fun p o=>p= .list (l.length+1) ((nC x l).flatMap ec) .no/\o=some 68):=by
  have hh:jo (M.map (·.1)) [0,1] 0 [PV.list l.length cs tk,.agg xs,.fn 162 []]=[.list l.length (bm (bi (M.map (·.1))) false cs) (tk.ren (bi (M.map (·.1))) false),.agg (bm (bi (M.map (·.1))) false xs),.fn 162 []]:=by
   simp[jo,ren,aO,bm]
  have hsl:=kI (bi (M.map (·.1))) _ hs fun q hq=>iA q (by rw[<-hM];exact dk _ hq);have hsx:=gA (bi (M.map (·.1))) _ hxso fun q hq=>iA q (by rw[<-hM];exact dG _ hq);have htl:aB (ren (bi (M.map (·.1))) false (.list l.length cs tk))++aw (bm (bi (M.map (·.1))) false xs)=cB 0 (M.map (·.2)):=by
   rw[<-ua hk.1,qB (l:=M) (fun q hq=>by rw[<-hM];exact dG _ hq),mm _ (fun k=>(bi (M.map (·.1)) k).getD 0) (.list l.length cs tk) fun q hq=>by
    obtain⟨i,hi⟩:=cu.1 (iA (l:=M) q (by rw[<-hM];exact dk (aw xs) hq));rw[hi];rfl]
   rw[<-cn,hM]
  have h4:=tT (f:=bi (M.map (·.1))) ht fun q hq=>iA q (by rw[<-hM];exact dk _ hq);have hst:=(fw (bi (M.map (·.1))) cs).trans hL.st;have hxs:=(fw (bi (M.map (·.1))) xs).trans hxs;have h3:aX (bm (bi (M.map (·.1))) false cs)=true:=by rw[aX,ge];exact hL.np
  have hxn:aX (bm (bi (M.map (·.1))) false xs)=true:=by rw[aX,ge];exact hxn
  have hcl:(bm (bi (M.map (·.1))) false cs).length=l.length*5:=by rw[gB,hL.len]
  rw[hh];rw[gx]at hsl htl;clear hmv hpl hh;generalize M.map (·.2)=ns at*;generalize bi (M.map (·.1))=f at*;generalize bm f false cs=cs0 at*;generalize bm f false xs=xs0 at*;generalize tk.ren f false=tk0 at*;clear hk hs ht hL hM;have hxl:xs0.length=5:=by rw[<-ch,hxs,cN]
  have hxt:List.take 5 xs0=xs0:=aM (by omega);have hlso:=hsl;have hxso:=hsx;simp only[F161,↓qU,reduceAdd,reduceSub];simp only[↓pa,ah,↓reduceIte,hxl];refine a7 (fun q fr st=>∃ i:Nat,q=l.length-i/\i<=l.length/\fr 0= .list l.length cs0 tk0/\fr 2= .fn 162 []/\fr 4= .ptr 4 0/\st.objs 4=some xs0/\fr 7=I i/\st.fl<=st.nx/\a8 st (aB (.list l.length cs0 tk0)++aw xs0)/\nC x l=l.take i++nC x (l.drop i)) l.length (by omega)
   ⟨0,by simp,by omega,by simp only[↓pa,pb,↓reduceIte,reduceCtorEq],by simp only[↓pa,pb,↓reduceIte,reduceEqDiff],by simp only[↓pa,↓reduceIte,reduceEqDiff],by simp only[pb,↓reduceIte],by simp only[↓pa,↓reduceIte];rfl,aW _,by rw[htl];exact aT (oX ns),rfl⟩ ?_
  rintro q fr st ⟨i,rfl,hi,f0,f2,f4,o4,f7,hfl,hk,hQ⟩;simp only[↓pa,↓ax,pb,ap,ak,↓reduceIte,reduceEqDiff,reduceCtorEq,f0,f7];refine af (fun h1=>?_) (fun h1=>?_)
  ·have hlt:i<l.length:=h1;obtain⟨hp1,hp2,hp3⟩:=yu cN hst h3 hcl hlt;have hkey:=fun st=>KX (st:=st) K l[i] hp2 hp3;have hkx:=fun st=>KX (st:=st) K x hxs hxn;simp (maxSteps:=1000000) (disch:=omega)only[↓pa,↓ax,pb,ah,ap,aq,ad,aa,↓reduceIte,reduceEqDiff,reduceLeDiff,reduceCtorEq,f0,f2,f4,o4,f7,h1,hp1,hkey,hkx,hxl,hxt,zh,pm hp3,pm hxn];rw[bj hlt,nC]at hQ;refine af (fun h2=>?_) (fun h2=>?_)
   ·rw[am h2]at hQ;simp (maxSteps:=1000000) (disch:=omega)only[↓pa,pb,ak,↓reduceIte,reduceEqDiff,reduceCtorEq,f0,f2,f4,o4,f7,h2];exact⟨l.length- (i+1),by omega,i+1,rfl,by omega,rfl,hfl,hk,by rw[aV hlt,bn];exact hQ⟩
   ·rw[ai h2]at hQ;rw[<-bj hlt]at hQ;simp only[↓pa,↓au,pb,ah,↓reduceIte,reduceEqDiff,reduceAdd,reduceLeDiff,reduceLT,reduceCtorEq,f0,f4,o4,f7,h2,hxl,hxt,ol hxl];obtain⟨r,ns',hc,htk,h4',h5',h6',h7',h8'⟩:=yR (st:=st) hI.insE (i:=i) h4 hlso h3 hxso hxn hk hfl hcl hxl (by decide) hi hl 68;rw[hc];refine fg.2 ?_;simp only[↓pa,↓reduceIte,di];refine⟨?_,h4',h5',h6',?_,h8'⟩
    ·obtain⟨_,_,e,-,-⟩:=bu h7';rw[e];rfl
    ·rw[h7',hQ,hst,hxs,bA,be,<-bn,jU ec 5 cN,jV ec 5 cN]
  ·have hd:l.drop i=[]:=ei (by omega);rw[hd,nC]at hQ;rw[<-hd]at hQ;simp only[↓pa,↓au,↓ax,pb,ah,ap,aq,ad,aa,↓reduceIte,reduceEqDiff,reduceAdd,reduceLeDiff,reduceLT,reduceCtorEq,f0,f4,o4,f7,h1,hxl,zh,hxt,ol hxl];obtain⟨r,ns',hc,htk,h4',h5',h6',h7',h8'⟩:=yR (st:=st) hI.insE (i:=i) h4 hlso h3 hxso hxn hk hfl hcl hxl (by decide) hi hl 68;rw[hc];refine fg.2 ?_;simp only[↓pa,↓reduceIte,di];refine⟨?_,h4',h5',h6',?_,h8'⟩
   ·obtain⟨_,_,e,-,-⟩:=bu h7';rw[e];rfl
   ·rw[h7',hQ,hst,hxs,bA,be,<-bn,jU ec 5 cN,jV ec 5 cN]
 obtain⟨r,ns,h1,h2,h3,h4⟩:=HM (f:=161) (F:=F161) K.tab rfl rfl rfl (mv:=[0,1]) (by simp) hpl (by rw[hmv];exact hk) (by rw[hmv];simp[iu,tf,dN]) (by simp[jo,F161]) (l.length+1) (by rw[hmv];exact hw);rw[hmv]at h1 h4;exact⟨r,ns,h1,h2,h3.1,h3.2,h4⟩
def HU{b m e:Nat}(hD:BI cf b m e){n i k:Nat}{cs:List PV}(hs:aY (.list n cs (.own k e))=true)(hn:aX cs=true)(hk:a8 st (aB (.list n cs (.own k e))))(h1:cs.length=n*m)(hi:i<n)(hl:n<=10000000):
  ∃ r ns,az cf b [.list n cs (.own k e),I i,I ((i+1:Nat):Int)] [0] st=some (r,fA ((aB (.list n cs (.own k e))).map (·.1)) ns st)/\dn [.list n cs (.own k e),I i,I ((i+1:Nat):Int)] [0] st=(aB (.list n cs (.own k e))).map (·.1)/\np r=true/\aY r=true/\(∀ j,ck j (aB r)<=ck j (cB st.nx ns))/\(∀ q∈aB r,q∈cB st.nx ns)/\aO r= .list (n-1) ((aQ cs).take (i*m)++(aQ cs).drop ((i+1) *m)) .no/\nn r=some e:=by
 have hpl:[PV.list n cs (.own k e),I i,I ((i+1:Nat):Int)].all bF=true:=by simp only[cT,dd,bF,aH,hn,ay]
 have hmv:gu [0] 0 [PV.list n cs (.own k e),I i,I ((i+1:Nat):Int)]=(k,n)::aw cs:=by simp[gu,aB]
 have hM:aB (.list n cs (.own k e))=(k,n)::aw cs:=rfl;rw[hM]at hk ⊢;have hx:bi (((k,n)::aw cs).map (·.1)) k=some 0:=by simp[bi]
 have hh:jo (((k,n)::aw cs).map (·.1)) [0] 0 [PV.list n cs (.own k e),I i,I ((i+1:Nat):Int)]=[.list n (bm (bi (((k,n)::aw cs).map (·.1))) false cs) (.own 0 e),I i,I ((i+1:Nat):Int)]:=by
  simp only[jo,gx,aF.ren,hx];simp[aO,ren]
 have hsp:iu (((k,n)::aw cs).map (·.1)) [0] 0 [PV.list n cs (.own k e),I i,I ((i+1:Nat):Int)]=true:=by simp[iu,tf]
 have hc2:=qB (cs:=cs) (l:=(k,n)::aw cs) fun q hq=>by simp[hq]
 have hie:=ua hk.1;have hcso:bq (bm (bi (((k,n)::aw cs).map (·.1))) false cs)=true:=by
  have:bq cs=true:=by simpa [aY]using hs
  exact gA _ _ this fun q hq=>iA q (by simp[hq])
 have hcnp:aX (bm (bi (((k,n)::aw cs).map (·.1))) false cs)=true:=by rw[aX,ge];exact hn
 have hcl:(bm (bi (((k,n)::aw cs).map (·.1))) false cs).length=n*m:=by rw[gB,h1]
 have hcst:=fw (bi (((k,n)::aw cs).map (·.1))) cs;have hrest:aw (bm (bi (((k,n)::aw cs).map (·.1))) false cs)=cB 1 ((aw cs).map (·.2)):=by
  rw[hc2];have h3:=hie;simp[cB]at h3;simpa using h3.2
 generalize bm (bi (((k,n)::aw cs).map (·.1))) false cs=cs' at*;have hge:∀ q∈aw cs',1<=q.1:=fun q hq=>by rw[hrest]at hq;exact B9 _ _ _ hq
 have t1:dN ([0].contains ·) cs'=true:=mZ _ _ hcso fun q hq=>by have:=hge q hq;simp;omega
 have hc:=hD.own n i cs' ((aw cs).map fun q:Nat×Nat=>q.2) hcl hcnp t1 hi hl;obtain⟨g1,g2⟩:=wL (cf:=cf) (f:=b) (st:=st) (mv:=[0]) (by simp) hpl (by rw[hmv];exact hk) (by rw[hmv];exact hsp) (by rw[hmv,hh];exact hc);have hcut:=dy (i*m) cs';have hcut2:=dy m (cs'.drop (i*m));rw[jI]at hcut2;have e1:i*m+m=(i+1) *m:=by rw[fM]
 rw[e1]at hcut2;have hso2:=hcso;have hnp2:=hcnp;rw[<-hcut,<-hcut2,eu,eu,aj,aj]at hso2;rw[<-hcut,<-hcut2,iy,iy,aj,aj]at hnp2;rw[<-hcut,<-hcut2,dP,dP]at hrest;have hcl2:aY (.list (n-1) (cs'.take (i*m)++cs'.drop ((i+1) *m)) (.own 0 e))=true:=by simp only[aY,eu,hso2.1,hso2.2.2,ay]
 rw[hmv]at g1 g2;rw[ld _ hcl2,wi]at g1;have hr:aB (ren (fun j=>some (st.nx+j)) false (.list (n-1) (cs'.take (i*m)++cs'.drop ((i+1) *m)) (.own 0 e)))=(aB (.list (n-1) (cs'.take (i*m)++cs'.drop ((i+1) *m)) (.own 0 e))).map fun q=>(st.nx+q.1,q.2):=mm _ (fun j=>st.nx+j) _ fun _ _=>rfl;have hck:∀ j,ck j (aB (.list (n-1) (cs'.take (i*m)++cs'.drop ((i+1) *m)) (.own 0 e)))<=ck j (cB 0 ((n-1)::(aw cs).map (·.2))):=fun j=>by
  rw[k7,cB,<-hrest];simp only[pG,dP,bt,ck,kf];omega
 have hmem:∀ q∈aB (.list (n-1) (cs'.take (i*m)++cs'.drop ((i+1) *m)) (.own 0 e)),q∈cB 0 ((n-1)::(aw cs).map (·.2)):=fun q hq=>by
  rw[k7]at hq;rw[cB,<-hrest];simp only[pG,dP,aG,aZ,eo,or_false]at hq ⊢;rcases hq with h|h|h<;>simp[h]
 refine⟨_,_,g1,g2,?_,kI _ _ hcl2 fun _ _=>rfl,fun j=>?_,fun q hq=>?_,?_,by rw[vW fun _ _=>rfl];rfl⟩
 ·simp only[PM.np,gT]
  show aX _=true;simp only[iy,hnp2.1,hnp2.2.2,ay]
 ·rw[hr,<-pw];exact KF hck
 ·rw[hr]at hq;obtain⟨q0,h0,rfl⟩:=cX.1 hq;rw[<-pw];exact cX.2 ⟨q0,hmem q0 h0,rfl⟩
 ·rw[ij,fO,gv,vf,vg,hcst]
def Ox(K:bO cf)(c:Ch):az cf 158 [.agg (cc c)] [] st=some (.bool (kw c),st):=by
 refine df K.tab (F:=F158) (t:=2) rfl rfl rfl (lb rfl) (by simp[gd,gz]) (ct _) 1 ?_;have hcl:(cc c).length=12:=rfl;simp only[F158,↓qU,seval];unfold kw;simp only[↓pa,pb,ah,seval,cC,hcl,ar];refine af (fun k1=>?_) (fun k1=>?_)
 ·rw[am k1];simp only[↓pa,pb,ah,seval,cC,FD K]
 rw[ai k1];simp only[↓pa,pb,seval];refine af (fun k2=>?_) (fun k2=>?_)
 ·rw[am k2];simp only[↓pa,pb,ah,seval,cC,sO K.tab]
 rw[ai k2];simp only[↓pa,pb,seval];refine af (fun k3=>?_) (fun k3=>?_)
 ·rw[am k3];simp only[↓pa,pb,ah,seval,cC,FI K]
 rw[ai k3];simp only[↓pa,pb,seval];refine af (fun k4=>?_) (fun k4=>?_)
 ·rw[am k4];simp only[↓pa,pb,ah,seval,cC,sO K.tab]
 rw[ai k4];simp only[↓pa,pb,seval];refine af (fun k5=>?_) (fun k5=>?_)
 ·rw[am k5];have hlb:=fun st=>FG (st:=st) K.tab c.node.labels 10 (by decide);cases h1:lk c.node.id
  ·simp only[↓pa,pb,ah,seval,cC,sO K.tab,h1]
  ·simp only[↓pa,pb,ah,seval,cC,sO K.tab,hlb,h1]
 rw[ai k5];simp only[↓pa,pb,seval];refine af (fun k6=>?_) (fun k6=>?_)
 ·rw[am k6];simp only[↓pa,pb,ah,seval,cC];refine u7 rfl (by simp[bR]) (FA K) (fun r hr=>?_);unfold ve at hr;cases hp:fV c.value with
  |none=>
   rw[hp]at hr;obtain⟨p,⟨cs,rfl,hc6,-,-⟩,rfl⟩:=hr;simp only[↓pa,pb,ah,ad,aa,seval,hc6,ed hc6]
  |some v=>
   rw[hp]at hr;subst hr;have hvl:=v.ca_len;simp only[↓pa,pb,ah,ad,aa,seval,hvl,ed hvl,xH];refine af (fun h8=>?_) (fun h8=>?_)
   ·have e8:(decide (v.kind=8)||decide (v.kind=9))=true:=by simp[h8]
    have h9:=h8;cases hn:dW c.name
    ·simp only[↓pa,pb,ah,seval,cC,h8,rA K.tab,hn]
    simp only[↓pa,pb,ah,seval,cC,h8,rA K.tab,hn];refine af (fun hx=>?_) (fun hx=>?_)
    ·have hx':decide (c.text=fX)=true:=decide_eq_true hx;simp only[↓pa,pb,seval,hx];rfl
    ·have hx':decide (c.text=fX)=false:=decide_eq_false hx;simp only[↓pa,pb,ah,seval,cC,hx,hx',rB K]
   ·simp only[↓pa,pb,ah,seval,xH,h8];refine af (fun h9=>?_) (fun h9=>?_)
    ·have e8:(decide (v.kind=8)||decide (v.kind=9))=true:=by simp[h9]
     cases hn:dW c.name
     ·simp only[↓pa,pb,ah,seval,cC,h9,rA K.tab,hn]
     simp only[↓pa,pb,ah,seval,cC,h9,rA K.tab,hn];refine af (fun hx=>?_) (fun hx=>?_)
     ·have hx':decide (c.text=fX)=true:=decide_eq_true hx;simp only[↓pa,pb,seval,hx];rfl
     ·have hx':decide (c.text=fX)=false:=decide_eq_false hx;simp only[↓pa,pb,ah,seval,cC,hx,hx',rB K]
    ·have e8:(decide (v.kind=8)||decide (v.kind=9))=false:=by simp[h8,h9]
     simp only[↓pa,pb,seval,h9]
 ·rw[ai k6];simp only[↓pa,pb,seval]
def wd(n:Nat):dq (.fn n []):=⟨rfl,rfl,fun _ _=>rfl,trivial⟩
def F3{o:Option (PV×St)}{P:PV->Prop}(h:∃ r ns,o=some (r,st.more ns)/\dC st.nx ns r/\P r)(k:∀ r ns,dC st.nx ns r->P r->A (mk r (st.more ns))):dj o mk A:=by
 obtain⟨r,ns,rfl,hF,hP⟩:=h;exact⟨_,_,rfl,k r ns hF hP⟩
structure H7 {α:Type} (enc:α->List PV) (m e:Nat) (l:List α) (p:PV):Prop where
 sh:∃ cs t,p= .list l.length cs t/\fK enc m l cs/\jA e t
 so:aY p=true
def yV{α:Type}{enc:α->List PV}{m e:Nat}{l:List α}{p:PV}{f:Nat->Option Nat}(h:H7 enc m e l p)(hf:∀ q∈aB p,(f q.1).isSome=true):H7 enc m e l (ren f false p):=by
 obtain⟨cs,t,rfl,hL,ht⟩:=h.sh;refine⟨⟨bm f false cs,t.ren f false,gx _ _ _ _ _,⟨by rw[gB];exact hL.len,by rw[fw];exact hL.st,by rw[aX,ge];exact hL.np⟩,tT ht hf⟩,kI f _ h.so hf⟩
def vP{f:Nat}{F:bw}{a9z:List PV}{rs:List iG}(K:jj cf)(hT:T f=some F)(hres:F.res=rs)(hown:F.own=true)(hnt:a9z.length<=F.nt)(has:∀ p∈a9z,dq p)(N:Nat){Q:PV->Prop}
  (h:Wp cf N F.body (eM a9z,bV [] []) (nO rs fun p s=>np p=true/\aY p=true/\a8 s (aB p)/\Q p)):∃ r ns r0,az cf f a9z [] st=some (r,st.more ns)/\dC st.nx ns r/\Q r0/\∃ g h:Nat->Option Nat,r=ren g false (ren h false r0)/\(∀ q∈aB r0,(h q.1).isSome=true)/\∀ k,(g k).isSome=true:=by
 obtain⟨h1,h2⟩:=dD has;obtain⟨r0,s1,r,ns,⟨hn,hso,hk,hQ⟩,hrun,-,hS⟩:=Im hown hres N hnt h;have hcf:=K f F hT N _ _ _ _ hrun;obtain⟨g,rfl,hg,-,htk⟩:=hS.ok hk;have hsr:=kI g r0 hso hg;have hnr:PM.np (ren g false r0)=true:=hS.np.trans hn;exact⟨_,ns,r0,ye h1 (by rw[h2];exact hcf) hsr,⟨BW (f:=g) htk,kI _ _ hsr fun _ _=>rfl,by simp only[PM.np,gT];simpa [PM.np,gT]using hn⟩,hQ,_,g,rfl,hg,fun _=>rfl⟩
def MD(K:bO cf)(l:List Nd)(hl:l.length<=1000000)(hb:∀ x∈l,x.labels.length<=2000000/\x.fields.length<=2000000):∃ r ns,az cf 157 [NX l,.fn 66 []] [] st=some (r,st.more ns)/\dC st.nx ns r/\H7 nc 3 72 l r:=by
 have hw:Wp cf (l.length+2) F157.body (eM [NX l,.fn 66 []],bV [] []) (nO F157.res fun p s=>np p=true/\aY p=true/\a8 s (aB p)/\H7 nc 3 72 l p):=by
  have hm:=bC nc 3 cP l;simp only[F157,↓qU,reduceAdd,reduceSub];simp only[↓pa,pb,↓reduceIte,reduceCtorEq];refine a7 (fun q fr st=>∃ (i:Nat) (cs:List PV) (tk:aF),q=l.length-i/\i<=l.length/\fr 1= .fn 66 []/\fr 8=NX l/\fr 9=I l.length/\fr 10=I i/\fr 5= .list (l.take i).length cs tk/\fK nc 3 (l.take i) cs/\jA 72 tk/\aY (.list (l.take i).length cs tk)=true/\a8 st (aB (.list (l.take i).length cs tk))/\st.fl=0) l.length (by omega)
   ⟨0,[],.nil,by simp,by omega,by simp only[↓pa,↓reduceIte,reduceEqDiff],by simp only[↓pa,↓reduceIte,reduceEqDiff],by simp only[↓pa,↓reduceIte,reduceEqDiff],by simp only[↓pa,↓reduceIte];rfl,by simp only[↓pa,↓reduceIte,reduceEqDiff];rfl,qx,.inl rfl,rfl,eN,rfl⟩ ?_
  rintro q fr st ⟨i,cs,tk,rfl,hi,f1,f8,f9,f10,f5,hL,hto,hso,hT,hfl⟩;have hti:(l.take i).length=i:=by rw[aL];omega
  simp only[↓pa,pb,ak,↓reduceIte,f9,f10];refine af (fun k1=>?_) (fun k1=>?_)
  ·have hlt:i<l.length:=k1;have hnl:=cP l[i];have hn3:List.take 3 (nc l[i])=nc l[i]:=rfl;have hnn:=hb _ (cp hlt);have hkp:=gG (gF l[i]);have hnext:l.take (i+1)=l.take i++[l[i]]:=aV hlt;simp (maxSteps:=1000000) (disch:=omega)only[↓pa,pb,ah,↓reduceIte,reduceEqDiff,reduceAdd,reduceLeDiff,f1,f8,f10,f5,k1,ar,lR hlt,hnl,hn3,pj hnl];refine dx (Cl K l[i] hnn.1 hnn.2) (fun r ns hF hr=>?_);obtain⟨ds,rfl,hds⟩:=fi hr;have hdl:ds.length=3:=by rw[<-hnl,<-hds,dX,bJ]
   have hFt:aw ds=cB _ ns:=hF.tk;have hFs:bq ds=true:=hF.so;have hFn:aX ds=true:=hF.np;simp only[↓pa,↓au,pb,ah,↓reduceIte,reduceEqDiff,reduceAdd,reduceLeDiff,reduceLT,ar,hdl,pj hdl];refine iR (X:=[]) (Y:=[]) hto hso hFs (by rw[aU,aD,hFt];exact cK (aT (aT hT)) (by show st.fl<=_;omega) ns) (by rw[St.more_fl];exact hfl) hL.len (by rw[hdl]) (by omega) (by omega) (by decide) (fun st1 tk1 hto1 hso1 hT1 ho1 hfl1=>?_);simp (maxSteps:=1000000) (disch:=omega)only[↓pa,pb,ak,↓reduceIte,reduceEqDiff,f1,f8,f9,f10];have hl1:(l.take i).length+1=(l.take (i+1)).length:=by rw[hnext,ae];rfl
   rw[hl1]at hso1 hT1 ⊢;exact⟨l.length- (i+1),by omega,i+1,_,tk1,rfl,by omega,rfl,rfl,by rw[hnext];exact gY hL hdl hds hFn,hto1,hso1,by simpa using hT1,hfl1⟩
  ·have hie:l.take i=l:=aM (by omega);rw[hie]at f5 hL hso hT;simp only[↓pa,pb,↓reduceIte,reduceEqDiff,gh,f5,k1];have hn:np (.list l.length cs tk)=true:=hL.np;exact⟨by simp only[ft,hn,bv,cH];rfl,hn,hso,hT,⟨cs,tk,rfl,hL,hto⟩,hso⟩
 obtain⟨r,ns,r0,hc,hF,hQ,g,h,rfl,hh,hg⟩:=vP (st:=st) (f:=157) (F:=F157) K.tab rfl rfl rfl (lb rfl) (a9z:=[NX l,.fn 66 []]) (by
  intro p hp;rcases aZ.1 hp with rfl|hp
  ·exact xF l
  ·rw[dM.1 hp];exact wd _) (l.length+2) hw
 exact⟨_,ns,hc,hF,yV (yV hQ hh) fun _ _=>hg _⟩
def ME(K:bO cf)(l:List Eg)(hl:l.length<=1000000)(hb:∀ x∈l,x.fields.length<=2000000):∃ r ns,az cf 67 [EX l,.fn 68 []] [] st=some (r,st.more ns)/\dC st.nx ns r/\H7 ec 5 68 l r:=by
 have hw:Wp cf (l.length+2) F67.body (eM [EX l,.fn 68 []],bV [] []) (nO F67.res fun p s=>np p=true/\aY p=true/\a8 s (aB p)/\H7 ec 5 68 l p):=by
  have hm:=bC ec 5 cN l;simp only[F67,↓qU,reduceAdd,reduceSub];simp only[↓pa,pb,↓reduceIte,reduceCtorEq];refine a7 (fun q fr st=>∃ (i:Nat) (cs:List PV) (tk:aF),q=l.length-i/\i<=l.length/\fr 1= .fn 68 []/\fr 8=EX l/\fr 9=I l.length/\fr 10=I i/\fr 5= .list (l.take i).length cs tk/\fK ec 5 (l.take i) cs/\jA 68 tk/\aY (.list (l.take i).length cs tk)=true/\a8 st (aB (.list (l.take i).length cs tk))/\st.fl=0) l.length (by omega)
   ⟨0,[],.nil,by simp,by omega,by simp only[↓pa,↓reduceIte,reduceEqDiff],by simp only[↓pa,↓reduceIte,reduceEqDiff],by simp only[↓pa,↓reduceIte,reduceEqDiff],by simp only[↓pa,↓reduceIte];rfl,by simp only[↓pa,↓reduceIte,reduceEqDiff];rfl,qx,.inl rfl,rfl,eN,rfl⟩ ?_
  rintro q fr st ⟨i,cs,tk,rfl,hi,f1,f8,f9,f10,f5,hL,hto,hso,hT,hfl⟩;have hti:(l.take i).length=i:=by rw[aL];omega
  simp only[↓pa,pb,ak,↓reduceIte,f9,f10];refine af (fun k1=>?_) (fun k1=>?_)
  ·have hlt:i<l.length:=k1;have hnl:=cN l[i];have hn3:List.take 5 (ec l[i])=ec l[i]:=rfl;have hnn:=hb _ (cp hlt);have hkp:=gG (fR l[i]);have hnext:l.take (i+1)=l.take i++[l[i]]:=aV hlt;simp (maxSteps:=1000000) (disch:=omega)only[↓pa,pb,ah,↓reduceIte,reduceEqDiff,reduceAdd,reduceLeDiff,f1,f8,f10,f5,k1,ar,ia hlt,hnl,hn3,ol hnl];refine dx (yO K l[i] hnn) (fun r ns hF hr=>?_);obtain⟨ds,rfl,hds⟩:=fi hr;have hdl:ds.length=5:=by rw[<-hnl,<-hds,dX,bJ]
   have hFt:aw ds=cB _ ns:=hF.tk;have hFs:bq ds=true:=hF.so;have hFn:aX ds=true:=hF.np;simp only[↓pa,↓au,pb,ah,↓reduceIte,reduceEqDiff,reduceAdd,reduceLeDiff,reduceLT,ar,hdl,ol hdl];refine iR (X:=[]) (Y:=[]) hto hso hFs (by rw[aU,aD,hFt];exact cK (aT (aT hT)) (by show st.fl<=_;omega) ns) (by rw[St.more_fl];exact hfl) hL.len (by rw[hdl]) (by omega) (by omega) (by decide) (fun st1 tk1 hto1 hso1 hT1 ho1 hfl1=>?_);simp (maxSteps:=1000000) (disch:=omega)only[↓pa,pb,ak,↓reduceIte,reduceEqDiff,f1,f8,f9,f10];have hl1:(l.take i).length+1=(l.take (i+1)).length:=by rw[hnext,ae];rfl
   rw[hl1]at hso1 hT1 ⊢;exact⟨l.length- (i+1),by omega,i+1,_,tk1,rfl,by omega,rfl,rfl,by rw[hnext];exact gY hL hdl hds hFn,hto1,hso1,by simpa using hT1,hfl1⟩
  ·have hie:l.take i=l:=aM (by omega);rw[hie]at f5 hL hso hT;simp only[↓pa,pb,↓reduceIte,reduceEqDiff,gh,f5,k1];have hn:np (.list l.length cs tk)=true:=hL.np;exact⟨by simp only[ft,hn,bv,cH];rfl,hn,hso,hT,⟨cs,tk,rfl,hL,hto⟩,hso⟩
 obtain⟨r,ns,r0,hc,hF,hQ,g,h,rfl,hh,hg⟩:=vP (st:=st) (f:=67) (F:=F67) K.tab rfl rfl rfl (lb rfl) (a9z:=[EX l,.fn 68 []]) (by
  intro p hp;rcases aZ.1 hp with rfl|hp
  ·exact CU l
  ·rw[dM.1 hp];exact wd _) (l.length+2) hw
 exact⟨_,ns,hc,hF,yV (yV hQ hh) fun _ _=>hg _⟩
def Oc(K:bO cf)(g:cj)(h1:g.nodes.length<=1000000)(h2:g.edges.length<=1000000)(hn:∀ x∈g.nodes,x.labels.length<=2000000/\x.fields.length<=2000000)(he:∀ x∈g.edges,x.fields.length<=2000000):
  ∃ c ns,az cf 114 [.agg (gc g)] [] st=some (.agg c,st.more ns)/\aw c=cB st.nx ns/\lK g c:=by
 have hw:Wp cf 1 F114.body (eM [.agg (gc g)],bV [] []) (nO F114.res fun p s=>np p=true/\aY p=true/\a8 s (aB p)/\∃ c,p= .agg c/\lK g c):=by
  simp only[F114,↓qU,seval];simp only[↓pa,↓ax,pb,ah,ap,seval,gc];refine F3 (MD K g.nodes h1 hn) (fun r ns hF hL=>?_);obtain⟨cs,t,rfl,hLn,ht⟩:=hL.sh;simp only[↓pa,↓ax,pb,ah,ap,seval,di];refine F3 (ME K g.edges h2 he) (fun r2 ns2 hF2 hL2=>?_);obtain⟨ds,u,rfl,hLe,hu⟩:=hL2.sh;have hkp:=eY (dD (ps:=[NX g.nodes,.fn 66 []]) (by
   intro p hp;rcases aZ.1 hp with rfl|hp
   ·exact xF _
   ·rw[dM.1 hp];exact wd _)).1
  simp only[↓pa,↓au,↓ax,pb,ah,ap,aq,ad,aa,seval,di,gh,hkp];have hn1:np (.agg [.list g.nodes.length cs t,.list g.edges.length ds u])=true:=by
   have e1:=hLn.np;have e2:=hLe.np;simp only[np,off,dS,bv,aj];exact⟨e1,e2⟩
  have hs1:aY (.agg [.list g.nodes.length cs t,.list g.edges.length ds u])=true:=by
   have e1:=hL.so;have e2:=hL2.so
   show bq [_,_]=true;rw[bq,bq,e1,e2];rfl
  have ht1:aB (.agg [.list g.nodes.length cs t,.list g.edges.length ds u])=aB (.list g.nodes.length cs t)++(aB (.list g.edges.length ds u)++[]):=rfl;refine⟨by simp only[ft,hn1,bv,cH];rfl,hn1,hs1,?_,_,rfl,?_,hn1,hs1,cs,ds,t,u,rfl,ht,hu⟩
  ·rw[ht1,aD,hF.tk,hF2.tk];have h0:=cK (cK (st:=cA (cA (bV [] []) 1 [NX g.nodes,EX g.edges]) 2 [.list 0 [] .nil,.list 0 [] .nil]) eN (aW _) ns) (by rw[St.more_fl];exact aW _) ns2;rw[aU]at h0;exact aT h0
  ·simp only[aH,gc,hLn.st,hLe.st]
 obtain⟨r,ns,r0,hc,hF,⟨c,rfl,hQ⟩,g',h,rfl,hh,hg⟩:=vP (st:=st) (f:=114) (F:=F114) K.tab rfl rfl rfl (lb rfl) (a9z:=[.agg (gc g)]) (by simp[dE]) 1 hw;have hh:∀ q∈aw c,(h q.1).isSome=true:=hh;exact⟨_,ns,hc,hF.tk,tE (tE hQ hh) fun _ _=>hg _⟩
end Go.PM
