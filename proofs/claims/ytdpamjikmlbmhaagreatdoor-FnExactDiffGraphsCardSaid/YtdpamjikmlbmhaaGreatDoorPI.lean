/- FnExactDiffGraphs: the program's DiffGraphs returns what the reference's returns, for all arguments: the row and its card. Conditions: none. -/
import Derived.Test.YtdpamjikmlbmhaaGreatDoorPH
import Derived.Test.YtdpamjikmlbmhaaGreatDoorCards
import Derived.Test.YtdpamjikmlbmhaaGreatDoorTie
import Derived.Deep.DeepWitnessRowRef
import Derived.LaidMore
import Derived.ProofKit
import Derived.SevenTiedAt
namespace Go.PM
open Go.Lib
variable {cf:CallF} {st:St} {mk:PV→St→Fr×St} {A:Fr×St→Prop} {s:Nat}
theorem row12{rs:List PV}{l:List Ch}{c:Ch}(h:strips rs=cc c++l.flatMap cc):∃ c0 c1 ca ta cb tb c4 c5 c6 c7 cg tg c9 c10 c11 rs',rs=c0::c1:: .list c.node.labels.length ca ta:: .list c.node.fields.length cb tb::c4::c5::c6::c7:: .list c.edge.fields.length cg tg::c9::c10::c11::rs'∧
  strips ca=c.node.labels.map S∧strips cb=c.node.fields.flatMap fc∧strips cg=c.edge.fields.flatMap fc∧strips rs'=l.flatMap cc:=by
 obtain⟨c0,c1,c2,c3,c4,c5,c6,c7,c8,c9,c10,c11,rs',rfl⟩:∃ c0 c1 c2 c3 c4 c5 c6 c7 c8 c9 c10 c11 rs',rs=c0::c1::c2::c3::c4::c5::c6::c7::c8::c9::c10::c11::rs':=by
  have hlen:rs.length=12+(l.flatMap cc).length:=by rw[←strips_length,h,List.length_append,cc_len]
  match rs,hlen with
  |c0::c1::c2::c3::c4::c5::c6::c7::c8::c9::c10::c11::rs',_=>exact⟨c0,c1,c2,c3,c4,c5,c6,c7,c8,c9,c10,c11,rs',rfl⟩
  | [],h=>simp at h;omega
  | [_],h=>simp at h;omega
  | [_,_],h=>simp at h;omega
  | [_,_,_],h=>simp at h;omega
  | [_,_,_,_],h=>simp at h;omega
  | [_,_,_,_,_],h=>simp at h;omega
  | [_,_,_,_,_,_],h=>simp at h;omega
  | [_,_,_,_,_,_,_],h=>simp at h;omega
  | [_,_,_,_,_,_,_,_],h=>simp at h;omega
  | [_,_,_,_,_,_,_,_,_],h=>simp at h;omega
  | [_,_,_,_,_,_,_,_,_,_],h=>simp at h;omega
  | [_,_,_,_,_,_,_,_,_,_,_],h=>simp at h;omega
 simp only[strips_map,List.map_cons,cc,List.cons_append,List.nil_append,List.cons.injEq]at h
 obtain⟨-,-,h2,h3,-,-,-,-,h8,-,-,-,hr⟩:=h
 rw[←strips_map]at hr
 obtain⟨ca,ta,rfl,hca,-⟩:=strip_list_inv h2
 obtain⟨cb,tb,rfl,hcb,-⟩:=strip_list_inv h3
 obtain⟨cg,tg,rfl,hcg,-⟩:=strip_list_inv h8
 exact⟨c0,c1,ca,ta,cb,tb,c4,c5,c6,c7,cg,tg,c9,c10,c11,rs',rfl,hca,hcb,hcg,hr⟩
set_option maxHeartbeats 32000000 in
theorem c_markCS(K:Env cf)(k:Nat)(l:List Ch)(hk:endC (l.map shc) k≤1000000000000){cs:List PV}{tk:Tok}(hs:solid (.list l.length cs tk)=true)(hL:Like cc 12 l cs)(hT:TokOK st (toks (.list l.length cs tk))):
  ∃ p ns,uP cf 20 [.list l.length cs tk,I k] st=some (I (endC (l.map shc) k:Nat),p,mvS ((toks (.list l.length cs tk)).map (·.1)) ns st)∧Fresh st.nx ns p∧strip p= .list l.length ((mkC (l.map shc) k).flatMap cc) .no∧takes [.list l.length cs tk,I k] [0] st=(toks (.list l.length cs tk)).map (·.1):=by
 refine c_valU K.tab (f:=20) (F:=FB20) (t:=4) rfl rfl rfl hs hL.np hT (lb rfl) (l.length+1) (fun cs0 tk0 ns h1 h2 h3 h4 h5=>?_)
 have hcl:cs0.length=l.length*12:=by rw[h2,hL.len]
 have hst:strips cs0=l.flatMap cc:=by rw[h1,hL.st]
 have hN:l.length≤1000000000000:=by have:=endC_len (l.map shc) k;rw[List.length_map]at this;omega
 clear hs hL hT h1 h2
 unfold FB20 qr qd qm qi qb qk ql qf qo qe
 simp (disch:=omega)only[↓pa]
 refine Wp_rounds (fun q fr st=>∃ (i:Nat) (ds rs:List PV),q=l.length-i∧i≤l.length∧fr 0= .list l.length (ds++rs) tk0∧fr 1=I (endC ((l.take i).map shc) k:Nat)∧fr 5=I i∧ds.length=i*12∧strips ds=(mkC ((l.take i).map shc) k).flatMap cc∧strips rs=(l.drop i).flatMap cc∧nps (ds++rs)=true∧solid (.list l.length (ds++rs) tk0)=true∧TokOK st ([]++toks (.list l.length (ds++rs) tk0)++[])∧st.fl=0) l.length (by omega)
  ⟨0,[],cs0,by simp,by omega,by simp (disch:=omega)only[↓pa,pmy,↓reduceIte,reduceCtorEq]<;>simp,by simp (disch:=omega)only[↓pa,↓reduceIte,Nat.reduceEqDiff]<;>simp[endC],by simp (disch:=omega)only[↓pa,↓reduceIte]<;>rfl,rfl,rfl,hst,by simpa using h3,by simpa using h4,by simpa using h5,rfl⟩ ?_
 rintro q fr st ⟨i,ds,rs,rfl,hi,f0,f1,f5,hd1,hd2,hr2,np0,so0,T0,hfl⟩
 simp (disch:=omega)only[↓pa,pb,natP,↓reduceIte,Nat.reduceEqDiff,reduceCtorEq,f0,f5]
 refine Cnd_intro (fun h=>?_) (fun h=>?_)
 ·have hlt:i<l.length:=h
  rw[List.drop_eq_getElem_cons hlt,List.flatMap_cons]at hr2
  have hkk:endC ((l.take (i+1)).map shc) k=mE (endC ((l.take i).map shc) k) (shc l[i]):=by
   rw[List.take_succ_eq_append_getElem hlt,List.map_append];exact(mkC_snoc _ _ _).2
  have hkm:mkC ((l.take (i+1)).map shc) k=mkC ((l.take i).map shc) k++[mkC1 (endC ((l.take i).map shc) k) (shc l[i])]:=by
   rw[List.take_succ_eq_append_getElem hlt,List.map_append];exact(mkC_snoc _ _ _).1
  have hkl:endC ((l.take (i+1)).map shc) k≤endC (l.map shc) k:=by
   have e:l.map shc=(l.take (i+1)).map shc++(l.drop (i+1)).map shc:=by rw[←List.map_append,List.take_append_drop]
   rw[e,endC_app];exact endC_le _ _
  generalize hm:endC ((l.take i).map shc) k=m at*
  obtain⟨c0,c1,ca,ta,cb,tb,c4,c5,c6,c7,cg,tg,c9,c10,c11,rs',rfl,hca,hcb,hcg,hr5⟩:=row12 hr2
  have hrl:rs'.length+12=(l.length-i) *12:=by
   have:=congrArg List.length hr5
   rw[strips_length,flat_len cc 12 cc_len,List.length_drop]at this
   omega
  obtain⟨j,t0,rfl⟩:=own_of so0
  have la:ca.length=l[i].node.labels.length:=by rw[←strips_length,hca,List.length_map]
  have lb:cb.length=l[i].node.fields.length*2:=by rw[←strips_length,hcb,fs_len]
  have lg:cg.length=l[i].edge.fields.length*2:=by rw[←strips_length,hcg,fs_len]
  have hbd:mB m (shc l[i])=m+2+l[i].node.labels.length+2*l[i].node.fields.length:=rfl
  have hbe:mE m (shc l[i])=mB m (shc l[i])+4+2*l[i].edge.fields.length+3:=rfl
  have hcm:=cc_mk m (shc l[i])
  rw[hkk]at hkl
  generalize hb:mB m (shc l[i])=b at*
  have ht5:=fun st=>c_markText (st:=st) K (b+1) (by omega)
  have ht9:=fun st=>c_markText (st:=st) K (b+4+2*l[i].edge.fields.length) (by omega)
  have ht10:=fun st=>c_markText (st:=st) K (b+4+2*l[i].edge.fields.length+1) (by omega)
  have ht11:=fun st=>c_markText (st:=st) K (b+4+2*l[i].edge.fields.length+2) (by omega)
  have len:∀ (a:List PV) (b:PV) (c:List PV),a.length+(c.length+1)=l.length*12→(a++b::c).length=l.length*12:=fun a b c h=>by rw[List.length_append,List.length_cons];exact h
  have o0:i*12=ds.length:=hd1.symm
  have n0:=len ds c0 (c1::(.list l[i].node.labels.length ca ta)::(.list l[i].node.fields.length cb tb)::c4::c5::c6::c7::(.list l[i].edge.fields.length cg tg)::c9::c10::c11::rs') (by simp only[List.length_cons];omega)
  simp (disch:=omega)only[↓pa,pb,pmy,↓reduceIte,Nat.reduceEqDiff,reduceCtorEq,f0,f1,f5,h,pmu,Nat.add_zero]
  refine RunsTo_poke (X:=[]) (Y:=[]) o0 (by omega) so0 np0 T0 ⟨rfl,rfl,rfl⟩ (fun so1 np1 T1=>?_)
  have b0:=fun cs' E'=> @bk_poke l.length j t0 E' (i*12) ds (c1::(.list l[i].node.labels.length ca ta)::(.list l[i].node.fields.length cb tb)::c4::c5::c6::c7::(.list l[i].edge.fields.length cg tg)::c9::c10::c11::rs') cs' c0 (I m) o0
  have e0:ds++I m::c1::(.list l[i].node.labels.length ca ta)::(.list l[i].node.fields.length cb tb)::c4::c5::c6::c7::(.list l[i].edge.fields.length cg tg)::c9::c10::c11::rs'=(ds++[I m])++c1::(.list l[i].node.labels.length ca ta)::(.list l[i].node.fields.length cb tb)::c4::c5::c6::c7::(.list l[i].edge.fields.length cg tg)::c9::c10::c11::rs':=by simp
  rw[e0]at b0 so1 np1 T1
  have o1:i*12+1=(ds++[I m]).length:=by rw[List.length_append,hd1];rfl
  have n1:=len (ds++[I m]) c1 ((.list l[i].node.labels.length ca ta)::(.list l[i].node.fields.length cb tb)::c4::c5::c6::c7::(.list l[i].edge.fields.length cg tg)::c9::c10::c11::rs') (by simp only[List.length_append,List.length_cons,List.length_nil];omega)
  simp (disch:=omega)only[↓pa,pb,pmy,natP,↓reduceIte,Nat.reduceEqDiff,reduceCtorEq,f0,f1,f5,pmu,Nat.add_zero,b0]
  refine RunsTo_poke (X:=[]) (Y:=[]) o1 (by omega) so1 np1 T1 ⟨rfl,rfl,rfl⟩ (fun so2 np2 T2=>?_)
  have b1:=fun cs' E'=> @bk_poke l.length j t0 E' (i*12+1) (ds++[I m]) ((.list l[i].node.labels.length ca ta)::(.list l[i].node.fields.length cb tb)::c4::c5::c6::c7::(.list l[i].edge.fields.length cg tg)::c9::c10::c11::rs') cs' c1 (I (m+1:Nat)) o1
  have e1:(ds++[I m])++I (m+1:Nat)::(.list l[i].node.labels.length ca ta)::(.list l[i].node.fields.length cb tb)::c4::c5::c6::c7::(.list l[i].edge.fields.length cg tg)::c9::c10::c11::rs'=(ds++[I m,I (m+1:Nat)])++(.list l[i].node.labels.length ca ta)::(.list l[i].node.fields.length cb tb)::c4::c5::c6::c7::(.list l[i].edge.fields.length cg tg)::c9::c10::c11::rs':=by simp
  rw[e1]at b1 so2 np2 T2
  have o2:i*12+2=(ds++[I m,I (m+1:Nat)]).length:=by rw[List.length_append,hd1];rfl
  have n2:=len (ds++[I m,I (m+1:Nat)]) (.list l[i].node.labels.length ca ta) ((.list l[i].node.fields.length cb tb)::c4::c5::c6::c7::(.list l[i].edge.fields.length cg tg)::c9::c10::c11::rs') (by simp only[List.length_append,List.length_cons,List.length_nil];omega)
  have p2:partP ((ds++[I m,I (m+1:Nat)])++(.list l[i].node.labels.length ca ta)::(.list l[i].node.fields.length cb tb)::c4::c5::c6::c7::(.list l[i].edge.fields.length cg tg)::c9::c10::c11::rs') (i*12+2) 1 false=some (.list l[i].node.labels.length ca ta):=partP_at (by rw[←o2])
  simp (disch:=omega)only[↓pa,pb,natP,↓reduceIte,Nat.reduceEqDiff,reduceCtorEq,f0,f5,pmu,b0,b1,p2]
  refine RunsTo_UIn (sz:=1) (X:=[]) (Y:=[]) (c_markT K (m+2) l[i].node.labels.length (by omega) (solid_in so2) (np_in np2) la (TokOK_in T2)) (by omega) (by decide) (fun e=>by rw[e];rfl) so2 np2 T2 hfl (fun u2 ms2 q2 hu2 k2 so3 np3 z2 T3=>?_)
  have e2:(ds++[I m,I (m+1:Nat)])++q2::(.list l[i].node.fields.length cb tb)::c4::c5::c6::c7::(.list l[i].edge.fields.length cg tg)::c9::c10::c11::rs'=(ds++[I m,I (m+1:Nat),q2])++(.list l[i].node.fields.length cb tb)::c4::c5::c6::c7::(.list l[i].edge.fields.length cg tg)::c9::c10::c11::rs':=by simp
  rw[e2]at k2 so3 np3 T3
  have o3:i*12+3=(ds++[I m,I (m+1:Nat),q2]).length:=by rw[List.length_append,hd1];rfl
  have n3:=len (ds++[I m,I (m+1:Nat),q2]) (.list l[i].node.fields.length cb tb) (c4::c5::c6::c7::(.list l[i].edge.fields.length cg tg)::c9::c10::c11::rs') (by simp only[List.length_append,List.length_cons,List.length_nil];omega)
  have p3:partP ((ds++[I m,I (m+1:Nat),q2])++(.list l[i].node.fields.length cb tb)::c4::c5::c6::c7::(.list l[i].edge.fields.length cg tg)::c9::c10::c11::rs') (i*12+3) 1 false=some (.list l[i].node.fields.length cb tb):=partP_at (by rw[←o3])
  simp (disch:=omega)only[↓pa,pb,↓reduceIte,Nat.reduceEqDiff,reduceCtorEq,f0,f5,pmu,b0,b1,hu2,k2,p3]
  refine RunsTo_UIn (sz:=2) (X:=[]) (Y:=[]) (c_markF K (m+2+l[i].node.labels.length) l[i].node.fields.length (by omega) (solid_in so3) (np_in np3) lb (TokOK_in T3)) lb (by decide) (fun e=>by rw[e];rfl) so3 np3 T3 hfl (fun u3 ms3 q3 hu3 k3 so4 np4 z3 T4=>?_)
  have e3:(ds++[I m,I (m+1:Nat),q2])++q3::c4::c5::c6::c7::(.list l[i].edge.fields.length cg tg)::c9::c10::c11::rs'=(ds++[I m,I (m+1:Nat),q2,q3])++c4::c5::c6::c7::(.list l[i].edge.fields.length cg tg)::c9::c10::c11::rs':=by simp
  rw[e3]at k3 so4 np4 T4
  rw[←hbd]at hu3 k3 ⊢
  have o4:i*12+4=(ds++[I m,I (m+1:Nat),q2,q3]).length:=by rw[List.length_append,hd1];rfl
  have n4:=len (ds++[I m,I (m+1:Nat),q2,q3]) c4 (c5::c6::c7::(.list l[i].edge.fields.length cg tg)::c9::c10::c11::rs') (by simp only[List.length_append,List.length_cons,List.length_nil];omega)
  simp (disch:=omega)only[↓pa,pb,pmy,↓reduceIte,Nat.reduceEqDiff,reduceCtorEq,f0,f5,pmu,Nat.add_zero,b0,b1,k2,hu3,k3]
  refine RunsTo_poke (X:=[]) (Y:=[]) o4 (by omega) so4 np4 T4 ⟨rfl,rfl,rfl⟩ (fun so5 np5 T5=>?_)
  have b4:=fun cs' E'=> @bk_poke l.length j t0 E' (i*12+4) (ds++[I m,I (m+1:Nat),q2,q3]) (c5::c6::c7::(.list l[i].edge.fields.length cg tg)::c9::c10::c11::rs') cs' c4 (I (b:Nat)) o4
  have e4:(ds++[I m,I (m+1:Nat),q2,q3])++I (b:Nat)::c5::c6::c7::(.list l[i].edge.fields.length cg tg)::c9::c10::c11::rs'=(ds++[I m,I (m+1:Nat),q2,q3,I (b:Nat)])++c5::c6::c7::(.list l[i].edge.fields.length cg tg)::c9::c10::c11::rs':=by simp
  rw[e4]at b4 so5 np5 T5
  have o5:i*12+5=(ds++[I m,I (m+1:Nat),q2,q3,I (b:Nat)]).length:=by rw[List.length_append,hd1];rfl
  have n5:=len (ds++[I m,I (m+1:Nat),q2,q3,I (b:Nat)]) c5 (c6::c7::(.list l[i].edge.fields.length cg tg)::c9::c10::c11::rs') (by simp only[List.length_append,List.length_cons,List.length_nil];omega)
  simp (disch:=omega)only[↓pa,pb,pmy,natP,↓reduceIte,Nat.reduceEqDiff,reduceCtorEq,f0,f5,pmu,b0,b1,k2,k3,b4,ht5]
  refine RunsTo_poke (X:=[]) (Y:=[]) o5 (by omega) so5 np5 T5 ⟨rfl,rfl,rfl⟩ (fun so6 np6 T6=>?_)
  have b5:=fun cs' E'=> @bk_poke l.length j t0 E' (i*12+5) (ds++[I m,I (m+1:Nat),q2,q3,I (b:Nat)]) (c6::c7::(.list l[i].edge.fields.length cg tg)::c9::c10::c11::rs') cs' c5 (S (mt (b+1))) o5
  have e5:(ds++[I m,I (m+1:Nat),q2,q3,I (b:Nat)])++S (mt (b+1))::c6::c7::(.list l[i].edge.fields.length cg tg)::c9::c10::c11::rs'=(ds++[I m,I (m+1:Nat),q2,q3,I (b:Nat),S (mt (b+1))])++c6::c7::(.list l[i].edge.fields.length cg tg)::c9::c10::c11::rs':=by simp
  rw[e5]at b5 so6 np6 T6
  have o6:i*12+6=(ds++[I m,I (m+1:Nat),q2,q3,I (b:Nat),S (mt (b+1))]).length:=by rw[List.length_append,hd1];rfl
  have n6:=len (ds++[I m,I (m+1:Nat),q2,q3,I (b:Nat),S (mt (b+1))]) c6 (c7::(.list l[i].edge.fields.length cg tg)::c9::c10::c11::rs') (by simp only[List.length_append,List.length_cons,List.length_nil];omega)
  simp (disch:=omega)only[↓pa,pb,pmy,natP,↓reduceIte,Nat.reduceEqDiff,reduceCtorEq,f0,f5,pmu,b0,b1,k2,k3,b4,b5]
  refine RunsTo_poke (X:=[]) (Y:=[]) o6 (by omega) so6 np6 T6 ⟨rfl,rfl,rfl⟩ (fun so7 np7 T7=>?_)
  have b6:=fun cs' E'=> @bk_poke l.length j t0 E' (i*12+6) (ds++[I m,I (m+1:Nat),q2,q3,I (b:Nat),S (mt (b+1))]) (c7::(.list l[i].edge.fields.length cg tg)::c9::c10::c11::rs') cs' c6 (I (b+2:Nat)) o6
  have e6:(ds++[I m,I (m+1:Nat),q2,q3,I (b:Nat),S (mt (b+1))])++I (b+2:Nat)::c7::(.list l[i].edge.fields.length cg tg)::c9::c10::c11::rs'=(ds++[I m,I (m+1:Nat),q2,q3,I (b:Nat),S (mt (b+1)),I (b+2:Nat)])++c7::(.list l[i].edge.fields.length cg tg)::c9::c10::c11::rs':=by simp
  rw[e6]at b6 so7 np7 T7
  have o7:i*12+7=(ds++[I m,I (m+1:Nat),q2,q3,I (b:Nat),S (mt (b+1)),I (b+2:Nat)]).length:=by rw[List.length_append,hd1];rfl
  have n7:=len (ds++[I m,I (m+1:Nat),q2,q3,I (b:Nat),S (mt (b+1)),I (b+2:Nat)]) c7 ((.list l[i].edge.fields.length cg tg)::c9::c10::c11::rs') (by simp only[List.length_append,List.length_cons,List.length_nil];omega)
  simp (disch:=omega)only[↓pa,pb,pmy,natP,↓reduceIte,Nat.reduceEqDiff,reduceCtorEq,f0,f5,pmu,b0,b1,k2,k3,b4,b5,b6]
  refine RunsTo_poke (X:=[]) (Y:=[]) o7 (by omega) so7 np7 T7 ⟨rfl,rfl,rfl⟩ (fun so8 np8 T8=>?_)
  have b7:=fun cs' E'=> @bk_poke l.length j t0 E' (i*12+7) (ds++[I m,I (m+1:Nat),q2,q3,I (b:Nat),S (mt (b+1)),I (b+2:Nat)]) ((.list l[i].edge.fields.length cg tg)::c9::c10::c11::rs') cs' c7 (I (b+3:Nat)) o7
  have e7:(ds++[I m,I (m+1:Nat),q2,q3,I (b:Nat),S (mt (b+1)),I (b+2:Nat)])++I (b+3:Nat)::(.list l[i].edge.fields.length cg tg)::c9::c10::c11::rs'=(ds++[I m,I (m+1:Nat),q2,q3,I (b:Nat),S (mt (b+1)),I (b+2:Nat),I (b+3:Nat)])++(.list l[i].edge.fields.length cg tg)::c9::c10::c11::rs':=by simp
  rw[e7]at b7 so8 np8 T8
  have o8:i*12+8=(ds++[I m,I (m+1:Nat),q2,q3,I (b:Nat),S (mt (b+1)),I (b+2:Nat),I (b+3:Nat)]).length:=by rw[List.length_append,hd1];rfl
  have n8:=len (ds++[I m,I (m+1:Nat),q2,q3,I (b:Nat),S (mt (b+1)),I (b+2:Nat),I (b+3:Nat)]) (.list l[i].edge.fields.length cg tg) (c9::c10::c11::rs') (by simp only[List.length_append,List.length_cons,List.length_nil];omega)
  have p8:partP ((ds++[I m,I (m+1:Nat),q2,q3,I (b:Nat),S (mt (b+1)),I (b+2:Nat),I (b+3:Nat)])++(.list l[i].edge.fields.length cg tg)::c9::c10::c11::rs') (i*12+8) 1 false=some (.list l[i].edge.fields.length cg tg):=partP_at (by rw[←o8])
  simp (disch:=omega)only[↓pa,pb,natP,↓reduceIte,Nat.reduceEqDiff,reduceCtorEq,f0,f5,pmu,b0,b1,k2,k3,b4,b5,b6,b7,p8]
  refine RunsTo_UIn (sz:=2) (X:=[]) (Y:=[]) (c_markF K (b+4) l[i].edge.fields.length (by omega) (solid_in so8) (np_in np8) lg (TokOK_in T8)) lg (by decide) (fun e=>by rw[e];rfl) so8 np8 T8 hfl (fun u8 ms8 q8 hu8 k8 so9 np9 z8 T9=>?_)
  have e8:(ds++[I m,I (m+1:Nat),q2,q3,I (b:Nat),S (mt (b+1)),I (b+2:Nat),I (b+3:Nat)])++q8::c9::c10::c11::rs'=(ds++[I m,I (m+1:Nat),q2,q3,I (b:Nat),S (mt (b+1)),I (b+2:Nat),I (b+3:Nat),q8])++c9::c10::c11::rs':=by simp
  rw[e8]at k8 so9 np9 T9
  have o9:i*12+9=(ds++[I m,I (m+1:Nat),q2,q3,I (b:Nat),S (mt (b+1)),I (b+2:Nat),I (b+3:Nat),q8]).length:=by rw[List.length_append,hd1];rfl
  have n9:=len (ds++[I m,I (m+1:Nat),q2,q3,I (b:Nat),S (mt (b+1)),I (b+2:Nat),I (b+3:Nat),q8]) c9 (c10::c11::rs') (by simp only[List.length_append,List.length_cons,List.length_nil];omega)
  simp (disch:=omega)only[↓pa,pb,pmy,↓reduceIte,Nat.reduceEqDiff,reduceCtorEq,f0,f5,pmu,b0,b1,k2,k3,b4,b5,b6,b7,hu8,k8,ht9]
  refine RunsTo_poke (X:=[]) (Y:=[]) o9 (by omega) so9 np9 T9 ⟨rfl,rfl,rfl⟩ (fun so10 np10 T10=>?_)
  have b9:=fun cs' E'=> @bk_poke l.length j t0 E' (i*12+9) (ds++[I m,I (m+1:Nat),q2,q3,I (b:Nat),S (mt (b+1)),I (b+2:Nat),I (b+3:Nat),q8]) (c10::c11::rs') cs' c9 (S (mt (b+4+2*l[i].edge.fields.length))) o9
  have e9:(ds++[I m,I (m+1:Nat),q2,q3,I (b:Nat),S (mt (b+1)),I (b+2:Nat),I (b+3:Nat),q8])++S (mt (b+4+2*l[i].edge.fields.length))::c10::c11::rs'=(ds++[I m,I (m+1:Nat),q2,q3,I (b:Nat),S (mt (b+1)),I (b+2:Nat),I (b+3:Nat),q8,S (mt (b+4+2*l[i].edge.fields.length))])++c10::c11::rs':=by simp
  rw[e9]at b9 so10 np10 T10
  have o10:i*12+10=(ds++[I m,I (m+1:Nat),q2,q3,I (b:Nat),S (mt (b+1)),I (b+2:Nat),I (b+3:Nat),q8,S (mt (b+4+2*l[i].edge.fields.length))]).length:=by rw[List.length_append,hd1];rfl
  have n10:=len (ds++[I m,I (m+1:Nat),q2,q3,I (b:Nat),S (mt (b+1)),I (b+2:Nat),I (b+3:Nat),q8,S (mt (b+4+2*l[i].edge.fields.length))]) c10 (c11::rs') (by simp only[List.length_append,List.length_cons,List.length_nil];omega)
  simp (disch:=omega)only[↓pa,pb,pmy,natP,↓reduceIte,Nat.reduceEqDiff,reduceCtorEq,f0,f5,pmu,b0,b1,k2,k3,b4,b5,b6,b7,k8,b9,ht10]
  refine RunsTo_poke (X:=[]) (Y:=[]) o10 (by omega) so10 np10 T10 ⟨rfl,rfl,rfl⟩ (fun so11 np11 T11=>?_)
  have b10:=fun cs' E'=> @bk_poke l.length j t0 E' (i*12+10) (ds++[I m,I (m+1:Nat),q2,q3,I (b:Nat),S (mt (b+1)),I (b+2:Nat),I (b+3:Nat),q8,S (mt (b+4+2*l[i].edge.fields.length))]) (c11::rs') cs' c10 (S (mt (b+4+2*l[i].edge.fields.length+1))) o10
  have e10:(ds++[I m,I (m+1:Nat),q2,q3,I (b:Nat),S (mt (b+1)),I (b+2:Nat),I (b+3:Nat),q8,S (mt (b+4+2*l[i].edge.fields.length))])++S (mt (b+4+2*l[i].edge.fields.length+1))::c11::rs'=(ds++[I m,I (m+1:Nat),q2,q3,I (b:Nat),S (mt (b+1)),I (b+2:Nat),I (b+3:Nat),q8,S (mt (b+4+2*l[i].edge.fields.length)),S (mt (b+4+2*l[i].edge.fields.length+1))])++c11::rs':=by simp
  rw[e10]at b10 so11 np11 T11
  have o11:i*12+11=(ds++[I m,I (m+1:Nat),q2,q3,I (b:Nat),S (mt (b+1)),I (b+2:Nat),I (b+3:Nat),q8,S (mt (b+4+2*l[i].edge.fields.length)),S (mt (b+4+2*l[i].edge.fields.length+1))]).length:=by rw[List.length_append,hd1];rfl
  have n11:=len (ds++[I m,I (m+1:Nat),q2,q3,I (b:Nat),S (mt (b+1)),I (b+2:Nat),I (b+3:Nat),q8,S (mt (b+4+2*l[i].edge.fields.length)),S (mt (b+4+2*l[i].edge.fields.length+1))]) c11 (rs') (by simp only[List.length_append,List.length_cons,List.length_nil];omega)
  simp (disch:=omega)only[↓pa,pb,pmy,natP,↓reduceIte,Nat.reduceEqDiff,reduceCtorEq,f0,f5,pmu,b0,b1,k2,k3,b4,b5,b6,b7,k8,b9,b10,ht11]
  refine RunsTo_poke (X:=[]) (Y:=[]) o11 (by omega) so11 np11 T11 ⟨rfl,rfl,rfl⟩ (fun so12 np12 T12=>?_)
  have b11:=fun cs' E'=> @bk_poke l.length j t0 E' (i*12+11) (ds++[I m,I (m+1:Nat),q2,q3,I (b:Nat),S (mt (b+1)),I (b+2:Nat),I (b+3:Nat),q8,S (mt (b+4+2*l[i].edge.fields.length)),S (mt (b+4+2*l[i].edge.fields.length+1))]) (rs') cs' c11 (S (mt (b+4+2*l[i].edge.fields.length+2))) o11
  simp (disch:=omega)only[↓pa,pb,natP,↓reduceIte,Nat.reduceEqDiff,reduceCtorEq,f0,f5,pmu,b0,b1,k2,k3,b4,b5,b6,b7,k8,b9,b10,b11]
  have hcat:ds++[I m,I (m+1:Nat),q2,q3,I (b:Nat),S (mt (b+1)),I (b+2:Nat),I (b+3:Nat),q8,S (mt (b+4+2*l[i].edge.fields.length)),S (mt (b+4+2*l[i].edge.fields.length+1)),S (mt (b+4+2*l[i].edge.fields.length+2))]++rs'=(ds++[I m,I (m+1:Nat),q2,q3,I (b:Nat),S (mt (b+1)),I (b+2:Nat),I (b+3:Nat),q8,S (mt (b+4+2*l[i].edge.fields.length)),S (mt (b+4+2*l[i].edge.fields.length+1))])++S (mt (b+4+2*l[i].edge.fields.length+2))::rs':=by simp
  refine⟨l.length- (i+1),by omega,i+1,ds++[I m,I (m+1:Nat),q2,q3,I (b:Nat),S (mt (b+1)),I (b+2:Nat),I (b+3:Nat),q8,S (mt (b+4+2*l[i].edge.fields.length)),S (mt (b+4+2*l[i].edge.fields.length+1)),S (mt (b+4+2*l[i].edge.fields.length+2))],rs',rfl,by omega,by rw[hcat],by rw[hkk,hbe],rfl,by simp only[List.length_append,hd1,List.length_cons,List.length_nil];omega,?_,hr5,by rw[hcat];exact np12,by rw[hcat];exact so12,by rw[hcat];exact T12,hfl⟩
  rw[strips_append,hd2,hkm,List.flatMap_append,List.flatMap_cons,List.flatMap_nil,List.append_nil,hcm]
  congr 1
  simp only[pmz,z2,z3,z8,shc]
 ·have hie:l.take i=l:=List.take_of_length_le (by omega)
  have hdr:l.drop i=[]:=List.drop_of_length_le (by omega)
  rw[hdr]at hr2
  have hrn:rs=[]:=List.eq_nil_of_length_eq_zero (by rw[←strips_length,hr2];rfl)
  subst hrn
  rw[List.append_nil]at np0 so0 T0 f0
  rw[hie]at hd2 f1
  simp (disch:=omega)only[↓pa,pb,↓reduceIte,Nat.reduceEqDiff,reduceCtorEq,f0,f1,h,pmu]
  refine⟨_,rfl,rfl,np0,so0,by simpa using T0,rfl,?_⟩
  rw[strip_list,hd2]
def Small(c:Ch):Prop:=c.node.labels.length≤10∧c.node.fields.length≤20∧c.edge.fields.length≤20
def Smalls(l:List Ch):Prop:=∀ c∈l,Small c
theorem Smalls_nil:Smalls []:=fun c h=>by simp at h
theorem Smalls_one{c:Ch}(h:Small c):Smalls [c]:=fun d hd=>by rw[List.mem_singleton]at hd;rw[hd];exact h
theorem Smalls_app{a b:List Ch}(ha:Smalls a)(hb:Smalls b):Smalls (a++b):=fun c h=>by
 rcases List.mem_append.1 h with h|h
 ·exact ha c h
 ·exact hb c h
theorem Smalls_flat{α:Type}{f:α→List Ch}{l:List α}(h:∀ a∈l,Smalls (f a)):Smalls (l.flatMap f):=fun c hc=>by
 obtain⟨a,ha,hc⟩:=List.mem_flatMap.1 hc
 exact h a ha c hc
theorem small_F(w n v:List UInt8):Small (chF w n v):=⟨Nat.zero_le _,Nat.zero_le _,Nat.zero_le _⟩
theorem fcS_small(w:List UInt8)(a b:List Fd):Smalls (fcS w a b):=by
 unfold fcS
 refine Smalls_app (Smalls_flat fun s _=>?_) (Smalls_flat fun s _=>?_)
 ·unfold fcG1;split
  ·exact Smalls_one (small_F _ _ _)
  ·exact Smalls_nil
 ·unfold fcO1;split
  ·exact Smalls_nil
  ·split
   ·exact Smalls_one (small_F _ _ _)
   ·exact Smalls_nil
theorem diff_small{a b:Gph}(ha:GrOk a)(hb:GrOk b):Smalls (diffS a b):=by
 unfold diffS
 refine Smalls_app (Smalls_app (Smalls_app (Smalls_app (Smalls_app (Smalls_flat fun e he=>?_) (Smalls_flat fun n hn=>?_)) (Smalls_flat fun n hn=>?_)) (Smalls_flat fun e he=>?_)) (Smalls_flat fun n hn=>?_)) (Smalls_flat fun e he=>?_)
 ·unfold dE1;split
  ·exact Smalls_nil
  ·exact Smalls_one ⟨Nat.zero_le _,Nat.zero_le _,Nat.zero_le _⟩
 ·unfold dN1;split
  ·exact Smalls_one ⟨Nat.zero_le _,Nat.zero_le _,Nat.zero_le _⟩
  ·exact Smalls_nil
 ·unfold aN1;split
  ·exact Smalls_one ⟨(hb.ns n hn).ll,(hb.ns n hn).fl,Nat.zero_le _⟩
  ·exact Smalls_nil
 ·unfold aES;split
  ·exact Smalls_nil
  ·exact Smalls_one ⟨Nat.zero_le _,Nat.zero_le _,(hb.es e he).fl⟩
 ·unfold nFS;split
  ·exact Smalls_nil
  ·rename_i m hm
   refine Smalls_app ?_ (fcS_small _ _ _)
   unfold labC;split
   ·exact Smalls_nil
   ·exact Smalls_one ⟨(hb.ns m (nodeOf_some hm).1).ll,Nat.zero_le _,Nat.zero_le _⟩
 ·unfold eFS;split
  ·exact Smalls_nil
  ·split
   ·exact fcS_small _ _ _
   ·exact Smalls_nil
theorem diff_len{a b:Gph}(ha:GrOk a)(hb:GrOk b):(diffS a b).length≤97400:=by
 have h1:=flat_boundM (l:=a.edges) (f:=dE1 b.edges) (m:=1) fun e _=>dE1_len _ e
 have h2:=flat_boundM (l:=a.nodes) (f:=dN1 b.nodes) (m:=1) fun e _=>dN1_len _ e
 have h3:=flat_boundM (l:=b.nodes) (f:=aN1 a.nodes) (m:=1) fun e _=>aN1_len _ e
 have h4:=flat_boundM (l:=b.edges) (f:=aES a.edges) (m:=1) fun e _=>aES_len _ e
 have h5:=flat_boundM (l:=a.nodes) (f:=nFS b.nodes) (m:=161) fun n hn=>nFS_len (ha.ns n hn) hb.ns
 have h6:=flat_boundM (l:=a.edges) (f:=eFS b.edges) (m:=160) fun n hn=>eFS_len (ha.es n hn) hb.es
 have:=ha.nl
 have:=ha.el
 have:=hb.nl
 have:=hb.el
 unfold diffS
 simp only[List.length_append]
 omega
theorem diffA_small(a b:Gph):Smalls (diffA a b)∧(diffA a b).length≤97400:=by
 unfold diffA
 split
 ·rename_i h;exact⟨diff_small (gr_ok h.1) (gr_ok h.2),diff_len (gr_ok h.1) (gr_ok h.2)⟩
 ·exact⟨Smalls_nil,Nat.zero_le _⟩
theorem endC_bound:∀ {l:List Ch} (k:Nat),Smalls l→endC (l.map shc) k≤k+l.length*200
 | [],k,_=>by simp[endC]
 |c::l,k,h=>by
  have h1:=h c List.mem_cons_self
  have ih:=endC_bound (l:=l) (mE k (shc c)) fun x hx=>h x (List.mem_cons_of_mem _ hx)
  obtain⟨e1,e2,e3⟩:=h1
  have h2:mE k (shc c)=k+2+c.node.labels.length+2*c.node.fields.length+4+2*c.edge.fields.length+3:=rfl
  rw[List.map_cons,endC,List.length_cons,Nat.add_mul]
  omega
theorem agg2_all{cs ds:List PV}(h:nps cs=true)(h2:nps ds=true):([.agg cs,.agg ds]:List PV).all plainArg=true:=by
 simp only[List.all_cons,List.all_nil,plainArg,pmz,h,h2,Bool.and_self]
set_option maxHeartbeats 32000000 in
theorem c_lawD(K:Env cf)(a b:Gph)(hA:FitsB a)(hB:FitsB b):callP cf 4 [.agg (gc a),.agg (gc b)] [] st=some (.bool true,st):=by
 refine c_val K.tab (F:=F4) (t:=4) rfl rfl rfl (lb rfl) (by simp[plainV_gr]) (bare_bool _) 1 ?_
 have hszA:=fun st=>c_szGr (st:=st) K a hA 1048576 (by omega)
 have e48:((1048576:Nat):Int)=1048576:=rfl
 rw[e48]at hszA
 have hgpA:=gc_plain a
 have hglA:=gc_len a
 have hgtA:List.take 2 (gc a)=gc a:=rfl
 have hgpB:=gc_plain b
 have hglB:=gc_len b
 have hgtB:List.take 2 (gc b)=gc b:=rfl
 unfold F4 qr qd qm qi qc qb qk ql qo qe qN
 simp (disch:=omega)only[↓pa,pb,pmy,↓reduceIte,Nat.reduceEqDiff,Nat.reduceLeDiff,hglA,hgtA,hglB,hszA]
 by_cases hs:szGr a≤1048576
 rotate_left
 ·have hd:dec 1048576 (szGr a)= -1:=by rw[dec,if_neg hs]
  simp (disch:=omega)only[↓pa,pb,↓reduceIte,Int.reduceLT,hd]
 have hd:dec 1048576 (szGr a)=((1048576-szGr a:Nat):Int):=by rw[dec,if_pos hs]
 have hszB:=fun st=>c_szGr (st:=st) K b hB (1048576-szGr a) (by omega)
 simp (disch:=omega)only[↓pa,pb,pmy,↓reduceIte,Nat.reduceEqDiff,Nat.reduceLeDiff,hd,negN,hglB,hgtB,hszB]
 by_cases hs2:szGr b≤1048576-szGr a
 rotate_left
 ·have hd2:dec (1048576-szGr a) (szGr b)= -1:=by rw[dec,if_neg hs2]
  simp (disch:=omega)only[↓pa,pb,↓reduceIte,Int.reduceLT,hd2]
 have hd2:dec (1048576-szGr a) (szGr b)=((1048576-szGr a-szGr b:Nat):Int):=by rw[dec,if_pos hs2]
 have hFa:=fits_of hs
 have hFb:=fits_of (show szGr b≤1048576 by omega)
 obtain⟨hsm,hlw⟩:=diffA_small a b
 generalize hD:diffA a b=D at*
 have hDfit:∀ c∈D,ChFit c:=fun c hc=>by
  obtain⟨h1,h2,h3⟩:=hsm c hc
  exact⟨by omega,by omega,by omega⟩
 simp (disch:=omega)only[↓pa,↓pmw,pb,pmy,pmwk,↓reduceIte,Nat.reduceEqDiff,Nat.reduceLeDiff,hd2,negN,hglA,hgtA]
 refine RunsTo_OE (c_toG K a hFa) (fun r ns hFr hr=>?_)
 obtain⟨c1,rfl,hc1⟩:=strip_agg_inv hr
 simp (disch:=omega)only[↓pa,↓pmw,pb,pmy,pmwk,↓reduceIte,Nat.reduceEqDiff,Nat.reduceLeDiff,pmj,hglB,hgtB]
 refine RunsTo_OE (c_toG K b hFb) (fun r' ns' hFr' hr'=>?_)
 obtain⟨c2,rfl,hc2⟩:=strip_agg_inv hr'
 simp (disch:=omega)only[↓pa,↓pmw,pb,pmwk,↓reduceIte,Nat.reduceEqDiff]
 refine RunsTo_EQf (p:=HX D) ?_ ?_ (fun fl hfl=>?_)
 ·rw[call_st (bs:=[.agg (gc a),.agg (gc b)]) (by simp only[List.map_cons,List.map_nil,pmz,hc1,hc2]) (agg2_all hFr.np hFr'.np) (by simp[plainV_gr]),←hD]
  exact c_diffS K a b
 ·simp only[St.more_fl,St.more_nx];exact Nat.zero_le _
 simp (disch:=omega)only[↓pa,↓pmw,pb,pmy,pmwk,pmwa,List.getElem?_cons_zero,List.getElem?_cons_succ,↓reduceIte,Nat.reduceEqDiff,Nat.reduceLeDiff,pmj,hglA,hgtA,keysOf_agg hgpA.1]
 generalize hS0:setF (((setO (setO (stB [] []) 2 (gc a)) 3 (gc b)).more ns).more ns') fl=S0 at*
 have o2:S0.objs 2=some (gc a):=by rw[←hS0];simp (disch:=omega)only[pb,pmy,↓reduceIte,Nat.reduceEqDiff,pmj]
 have o3:S0.objs 3=some (gc b):=by rw[←hS0];simp (disch:=omega)only[pb,pmy,↓reduceIte,pmj]
 have hf0:S0.fl≤S0.nx:=by rw[←hS0];exact hfl
 clear hS0 hFr hFr' hr hr' hfl
 refine RunsTo_OE (c_toG K a hFa) (fun r2 ns2 hFr2 hr2=>?_)
 obtain⟨c7,rfl,hst7⟩:=strip_agg_inv hr2
 have hl7:c7.length=2:=by rw[←strips_length,hst7];rfl
 have ht7:List.take 2 c7=c7:=by rw[←hl7,List.take_length]
 obtain⟨x7,y7,rfl⟩:∃ x y,c7=[x,y]:=by
  match c7,hl7 with
  | [x,y],_=>exact⟨x,y,rfl⟩
 have hT1:=TokOK_more (st:=S0) TokOK_nil hf0 ns2
 have htk7:tokss [x7,y7]=enum S0.nx ns2:=by have:=hFr2.tk;simpa [toks]using this
 rw[List.nil_append,←htk7]at hT1
 have hso7:solids [x7,y7]=true:=by simpa [solid]using hFr2.so
 have hnp7:nps [x7,y7]=true:=hFr2.np
 simp (disch:=omega)only[↓pa,pb,pmy,↓reduceIte,Nat.reduceEqDiff,Nat.reduceAdd,Nat.reduceLeDiff,pmj,hglB,hgtB,o3]
 generalize hS1:setO (setO (S0.more ns2) 7 [PV.list 0 [] Tok.nil,PV.list 0 [] Tok.nil]) 7 [x7,y7]=S1 at*
 have p2:S1.objs 2=some (gc a):=by rw[←hS1];simp (disch:=omega)only[pb,↓reduceIte,Nat.reduceEqDiff,pmj,o2]
 have p3:S1.objs 3=some (gc b):=by rw[←hS1];simp (disch:=omega)only[pb,↓reduceIte,Nat.reduceEqDiff,pmj,o3]
 have p7:S1.objs 7=some [x7,y7]:=by rw[←hS1];simp (disch:=omega)only[pb,↓reduceIte]
 have hT1:TokOK S1 (tokss [x7,y7]):=by rw[←hS1];exact TokOK_setO (TokOK_setO hT1)
 have hf1:S1.fl≤S1.nx:=by rw[←hS1];show(S0.more ns2).fl≤(S0.more ns2).nx;rw[St.more_fl,St.more_nx];omega
 clear hS1 hFr2 hr2 htk7 o2 o3 hf0
 refine RunsTo_OE (c_toG K b hFb) (fun r2 ns2 hFr2 hr2=>?_)
 obtain⟨c8,rfl,hst8⟩:=strip_agg_inv hr2
 have hl8:c8.length=2:=by rw[←strips_length,hst8];rfl
 have ht8:List.take 2 c8=c8:=by rw[←hl8,List.take_length]
 obtain⟨x8,y8,rfl⟩:∃ x y,c8=[x,y]:=by
  match c8,hl8 with
  | [x,y],_=>exact⟨x,y,rfl⟩
 have hT2:=TokOK_more (st:=S1) hT1 hf1 ns2
 have htk8:tokss [x8,y8]=enum S1.nx ns2:=by have:=hFr2.tk;simpa [toks]using this
 rw[←htk8]at hT2
 have hso8:solids [x8,y8]=true:=by simpa [solid]using hFr2.so
 have hnp8:nps [x8,y8]=true:=hFr2.np
 simp (disch:=omega)only[↓pa,pb,pmy,↓reduceIte,Nat.reduceEqDiff,Nat.reduceAdd,Nat.reduceLeDiff,pmj,p7]
 generalize hS2:setO (setO (S1.more ns2) 8 [PV.list 0 [] Tok.nil,PV.list 0 [] Tok.nil]) 8 [x8,y8]=S2 at*
 have o2:S2.objs 2=some (gc a):=by rw[←hS2];simp (disch:=omega)only[pb,↓reduceIte,Nat.reduceEqDiff,pmj,p2]
 have o3:S2.objs 3=some (gc b):=by rw[←hS2];simp (disch:=omega)only[pb,↓reduceIte,Nat.reduceEqDiff,pmj,p3]
 have o7:S2.objs 7=some [x7,y7]:=by rw[←hS2];simp (disch:=omega)only[pb,↓reduceIte,Nat.reduceEqDiff,pmj,p7]
 have o8:S2.objs 8=some [x8,y8]:=by rw[←hS2];simp (disch:=omega)only[pb,↓reduceIte]
 have hT2:TokOK S2 (tokss [x7,y7]++tokss [x8,y8]):=by rw[←hS2];exact TokOK_setO (TokOK_setO hT2)
 have hf2:S2.fl≤S2.nx:=by rw[←hS2];show(S1.more ns2).fl≤(S1.more ns2).nx;rw[St.more_fl,St.more_nx];omega
 clear hS2 hFr2 hr2 htk8 p2 p3 p7 hf1 hT1
 have h18:∀ {st:St} {cs ds:List PV},strips cs=gc a→strips ds=gc b→nps cs=true→nps ds=true→∃ r ns,callP cf 18 [.agg cs,.agg ds] [] st=some (r,st.more ns)∧Fresh st.nx ns r∧strip r=HX D:=fun{st cs ds} h1 h2 h3 h4=>by
  rw[call_st (bs:=[.agg (gc a),.agg (gc b)]) (by simp only[List.map_cons,List.map_nil,pmz,h1,h2]) (agg2_all h3 h4) (by simp[plainV_gr]),←hD]
  exact c_diffI K a b
 refine RunsTo_OE (h18 hst7 hst8 hnp7 hnp8) (fun r9 ns3 hFr9 hr9=>?_)
 obtain⟨c9,t9,rfl,hst9,-⟩:=strip_list_inv hr9
 have hT3:=TokOK_more hT2 hf2 ns3
 rw[←hFr9.tk]at hT3
 have hso9:=hFr9.so
 have hnp9:nps c9=true:=hFr9.np
 have p2:(S2.more ns3).objs 2=some (gc a):=by rw[St.more_objs];exact o2
 have p3:(S2.more ns3).objs 3=some (gc b):=by rw[St.more_objs];exact o3
 have p7:(S2.more ns3).objs 7=some [x7,y7]:=by rw[St.more_objs];exact o7
 have p8:(S2.more ns3).objs 8=some [x8,y8]:=by rw[St.more_objs];exact o8
 have hf3:(S2.more ns3).fl≤(S2.more ns3).nx:=by rw[St.more_fl,St.more_nx];omega
 generalize S2.more ns3=S3 at*
 clear hFr9 hT2 hf2 o2 o3 o7 o8
 have h19:∀ {st:St} {cs:List PV} {tk:Tok},strips cs=D.flatMap cc→nps cs=true→callP cf 19 [.list D.length cs tk,HX D] [] st=some (.bool true,st):=fun{st cs tk} h1 h2=>by
  rw[call_st (bs:=[HX D,HX D]) (by simp only[List.map_cons,List.map_nil,pmz,h1,(plainV_HX D).2.1]) (by simp only[List.all_cons,plainArg,pmz,h2,(plainVs_arg (ps:=[HX D]) (by simp[plainV_HX])).1,Bool.and_self]) (by simp[plainV_HX])]
  exact c_eqCS K _ (by omega) hDfit
 simp (disch:=omega)only[↓pa,↓pmw,pb,pmy,pmwk,↓reduceIte,Nat.reduceEqDiff,Nat.reduceAdd,Nat.reduceLeDiff,hglA,hgtA,p2,p7,h19 hst9 hnp9]
 refine RunsTo_OE (c_toG K a hFa) (fun r3 ns4 hFr3 hr3=>?_)
 obtain⟨c33,rfl,hc33⟩:=strip_agg_inv hr3
 have hnp33:nps c33=true:=hFr3.np
 have h13:∀ {g:Gph} {cs ds:List PV},Fits g→strips cs=gc g→strips ds=gc g→nps cs=true→nps ds=true→∀ st:St,callP cf 13 [.agg cs,.agg ds] [] st=some (.bool true,st):=fun{g cs ds} hg h1 h2 h3 h4 st=>by
  rw[call_st (bs:=[.agg (gc g),.agg (gc g)]) (by simp only[List.map_cons,List.map_nil,strip_agg,h1,h2]) (agg2_all h3 h4) (by simp[plainV_gr])]
  exact c_eqG1 K g hg
 have h13a:=h13 hFa hst7 hc33 hnp7 hnp33
 have hT4:TokOK (S3.more ns4) (tokss [x7,y7]++tokss [x8,y8]++toks (.list D.length c9 t9)):=TokOK_of' (TokOK_more hT3 hf3 ns4) (fun j=>by simp only[ck_append];omega) (fun q hq=>by rw[List.mem_append];exact .inl hq)
 have o2:(S3.more ns4).objs 2=some (gc a):=by rw[St.more_objs];exact p2
 have o3:(S3.more ns4).objs 3=some (gc b):=by rw[St.more_objs];exact p3
 have o7:(S3.more ns4).objs 7=some [x7,y7]:=by rw[St.more_objs];exact p7
 have o8:(S3.more ns4).objs 8=some [x8,y8]:=by rw[St.more_objs];exact p8
 have hf4:(S3.more ns4).fl≤(S3.more ns4).nx:=by rw[St.more_fl,St.more_nx];omega
 generalize S3.more ns4=S4 at*
 clear hFr3 hT3 hf3 p2 p3 p7 p8
 simp (disch:=omega)only[↓pa,↓pmw,pb,pmy,pmwk,pmwa,List.getElem?_cons_zero,List.getElem?_cons_succ,↓reduceIte,Nat.reduceEqDiff,Nat.reduceAdd,Nat.reduceLeDiff,hglB,hgtB,o3,o8,h13a,keysOf_agg hgpA.1]
 refine RunsTo_OE (c_toG K b hFb) (fun r3 ns4 hFr3 hr3=>?_)
 obtain⟨c34,rfl,hc34⟩:=strip_agg_inv hr3
 have hnp34:nps c34=true:=hFr3.np
 have h13b:=h13 hFb hst8 hc34 hnp8 hnp34
 have hT5:TokOK (S4.more ns4) (tokss [x7,y7]++tokss [x8,y8]++toks (.list D.length c9 t9)):=TokOK_of' (TokOK_more hT4 hf4 ns4) (fun j=>by simp only[ck_append];omega) (fun q hq=>by rw[List.mem_append];exact .inl hq)
 have p2:(S4.more ns4).objs 2=some (gc a):=by rw[St.more_objs];exact o2
 have p3:(S4.more ns4).objs 3=some (gc b):=by rw[St.more_objs];exact o3
 have p7:(S4.more ns4).objs 7=some [x7,y7]:=by rw[St.more_objs];exact o7
 have p8:(S4.more ns4).objs 8=some [x8,y8]:=by rw[St.more_objs];exact o8
 have hf5:(S4.more ns4).fl≤(S4.more ns4).nx:=by rw[St.more_fl,St.more_nx];omega
 generalize S4.more ns4=S5 at*
 clear hFr3 hT4 hf4 o2 o3 o7 o8
 simp (disch:=omega)only[↓pa,↓pmw,pb,pmy,pmwk,pmwa,List.getElem?_cons_zero,List.getElem?_cons_succ,↓reduceIte,Nat.reduceEqDiff,Nat.reduceAdd,Nat.reduceLeDiff,p7,h13b,keysOf_agg hgpB.1]
 have hz1:=endG1_sz a 1
 have hb1:endE (a.edges.map she) (endN (a.nodes.map shp) 1)≤1000000000000:=by omega
 have hm:=c_markG (st:=S5) K 1 a hb1 hst7 hso7 hnp7 (TokOK_of' hT5 (fun j=>by simp only[ck_append];omega) (fun q hq=>by simp[hq]))
 have e1:((1:Nat):Int)=1:=rfl
 rw[e1]at hm
 generalize endE (a.edges.map she) (endN (a.nodes.map shp) 1)=k2 at*
 have hap:∀ q∈tokss [x8,y8]++toks (.list D.length c9 t9),q.1∉(tokss [x7,y7]).map (·.1):=fun q hq=>TokOK_apart' (X:=[]) (B:=tokss [x7,y7]) (Y:=tokss [x8,y8]++toks (.list D.length c9 t9)) (by simpa [List.append_assoc]using hT5) q (by simpa using hq)
 have hk9:killT ((tokss [x7,y7]).map (·.1)) (.list D.length c9 t9)= .list D.length c9 t9:=killT_solid hso9 fun q hq=>hap q (by simp[hq])
 have hk6:= @killT_plain ((tokss [x7,y7]).map (·.1)) _ (plainV_HX D)
 have hT6:=TokOK_mv (st:=S5) (A:=[]) (B:=tokss [x7,y7]) (C:=tokss [x8,y8]++toks (.list D.length c9 t9)) (ns:=[]) (by simpa [List.append_assoc]using hT5) hf5
 refine⟨_,_,hm.1,?_⟩
 have o2:(mvS ((tokss [x7,y7]).map (·.1)) [] S5).objs 2=some (gc a):=by rw[mvS_objs,p2];exact congrArg some (map_plain hgpA)
 have o3:(mvS ((tokss [x7,y7]).map (·.1)) [] S5).objs 3=some (gc b):=by rw[mvS_objs,p3];exact congrArg some (map_plain hgpB)
 have o8:(mvS ((tokss [x7,y7]).map (·.1)) [] S5).objs 8=some [x8,y8]:=by rw[mvS_objs,p8];exact congrArg some (map_solid hso8 fun q hq=>hap q (by simp[hq]))
 have hf6:(mvS ((tokss [x7,y7]).map (·.1)) [] S5).fl≤(mvS ((tokss [x7,y7]).map (·.1)) [] S5).nx:=hf5
 have hT6:TokOK (mvS ((tokss [x7,y7]).map (·.1)) [] S5) (tokss [x8,y8]++toks (.list D.length c9 t9)):=by simpa [enum]using hT6
 have hm2:=hm.2
 generalize hJ7:(tokss [x7,y7]).map (·.1)=J7 at*
 generalize mvS J7 [] S5=S6 at*
 clear hT5 hm hf5 p2 p3 p7 p8 hap
 have hkA:∀ {J:List Nat} {fr:Fr} {t:Nat},killA J fr t=killT J (fr t):=rfl
 have hkF:∀ {f:Nat} {xs:List CX} {d:Option Nat} {st:St} {fr:Fr},killF cf (.call f xs [0]) d st fr=killA (takes (xs.map (·.ev fr)) [0] st) fr:=rfl
 simp (disch:=omega)only[↓pa,pb,pmy,↓reduceIte,Nat.reduceEqDiff,Nat.reduceAdd,Nat.reduceLeDiff,hkA,hkF,killT_ptr,hm2,o8]
 have hz2:=endG1_sz b k2
 have hb2:endE (b.edges.map she) (endN (b.nodes.map shp) k2)≤1000000000000:=by omega
 have hn:=c_markG (st:=S6) K k2 b hb2 hst8 hso8 hnp8 (TokOK_of' hT6 (fun j=>by simp only[ck_append];omega) (fun q hq=>by simp[hq]))
 generalize endE (b.edges.map she) (endN (b.nodes.map shp) k2)=k3 at*
 have hap:∀ q∈toks (.list D.length c9 t9),q.1∉(tokss [x8,y8]).map (·.1):=fun q hq=>TokOK_apart' (X:=[]) (B:=tokss [x8,y8]) (Y:=toks (.list D.length c9 t9)) (by simpa using hT6) q (by simpa using hq)
 have hk9':killT ((tokss [x8,y8]).map (·.1)) (.list D.length c9 t9)= .list D.length c9 t9:=killT_solid hso9 hap
 have hk6':= @killT_plain ((tokss [x8,y8]).map (·.1)) _ (plainV_HX D)
 have hT7:=TokOK_mv (st:=S6) (A:=[]) (B:=tokss [x8,y8]) (C:=toks (.list D.length c9 t9)) (ns:=[]) (by simpa using hT6) hf6
 refine⟨_,_,hn.1,?_⟩
 have p2:(mvS ((tokss [x8,y8]).map (·.1)) [] S6).objs 2=some (gc a):=by rw[mvS_objs,o2];exact congrArg some (map_plain hgpA)
 have p3:(mvS ((tokss [x8,y8]).map (·.1)) [] S6).objs 3=some (gc b):=by rw[mvS_objs,o3];exact congrArg some (map_plain hgpB)
 have hf7:(mvS ((tokss [x8,y8]).map (·.1)) [] S6).fl≤(mvS ((tokss [x8,y8]).map (·.1)) [] S6).nx:=hf6
 have hT7:TokOK (mvS ((tokss [x8,y8]).map (·.1)) [] S6) ([]++toks (.list D.length c9 t9)++[]):=by simpa [enum]using hT7
 have hn2:=hn.2
 generalize hJ8:(tokss [x8,y8]).map (·.1)=J8 at*
 generalize mvS J8 [] S6=S7 at*
 clear hT6 hn hf6 o2 o3 o8 hap
 simp (disch:=omega)only[↓pa,pb,↓reduceIte,Nat.reduceEqDiff,hkA,hk9,hk6,hn2,hk9',hk6',negN,h19 hst9 hnp9,pmu]
 have hbe:=endC_bound (l:=D) 1 hsm
 have hb3:endC (D.map shc) 1≤1000000000000:=by omega
 have hL9:Like cc 12 D c9:=Like_of cc_len hst9 hnp9
 have hmu:=c_markCS (st:=S7) K 1 D hb3 hso9 hL9 (by simpa using hT7)
 rw[e1]at hmu
 refine RunsTo_U hmu (fun p ns5 hu hF5 hv htk=>?_)
 obtain⟨q9,z1,z2,z3,z4,z5⟩:=kU_top (r:=I (endC (D.map shc) 1:Nat)) (s:=mvS ((toks (.list D.length c9 t9)).map (·.1)) ns5 S7) (sz:=12) hso9 hnp9 hL9.len (by decide) htk hF5 (fun e=>by
  have h0:D.length=0:=by have:=hL9.len;rw[e]at this;simp at this;omega
  have h1:D=[]:=List.eq_nil_of_length_eq_zero h0
  rw[hv,h1];rfl) hT7 hf7
 rw[hv]at z4
 obtain⟨d9,u9,rfl,hst9',-⟩:=strip_list_inv z4
 have hk6u:= @kU_plain D.length c9 [I 1] t9 (I (endC (D.map shc) 1:Nat)) p (mvS ((toks (.list D.length c9 t9)).map (·.1)) ns5 S7) S7 htk _ (plainV_HX D)
 have o2:(mvS ((toks (.list D.length c9 t9)).map (·.1)) ns5 S7).objs 2=some (gc a):=by
  rw[mvS_objs,p2];exact congrArg some (map_plain hgpA)
 have o3:(mvS ((toks (.list D.length c9 t9)).map (·.1)) ns5 S7).objs 3=some (gc b):=by
  rw[mvS_objs,p3];exact congrArg some (map_plain hgpB)
 have hlg:(D.map shc).length=D.length:=List.length_map _
 have h21:∀ st:St,callP cf 21 [.list D.length d9 u9,I 1] [] st=some (I (endC (D.map shc) 1:Nat),st):=fun st=>by
  have hpl:plainV (.list D.length ((mkC (D.map shc) 1).flatMap cc) .no):=plainV_list (flat_plain cc cc_plain _)
  rw[call_st (bs:=[.list D.length ((mkC (D.map shc) 1).flatMap cc) .no,I 1]) (by simp only[List.map_cons,List.map_nil,pmz,hst9']) (by have:nps d9=true:=z3;simp only[List.all_cons,List.all_nil,plainArg,pmz,this,Bool.and_self]) (by simp[hpl,plainV_int])]
  have:=c_heldCS (st:=st) K 1 (D.map shc) hb3
  rw[hlg,e1]at this
  exact this
 simp (disch:=omega)only[↓pa,↓pmw,pb,pmy,pmwk,↓reduceIte,Nat.reduceEqDiff,Nat.reduceLeDiff,ne_eq,hglA,hgtA,hkA,killT_ptr,hk9,hk9',negN,pmu,hu,z1,h21,o2]
 generalize mvS ((toks (.list D.length c9 t9)).map (·.1)) ns5 S7=S8 at*
 refine RunsTo_OE (c_toG K a hFa) (fun r4 ns6 hFr4 hr4=>?_)
 obtain⟨c35,rfl,hc35⟩:=strip_agg_inv hr4
 have o3':(S8.more ns6).objs 3=some (gc b):=by rw[St.more_objs];exact o3
 simp (disch:=omega)only[↓pa,↓pmw,pb,pmy,pmwk,↓reduceIte,Nat.reduceEqDiff,Nat.reduceLeDiff,hglB,hgtB,hkA,killT_ptr,pmu,o3']
 refine RunsTo_OE (c_toG K b hFb) (fun r5 ns7 hFr5 hr5=>?_)
 obtain⟨c36,rfl,hc36⟩:=strip_agg_inv hr5
 simp (disch:=omega)only[↓pa,↓pmw,pb,pmwk,↓reduceIte,Nat.reduceEqDiff]
 refine RunsTo_OE (h18 hc35 hc36 hFr4.np hFr5.np) (fun r10 ns8 hFr10 hr10=>?_)
 obtain⟨c10,t10,rfl,hst10,-⟩:=strip_list_inv hr10
 have hnp10:nps c10=true:=hFr10.np
 simp (disch:=omega)only[↓pa,↓pmw,pb,pmwk,pmwa,List.getElem?_cons_zero,List.getElem?_cons_succ,↓reduceIte,Nat.reduceEqDiff,ne_eq,hkA,hk9,hk6,hk9',hk6',negN,pmu,z1,hk6u,h19 hst10 hnp10,h21,keysOf_agg hgpA.1]
end Go.PM
namespace Go.Proofs.YtdpamjikmlbmhaaGreatDoor.DiffGraphs
open Go Go.PM Go.ChangeShapes Go.WideShapes Go.ChangeAt Go.RowKit
theorem own:ownKnob Tryz.prog.godebug=none:=by kernel_rfl
theorem und4:Tryz.prog.underlying 4=some .bool:=by kernel_rfl
theorem cel25:Tryz.prog.cellsOf 25=2:=by kernel_rfl
theorem fits{g:Gph}(h:OkG g):FitsB g:=⟨h.ns,h.es,fun x hx=>(h.n x hx).1,fun x hx=>(h.n x hx).2,fun x hx=>(h.e x hx).1,fun x hx=>(h.e x hx).2⟩
set_option maxRecDepth 100000 in
theorem contract(H:Type)(enc:TypeId×Value→H)(W:World)(base:Nat)(args:Array Value)(ds gs:List (DataW H))(before:List MemPlace)
  (hval:∀ (j:Nat) t v,Tryz.f4.params[j]? =some t→args[j]? =some v→Value.okWide Tryz.prog W .any base t v)
  (hW:DataW.Whole enc Tryz.prog Tryz.f4.params.toList Rows.fnExactDiffGraphsSpec.vars false W args.toList ds gs before) (hL:laidMetH Tryz.prog laidL W) (hsh:W.ShapedOpen Tryz.prog):
  Calls Tryz.prog 4 args W fun e W'=>∃ v,e= .returned v∧Rows.fnExactDiffGraphsSpec.post enc Tryz.prog Tryz.f4 false true false false W args v W':=by
 have hW':=hW
 have hlt:=hW.lt
 obtain⟨p,q,hA0,hV,rfl,hfz,hnd⟩:=hW
 have hA:DataW.TrodAll enc Tryz.prog W 0 (fun _=>true) true Tryz.f4.params.toList args.toList ds p:=hA0
 have hp:Tryz.f4.params= #[25,25]:=by kernel_rfl
 rw[hp]at hA hval
 obtain⟨v0,v1,d0,d1,p0,p1,rfl,rfl,rfl,h0,h1⟩:=trodAll_two hA
 obtain⟨rfl,rfl⟩:=trodVars_none hV
 have hv1:=hval 1 25 v1 rfl rfl
 have hv0:=hval 0 25 v0 rfl rfl
 have row:∀ {v:Value},v.okWide Tryz.prog W .any base 25→∃ cs,v= .agg cs∧cs.size=Tryz.prog.cellsOf 25:=fun{v} h=>by
  unfold Value.okWide at h
  rw[Tryz.underlying25]at h
  obtain⟨cs,h1,h2,_⟩:=h
  exact⟨cs,h1,h2⟩
 obtain⟨cs,rfl,hcs⟩:=row hv0
 obtain⟨ds,rfl,hds⟩:=row hv1
 obtain⟨fuel,hf⟩:=h0
 obtain⟨fuel2,hf2⟩:=h1
 obtain⟨g,hg,hok⟩:=rd_graph hf (Array.length_toList.trans (hcs.trans cel25))
 obtain⟨g2,hg2,hok2⟩:=rd_graph hf2 (Array.length_toList.trans (hds.trans cel25))
 obtain⟨pS,pR,hI⟩:=startInv hL hsh
 have hR0:R (ghOf W) (.agg (gc g)) (.agg cs):=by
  have:=R.agg (G:=ghOf W) (gc g) cs.toList hg.1 hg.2.1 hg.2.2
  simpa using this
 have hR1:R (ghOf W) (.agg (gc g2)) (.agg ds):=by
  have:=R.agg (G:=ghOf W) (gc g2) ds.toList hg2.1 hg2.2.1 hg2.2.2
  simpa using this
 obtain⟨_,_,hc⟩:=callP_sound (cfT_ok 270 270 pS pR) hI (f:=4) (show([.agg (gc g),.agg (gc g2)]:List PV).length=([.agg cs,.agg ds]:List Value).length from rfl) (fun j p v hp hv=>by
  match j with
  |0=>simp at hp hv;subst hp hv;exact⟨hR0,np_tidy (plainV_gr g).1⟩
  |1=>simp at hp hv;subst hp hv;exact⟨hR1,np_tidy (plainV_gr g2).1⟩
  |j+2=>simp at hp) (c_lawD envT g g2 (fits hok) (fits hok2))
 refine hc.mono fun e W' h=>?_
 obtain⟨v,G',hret,hRv,_,hS,_⟩:=h
 cases hRv
 obtain rfl:=(RetOk_lt (by decide)).1 hret
 have hb:=endKept hS
 have hargs:=TrodAll_stays (enc:=enc) laidOut hb (ts:=[25,25]) (fun t ht=>by
  simp only[List.mem_cons,List.not_mem_nil,or_false]at ht
  rcases ht with rfl|rfl
  ·exact⟨by kernel_rfl,of_decide_eq_true (by kernel_rfl)⟩
  ·exact⟨by kernel_rfl,of_decide_eq_true (by kernel_rfl)⟩) (fun x hx=>hlt x (List.mem_append_left _ hx)) (by rw[hp]at hA0;exact hA0)
 refine⟨_,rfl,[d0,d1],[],_,[],p0++p1,[],hW',trodAll_mk1 (shut_bool und4 true),?_,rfl,keptBut_old hS.eff hb _,fun h=>by cases h⟩
 rw[hp]
 exact hargs
theorem laid_met(os:Os)(a:Array Value):laidMetH Tryz.prog laidL ((World.doorLaid Tryz.prog 400 os).forCall (fun _ _=>0) ⟨#[],a,[]⟩).memory:=
 laidMetH_of_parts3 (fuel:=8) (laidMet_of_run' 8 (by kernel_rfl) (by kernel_rfl)) (by kernel_rfl) (by kernel_rfl)
theorem reads(os:Os){H:Type}(enc:TypeId×Value→H):∃ places,DataW.whole enc Tryz.prog ((World.doorLaid Tryz.prog 400 os).forCall (fun _ _=>0) ⟨#[], #[.agg #[.slice none 0 0,.slice none 0 0],.agg #[.slice none 0 0,.slice none 0 0]],[]⟩).memory Tryz.f4.params.toList Rows.fnExactDiffGraphsSpec.vars false #[Value.agg #[.slice none 0 0,.slice none 0 0],.agg #[.slice none 0 0,.slice none 0 0]].toList 8=some ([.agg [.nil,.nil],.agg [.nil,.nil]],[],places):=
 ⟨[],by kernel_rfl⟩
set_option maxRecDepth 100000 in
theorem lifted(os:Os)(started:os.Started)(H:Type)(enc:TypeId×Value→H)(F:Stop.Interp):
  ReturnsInHanded {} Tryz.checked os 4 .any ((OpenSpec.ofChange Rows.fnExactDiffGraphsSpec).preRow enc Tryz.prog Tryz.f4 Rows.fnExactDiffGraphsRow.domain false Rows.fnExactDiffGraphsRow.laid) (((OpenSpec.ofChange Rows.fnExactDiffGraphsSpec).at F).post enc Tryz.prog Tryz.f4 false true false false):=by
 obtain⟨places,hx⟩:=reads os enc
 refine returnsInHanded_of_row (C:=Tryz.checked) (s:=OpenSpec.ofChange Rows.fnExactDiffGraphsSpec) own started (by kernel_rfl) Tryz.func4
  (witness_row_atRef (enc:=enc) (C:=Tryz.checked) false (World.doorLaid Tryz.prog 400 os) #[.agg #[.slice none 0 0,.slice none 0 0],.agg #[.slice none 0 0,.slice none 0 0]] rfl (by kernel_rfl) (by kernel_rfl) (by kernel_rfl)
   (OpenSpec.preRow_of_cond 8 hx (by kernel_rfl) (fun k hk=>by cases hk) (by kernel_rfl) (laid_met os _))) ?_
 intro W base args ds gs before hval hW _ _ _ hL hsh _
 exact contract H enc W base args ds gs before hval hW hL hsh
theorem said:Rows.FnExactDiffGraphsSaid:=
 OpenClaim.holds_of_cond 4 Tryz.f4 rfl rfl rfl rfl rfl rfl rfl ⟨rfl,rfl,rfl,rfl,rfl⟩ rfl rfl rfl rfl rfl (by kernel_rfl) Tryz.func4 (by kernel_rfl)
  (of_decide_eq_true (by kernel_rfl)) (by unfold Func.isWrapper;first|(rw[if_pos (by decide+kernel)];kernel_rfl)|(rw[if_neg (by decide+kernel)];exact⟨rfl,rfl⟩))
  (fun os started H enc _ F=>by rw[OpenClaim.pre_eq_preRow];exact lifted os started H enc F)
theorem plain(f:FuncId)(fn:Func)(hf:Tryz.pinned.checked.prog.funcNamed "loop.example/g00042/laws.FnExactDiffGraphs" =some f)(hfn:Tryz.pinned.checked.prog.funcs[f]? =some fn):
  true=Tryz.pinned.checked.prog.looks []∧∀ (j:Nat) t,fn.params[j]? =some t→Tryz.pinned.checked.prog.wantsStandIn t=false:=by
 obtain rfl:f=4:=Option.some.inj ((show Tryz.prog.funcNamed "loop.example/g00042/laws.FnExactDiffGraphs" =some 4 by kernel_rfl).symm.trans hf)|>.symm
 obtain rfl:fn=Tryz.f4:=(Option.some.inj (Tryz.func4.symm.trans hfn)).symm
 refine⟨by kernel_rfl,fun j t ht=>?_⟩
 have hp:Tryz.f4.params= #[25,25]:=by kernel_rfl
 rw[hp]at ht
 have hm:=Array.mem_of_getElem? ht
 simp only[List.mem_toArray,List.mem_cons,List.not_mem_nil,or_false]at hm
 rcases hm with rfl|rfl
 ·exact(show Tryz.prog.wantsStandIn 25=false by kernel_rfl)
 ·exact(show Tryz.prog.wantsStandIn 25=false by kernel_rfl)
theorem card : Rows.FnExactDiffGraphsCardSaid :=
 Claim7.holds_tied_plain_at .later [] _ _ _ _ said (fun _ h=>by cases h) (by kernel_rfl) (fun _ h=>by cases h) fnExactDiffGraphs_row_tie rfl ⟨rfl,rfl⟩ (by kernel_rfl) rfl plain (by kernel_rfl)
#print axioms card
end Go.Proofs.YtdpamjikmlbmhaaGreatDoor.DiffGraphs
