/- A part of the proof. Conditions: none. -/
import Derived.Test.YtdpamjikmlbmhaaGreatDoorPH
set_option linter.all false
set_option maxHeartbeats 9999999
open Nat (reduceEqDiff reduceAdd reduceLeDiff reduceLT)
namespace Go.PM
open Go.Lib
variable {cf:aA} {st:St} {mk:PV->St->Fr×St} {A:Fr×St->Prop} {s:Nat}
def vm{l:List (Nat×Nat)}(hk:aL st l):∀ k∈l.map (·.1),k<st.nx:=by
 intro k h;obtain⟨q,hq,rfl⟩:=cA.1 h;exact(hk.2 q hq).1
def Ep(K:bJ cf){g:bY}{x:Nd}{t u:aB}(hg:gM g t u)(hk:aL st (dy g t u))(hf:st.fl<=st.nx)(hl:g.nodes.length<=1000000)
  (k:∀ t' u' ns b,cD [.agg [.list g.nodes.length (g.nodes.flatMap nc) t,.list g.edges.length (g.edges.flatMap ec) u],.agg (nc x)] [0] st=(dy g t u).map (·.1)->gM ⟨iX x g.nodes,g.edges⟩ t' u'->aL (mX ((dy g t u).map (·.1)) ns b st) (dy ⟨iX x g.nodes,g.edges⟩ t' u')->A (mk (gq ⟨iX x g.nodes,g.edges⟩ t' u') (mX ((dy g t u).map (·.1)) ns b st))):
  cP (av cf 63 [.agg [.list g.nodes.length (g.nodes.flatMap nc) t,.list g.edges.length (g.edges.flatMap ec) u],.agg (nc x)] [0] st) mk A:=by
 obtain⟨t',u',ns,b,hc,ht,h1,h2⟩:=M8 K g x hg hk hl;exact⟨_,_,hc,k t' u' ns b ht h1 (by rw[h2];exact tz hf (vm hk))⟩
def Er(K:bJ cf){g:bY}{x:Eg}{t u:aB}(hg:gM g t u)(hk:aL st (dy g t u))(hf:st.fl<=st.nx)(hl:g.edges.length<=1000000)
  (k:∀ t' u' ns b,cD [.agg [.list g.nodes.length (g.nodes.flatMap nc) t,.list g.edges.length (g.edges.flatMap ec) u],.agg (ec x)] [0] st=(dy g t u).map (·.1)->gM ⟨g.nodes,gI x g.edges⟩ t' u'->aL (mX ((dy g t u).map (·.1)) ns b st) (dy ⟨g.nodes,gI x g.edges⟩ t' u')->A (mk (gq ⟨g.nodes,gI x g.edges⟩ t' u') (mX ((dy g t u).map (·.1)) ns b st))):
  cP (av cf 64 [.agg [.list g.nodes.length (g.nodes.flatMap nc) t,.list g.edges.length (g.edges.flatMap ec) u],.agg (ec x)] [0] st) mk A:=by
 obtain⟨t',u',ns,b,hc,ht,h1,h2⟩:=M9 K g x hg hk hl;exact⟨_,_,hc,k t' u' ns b ht h1 (by rw[h2];exact tz hf (vm hk))⟩
def vD(K:bJ cf){g:bY}{b:Bool}{id:Int}(hl:g.edges.length<=2000000){t u:aB}(k:∀ fl,(kJ b g.edges id=[]->fl=st.fl)->A (mk (IX (kJ b g.edges id)) (cZ st fl))):
  cP (av cf 43 [.agg [.list g.nodes.length (g.nodes.flatMap nc) t,.list g.edges.length (g.edges.flatMap ec) u],I id,.bool b] [] st) mk A:=by
 obtain⟨fl,hc,hfl⟩:=IR (st:=st) K g b id hl (t:=t) (u:=u);exact⟨_,_,hc,k fl hfl⟩
def E4{q:PV}{g:bY}(h:aC q= .agg (gc g)):∃ n m cs ds t u,q= .agg [.list n cs t,.list m ds u]:=by
 obtain⟨cs,rfl,hcs⟩:=eI h
 match cs,hcs with
 | [a,b],hcs=>
  simp only[az,gc,List.cons.injEq,lE]at hcs;obtain⟨d1,u1,rfl,-,-⟩:=bt hcs.1;obtain⟨d2,u2,rfl,-,-⟩:=bt hcs.2;exact⟨_,_,_,_,_,_,rfl⟩
 | [],h=>simp[aF,aZ,gc]at h
 | [_],h=>simp[aF,aZ,gc]at h
 |_::_::_::_,h=>simp[aF,aZ,gc]at h
def DJ(K:bJ cf){g:bY}{c:Ch}{v:V}(hv:fu c.value=some v){t u:aB}(hg:gM g t u)(hk:aL st (dy g t u))(hf:st.fl<=st.nx)(ho:jO g)
  (k:∀ q ns b n m cs ds t' u',cD [.agg [.list g.nodes.length (g.nodes.flatMap nc) t,.list g.edges.length (g.edges.flatMap ec) u],.agg (cc c)] [0] st=(dy g t u).map (·.1)->q= .agg [.list n cs t',.list m ds u']->aC q= .agg (gc (jr wS g c).1)->np q=true->
   ((jr wS g c).2=0->∃ t2 u2,q=gq (jr wS g c).1 t2 u2/\gM (jr wS g c).1 t2 u2/\aL (mX ((dy g t u).map (·.1)) ns b st) (dy (jr wS g c).1 t2 u2))->A (mk (.tup [.agg [.list n cs t',.list m ds u'],I (jr wS g c).2]) (mX ((dy g t u).map (·.1)) ns b st))):
  cP (av cf 156 [.agg [.list g.nodes.length (g.nodes.flatMap nc) t,.list g.edges.length (g.edges.flatMap ec) u],.agg (cc c)] [0] st) mk A:=by
 obtain⟨r,ns,b,hc,ht,q,rfl,h1,h2,h3⟩:=L5 K g c v hv hg hk ho;obtain⟨n,m,cs,ds,t',u',rfl⟩:=E4 h1;refine⟨_,_,hc,k _ ns b n m cs ds t' u' ht rfl h1 h2 fun h0=>?_⟩;obtain⟨t2,u2,e,h4,h5⟩:=h3 h0;exact⟨t2,u2,e,h4,by rw[h5];exact tz hf (vm hk)⟩
def E5{x:bY×Int}{t u:aB}(h:x.2≠0):eQ [gq x.1 t u,I x.2]=true/\np (.tup [gq x.1 t u,I x.2])=true/\zX x (.tup [gq x.1 t u,I x.2]) st:=by
 have h1:= @C0 x.1 t u x.2;exact⟨h1,sv h1,_,rfl,uY _ _ _,fun h0=>absurd h0 h⟩
def IP(K:bJ cf)(g:bY)(c:Ch){t u:aB}(hg:gM g t u)(hk:aL st (dy g t u))(ho:jO g)(hc1:c.node.labels.length<=2000000/\c.node.fields.length<=2000000)(hc2:c.edge.fields.length<=2000000):
  ∃ r ns b,av cf 113 [gq g t u,.agg (cc c)] [0] st=some (r,mX ((dy g t u).map (·.1)) ns b st)/\cD [gq g t u,.agg (cc c)] [0] st=(dy g t u).map (·.1)/\Cb (lH wS g c) st.nx ns r:=by
 refine Dh (f:=113) (F:=F113) K.tab rfl rfl rfl hg hk (by simp[ej,jd]) (lb rfl) 1 ?_;clear hg hk;intro t u ns hg hns;have hk:aL (bn ns []) (dy g t u):=by rw[hns];exact ny ns
 have hcl:(cc c).length=12:=rfl;have hct:List.take 12 (cc c)=cc c:=rfl;have hnl:=ho.nl;have hel:=ho.el;have hm1:=bN nc 3 cC g.nodes;have hm2:=bN ec 5 cw g.edges;have hF:=fun st=>Mh (st:=st) K c;have hN:∀ st id,av cf 83 [.agg [.list g.nodes.length (g.nodes.flatMap nc) t,.list g.edges.length (g.edges.flatMap ec) u],I id] [] st=some (I (dA g.nodes id),st):=fun st id=>(ug (by simp[aQ])).trans (wA K g id (by omega));have hE:∀ st id,av cf 99 [.agg [.list g.nodes.length (g.nodes.flatMap nc) t,.list g.edges.length (g.edges.flatMap ec) u],I id] [] st=some (I (fI g.edges id),st):=fun st id=>(ug (by simp[aQ])).trans (BG K g id (by omega));have hkp:=iV (gu c.node);have hkp2:=iV (gv c.edge);have hkp3:=iV (ia c.node.labels);unfold F113 qr qd qm qi qk ql qf qt qu qa qx qn qo qe qN gq lH;cases hf:lf c
 ·rw[ak rfl];simp only[↓pa,pb,ai,↓reduceIte,reduceEqDiff,reduceAdd,reduceLeDiff,dz,iu,fL,hcl,hct,hF,hf,aq];exact ij (x:=(g,1)) hg hk
 rw[ad (by simp)];simp only[↓pa,pb,ai,↓reduceIte,reduceEqDiff,reduceAdd,reduceLeDiff,fS,hcl,hct,hF,hf,hN,hE,aq];refine aa (fun k1=>?_) (fun k1=>?_)
 ·rw[ak k1];simp only[↓pa,pb,↓reduceIte,reduceEqDiff];refine aa (fun a1=>?_) (fun a1=>?_)
  ·rw[ak a1];simp only[↓pa,pb,ai,↓reduceIte,reduceEqDiff,reduceAdd,reduceLeDiff,dz,iu,fL,aq];exact ij (x:=(g,9)) hg hk
  rw[ad a1];simp only[↓pa,pb,ai,↓reduceIte,reduceEqDiff,aq];refine aa (fun a2=>?_) (fun a2=>?_)
  ·rw[ak (by omega)];simp only[↓pa,pb,ai,↓reduceIte,reduceEqDiff,reduceAdd,reduceLeDiff,dz,iu,fL,aq];exact ij (x:=(g,4)) hg hk
  rw[ad (by omega)];simp only[↓pa,↓dx,pb,ai,cB,↓reduceIte,reduceEqDiff,reduceAdd,reduceLeDiff,fS,aq];refine oQ rfl (by simp[gu]) (Fz K c.node hc1.1 hc1.2) ?_;simp only[↓pa,↓dx,pb,cB,↓reduceIte,reduceEqDiff,nV,hkp];refine Ep K hg hk (aM _) (by omega) (fun t' u' ns' b ht hg' hk'=>?_);simp only[↓pa,↓dx,pb,ai,cB,fD,aj,ah,↓reduceIte,reduceEqDiff,reduceAdd,reduceLeDiff,dz,iu,nV,fL,aq,ht,gq];exact ij (x:=(⟨iX c.node g.nodes,g.edges⟩,0)) hg' hk'
 rw[ad k1];simp only[↓pa,pb,↓reduceIte,reduceEqDiff];refine aa (fun k2=>?_) (fun k2=>?_)
 ·rw[ak k2];simp only[↓pa,pb,↓reduceIte,reduceEqDiff];refine aa (fun a1=>?_) (fun a1=>?_)
  ·rw[ak a1];simp only[↓pa,pb,ai,↓reduceIte,reduceEqDiff,reduceAdd,reduceLeDiff,dz,iu,fL,aq];exact ij (x:=(g,5)) hg hk
  rw[ad a1,Nz];obtain⟨j,hj⟩:∃ j:Nat,dA g.nodes c.node.id=j:=⟨_,(eo (by omega)).symm⟩;have hlt:= @kZ g.nodes c.node.id;rw[hj]at hlt;simp only[hj]at*;simp only[↓pa,pb,ai,↓reduceIte,reduceEqDiff,reduceAdd,reduceLeDiff,fS,aq];refine vD K (by omega) (fun fl1 hfl1=>?_);simp only[↓pa,pb,↓reduceIte];refine aa (fun b1=>?_) (fun b1=>?_)
  ·rw[ak (.inl (by omega))];simp only[↓pa,pb,ai,↓reduceIte,reduceEqDiff,reduceAdd,reduceLeDiff,dz,iu,fL,aq,b1];exact E5 (x:=(g,6)) (show(6:Int)≠0 by decide)
  have hn1:kJ true g.edges c.node.id=[]:=gd.1 (by omega);rw[hfl1 hn1];simp only[↓pa,pb,ai,↓reduceIte,reduceEqDiff,reduceAdd,reduceLeDiff,fS,aq,b1];refine vD K (by omega) (fun fl2 hfl2=>?_);simp only[↓pa,pb,↓reduceIte,reduceEqDiff];refine aa (fun b2=>?_) (fun b2=>?_)
  ·rw[ak (.inr (by omega))];simp only[↓pa,pb,ai,↓reduceIte,reduceEqDiff,reduceAdd,reduceLeDiff,dz,iu,fL,aq,b2];exact E5 (x:=(g,6)) (show(6:Int)≠0 by decide)
  have hn2:kJ false g.edges c.node.id=[]:=gd.1 (by omega);rw[hfl2 hn2,ad (by rw[hn1,hn2];simp)];simp only[↓pa,↓bT,pb,ai,↓reduceIte,reduceEqDiff,reduceAdd,reduceLT,aq,b2];obtain⟨hG0,hE0,-⟩:=qD hk hg;have hp:=fun st=>uv (st:=st) (t:=t) (k:=j) hm1 (by omega);have hq:∀ st,tH 3 (.list g.nodes.length (g.nodes.flatMap nc) t) (some (I ((j+1:Nat):Int))) none st=some (.list (g.nodes.length- (j+1)) ((g.nodes.flatMap nc).drop ((j+1) *3)) t.der,st):=fun st=>uu (k:=j+1) hm1 (by omega);have e1:=jm nc 3 cC g.nodes j;have e2:=jn nc 3 cC g.nodes (j+1);have l1:((g.nodes.take j).flatMap nc).length=j*3:=by rw[bN nc 3 cC,aG];congr 1;omega
  have l2:((g.nodes.drop (j+1)).flatMap nc).length=(g.nodes.length- (j+1)) *3:=by rw[bN nc 3 cC,aU]
  simp only[↓pa,↓bT,↓reduceIte,reduceEqDiff,hp,e1,dv,dR];obtain⟨hE1,hap1⟩:=gO (st:=bn ns []) (m:=0+j) (je (e:=72)) hE0 q5;have hG1:=di (st:=bn ns []) (m:=j) (je (e:=72));refine bj (n:=0) (m:=j) je rfl l1 (by omega) (by omega) (by decide) ?_;simp (disch:=omega)only[↓pa,↓bT,pb,ai,aV,↓reduceIte,reduceEqDiff,aq,hq,e2,aN];rw[aq]at hE1 hG1;refine bj (n:=j) (m:=g.nodes.length- (j+1)) hG1 l1 l2 (by omega) (by omega) (by decide) ?_;obtain⟨hE2,hap2⟩:=gO (m:=j+(g.nodes.length- (j+1))) hG1 hE1 hap1;have hG2:=di (m:=g.nodes.length- (j+1)) hG1;have e3:(g.nodes.take j).flatMap nc++(g.nodes.drop (j+1)).flatMap nc=(g.nodes.eraseIdx j).flatMap nc:=by rw[iC,bE]
  have e4:j+(g.nodes.length- (j+1))=(g.nodes.eraseIdx j).length:=by rw[jE (by omega)];omega
  simp only[↓pa,pb,ai,↓reduceIte,reduceEqDiff,reduceAdd,reduceLeDiff,dz,iu,fL,aq,e3,e4];rw[e4]at hG2 hE2;exact ij (x:=(⟨g.nodes.eraseIdx j,g.edges⟩,0)) ⟨kN hG2,hg.2⟩ (sB (g:=⟨g.nodes.eraseIdx j,g.edges⟩) hG2 hE2 hap2 fun k e _=>aM _)
 rw[ad k2];simp only[↓pa,pb,↓reduceIte,reduceEqDiff];refine aa (fun k3=>?_) (fun k3=>?_)
 ·rw[ak k3];simp only[↓pa,pb,↓reduceIte,reduceEqDiff];refine aa (fun a1=>?_) (fun a1=>?_)
  ·rw[ak a1];simp only[↓pa,pb,ai,↓reduceIte,reduceEqDiff,reduceAdd,reduceLeDiff,dz,iu,fL,aq];exact ij (x:=(g,9)) hg hk
  rw[ad a1];simp only[↓pa,pb,ai,↓reduceIte,reduceEqDiff,reduceAdd,reduceLeDiff,fS,aq,hN];refine aa (fun b1=>?_) (fun b1=>?_)
  ·rw[ak (.inl b1)];simp only[↓pa,pb,ai,↓reduceIte,reduceEqDiff,reduceAdd,reduceLeDiff,dz,iu,fL,aq,b1];exact ij (x:=(g,5)) hg hk
  simp only[↓pa,pb,ai,↓reduceIte,reduceEqDiff,reduceAdd,reduceLeDiff,fS,aq,hN,b1];refine aa (fun b2=>?_) (fun b2=>?_)
  ·rw[ak b2];simp only[↓pa,pb,ai,↓reduceIte,reduceEqDiff,reduceAdd,reduceLeDiff,dz,iu,fL,aq,b2];exact ij (x:=(g,5)) hg hk
  rw[ad b2];simp only[↓pa,pb,ai,↓reduceIte,reduceEqDiff,aq,b2];refine aa (fun a2=>?_) (fun a2=>?_)
  ·rw[ak (by omega)];simp only[↓pa,pb,ai,↓reduceIte,reduceEqDiff,reduceAdd,reduceLeDiff,dz,iu,fL,aq];exact ij (x:=(g,4)) hg hk
  rw[ad (by omega)];simp only[↓pa,↓dx,pb,ai,cB,↓reduceIte,reduceEqDiff,reduceAdd,reduceLeDiff,fS,aq];refine oQ rfl (by simp[gv]) (FB K c.edge hc2) ?_;simp only[↓pa,↓dx,pb,cB,↓reduceIte,reduceEqDiff,nV,hkp2];refine Er K hg hk (aM _) (by omega) (fun t' u' ns' b ht hg' hk'=>?_);simp only[↓pa,↓dx,pb,ai,cB,fD,aj,ah,↓reduceIte,reduceEqDiff,reduceAdd,reduceLeDiff,dz,iu,nV,fL,aq,ht,gq];exact ij (x:=(⟨g.nodes,gI c.edge g.edges⟩,0)) hg' hk'
 rw[ad k3];simp only[↓pa,pb,↓reduceIte,reduceEqDiff];refine aa (fun k4=>?_) (fun k4=>?_)
 ·rw[ak k4];simp only[↓pa,pb,↓reduceIte,reduceEqDiff];refine aa (fun a1=>?_) (fun a1=>?_)
  ·rw[ak a1];simp only[↓pa,pb,ai,↓reduceIte,reduceEqDiff,reduceAdd,reduceLeDiff,dz,iu,fL,aq];exact ij (x:=(g,5)) hg hk
  rw[ad a1];obtain⟨j,hj⟩:∃ j:Nat,fI g.edges c.edge.id=j:=⟨_,(eo (by omega)).symm⟩;have hlt:= @pn g.edges c.edge.id;rw[hj]at hlt;simp only[hj]at*;obtain⟨hG0,hE0,hap0⟩:=qD hk hg;have hp:=fun st=>uv (st:=st) (t:=u) (k:=j) hm2 (by omega);have hq:∀ st,tH 5 (.list g.edges.length (g.edges.flatMap ec) u) (some (I ((j+1:Nat):Int))) none st=some (.list (g.edges.length- (j+1)) ((g.edges.flatMap ec).drop ((j+1) *5)) u.der,st):=fun st=>uu (k:=j+1) hm2 (by omega);have e1:=jm ec 5 cw g.edges j;have e2:=jn ec 5 cw g.edges (j+1);have l1:((g.edges.take j).flatMap ec).length=j*5:=by rw[bN ec 5 cw,aG];congr 1;omega
  have l2:((g.edges.drop (j+1)).flatMap ec).length=(g.edges.length- (j+1)) *5:=by rw[bN ec 5 cw,aU]
  simp only[↓pa,↓bT,pb,ai,↓reduceIte,reduceEqDiff,reduceAdd,reduceLT,aq,hp,e1,dv,dR];obtain⟨hE1,hap1⟩:=gO (st:=bn ns []) (m:=0+j) (je (e:=68)) hG0 q5;have hG1:=di (st:=bn ns []) (m:=j) (je (e:=68));refine bj (n:=0) (m:=j) je rfl l1 (by omega) (by omega) (by decide) ?_;simp (disch:=omega)only[↓pa,↓bT,pb,ai,aV,↓reduceIte,reduceEqDiff,aq,hq,e2,aN];rw[aq]at hE1 hG1;refine bj (n:=j) (m:=g.edges.length- (j+1)) hG1 l1 l2 (by omega) (by omega) (by decide) ?_;obtain⟨hE2,hap2⟩:=gO (m:=j+(g.edges.length- (j+1))) hG1 hE1 hap1;have hG2:=di (m:=g.edges.length- (j+1)) hG1;have e3:(g.edges.take j).flatMap ec++(g.edges.drop (j+1)).flatMap ec=(g.edges.eraseIdx j).flatMap ec:=by rw[iC,bE]
  have e4:j+(g.edges.length- (j+1))=(g.edges.eraseIdx j).length:=by rw[jE (by omega)];omega
  simp only[↓pa,pb,ai,↓reduceIte,reduceEqDiff,reduceAdd,reduceLeDiff,dz,iu,fL,aq,e3,e4];rw[e4]at hG2 hE2;exact ij (x:=(⟨g.nodes,g.edges.eraseIdx j⟩,0)) ⟨hg.1,kN hG2⟩ (sB (g:=⟨g.nodes,g.edges.eraseIdx j⟩) hE2 hG2 (gS hap2) fun k e _=>aM _)
 rw[ad k4];simp only[↓pa,pb,↓reduceIte,reduceEqDiff];refine aa (fun k5=>?_) (fun k5=>?_)
 ·rw[ak k5];simp only[↓pa,pb,↓reduceIte,reduceEqDiff];refine aa (fun a1=>?_) (fun a1=>?_)
  ·rw[ak a1];simp only[↓pa,pb,ai,↓reduceIte,reduceEqDiff,reduceAdd,reduceLeDiff,dz,iu,fL,aq];exact ij (x:=(g,5)) hg hk
  rw[ad a1];obtain⟨j,hj⟩:∃ j:Nat,dA g.nodes c.node.id=j:=⟨_,(eo (by omega)).symm⟩;have hlt:= @kZ g.nodes c.node.id;rw[hj]at hlt;simp only[hj,ez]at*;have hlt:j<g.nodes.length:=by omega
  rw[mK hlt];obtain⟨k,rfl⟩:=x6 hg.1 (by omega);obtain⟨hG0,hE0,hap⟩:=qD hk hg;simp only[↓pa,↓dx,pb,ai,cB,↓reduceIte,reduceEqDiff,reduceAdd,fS,aq];refine oQ rfl (by simp[ia]) (Fy K c.node.labels hc1.1) ?_;have hset:bD (g.nodes.flatMap nc) (j*3+1) [TX c.node.labels]=(g.nodes.set j {g.nodes[j]with labels:=c.node.labels}).flatMap nc:=oL nc 3 cC (by decide) hlt rfl;have hbE:=fun vs off cs=> @BL g k 72 g.nodes.length off cs vs u hg.2 (gS hap);have hK:=hk.2 (k,g.nodes.length) (by simp[dy,nU]);simp (disch:=omega)only[↓pa,↓dx,pb,ai,cB,↓reduceIte,reduceEqDiff,dz,hkp3];refine vn (by omega) (by omega) hK.2.1 hK.1 hK.2.2 (lr g) (ia _) ?_;simp only[↓pa,↓dx,pb,ai,cB,fD,aj,ah,↓reduceIte,reduceEqDiff,reduceAdd,reduceLeDiff,dz,iu,fL,Ai,zO,hset,hbE,aq];have e:PV.agg [.list g.nodes.length ((g.nodes.set j {g.nodes[j]with labels:=c.node.labels}).flatMap nc) (.own k 72),.list g.edges.length (g.edges.flatMap ec) u]=gq ⟨g.nodes.set j {g.nodes[j]with labels:=c.node.labels},g.edges⟩ (.own k 72) u:=by simp only[gq,ig]
  rw[e];exact ij (x:=(⟨g.nodes.set j {g.nodes[j]with labels:=c.node.labels},g.edges⟩,0)) ⟨rfl,hg.2⟩ (by unfold dy at hk ⊢;rw[ig];exact hk)
 rw[ad k5];simp only[↓pa,pb,ai,↓reduceIte,reduceEqDiff,reduceAdd,reduceLeDiff,nV,hcl,hct,aq];have k6:c.kind=6:=by
  by_cases k6:c.kind=6
  ·exact k6
  ·simp[lf,k1,k2,k3,k4,k5,k6]at hf
 obtain⟨v,hv⟩:∃ v,fu c.value=some v:=by
  cases h:fu c.value with
  |none=>simp[lf,k6,h]at hf
  |some v=>exact⟨v,rfl⟩
 refine DJ K hv hg hk (aM _) ho (fun q ns' b n m cs ds t' u' ht hq hs hn hown=>?_);simp only[↓pa,pb,ai,aj,ah,↓reduceIte,reduceEqDiff,reduceAdd,reduceLeDiff,dz,iu,nV,fL,aq,ht];subst hq;have h1:eQ [PV.agg [.list n cs t',.list m ds u'],I (jr wS g c).2]=true:=by
  simp only[eQ,hn,bg,dj];rfl
 exact⟨h1,sv h1,_,rfl,hs,hown⟩
def AH(K:bJ cf){g:bY}{c:Ch}{t u:aB}(hg:gM g t u)(hk:aL st (dy g t u))(hf:st.fl<=st.nx)(ho:jO g)(hc:mY c)
  (k:∀ ns b n m cs ds t' u',cD [.agg [.list g.nodes.length (g.nodes.flatMap nc) t,.list g.edges.length (g.edges.flatMap ec) u],.agg (cc c)] [0] st=(dy g t u).map (·.1)->aC (.agg [.list n cs t',.list m ds u'])= .agg (gc (lH wS g c).1)->np (.agg [.list n cs t',.list m ds u'])=true->
   ((lH wS g c).2=0->∃ t2 u2,PV.agg [.list n cs t',.list m ds u']=gq (lH wS g c).1 t2 u2/\gM (lH wS g c).1 t2 u2/\aL (mX ((dy g t u).map (·.1)) ns b st) (dy (lH wS g c).1 t2 u2))->A (mk (.tup [.agg [.list n cs t',.list m ds u'],I (lH wS g c).2]) (mX ((dy g t u).map (·.1)) ns b st))):
  cP (av cf 113 [.agg [.list g.nodes.length (g.nodes.flatMap nc) t,.list g.edges.length (g.edges.flatMap ec) u],.agg (cc c)] [0] st) mk A:=by
 obtain⟨r,ns,b,hc,ht,q,rfl,h1,h2,h3⟩:=IP K g c hg hk ho ⟨hc.ll,hc.nf⟩ hc.ef;obtain⟨n,m,cs,ds,t',u',rfl⟩:=E4 h1;refine⟨_,_,hc,k ns b n m cs ds t' u' ht h1 h2 fun h0=>?_⟩;obtain⟨t2,u2,e,h4,h5⟩:=h3 h0;exact⟨t2,u2,e,h4,by rw[h5];exact tz hf (vm hk)⟩
def DK(K:bJ cf){g:bY}(hf:st.fl<=st.nx)(h1:g.nodes.length<=1000000)(h2:g.edges.length<=1000000)(hn:∀ n∈g.nodes,n.labels.length<=2000000/\n.fields.length<=2000000)(he:∀ e∈g.edges,e.fields.length<=2000000)
  (k:∀ t u ns fl,gM g t u->aL (cZ (st.more ns) fl) (dy g t u)->fl<=(st.more ns).nx->A (mk (gq g t u) (cZ (st.more ns) fl))):cP (av cf 112 [.agg [NX g.nodes,EX g.edges]] [] st) mk A:=by
 obtain⟨t,u,ns,fl,hc,hfl,hg,hk⟩:=Ml (st:=st) K g h1 h2 hn he;refine⟨_,_,hc,k t u ns fl hg (by rw[hk];exact Eo (by omega)) (by rw[St.more_nx];omega)⟩
def ES{l:List Ch}{j:Nat}(h:j<l.length):bI (l.flatMap cc) (j*12) 12 true=some (.agg (cc l[j])):=by
 have:=df cc 12 oq 0 12 true (by decide) l j h;rw[show j*12=j*12+0 from rfl,this];rfl
def Bx{w:zQ}{l:List Ch}{i:Nat}(h:i<l.length)(g:bY):gY w i g (l.drop i)=if(lH w g l[i]).2≠0 then((lH w g l[i]).1,i,(lH w g l[i]).2)else gY w (i+1) (lH w g l[i]).1 (l.drop (i+1)):=by
 rw[a6 h,gY]
def Lh(x:bY×Nat×Int):PV:= .tup [.agg (gc x.1),I x.2.1,I x.2.2]
def KG(K:bJ cf)(g:bY)(l:List Ch)(ho:jO g)(hl:l.length<=2000000)(hb:∀ c∈l,mY c):∃ r,r=Lh (gY wS 0 g l)/\∃ fl,av cf 76 [.agg (gc g),HX l] [] st=some (r,cZ st fl):=by
 refine ou K.tab (F:=F76) (Q:=fun r=>r=Lh (gY wS 0 g l)) rfl rfl rfl (lb rfl) (by simp[dW,iU]) (l.length+2) ?_;have hm:=bN cc 12 oq l;have hkl:=fun J=> @jU J _ (iU l);unfold F76 qr qd qm qi qb qk ql qt qa qn qs qo qN;simp only[↓pa,pb,ai,↓reduceIte,reduceEqDiff,reduceAdd,reduceLeDiff,gc];refine DK K (aM _) (by have:=ho.nl;omega) (by have:=ho.el;omega) (fun n hn=>by have:=ho.ns n hn;omega) (fun e he=>by have:=ho.es e he;omega) (fun t u ns fl hg hk hfl=>?_);simp only[↓pa,pb,ai,↓reduceIte,reduceEqDiff,reduceAdd,reduceLeDiff,jk,gq];refine be (fun q fr st=>∃ (i:Nat) (G:bY) (t u:aB),q=l.length-i/\i<=l.length/\fr 1=HX l/\fr 2= .ptr 2 0/\fr 4= .ptr 4 0/\fr 8=I i/\st.objs 2=some [.list G.nodes.length (G.nodes.flatMap nc) t,.list G.edges.length (G.edges.flatMap ec) u]/\(∃ a b,st.objs 4=some [a,b])/\gM G t u/\aL st (dy G t u)/\st.fl<=st.nx/\jO G/\gY wS 0 g l=gY wS i G (l.drop i)) l.length (by omega)
  ⟨0,g,t,u,by simp,by omega,by simp only[↓pa,pb,↓reduceIte,reduceEqDiff],by simp only[↓pa,pb,↓reduceIte,reduceEqDiff],by simp only[↓pa,↓reduceIte,reduceEqDiff],by simp only[↓pa,↓reduceIte];rfl,by simp only[pb,↓reduceIte],⟨_,_,by simp only[pb,ai,↓reduceIte,reduceEqDiff,jk];rfl⟩,hg,hk,hfl,ho,rfl⟩ ?_
 clear hg hk hfl ho;rintro q fr st ⟨i,G,t,u,rfl,hi,f1,f2,f4,f8,o2,⟨a,b,o4⟩,hg,hk,hfl,ho,hQ⟩;simp only[↓pa,pb,aV,↓reduceIte,reduceEqDiff,f1,f8];refine aa (fun k1=>?_) (fun k1=>?_)
 ·have hlt:i<l.length:=k1;rw[Bx hlt]at hQ;simp (disch:=omega)only[↓pa,pb,ai,↓reduceIte,reduceEqDiff,reduceAdd,reduceLeDiff,f1,f2,f8,o2,nV,ES hlt];refine AH K hg hk hfl ho (hb _ (ct hlt)) (fun ns b2 n m cs ds t' u' ht hs hn hown=>?_);simp only[↓pa,pb,ai,aj,ah,↓reduceIte,reduceEqDiff,reduceAdd,reduceLeDiff,du,f2,o2,nV,fL,ht];refine aa (fun h0=>?_) (fun h0=>?_)
  ·obtain⟨t2,u2,e,hg2,hk2⟩:=hown h0;simp only[gq,PV.agg.injEq,List.cons.injEq,PV.list.injEq,lE]at e;obtain⟨⟨rfl,rfl,rfl⟩,rfl,rfl,rfl⟩:=e;rw[ad (by simp[h0])]at hQ;simp (disch:=omega)only[↓pa,pb,aV,↓reduceIte,reduceEqDiff,f1,f2,f4,f8,o4,nV,fL,hkl];refine⟨l.length- (i+1),by omega,i+1,_,t',u',rfl,by omega,rfl,rfl,⟨_,_,rfl⟩,hg2,hk2,?_,ss _ ho,hQ⟩;show(if b2 then st.fl else st.nx)<=(mX _ _ _ _).nx;rw[HT];split<;>omega
  ·rw[ak (by simpa using h0)]at hQ;simp only[az,gc]at hs;simp only[↓pa,pb,ai,az,↓reduceIte,reduceEqDiff,reduceAdd,reduceLeDiff,f2,f4,f8,o4,nV,fL];rw[hs,hQ];simp only[np,off,dh,bg,ae]at hn;exact⟨hn,rfl⟩
 ·have hie:l.drop i=[]:=dM (by omega);rw[hie,gY]at hQ;simp only[↓pa,pb,ai,az,↓reduceIte,reduceEqDiff,reduceAdd,reduceLeDiff,f2,f4,o2,o4];exact⟨⟨(lr G).1,(mC G).1⟩,by rw[hQ,Lh,(lr G).2.1,(mC G).2.1];rfl⟩
def g0:bY:=⟨[],[]⟩
structure pX where
 code:Int
 at_:Int
 graph:bY
def iE(r:pX):List PV:=[I r.code,I r.at_,NX r.graph.nodes,EX r.graph.edges]
def lJ(w:zQ)(g:bY)(l:List Ch):pX:=
 if 1000<l.length then⟨2,0,g0⟩else if ed g=false then⟨1,0,g0⟩
 else if(gY w 0 g l).2.2≠0 then⟨(gY w 0 g l).2.2,(gY w 0 g l).2.1,g0⟩else⟨0,0,(gY w 0 g l).1⟩
def sS(r:pX):cK (iE r):=bu (aQ _ _) (bu (aQ _ _) (bu (sV _) (bu (vV _) dL)))
def GO{g:bY}(l:List Ch):lJ wP g l=lJ wS g l:=by
 unfold lJ;cases hg:ed g with
 |false=>rfl
 |true=>rw[Bw l 0 (wT hg)]
def M6(K:bJ cf)(g:bY)(l:List Ch)(hl:l.length<=2000000)(hb:∀ c∈l,mY c):∃ r,r= .agg (iE (lJ wS g l))/\∃ fl,av cf 30 [.agg (gc g),HX l] [] st=some (r,cZ st fl):=by
 refine ou K.tab (F:=F30) (Q:=fun r=>r= .agg (iE (lJ wS g l))) rfl rfl rfl (lb rfl) (by simp[dW,iU]) 1 ?_;have hfa:∀ st,av cf 40 [.agg [NX g.nodes,EX g.edges]] [] st=some (I (rL g),st):=fun st=>Mj K g;unfold F30 qr qd qm qk ql qt qu qn qs qo qN lJ;simp only[↓pa,pb,ai,↓reduceIte,reduceEqDiff,reduceAdd,du,gc];refine aa (fun k1=>?_) (fun k1=>?_)
 ·rw[ak (by omega)];simp only[↓pa,↓bT,pb,ai,az,↓reduceIte,reduceEqDiff,reduceAdd,reduceLeDiff,k1];rfl
 rw[ad (by omega)];cases hg:ed g
 ·have hf1:rL g=1:=by simp[rL,hg]
  simp only[↓pa,↓bT,pb,ai,az,↓reduceIte,reduceEqDiff,reduceAdd,reduceLeDiff,Int.reduceEq,du,k1,hfa,hf1];rfl
 have hf1:rL g=0:=by simp[rL,hg]
 rw[ad (by simp)];simp only[↓pa,pb,ai,↓reduceIte,reduceEqDiff,reduceAdd,reduceLeDiff,du,k1,hfa,hf1];refine tB (KG K g l (wT hg) hl hb) (fun fl=>?_);simp only[↓pa,pb,ai,aj,ah,↓reduceIte,reduceEqDiff,reduceAdd,reduceLeDiff,du,Lh,gc];refine aa (fun k2=>?_) (fun k2=>?_)
 ·rw[ad (by simpa using k2)];have h1:=lr (gY wS 0 g l).1;have h2:=mC (gY wS 0 g l).1;simp only[↓pa,↓bT,pb,ai,az,↓reduceIte,reduceEqDiff,reduceAdd,reduceLeDiff,h1.1,h1.2.1,h2.1,h2.2.1];rfl
 ·rw[ak (by simpa using k2)];simp only[↓pa,↓bT,pb,ai,az,↓reduceIte,reduceEqDiff,reduceAdd,reduceLeDiff];rfl
section
variable {f:Nat} {F:bp} {rs:List hZ}
def uK{J ns:List Nat}:mX J ns true st=dI J ns st:=rfl
def Fj(K:iF cf)(hT:T f=some F)(hres:F.res=rs)(hown:F.own=true){O8:List PV}{mv:List Nat}(hmv:mv≠ [])(has:O8.all bR=true)(hk:aL st (fQ mv 0 O8))(hsp:gU ((fQ mv 0 O8).map (·.1)) mv 0 O8=true)(hnt:(iN ((fQ mv 0 O8).map (·.1)) mv 0 O8).length<=F.nt)(N:Nat){Q:PV->Option Nat->Prop}
  (h:Wp cf N F.body (eu (iN ((fQ mv 0 O8).map (·.1)) mv 0 O8),bn ((fQ mv 0 O8).map (·.2)) []) (q7 rs Q)):
  ∃ r ns,av cf f O8 mv st=some (r,dI ((fQ mv 0 O8).map (·.1)) ns st)/\cR st.nx ns r/\Q (aC r) (ml r)/\cD O8 mv st=(fQ mv 0 O8).map (·.1):=by
 obtain⟨r,ns,hrun,hFr,hF,hQ⟩:=EF hown hres N hnt h;have hcf:=K f F hT N _ _ _ _ hrun;obtain⟨h1,h2⟩:=vg hmv has hk hsp hcf;rw[kf r hFr.so,uK]at h1;exact⟨_,ns,h1,hF st.nx,by rw[gt,uo fun _ _=>rfl];exact hQ,h2⟩
def zU(t:Nat)(Q:Int->List PV->Prop)(e:Ex)(y:Fr×St):Prop:=kE e/\∃ k c,y.1 t=I k/\y.2.objs 0=some c/\aI c=true/\aY c=true/\aL y.2 (al c)/\Q k c
def KV(Q:Int->List PV->Prop)(r:PV)(c:Option (List PV))(st:St):Prop:=∃ k c0,r=I k/\c=some c0/\aI c0=true/\aY c0=true/\aL st (al c0)/\Q k c0
def I3{t:Nat}{Q:Int->List PV->Prop}{fr:Fr}{st:St}:zU t Q .ret (fr,st)↔KV Q (fr t) (st.objs 0) st:=
 ⟨fun h=>h.2,fun h=>⟨nn.2 trivial,h⟩⟩
def Lx{t:Nat}(hown:F.own=true)(hres:F.res=[.tmp t]){O8:List PV}{ns0:List Nat}{c0:List PV}(hnt:O8.length+1<=F.nt)(hnk:1<=F.nk)(N:Nat){Q:Int->List PV->Prop}
  (h:Wp cf N F.body (eu (.ptr 0 0::O8),bn ns0 [c0]) (zU t Q)):
  ∃ k c ns,Q k c/\aI c=true/\aY c=true/\(∀ k,ck k (al c)<=1)/\ns=(al c).map (·.2)/\fO cf N F (.ptr 0 0::O8) ns0 [c0]=some (I k,ns,[aZ (aT ((al c).map (·.1))) false c]):=by
 obtain⟨e,⟨fr,s1⟩,hev,he,k,c,hr,hc,hn,hs,hk,hQ⟩:=h;refine⟨k,c,_,hQ,hn,hs,hk.1,rfl,?_⟩;have hps:ff fr s1 F.res=some [I k]:=by
  rw[hres,rG];have:mR fr s1 (.tmp t)=some (fr t):=rfl;rw[this,show fr t=I k from hr];rfl
 have hg:dl s1 (List.range [c0].length)=some [c]:=by
  have:List.range [c0].length=[0]:=rfl;rw[this];simp only[dl,show s1.objs 0=some c from hc]
 have hm:cL F.nk [I k] s1=([I k],s1):=mQ F.nk s1 [I k] (by simp[kj]);have hta:ji [c]=al c:=by simp[ji]
 have hf:gN F [c0].length fr s1=some (I k,(al c).map (·.2),[aZ (aT ((al c).map (·.1))) false c]):=by
  have h0:ar (I k)=[]:=rfl;simp only[gN,hps,hg,hm,hown,fw,cN,cU,hn,bg,show np (I k)=true from rfl,if_true,kB,h0,hta,aN,mf hk.1,hk.ok,aH,bM];rfl
 unfold fO;rw[ak ⟨by simpa using hnt,by simpa using hnk⟩,hev];cases e with
 |go=>exact hf
 |ret=>exact hf
 |exit i=>exact he.elim
def Dd(f:Nat->Option Nat){cs:List PV}(h:aY cs=true)(hk:∀ q∈al cs,(f q.1).isSome=true):fo (aZ f false cs)=true:=kM _ (fV f cs h hk)
def Na{t:Nat}(K:iF cf)(hT:T f=some F)(hres:F.res=[.tmp t])(hown:F.own=true){O8:List PV}{c:List PV}(hs:st.objs s=some c)(has:∀ p∈O8,cT p)(hk:aL st (al c))(hnt:O8.length+1<=F.nt)(hnk:1<=F.nk)(N:Nat){Q:Int->List PV->Prop}
  (h:Wp cf N F.body (eu (.ptr 0 0::O8),bn ((al c).map (·.2)) [aZ (aT ((al c).map (·.1))) false c]) (zU t Q)):
  ∃ k c1 c2 ns,av cf f (.ptr s 0::O8) [0] st=some (I k,bP (dI ((al c).map (·.1)) ns st) s c2)/\cD (.ptr s 0::O8) [0] st=(al c).map (·.1)/\Q k c1/\al c2=cj st.nx ns/\aI c2=true/\aY c2=true/\∃ g h:Nat->Option Nat,c2=aZ g false (aZ h false c1)/\(∀ q∈al c1,(h q.1).isSome=true)/\∀ k,(g k).isSome=true:=by
 obtain⟨k,c1,ns,hQ,hn,hso,hd,rfl,hrun⟩:=Lx hown hres hnt hnk N h;have hcf:=K f F hT N _ _ _ _ hrun;obtain⟨q1,q2⟩:=dE has;have hsp:∀ (i:Nat) (l:List PV),(l.map aC=l)->gU ((al c).map (·.1)) [0] i l=true:=by
  intro i l
  induction l generalizing i with
  |nil=>intro _;rfl
  |cons p ps ih=>
   intro hl;rw[aH,List.cons.injEq]at hl;have:=pZ (((al c).map (·.1)).contains ·) p;rw[hl.1]at this;rw[gU,this,ih (i+1) hl.2,nC];rfl
 have hm:∀ q∈al c1,(aT ((al c1).map (·.1)) q.1).isSome=true:=fun q hq=>lc (cA.2 ⟨q,hq,rfl⟩);obtain⟨h1,h2⟩:=Kp hs q1 hk (hsp 1 O8 q2) (by rw[q2];exact hcf);have hcl:(ft (I k) && fo (aZ (aT ((al c1).map (·.1))) false c1))=true:=by rw[Dd _ hso hm];rfl
 rw[hcl,uK]at h1;refine⟨k,c1,_,_,h1,h2,hQ,?_,?_,?_,_,_,rfl,hm,fun _=>rfl⟩
 ·have t1:al (aZ (aT ((al c1).map (·.1))) false c1)=(al c1).map fun q=>((aT ((al c1).map (·.1)) q.1).getD 0,q.2):=
   kQ _ (fun k=>(aT ((al c1).map (·.1)) k).getD 0) c1 fun q hq=>by
    obtain⟨i,hi⟩:=bW.1 (hm q hq);rw[hi];rfl
  rw[kQ _ (fun k=>st.nx+k) _ fun _ _=>rfl,t1];have:=mz 0 hd;rw[show(fun q:Nat×Nat=>((aT ((al c1).map (·.1)) q.1).getD 0,q.2))=fun q=>(0+(aT ((al c1).map (·.1)) q.1).getD 0,q.2) by funext q;rw[aq],this,nL]
 ·rw[aI,fA,fA];exact hn
 ·exact fV _ _ (fV _ _ hso hm) fun _ _=>rfl
def wG{A B C R:List (Nat×Nat)}{ns:List Nat}(h:aL st (A++B++C))(hf:st.fl<=st.nx)(hR:∀ k,ck k R<=ck k (cj st.nx ns))(hm:∀ q∈R,q∈cj st.nx ns):aL (dI (B.map (·.1)) ns st) (A++R++C):=
 dY (kr h hf) (fun k=>by have:=hR k;rw[bh,bh,bh,bh];omega) fun q hq=>by
  simp only[ay]at hq ⊢;rcases hq with(hq|hq)|hq
  ·exact .inl (.inl hq)
  ·exact .inl (.inr (hm q hq))
  ·exact .inr hq
end
structure kH (g:bY) (c:List PV):Prop where
 st:aF c=gc g
 np:aI c=true
 so:aY c=true
 sh:∃ cs ds t u,c=[.list g.nodes.length cs t,.list g.edges.length ds u]/\mS 72 t/\mS 68 u
def sp{f:Nat->Option Nat}{e n:Nat}{cs:List PV}{t:aB}(h:mS e t)(hf:∀ q∈ar (.list n cs t),(f q.1).isSome=true):mS e (t.ren f false):=by
 rcases h with rfl|⟨k,rfl⟩
 ·exact .inl rfl
 ·obtain⟨j,hj⟩:=bW.1 (hf (k,n) (by simp[ar]));have hj:f k=some j:=hj;exact .inr ⟨j,by simp only[aB.ren,hj]⟩
def rZ{f:Nat->Option Nat}{g:bY}{c:List PV}(h:kH g c)(hf:∀ q∈al c,(f q.1).isSome=true):kH g (aZ f false c):=by
 obtain⟨cs,ds,t,u,rfl,ht,hu⟩:=h.sh;refine⟨by rw[eG];exact h.st,by rw[aI,fA];exact h.np,fV f _ h.so hf,aZ f false cs,aZ f false ds,t.ren f false,u.ren f false,?_,sp (n:=g.nodes.length) (cs:=cs) ht fun q hq=>hf q ?_,sp (n:=g.edges.length) (cs:=ds) hu fun q hq=>hf q ?_⟩
 ·simp only[aZ,gK]
 ·simp only[al,ay];exact .inl hq
 ·simp only[al,ay];exact .inr (.inl hq)
structure Ca (cf:aA) (a m e:Nat):Prop where
 nil:∀ (ds:List PV) (ns:List Nat) (e':Nat),ds.length=m->aI ds=true->cf a [.list 0 [] .nil,I 0,.list 1 ds (.full e')] ns []=some (.list 1 ds (.own ns.length e),ns++[1],[])
 own:∀ (n i:Nat) (cs ds:List PV) (ns:List Nat) (e':Nat),cs.length=n*m->ds.length=m->aI cs=true->aI ds=true->dw ([0].contains ·) cs=true->dw ([0].contains ·) ds=true->i<=n->n<=10000000->cf a [.list n cs (.own 0 e),I i,.list 1 ds (.full e')] (n::ns) []=some (.list (n+1) (cs.take (i*m)++ds++cs.drop (i*m)) (.own 0 e),(n+1)::ns,[])
structure zW (cf:aA) (b m e:Nat):Prop where
 own:∀ (n i:Nat) (cs:List PV) (ns:List Nat),cs.length=n*m->aI cs=true->dw ([0].contains ·) cs=true->i<n->n<=10000000->cf b [.list n cs (.own 0 e),I i,I ((i+1:Nat):Int)] (n::ns) []=some (.list (n-1) (cs.take (i*m)++cs.drop ((i+1) *m)) (.own 0 e),(n-1)::ns,[])
structure rQ (cf:aA):Prop where
 insN:Ca cf 128 3 72
 insE:Ca cf 189 5 68
 delN:zW cf 160 3 72
 delE:zW cf 163 5 68
def Iw{nx k:Nat}:∀ {l l':List (Nat×Nat)},(∀ k,ck k l<=ck k l')->ck k (l.map fun q=>(nx+q.1,q.2))<=ck k (l'.map fun q=>(nx+q.1,q.2)):=by
 have h:∀ l:List (Nat×Nat),ck k (l.map fun q=>(nx+q.1,q.2))=if nx<=k then ck (k-nx) l else 0:=by
  intro l
  induction l with
  |nil=>simp[ck]
  |cons q l ih=>
   rw[aH,ck,ck,ih];by_cases hk:nx<=k
   ·have:(nx+q.1=k)↔(q.1=k-nx):=by omega
    simp only[hk,if_true,this]
   ·rw[ad (show ¬nx+q.1=k by omega),ad hk,ad hk]
 intro l l' hl;rw[h,h];split
 ·exact hl _
 ·exact aE _
def gX{l:List (Nat×Nat)}:∀ q∈l,(aT (l.map (·.1)) q.1).isSome=true:=fun q hq=>lc (cA.2 ⟨q,hq,rfl⟩)
def oU{cs:List PV}{l:List (Nat×Nat)}(h:∀ q∈al cs,q∈l):al (aZ (aT (l.map (·.1))) false cs)=(al cs).map fun q=>((aT (l.map (·.1)) q.1).getD 0,q.2):=
 kQ _ (fun k=>(aT (l.map (·.1)) k).getD 0) cs fun q hq=>by
  obtain⟨i,hi⟩:=bW.1 (gX q (h q hq));rw[hi];rfl
def sA{l:List (Nat×Nat)}(h:∀ k,ck k l<=1):l.map (fun q=>((aT (l.map (·.1)) q.1).getD 0,q.2))=cj 0 (l.map (·.2)):=by
 have:=mz 0 h;simpa using this
def I1{B:List (Nat×Nat)}{r:PV}{ns:List Nat}(hB:aL st B)(hf:st.fl<=st.nx)(hR:∀ k,ck k (ar r)<=ck k (cj 0 ns))(hm:∀ q∈ar r,q∈cj 0 ns):aL (dI (B.map (·.1)) ns st) (ar (ren (fun k=>some (st.nx+k)) false r)):=by
 have e:ar (ren (fun k=>some (st.nx+k)) false r)=(ar r).map fun q=>(st.nx+q.1,q.2):=lq _ (fun k=>st.nx+k) _ fun _ _=>rfl;have:=wG (A:=[]) (B:=B) (C:=[]) (R:=(ar r).map fun q=>(st.nx+q.1,q.2)) (ns:=ns) (st:=st) (by simpa using hB) hf (fun k=>by rw[<-nL];exact Iw hR) (fun q hq=>by
  obtain⟨q0,h0,rfl⟩:=cA.1 hq;rw[<-nL];exact cA.2 ⟨q0,hm q0 h0,rfl⟩)
 rw[e];simpa using this
def xg{a m e:Nat}(hI:Ca cf a m e){n i:Nat}{cs ds:List PV}{tk:aB}(ht:mS e tk)(hs:aJ (.list n cs tk)=true)(hn:aI cs=true)(hds:aY ds=true)(hdn:aI ds=true)(hk:aL st (ar (.list n cs tk)++al ds))(hf:st.fl<=st.nx)(h1:cs.length=n*m)(h2:ds.length=m)(hm0:0<m)(hi:i<=n)(hl:n<=10000000)(e':Nat):
  ∃ r ns,av cf a [.list n cs tk,I i,.list 1 ds (.full e')] [0,2] st=some (r,dI ((ar (.list n cs tk)++al ds).map (·.1)) ns st)/\cD [.list n cs tk,I i,.list 1 ds (.full e')] [0,2] st=(ar (.list n cs tk)++al ds).map (·.1)/\np r=true/\aJ r=true/\aL (dI ((ar (.list n cs tk)++al ds).map (·.1)) ns st) (ar r)/\aC r= .list (n+1) ((aF cs).take (i*m)++aF ds++(aF cs).drop (i*m)) .no/\ml r=some e:=by
 generalize hM:ar (.list n cs tk)++al ds=M at hk ⊢;have hpl:[PV.list n cs tk,I i,.list 1 ds (.full e')].all bR=true:=by simp only[cN,cU,bR,az,hn,hdn,ap]
 have hmv:fQ [0,2] 0 [PV.list n cs tk,I i,.list 1 ds (.full e')]=M:=by
  rw[<-hM];simp[fQ,ar]
 have hfull:ar (.list 1 ds (.full e'))=al ds:=rfl;have hsp:gU (M.map (·.1)) [0,2] 0 [PV.list n cs tk,I i,.list 1 ds (.full e')]=true:=by simp[gU,tf]
 have hh:iN (M.map (·.1)) [0,2] 0 [PV.list n cs tk,I i,.list 1 ds (.full e')]=[ren (aT (M.map (·.1))) false (.list n cs tk),I i,.list 1 (aZ (aT (M.map (·.1))) false ds) (.full e')]:=by
  simp[iN,aB.ren,aC,ren]
 have hd2:=oU (cs:=ds) (l:=M) fun q hq=>by rw[<-hM];exact dq _ hq
 have hie:=sA hk.1;have hdso:aY (aZ (aT (M.map (·.1))) false ds)=true:=fV _ _ hds fun q hq=>gX q (by rw[<-hM];exact dq _ hq);have hdnp:aI (aZ (aT (M.map (·.1))) false ds)=true:=by rw[aI,fA];exact hdn
 have hdl:(aZ (aT (M.map (·.1))) false ds).length=m:=by rw[fW,h2]
 have hdst:=eG (aT (M.map (·.1))) ds;have key:∀ r0 ns,cf a (iN (M.map (·.1)) [0,2] 0 [PV.list n cs tk,I i,.list 1 ds (.full e')]) (M.map (·.2)) []=some (r0,ns,[])->aJ r0=true->np r0=true->(∀ k,ck k (ar r0)<=ck k (cj 0 ns))->(∀ q∈ar r0,q∈cj 0 ns)->aC r0= .list (n+1) ((aF cs).take (i*m)++aF ds++(aF cs).drop (i*m)) .no->ml r0=some e->
   ∃ r ns,av cf a [.list n cs tk,I i,.list 1 ds (.full e')] [0,2] st=some (r,dI (M.map (·.1)) ns st)/\cD [.list n cs tk,I i,.list 1 ds (.full e')] [0,2] st=M.map (·.1)/\np r=true/\aJ r=true/\aL (dI (M.map (·.1)) ns st) (ar r)/\aC r= .list (n+1) ((aF cs).take (i*m)++aF ds++(aF cs).drop (i*m)) .no/\ml r=some e:=by
  intro r0 ns hc h1 h2 h3 h4 h5 h6;obtain⟨g1,g2⟩:=vg (cf:=cf) (f:=a) (st:=st) (mv:=[0,2]) (by simp) hpl (by rw[hmv];exact hk) (by rw[hmv];exact hsp) (by rw[hmv];exact hc);rw[hmv]at g1 g2;rw[kf r0 h1,uK]at g1;exact⟨_,ns,g1,g2,by simp only[PM.np,gn];exact h2,jR _ _ h1 fun _ _=>rfl,I1 hk hf h3 h4,by rw[gt];exact h5,by rw[uo fun _ _=>rfl];exact h6⟩
 rw[hh]at key;rcases ht with rfl|⟨k,rfl⟩
 ·have hc:cs=[]:=by simp only[aJ,ae,List.isEmpty_iff]at hs;exact hs.1
  subst hc;have hn0:n=0:=by
   have h1:(0:Nat)=n*m:=h1;rcases Nat.mul_eq_zero.1 h1.symm with h|h
   ·exact h
   ·omega
  subst hn0;have hi0:i=0:=by omega
  subst hi0;have hM:al ds=M:=hM;subst hM;have hd3:al (aZ (aT ((al ds).map (·.1))) false ds)=cj 0 ((al ds).map (·.2)):=by rw[hd2];exact hie
  refine key _ _ (hI.nil _ _ e' hdl hdnp) ?_ ?_ (fun k=>?_) (fun q hq=>?_) ?_ rfl
  ·simp only[aJ,hdso,ap]
  ·exact hdnp
  ·rw[j8,hd3,tP,bh,bh,Nat.add_comm];simp[nU,cj,ck]
  ·rw[j8,hd3,ay]at hq;rw[tP,ay];rcases hq with hq|hq
   ·right;simpa [nU,cj]using hq
   ·exact .inl hq
  ·rw[eF,hdst];simp[aF,aZ]
 ·have hM:(k,n)::al cs++al ds=M:=hM;subst hM;have hx:aT (((k,n)::al cs++al ds).map (·.1)) k=some 0:=by simp[aT]
  have hc2:=oU (cs:=cs) (l:=(k,n)::al cs++al ds) fun q hq=>by simp[hq]
  have hcso:aY (aZ (aT (((k,n)::al cs++al ds).map (·.1))) false cs)=true:=by
   have:aY cs=true:=by simpa [aJ]using hs
   exact fV _ _ this fun q hq=>gX q (by simp[hq])
  have hcnp:aI (aZ (aT (((k,n)::al cs++al ds).map (·.1))) false cs)=true:=by rw[aI,fA];exact hn
  have hcl:(aZ (aT (((k,n)::al cs++al ds).map (·.1))) false cs).length=n*m:=by rw[fW,h1]
  have hcst:=eG (aT (((k,n)::al cs++al ds).map (·.1))) cs;have hrest:al (aZ (aT (((k,n)::al cs++al ds).map (·.1))) false cs)++al (aZ (aT (((k,n)::al cs++al ds).map (·.1))) false ds)=cj 1 ((al cs++al ds).map (·.2)):=by
   rw[hc2,hd2,<-ch];have h3:=hie;simp[cj]at h3;simpa using h3.2
  rw[gK]at key;simp only[aB.ren,hx]at key;generalize aZ (aT (((k,n)::al cs++al ds).map (·.1))) false cs=cs' at*;generalize aZ (aT (((k,n)::al cs++al ds).map (·.1))) false ds=ds' at*;have hge:∀ q∈al cs'++al ds',1<=q.1:=fun q hq=>by rw[hrest]at hq;exact Av _ _ _ hq
  have t1:dw ([0].contains ·) cs'=true:=ma _ _ hcso fun q hq=>by have:=hge q (cM _ hq);simp;omega
  have t2:dw ([0].contains ·) ds'=true:=ma _ _ hdso fun q hq=>by have:=hge q (dq _ hq);simp;omega
  have hcut:=dn (i*m) cs';have hcso':=hcso;have hcnp':=hcnp;rw[<-hcut,ey,ae]at hcso';rw[<-hcut,iz,ae]at hcnp';rw[<-hcut,dN]at hrest;have hc:=hI.own n i cs' ds' ((al cs++al ds).map fun q:Nat×Nat=>q.2) e' hcl hdl hcnp hdnp t1 t2 hi hl;refine key _ _ hc ?_ ?_ (fun j=>?_) (fun q hq=>?_) ?_ rfl
  ·simp only[aJ,ey,hcso'.1,hcso'.2,hdso,ap]
  ·show aI _=true;simp only[iz,hcnp'.1,hcnp'.2,hdnp,ap]
  ·rw[j8,cj,<-hrest];simp only[nU,dN,bh,ck,jz];omega
  ·rw[j8]at hq;rw[cj,<-hrest];simp only[nU,dN,ay,aX,eK,or_false]at hq ⊢;rcases hq with h|(h|h)|h<;>simp[h]
  ·rw[eF,gQ,gQ,hdst,tF,tG,hcst]
def II(K:bJ cf)(x:Nd){ds:List PV}(h:aF ds=nc x)(hn:aI ds=true):av cf 159 [.agg ds] [] st=some (I x.id,st):=by
 have hm:[PV.agg ds].map aC=[.agg (nc x)]:=by simp only[aH,bM,az,h]
 obtain⟨q1,q2⟩:=dE (ps:=[PV.agg (nc x)]) (by simp[gu]);have hk:av cf 159 [.agg (nc x)] [] st=some (I x.id,st):=by
  refine cQ K.tab (F:=F159) (t:=2) rfl rfl rfl (lb rfl) (by simp[gu]) (dD _ _) 1 ?_;unfold F159 qr qm qi ql qf qo;simp only[↓pa,pb,ai,↓reduceIte,reduceEqDiff,reduceAdd,nc]
 rw[lA ?_ (by rw[hm];exact q1) (by rw[hm];exact q2),hm]
 ·exact hk
 ·simp only[cN,cU,bR,az,hn,ap]
def Em(K:bJ cf)(hI:rQ cf)(x:Nd){l:List Nd}{cs xs:List PV}{tk:aB}(ht:mS 72 tk)(hs:aJ (.list l.length cs tk)=true)(hL:iY nc 3 l cs)(hxs:aF xs=nc x)(hxn:aI xs=true)(hxso:aY xs=true)(hk:aL st (ar (.list l.length cs tk)++al xs))(hl:l.length<=10000000):
  ∃ r ns,av cf 91 [.list l.length cs tk,.agg xs,.fn 159 []] [0,1] st=some (r,dI ((ar (.list l.length cs tk)++al xs).map (·.1)) ns st)/\cR st.nx ns r/\aC r= .list (l.length+1) ((lw x l).flatMap nc) .no/\ml r=some 72/\cD [.list l.length cs tk,.agg xs,.fn 159 []] [0,1] st=(ar (.list l.length cs tk)++al xs).map (·.1):=by
 generalize hM:ar (.list l.length cs tk)++al xs=M at hk ⊢;have hmv:fQ [0,1] 0 [PV.list l.length cs tk,.agg xs,.fn 159 []]=M:=by
  rw[<-hM];simp[fQ,ar]
 have hpl:[PV.list l.length cs tk,.agg xs,.fn 159 []].all bR=true:=by simp only[cN,cU,bR,az,hL.np,hxn,ap];rfl
 have hw:Wp cf (l.length+1) F91.body (eu (iN (M.map (·.1)) [0,1] 0 [PV.list l.length cs tk,.agg xs,.fn 159 []]),bn (M.map (·.2)) []) (q7 F91.res fun p o=>p= .list (l.length+1) ((lw x l).flatMap nc) .no/\o=some 72):=by
  have hh:iN (M.map (·.1)) [0,1] 0 [PV.list l.length cs tk,.agg xs,.fn 159 []]=[.list l.length (aZ (aT (M.map (·.1))) false cs) (tk.ren (aT (M.map (·.1))) false),.agg (aZ (aT (M.map (·.1))) false xs),.fn 159 []]:=by
   simp[iN,ren,aC,aZ]
  have hsl:=jR (aT (M.map (·.1))) _ hs fun q hq=>gX q (by rw[<-hM];exact cM _ hq);have hsx:=fV (aT (M.map (·.1))) _ hxso fun q hq=>gX q (by rw[<-hM];exact dq _ hq);have htl:ar (ren (aT (M.map (·.1))) false (.list l.length cs tk))++al (aZ (aT (M.map (·.1))) false xs)=cj 0 (M.map (·.2)):=by
   rw[<-sA hk.1,oU (l:=M) (fun q hq=>by rw[<-hM];exact dq _ hq),lq _ (fun k=>(aT (M.map (·.1)) k).getD 0) (.list l.length cs tk) fun q hq=>by
    obtain⟨i,hi⟩:=bW.1 (gX (l:=M) q (by rw[<-hM];exact cM (al xs) hq));rw[hi];rfl]
   rw[<-ch,hM]
  have h4:=sp (f:=aT (M.map (·.1))) ht fun q hq=>gX q (by rw[<-hM];exact cM _ hq);have hst:=(eG (aT (M.map (·.1))) cs).trans hL.st;have hxs:=(eG (aT (M.map (·.1))) xs).trans hxs;have h3:aI (aZ (aT (M.map (·.1))) false cs)=true:=by rw[aI,fA];exact hL.np
  have hxn:aI (aZ (aT (M.map (·.1))) false xs)=true:=by rw[aI,fA];exact hxn
  have hcl:(aZ (aT (M.map (·.1))) false cs).length=l.length*3:=by rw[fW,hL.len]
  rw[hh];rw[gK]at hsl htl;clear hmv hpl hh;generalize M.map (·.2)=ns at*;generalize aT (M.map (·.1))=f at*;generalize aZ f false cs=cs0 at*;generalize aZ f false xs=xs0 at*;generalize tk.ren f false=tk0 at*;clear hk hs ht hL hM;have hxl:xs0.length=3:=by rw[<-bw,hxs,cC]
  have hxt:List.take 3 xs0=xs0:=bA (by omega);have hlso:=hsl;have hxso:=hsx;unfold F91 qr qd qm qi qc qb qk ql qy qn qo qN;simp only[↓pa,ai,↓reduceIte,hxl];refine be (fun q fr st=>∃ i:Nat,q=l.length-i/\i<=l.length/\fr 0= .list l.length cs0 tk0/\fr 2= .fn 159 []/\fr 4= .ptr 4 0/\st.objs 4=some xs0/\fr 7=I i/\st.fl<=st.nx/\aL st (ar (.list l.length cs0 tk0)++al xs0)/\lw x l=l.take i++lw x (l.drop i)) l.length (by omega)
   ⟨0,by simp,by omega,by simp only[↓pa,pb,↓reduceIte,reduceCtorEq],by simp only[↓pa,pb,↓reduceIte,reduceEqDiff],by simp only[↓pa,↓reduceIte,reduceEqDiff],by simp only[pb,↓reduceIte],by simp only[↓pa,↓reduceIte];rfl,aM _,by rw[htl];exact aK (ny ns),rfl⟩ ?_
  rintro q fr st ⟨i,rfl,hi,f0,f2,f4,o4,f7,hfl,hk,hQ⟩;simp only[↓pa,↓dx,pb,cB,aV,↓reduceIte,reduceEqDiff,reduceCtorEq,f0,f7];refine aa (fun h1=>?_) (fun h1=>?_)
  ·have hlt:i<l.length:=h1;obtain⟨hp1,hp2,hp3⟩:=wJ cC hst h3 hcl hlt;have hkey:=fun st=>II (st:=st) K l[i] hp2 hp3;have hkx:=fun st=>II (st:=st) K x hxs hxn;simp (disch:=omega)only[↓pa,↓dx,pb,ai,cB,fD,aj,ah,↓reduceIte,reduceEqDiff,reduceLeDiff,reduceCtorEq,f0,f2,f4,o4,f7,h1,hp1,hkey,hkx,hxl,hxt,K7,pJ hp3,pJ hxn];rw[a6 hlt,lw]at hQ;refine aa (fun h2=>?_) (fun h2=>?_)
   ·rw[ak h2]at hQ;simp (disch:=omega)only[↓pa,pb,aV,↓reduceIte,reduceEqDiff,reduceCtorEq,f0,f2,f4,o4,f7,h2];exact⟨l.length- (i+1),by omega,i+1,rfl,by omega,rfl,hfl,hk,by rw[aW hlt,bl];exact hQ⟩
   ·rw[ad h2]at hQ;rw[<-a6 hlt]at hQ;simp only[↓pa,↓bT,pb,ai,↓reduceIte,reduceEqDiff,reduceAdd,reduceLeDiff,reduceLT,reduceCtorEq,f0,f4,o4,f7,h2,hxl,hxt,qQ hxl];obtain⟨r,ns',hc,htk,h4',h5',h6',h7',h8'⟩:=xg (st:=st) hI.insN (i:=i) h4 hlso h3 hxso hxn hk hfl hcl hxl (by decide) hi hl 72;rw[hc];refine eH.2 ?_;simp only[↓pa,↓reduceIte,jk];refine⟨?_,h4',h5',h6',?_,h8'⟩
    ·obtain⟨_,_,e,-,-⟩:=bt h7';rw[e];rfl
    ·rw[h7',hQ,hst,hxs,bE,bf,<-bl,jm nc 3 cC,jn nc 3 cC]
  ·have hd:l.drop i=[]:=dM (by omega);rw[hd,lw]at hQ;rw[<-hd]at hQ;simp only[↓pa,↓bT,↓dx,pb,ai,cB,fD,aj,ah,↓reduceIte,reduceEqDiff,reduceAdd,reduceLeDiff,reduceLT,reduceCtorEq,f0,f4,o4,f7,h1,hxl,K7,hxt,qQ hxl];obtain⟨r,ns',hc,htk,h4',h5',h6',h7',h8'⟩:=xg (st:=st) hI.insN (i:=i) h4 hlso h3 hxso hxn hk hfl hcl hxl (by decide) hi hl 72;rw[hc];refine eH.2 ?_;simp only[↓pa,↓reduceIte,jk];refine⟨?_,h4',h5',h6',?_,h8'⟩
   ·obtain⟨_,_,e,-,-⟩:=bt h7';rw[e];rfl
   ·rw[h7',hQ,hst,hxs,bE,bf,<-bl,jm nc 3 cC,jn nc 3 cC]
 obtain⟨r,ns,h1,h2,h3,h4⟩:=Fj (f:=91) (F:=F91) K.tab rfl rfl rfl (mv:=[0,1]) (by simp) hpl (by rw[hmv];exact hk) (by rw[hmv];simp[gU,tf,dw]) (by simp[iN,F91]) (l.length+1) (by rw[hmv];exact hw);rw[hmv]at h1 h4;exact⟨r,ns,h1,h2,h3.1,h3.2,h4⟩
def IJ(K:bJ cf)(x:Eg){ds:List PV}(h:aF ds=ec x)(hn:aI ds=true):av cf 162 [.agg ds] [] st=some (I x.id,st):=by
 have hm:[PV.agg ds].map aC=[.agg (ec x)]:=by simp only[aH,bM,az,h]
 obtain⟨q1,q2⟩:=dE (ps:=[PV.agg (ec x)]) (by simp[gv]);have hk:av cf 162 [.agg (ec x)] [] st=some (I x.id,st):=by
  refine cQ K.tab (F:=F162) (t:=2) rfl rfl rfl (lb rfl) (by simp[gv]) (dD _ _) 1 ?_;unfold F162 qr qm qi ql qf qo;simp only[↓pa,pb,ai,↓reduceIte,reduceEqDiff,reduceAdd,ec]
 rw[lA ?_ (by rw[hm];exact q1) (by rw[hm];exact q2),hm]
 ·exact hk
 ·simp only[cN,cU,bR,az,hn,ap]
def En(K:bJ cf)(hI:rQ cf)(x:Eg){l:List Eg}{cs xs:List PV}{tk:aB}(ht:mS 68 tk)(hs:aJ (.list l.length cs tk)=true)(hL:iY ec 5 l cs)(hxs:aF xs=ec x)(hxn:aI xs=true)(hxso:aY xs=true)(hk:aL st (ar (.list l.length cs tk)++al xs))(hl:l.length<=10000000):
  ∃ r ns,av cf 161 [.list l.length cs tk,.agg xs,.fn 162 []] [0,1] st=some (r,dI ((ar (.list l.length cs tk)++al xs).map (·.1)) ns st)/\cR st.nx ns r/\aC r= .list (l.length+1) ((my x l).flatMap ec) .no/\ml r=some 68/\cD [.list l.length cs tk,.agg xs,.fn 162 []] [0,1] st=(ar (.list l.length cs tk)++al xs).map (·.1):=by
 generalize hM:ar (.list l.length cs tk)++al xs=M at hk ⊢;have hmv:fQ [0,1] 0 [PV.list l.length cs tk,.agg xs,.fn 162 []]=M:=by
  rw[<-hM];simp[fQ,ar]
 have hpl:[PV.list l.length cs tk,.agg xs,.fn 162 []].all bR=true:=by simp only[cN,cU,bR,az,hL.np,hxn,ap];rfl
 have hw:Wp cf (l.length+1) F161.body (eu (iN (M.map (·.1)) [0,1] 0 [PV.list l.length cs tk,.agg xs,.fn 162 []]),bn (M.map (·.2)) []) (q7 F161.res fun p o=>p= .list (l.length+1) ((my x l).flatMap ec) .no/\o=some 68):=by
  have hh:iN (M.map (·.1)) [0,1] 0 [PV.list l.length cs tk,.agg xs,.fn 162 []]=[.list l.length (aZ (aT (M.map (·.1))) false cs) (tk.ren (aT (M.map (·.1))) false),.agg (aZ (aT (M.map (·.1))) false xs),.fn 162 []]:=by
   simp[iN,ren,aC,aZ]
  have hsl:=jR (aT (M.map (·.1))) _ hs fun q hq=>gX q (by rw[<-hM];exact cM _ hq);have hsx:=fV (aT (M.map (·.1))) _ hxso fun q hq=>gX q (by rw[<-hM];exact dq _ hq);have htl:ar (ren (aT (M.map (·.1))) false (.list l.length cs tk))++al (aZ (aT (M.map (·.1))) false xs)=cj 0 (M.map (·.2)):=by
   rw[<-sA hk.1,oU (l:=M) (fun q hq=>by rw[<-hM];exact dq _ hq),lq _ (fun k=>(aT (M.map (·.1)) k).getD 0) (.list l.length cs tk) fun q hq=>by
    obtain⟨i,hi⟩:=bW.1 (gX (l:=M) q (by rw[<-hM];exact cM (al xs) hq));rw[hi];rfl]
   rw[<-ch,hM]
  have h4:=sp (f:=aT (M.map (·.1))) ht fun q hq=>gX q (by rw[<-hM];exact cM _ hq);have hst:=(eG (aT (M.map (·.1))) cs).trans hL.st;have hxs:=(eG (aT (M.map (·.1))) xs).trans hxs;have h3:aI (aZ (aT (M.map (·.1))) false cs)=true:=by rw[aI,fA];exact hL.np
  have hxn:aI (aZ (aT (M.map (·.1))) false xs)=true:=by rw[aI,fA];exact hxn
  have hcl:(aZ (aT (M.map (·.1))) false cs).length=l.length*5:=by rw[fW,hL.len]
  rw[hh];rw[gK]at hsl htl;clear hmv hpl hh;generalize M.map (·.2)=ns at*;generalize aT (M.map (·.1))=f at*;generalize aZ f false cs=cs0 at*;generalize aZ f false xs=xs0 at*;generalize tk.ren f false=tk0 at*;clear hk hs ht hL hM;have hxl:xs0.length=5:=by rw[<-bw,hxs,cw]
  have hxt:List.take 5 xs0=xs0:=bA (by omega);have hlso:=hsl;have hxso:=hsx;unfold F161 qr qd qm qi qc qb qk ql qy qn qo qN;simp only[↓pa,ai,↓reduceIte,hxl];refine be (fun q fr st=>∃ i:Nat,q=l.length-i/\i<=l.length/\fr 0= .list l.length cs0 tk0/\fr 2= .fn 162 []/\fr 4= .ptr 4 0/\st.objs 4=some xs0/\fr 7=I i/\st.fl<=st.nx/\aL st (ar (.list l.length cs0 tk0)++al xs0)/\my x l=l.take i++my x (l.drop i)) l.length (by omega)
   ⟨0,by simp,by omega,by simp only[↓pa,pb,↓reduceIte,reduceCtorEq],by simp only[↓pa,pb,↓reduceIte,reduceEqDiff],by simp only[↓pa,↓reduceIte,reduceEqDiff],by simp only[pb,↓reduceIte],by simp only[↓pa,↓reduceIte];rfl,aM _,by rw[htl];exact aK (ny ns),rfl⟩ ?_
  rintro q fr st ⟨i,rfl,hi,f0,f2,f4,o4,f7,hfl,hk,hQ⟩;simp only[↓pa,↓dx,pb,cB,aV,↓reduceIte,reduceEqDiff,reduceCtorEq,f0,f7];refine aa (fun h1=>?_) (fun h1=>?_)
  ·have hlt:i<l.length:=h1;obtain⟨hp1,hp2,hp3⟩:=wJ cw hst h3 hcl hlt;have hkey:=fun st=>IJ (st:=st) K l[i] hp2 hp3;have hkx:=fun st=>IJ (st:=st) K x hxs hxn;simp (disch:=omega)only[↓pa,↓dx,pb,ai,cB,fD,aj,ah,↓reduceIte,reduceEqDiff,reduceLeDiff,reduceCtorEq,f0,f2,f4,o4,f7,h1,hp1,hkey,hkx,hxl,hxt,K7,pJ hp3,pJ hxn];rw[a6 hlt,my]at hQ;refine aa (fun h2=>?_) (fun h2=>?_)
   ·rw[ak h2]at hQ;simp (disch:=omega)only[↓pa,pb,aV,↓reduceIte,reduceEqDiff,reduceCtorEq,f0,f2,f4,o4,f7,h2];exact⟨l.length- (i+1),by omega,i+1,rfl,by omega,rfl,hfl,hk,by rw[aW hlt,bl];exact hQ⟩
   ·rw[ad h2]at hQ;rw[<-a6 hlt]at hQ;simp only[↓pa,↓bT,pb,ai,↓reduceIte,reduceEqDiff,reduceAdd,reduceLeDiff,reduceLT,reduceCtorEq,f0,f4,o4,f7,h2,hxl,hxt,pD hxl];obtain⟨r,ns',hc,htk,h4',h5',h6',h7',h8'⟩:=xg (st:=st) hI.insE (i:=i) h4 hlso h3 hxso hxn hk hfl hcl hxl (by decide) hi hl 68;rw[hc];refine eH.2 ?_;simp only[↓pa,↓reduceIte,jk];refine⟨?_,h4',h5',h6',?_,h8'⟩
    ·obtain⟨_,_,e,-,-⟩:=bt h7';rw[e];rfl
    ·rw[h7',hQ,hst,hxs,bE,bf,<-bl,jm ec 5 cw,jn ec 5 cw]
  ·have hd:l.drop i=[]:=dM (by omega);rw[hd,my]at hQ;rw[<-hd]at hQ;simp only[↓pa,↓bT,↓dx,pb,ai,cB,fD,aj,ah,↓reduceIte,reduceEqDiff,reduceAdd,reduceLeDiff,reduceLT,reduceCtorEq,f0,f4,o4,f7,h1,hxl,K7,hxt,pD hxl];obtain⟨r,ns',hc,htk,h4',h5',h6',h7',h8'⟩:=xg (st:=st) hI.insE (i:=i) h4 hlso h3 hxso hxn hk hfl hcl hxl (by decide) hi hl 68;rw[hc];refine eH.2 ?_;simp only[↓pa,↓reduceIte,jk];refine⟨?_,h4',h5',h6',?_,h8'⟩
   ·obtain⟨_,_,e,-,-⟩:=bt h7';rw[e];rfl
   ·rw[h7',hQ,hst,hxs,bE,bf,<-bl,jm ec 5 cw,jn ec 5 cw]
 obtain⟨r,ns,h1,h2,h3,h4⟩:=Fj (f:=161) (F:=F161) K.tab rfl rfl rfl (mv:=[0,1]) (by simp) hpl (by rw[hmv];exact hk) (by rw[hmv];simp[gU,tf,dw]) (by simp[iN,F161]) (l.length+1) (by rw[hmv];exact hw);rw[hmv]at h1 h4;exact⟨r,ns,h1,h2,h3.1,h3.2,h4⟩
def Fx{b m e:Nat}(hD:zW cf b m e){n i k:Nat}{cs:List PV}(hs:aJ (.list n cs (.own k e))=true)(hn:aI cs=true)(hk:aL st (ar (.list n cs (.own k e))))(h1:cs.length=n*m)(hi:i<n)(hl:n<=10000000):
  ∃ r ns,av cf b [.list n cs (.own k e),I i,I ((i+1:Nat):Int)] [0] st=some (r,dI ((ar (.list n cs (.own k e))).map (·.1)) ns st)/\cD [.list n cs (.own k e),I i,I ((i+1:Nat):Int)] [0] st=(ar (.list n cs (.own k e))).map (·.1)/\np r=true/\aJ r=true/\(∀ j,ck j (ar r)<=ck j (cj st.nx ns))/\(∀ q∈ar r,q∈cj st.nx ns)/\aC r= .list (n-1) ((aF cs).take (i*m)++(aF cs).drop ((i+1) *m)) .no/\ml r=some e:=by
 have hpl:[PV.list n cs (.own k e),I i,I ((i+1:Nat):Int)].all bR=true:=by simp only[cN,cU,bR,az,hn,ap]
 have hmv:fQ [0] 0 [PV.list n cs (.own k e),I i,I ((i+1:Nat):Int)]=(k,n)::al cs:=by simp[fQ,ar]
 have hM:ar (.list n cs (.own k e))=(k,n)::al cs:=rfl;rw[hM]at hk ⊢;have hx:aT (((k,n)::al cs).map (·.1)) k=some 0:=by simp[aT]
 have hh:iN (((k,n)::al cs).map (·.1)) [0] 0 [PV.list n cs (.own k e),I i,I ((i+1:Nat):Int)]=[.list n (aZ (aT (((k,n)::al cs).map (·.1))) false cs) (.own 0 e),I i,I ((i+1:Nat):Int)]:=by
  simp only[iN,gK,aB.ren,hx];simp[aC,ren]
 have hsp:gU (((k,n)::al cs).map (·.1)) [0] 0 [PV.list n cs (.own k e),I i,I ((i+1:Nat):Int)]=true:=by simp[gU,tf]
 have hc2:=oU (cs:=cs) (l:=(k,n)::al cs) fun q hq=>by simp[hq]
 have hie:=sA hk.1;have hcso:aY (aZ (aT (((k,n)::al cs).map (·.1))) false cs)=true:=by
  have:aY cs=true:=by simpa [aJ]using hs
  exact fV _ _ this fun q hq=>gX q (by simp[hq])
 have hcnp:aI (aZ (aT (((k,n)::al cs).map (·.1))) false cs)=true:=by rw[aI,fA];exact hn
 have hcl:(aZ (aT (((k,n)::al cs).map (·.1))) false cs).length=n*m:=by rw[fW,h1]
 have hcst:=eG (aT (((k,n)::al cs).map (·.1))) cs;have hrest:al (aZ (aT (((k,n)::al cs).map (·.1))) false cs)=cj 1 ((al cs).map (·.2)):=by
  rw[hc2];have h3:=hie;simp[cj]at h3;simpa using h3.2
 generalize aZ (aT (((k,n)::al cs).map (·.1))) false cs=cs' at*;have hge:∀ q∈al cs',1<=q.1:=fun q hq=>by rw[hrest]at hq;exact Av _ _ _ hq
 have t1:dw ([0].contains ·) cs'=true:=ma _ _ hcso fun q hq=>by have:=hge q hq;simp;omega
 have hc:=hD.own n i cs' ((al cs).map fun q:Nat×Nat=>q.2) hcl hcnp t1 hi hl;obtain⟨g1,g2⟩:=vg (cf:=cf) (f:=b) (st:=st) (mv:=[0]) (by simp) hpl (by rw[hmv];exact hk) (by rw[hmv];exact hsp) (by rw[hmv,hh];exact hc);have hcut:=dn (i*m) cs';have hcut2:=dn m (cs'.drop (i*m));rw[fU]at hcut2;have e1:i*m+m=(i+1) *m:=by rw[gg]
 rw[e1]at hcut2;have hso2:=hcso;have hnp2:=hcnp;rw[<-hcut,<-hcut2,ey,ey,ae,ae]at hso2;rw[<-hcut,<-hcut2,iz,iz,ae,ae]at hnp2;rw[<-hcut,<-hcut2,dN,dN]at hrest;have hcl2:aJ (.list (n-1) (cs'.take (i*m)++cs'.drop ((i+1) *m)) (.own 0 e))=true:=by simp only[aJ,ey,hso2.1,hso2.2.2,ap]
 rw[hmv]at g1 g2;rw[kf _ hcl2,uK]at g1;have hr:ar (ren (fun j=>some (st.nx+j)) false (.list (n-1) (cs'.take (i*m)++cs'.drop ((i+1) *m)) (.own 0 e)))=(ar (.list (n-1) (cs'.take (i*m)++cs'.drop ((i+1) *m)) (.own 0 e))).map fun q=>(st.nx+q.1,q.2):=lq _ (fun j=>st.nx+j) _ fun _ _=>rfl;have hck:∀ j,ck j (ar (.list (n-1) (cs'.take (i*m)++cs'.drop ((i+1) *m)) (.own 0 e)))<=ck j (cj 0 ((n-1)::(al cs).map (·.2))):=fun j=>by
  rw[j8,cj,<-hrest];simp only[nU,dN,bh,ck,jz];omega
 have hmem:∀ q∈ar (.list (n-1) (cs'.take (i*m)++cs'.drop ((i+1) *m)) (.own 0 e)),q∈cj 0 ((n-1)::(al cs).map (·.2)):=fun q hq=>by
  rw[j8]at hq;rw[cj,<-hrest];simp only[nU,dN,ay,aX,eK,or_false]at hq ⊢;rcases hq with h|h|h<;>simp[h]
 refine⟨_,_,g1,g2,?_,jR _ _ hcl2 fun _ _=>rfl,fun j=>?_,fun q hq=>?_,?_,by rw[uo fun _ _=>rfl];rfl⟩
 ·simp only[PM.np,gn]
  show aI _=true;simp only[iz,hnp2.1,hnp2.2.2,ap]
 ·rw[hr,<-nL];exact Iw hck
 ·rw[hr]at hq;obtain⟨q0,h0,rfl⟩:=cA.1 hq;rw[<-nL];exact cA.2 ⟨q0,hmem q0 h0,rfl⟩
 ·rw[gt,eF,gQ,tF,tG,hcst]
def Mi(K:bJ cf)(c:Ch):av cf 158 [.agg (cc c)] [] st=some (.bool (lf c),st):=by
 refine cQ K.tab (F:=F158) (t:=2) rfl rfl rfl (lb rfl) (by simp[ej,jd]) (ce _) 1 ?_;have hcl:(cc c).length=12:=rfl;unfold F158 qr qd qm qc qk ql qf qt qy qs qo qN lf;simp only[↓pa,pb,ai,↓reduceIte,reduceEqDiff,fS,hcl,aq];refine aa (fun k1=>?_) (fun k1=>?_)
 ·rw[ak k1];simp only[↓pa,pb,ai,↓reduceIte,reduceEqDiff,reduceAdd,fS,Dp K]
 rw[ad k1];simp only[↓pa,pb,↓reduceIte,reduceEqDiff];refine aa (fun k2=>?_) (fun k2=>?_)
 ·rw[ak k2];simp only[↓pa,pb,ai,↓reduceIte,reduceEqDiff,reduceAdd,fS,ry K.tab]
 rw[ad k2];simp only[↓pa,pb,↓reduceIte,reduceEqDiff];refine aa (fun k3=>?_) (fun k3=>?_)
 ·rw[ak k3];simp only[↓pa,pb,ai,↓reduceIte,reduceEqDiff,reduceAdd,fS,Dt K]
 rw[ad k3];simp only[↓pa,pb,↓reduceIte,reduceEqDiff];refine aa (fun k4=>?_) (fun k4=>?_)
 ·rw[ak k4];simp only[↓pa,pb,ai,↓reduceIte,reduceEqDiff,reduceAdd,fS,ry K.tab]
 rw[ad k4];simp only[↓pa,pb,↓reduceIte,reduceEqDiff];refine aa (fun k5=>?_) (fun k5=>?_)
 ·rw[ak k5];have hlb:=fun st=>Dr (st:=st) K.tab c.node.labels 10 (by decide);cases h1:km c.node.id
  ·simp only[↓pa,pb,ai,↓reduceIte,reduceEqDiff,reduceAdd,fS,ry K.tab,h1]
  ·simp only[↓pa,pb,ai,↓reduceIte,reduceEqDiff,reduceAdd,fS,ry K.tab,hlb,h1]
 rw[ad k5];simp only[↓pa,pb,↓reduceIte,reduceEqDiff];refine aa (fun k6=>?_) (fun k6=>?_)
 ·rw[ak k6];simp only[↓pa,pb,ai,↓reduceIte,reduceEqDiff,reduceAdd,fS];refine tA rfl (by simp[bZ]) (Dm K) (fun r hr=>?_);unfold tD at hr;cases hp:fu c.value with
  |none=>
   rw[hp]at hr;obtain⟨p,⟨cs,rfl,hc6,-,-⟩,rfl⟩:=hr;simp only[↓pa,pb,ai,aj,ah,↓reduceIte,reduceEqDiff,reduceAdd,reduceLeDiff,hc6,d6 hc6]
  |some v=>
   rw[hp]at hr;subst hr;have hvl:=v.ca_len;simp only[↓pa,pb,ai,aj,ah,↓reduceIte,reduceEqDiff,reduceAdd,reduceLeDiff,hvl,d6 hvl,vX];refine aa (fun h8=>?_) (fun h8=>?_)
   ·have e8:(decide (v.kind=8)||decide (v.kind=9))=true:=by simp[h8]
    have h9:=h8;cases hn:dH c.name
    ·simp only[↓pa,pb,ai,↓reduceIte,reduceEqDiff,reduceAdd,Int.reduceEq,fS,h8,pP K.tab,hn]
    simp only[↓pa,pb,ai,↓reduceIte,reduceEqDiff,reduceAdd,Int.reduceEq,fS,h8,pP K.tab,hn];refine aa (fun hx=>?_) (fun hx=>?_)
    ·have hx':decide (c.text=iL)=true:=decide_eq_true hx;simp only[↓pa,pb,↓reduceIte,reduceEqDiff,hx];rfl
    ·have hx':decide (c.text=iL)=false:=decide_eq_false hx;simp only[↓pa,pb,ai,↓reduceIte,reduceEqDiff,reduceAdd,fS,hx,hx',pQ K]
   ·simp only[↓pa,pb,ai,↓reduceIte,reduceEqDiff,reduceAdd,vX,h8];refine aa (fun h9=>?_) (fun h9=>?_)
    ·have e8:(decide (v.kind=8)||decide (v.kind=9))=true:=by simp[h9]
     cases hn:dH c.name
     ·simp only[↓pa,pb,ai,↓reduceIte,reduceEqDiff,reduceAdd,fS,h9,pP K.tab,hn]
     simp only[↓pa,pb,ai,↓reduceIte,reduceEqDiff,reduceAdd,fS,h9,pP K.tab,hn];refine aa (fun hx=>?_) (fun hx=>?_)
     ·have hx':decide (c.text=iL)=true:=decide_eq_true hx;simp only[↓pa,pb,↓reduceIte,reduceEqDiff,hx];rfl
     ·have hx':decide (c.text=iL)=false:=decide_eq_false hx;simp only[↓pa,pb,ai,↓reduceIte,reduceEqDiff,reduceAdd,fS,hx,hx',pQ K]
    ·have e8:(decide (v.kind=8)||decide (v.kind=9))=false:=by simp[h8,h9]
     simp only[↓pa,pb,↓reduceIte,reduceEqDiff,h9]
 ·rw[ad k6];simp only[↓pa,pb,↓reduceIte]
def uF(n:Nat):cT (.fn n []):=⟨rfl,rfl,fun _ _=>rfl,trivial⟩
def DN{o:Option (PV×St)}{P:PV->Prop}(h:∃ r ns,o=some (r,st.more ns)/\cR st.nx ns r/\P r)(k:∀ r ns,cR st.nx ns r->P r->A (mk r (st.more ns))):cP o mk A:=by
 obtain⟨r,ns,rfl,hF,hP⟩:=h;exact⟨_,_,rfl,k r ns hF hP⟩
structure FI {α:Type} (enc:α->List PV) (m e:Nat) (l:List α) (p:PV):Prop where
 sh:∃ cs t,p= .list l.length cs t/\iY enc m l cs/\mS e t
 so:aJ p=true
def xl{α:Type}{enc:α->List PV}{m e:Nat}{l:List α}{p:PV}{f:Nat->Option Nat}(h:FI enc m e l p)(hf:∀ q∈ar p,(f q.1).isSome=true):FI enc m e l (ren f false p):=by
 obtain⟨cs,t,rfl,hL,ht⟩:=h.sh;refine⟨⟨aZ f false cs,t.ren f false,gK _ _ _ _ _,⟨by rw[fW];exact hL.len,by rw[eG];exact hL.st,by rw[aI,fA];exact hL.np⟩,sp ht hf⟩,jR f _ h.so hf⟩
def uh{f:Nat}{F:bp}{O8:List PV}{rs:List hZ}(K:iF cf)(hT:T f=some F)(hres:F.res=rs)(hown:F.own=true)(hnt:O8.length<=F.nt)(has:∀ p∈O8,cT p)(N:Nat){Q:PV->Prop}
  (h:Wp cf N F.body (eu O8,bn [] []) (mF rs fun p s=>np p=true/\aJ p=true/\aL s (ar p)/\Q p)):∃ r ns r0,av cf f O8 [] st=some (r,st.more ns)/\cR st.nx ns r/\Q r0/\∃ g h:Nat->Option Nat,r=ren g false (ren h false r0)/\(∀ q∈ar r0,(h q.1).isSome=true)/\∀ k,(g k).isSome=true:=by
 obtain⟨h1,h2⟩:=dE has;obtain⟨r0,s1,r,ns,⟨hn,hso,hk,hQ⟩,hrun,-,hS⟩:=FV hown hres N hnt h;have hcf:=K f F hT N _ _ _ _ hrun;obtain⟨g,rfl,hg,-,htk⟩:=hS.ok hk;have hsr:=jR g r0 hso hg;have hnr:PM.np (ren g false r0)=true:=hS.np.trans hn;exact⟨_,ns,r0,wx h1 (by rw[h2];exact hcf) hsr,⟨Ah (f:=g) htk,jR _ _ hsr fun _ _=>rfl,by simp only[PM.np,gn];simpa [PM.np,gn]using hn⟩,hQ,_,g,rfl,hg,fun _=>rfl⟩
def Kr(K:bJ cf)(l:List Nd)(hl:l.length<=1000000)(hb:∀ x∈l,x.labels.length<=2000000/\x.fields.length<=2000000):∃ r ns,av cf 157 [NX l,.fn 66 []] [] st=some (r,st.more ns)/\cR st.nx ns r/\FI nc 3 72 l r:=by
 have hw:Wp cf (l.length+2) F157.body (eu [NX l,.fn 66 []],bn [] []) (mF F157.res fun p s=>np p=true/\aJ p=true/\aL s (ar p)/\FI nc 3 72 l p):=by
  have hm:=bN nc 3 cC l;unfold F157 qr qd qm qi qc qb qk ql qa qn qs qo qN;simp only[↓pa,pb,↓reduceIte,reduceCtorEq];refine be (fun q fr st=>∃ (i:Nat) (cs:List PV) (tk:aB),q=l.length-i/\i<=l.length/\fr 1= .fn 66 []/\fr 8=NX l/\fr 9=I l.length/\fr 10=I i/\fr 5= .list (l.take i).length cs tk/\iY nc 3 (l.take i) cs/\mS 72 tk/\aJ (.list (l.take i).length cs tk)=true/\aL st (ar (.list (l.take i).length cs tk))/\st.fl=0) l.length (by omega)
   ⟨0,[],.nil,by simp,by omega,by simp only[↓pa,↓reduceIte,reduceEqDiff],by simp only[↓pa,↓reduceIte,reduceEqDiff],by simp only[↓pa,↓reduceIte,reduceEqDiff],by simp only[↓pa,↓reduceIte];rfl,by simp only[↓pa,↓reduceIte,reduceEqDiff];rfl,DU,.inl rfl,rfl,fp,rfl⟩ ?_
  rintro q fr st ⟨i,cs,tk,rfl,hi,f1,f8,f9,f10,f5,hL,hto,hso,hT,hfl⟩;have hti:(l.take i).length=i:=by rw[aG];omega
  simp only[↓pa,pb,aV,↓reduceIte,f9,f10];refine aa (fun k1=>?_) (fun k1=>?_)
  ·have hlt:i<l.length:=k1;have hnl:=cC l[i];have hn3:List.take 3 (nc l[i])=nc l[i]:=rfl;have hnn:=hb _ (ct hlt);have hkp:=iV (gu l[i]);have hnext:l.take (i+1)=l.take i++[l[i]]:=aW hlt;simp (disch:=omega)only[↓pa,pb,ai,↓reduceIte,reduceEqDiff,reduceAdd,reduceLeDiff,f1,f8,f10,f5,k1,aq,ph hlt,hnl,hn3,qQ hnl];refine dK (Fl K l[i] hnn.1 hnn.2) (fun r ns hF hr=>?_);obtain⟨ds,rfl,hds⟩:=eI hr;have hdl:ds.length=3:=by rw[<-hnl,<-hds,cG,b8]
   have hFt:al ds=cj _ ns:=hF.tk;have hFs:aY ds=true:=hF.so;have hFn:aI ds=true:=hF.np;simp only[↓pa,↓bT,pb,ai,↓reduceIte,reduceEqDiff,reduceAdd,reduceLeDiff,reduceLT,aq,hdl,qQ hdl];refine xR (X:=[]) (Y:=[]) hto hso hFs (by rw[aN,aD,hFt];exact cV (aK (aK hT)) (by show st.fl<=_;omega) ns) (by rw[St.more_fl];exact hfl) hL.len (by rw[hdl]) (by omega) (by omega) (by decide) (fun st1 tk1 hto1 hso1 hT1 ho1 hfl1=>?_);simp (disch:=omega)only[↓pa,pb,aV,↓reduceIte,reduceEqDiff,f1,f8,f9,f10];have hl1:(l.take i).length+1=(l.take (i+1)).length:=by rw[hnext,af];rfl
   rw[hl1]at hso1 hT1 ⊢;exact⟨l.length- (i+1),by omega,i+1,_,tk1,rfl,by omega,rfl,rfl,by rw[hnext];exact BS hL hdl hds hFn,hto1,hso1,by simpa using hT1,hfl1⟩
  ·have hie:l.take i=l:=bA (by omega);rw[hie]at f5 hL hso hT;simp only[↓pa,pb,↓reduceIte,reduceEqDiff,fL,f5,k1];have hn:np (.list l.length cs tk)=true:=hL.np;exact⟨by simp only[eQ,hn,bg,dj];rfl,hn,hso,hT,⟨cs,tk,rfl,hL,hto⟩,hso⟩
 obtain⟨r,ns,r0,hc,hF,hQ,g,h,rfl,hh,hg⟩:=uh (st:=st) (f:=157) (F:=F157) K.tab rfl rfl rfl (lb rfl) (O8:=[NX l,.fn 66 []]) (by
  intro p hp;rcases aX.1 hp with rfl|hp
  ·exact sV l
  ·rw[dZ.1 hp];exact uF _) (l.length+2) hw
 exact⟨_,ns,hc,hF,xl (xl hQ hh) fun _ _=>hg _⟩
def Ks(K:bJ cf)(l:List Eg)(hl:l.length<=1000000)(hb:∀ x∈l,x.fields.length<=2000000):∃ r ns,av cf 67 [EX l,.fn 68 []] [] st=some (r,st.more ns)/\cR st.nx ns r/\FI ec 5 68 l r:=by
 have hw:Wp cf (l.length+2) F67.body (eu [EX l,.fn 68 []],bn [] []) (mF F67.res fun p s=>np p=true/\aJ p=true/\aL s (ar p)/\FI ec 5 68 l p):=by
  have hm:=bN ec 5 cw l;unfold F67 qr qd qm qi qc qb qk ql qa qn qs qo qN;simp only[↓pa,pb,↓reduceIte,reduceCtorEq];refine be (fun q fr st=>∃ (i:Nat) (cs:List PV) (tk:aB),q=l.length-i/\i<=l.length/\fr 1= .fn 68 []/\fr 8=EX l/\fr 9=I l.length/\fr 10=I i/\fr 5= .list (l.take i).length cs tk/\iY ec 5 (l.take i) cs/\mS 68 tk/\aJ (.list (l.take i).length cs tk)=true/\aL st (ar (.list (l.take i).length cs tk))/\st.fl=0) l.length (by omega)
   ⟨0,[],.nil,by simp,by omega,by simp only[↓pa,↓reduceIte,reduceEqDiff],by simp only[↓pa,↓reduceIte,reduceEqDiff],by simp only[↓pa,↓reduceIte,reduceEqDiff],by simp only[↓pa,↓reduceIte];rfl,by simp only[↓pa,↓reduceIte,reduceEqDiff];rfl,DU,.inl rfl,rfl,fp,rfl⟩ ?_
  rintro q fr st ⟨i,cs,tk,rfl,hi,f1,f8,f9,f10,f5,hL,hto,hso,hT,hfl⟩;have hti:(l.take i).length=i:=by rw[aG];omega
  simp only[↓pa,pb,aV,↓reduceIte,f9,f10];refine aa (fun k1=>?_) (fun k1=>?_)
  ·have hlt:i<l.length:=k1;have hnl:=cw l[i];have hn3:List.take 5 (ec l[i])=ec l[i]:=rfl;have hnn:=hb _ (ct hlt);have hkp:=iV (gv l[i]);have hnext:l.take (i+1)=l.take i++[l[i]]:=aW hlt;simp (disch:=omega)only[↓pa,pb,ai,↓reduceIte,reduceEqDiff,reduceAdd,reduceLeDiff,f1,f8,f10,f5,k1,aq,pj hlt,hnl,hn3,pD hnl];refine dK (Fo K l[i] hnn) (fun r ns hF hr=>?_);obtain⟨ds,rfl,hds⟩:=eI hr;have hdl:ds.length=5:=by rw[<-hnl,<-hds,cG,b8]
   have hFt:al ds=cj _ ns:=hF.tk;have hFs:aY ds=true:=hF.so;have hFn:aI ds=true:=hF.np;simp only[↓pa,↓bT,pb,ai,↓reduceIte,reduceEqDiff,reduceAdd,reduceLeDiff,reduceLT,aq,hdl,pD hdl];refine xR (X:=[]) (Y:=[]) hto hso hFs (by rw[aN,aD,hFt];exact cV (aK (aK hT)) (by show st.fl<=_;omega) ns) (by rw[St.more_fl];exact hfl) hL.len (by rw[hdl]) (by omega) (by omega) (by decide) (fun st1 tk1 hto1 hso1 hT1 ho1 hfl1=>?_);simp (disch:=omega)only[↓pa,pb,aV,↓reduceIte,reduceEqDiff,f1,f8,f9,f10];have hl1:(l.take i).length+1=(l.take (i+1)).length:=by rw[hnext,af];rfl
   rw[hl1]at hso1 hT1 ⊢;exact⟨l.length- (i+1),by omega,i+1,_,tk1,rfl,by omega,rfl,rfl,by rw[hnext];exact BS hL hdl hds hFn,hto1,hso1,by simpa using hT1,hfl1⟩
  ·have hie:l.take i=l:=bA (by omega);rw[hie]at f5 hL hso hT;simp only[↓pa,pb,↓reduceIte,reduceEqDiff,fL,f5,k1];have hn:np (.list l.length cs tk)=true:=hL.np;exact⟨by simp only[eQ,hn,bg,dj];rfl,hn,hso,hT,⟨cs,tk,rfl,hL,hto⟩,hso⟩
 obtain⟨r,ns,r0,hc,hF,hQ,g,h,rfl,hh,hg⟩:=uh (st:=st) (f:=67) (F:=F67) K.tab rfl rfl rfl (lb rfl) (O8:=[EX l,.fn 68 []]) (by
  intro p hp;rcases aX.1 hp with rfl|hp
  ·exact vV l
  ·rw[dZ.1 hp];exact uF _) (l.length+2) hw
 exact⟨_,ns,hc,hF,xl (xl hQ hh) fun _ _=>hg _⟩
def L0(K:bJ cf)(g:bY)(h1:g.nodes.length<=1000000)(h2:g.edges.length<=1000000)(hn:∀ x∈g.nodes,x.labels.length<=2000000/\x.fields.length<=2000000)(he:∀ x∈g.edges,x.fields.length<=2000000):
  ∃ c ns,av cf 114 [.agg (gc g)] [] st=some (.agg c,st.more ns)/\al c=cj st.nx ns/\kH g c:=by
 have hw:Wp cf 1 F114.body (eu [.agg (gc g)],bn [] []) (mF F114.res fun p s=>np p=true/\aJ p=true/\aL s (ar p)/\∃ c,p= .agg c/\kH g c):=by
  unfold F114 qr ql qf qs qo qN;simp only[↓pa,↓dx,pb,ai,cB,↓reduceIte,reduceEqDiff,reduceAdd,gc];refine DN (Kr K g.nodes h1 hn) (fun r ns hF hL=>?_);obtain⟨cs,t,rfl,hLn,ht⟩:=hL.sh;simp only[↓pa,↓dx,pb,ai,cB,↓reduceIte,reduceEqDiff,reduceAdd,jk];refine DN (Ks K g.edges h2 he) (fun r2 ns2 hF2 hL2=>?_);obtain⟨ds,u,rfl,hLe,hu⟩:=hL2.sh;have hkp:=fj (dE (ps:=[NX g.nodes,.fn 66 []]) (by
   intro p hp;rcases aX.1 hp with rfl|hp
   ·exact sV _
   ·rw[dZ.1 hp];exact uF _)).1
  simp only[↓pa,↓bT,↓dx,pb,ai,cB,fD,aj,ah,↓reduceIte,reduceEqDiff,reduceAdd,reduceLeDiff,jk,fL,hkp];have hn1:np (.agg [.list g.nodes.length cs t,.list g.edges.length ds u])=true:=by
   have e1:=hLn.np;have e2:=hLe.np;simp only[np,off,dh,bg,ae];exact⟨e1,e2⟩
  have hs1:aJ (.agg [.list g.nodes.length cs t,.list g.edges.length ds u])=true:=by
   have e1:=hL.so;have e2:=hL2.so
   show aY [_,_]=true;rw[aY,aY,e1,e2];rfl
  have ht1:ar (.agg [.list g.nodes.length cs t,.list g.edges.length ds u])=ar (.list g.nodes.length cs t)++(ar (.list g.edges.length ds u)++[]):=rfl;refine⟨by simp only[eQ,hn1,bg,dj];rfl,hn1,hs1,?_,_,rfl,?_,hn1,hs1,cs,ds,t,u,rfl,ht,hu⟩
  ·rw[ht1,aD,hF.tk,hF2.tk];have h0:=cV (cV (st:=bP (bP (bn [] []) 1 [NX g.nodes,EX g.edges]) 2 [.list 0 [] .nil,.list 0 [] .nil]) fp (aM _) ns) (by rw[St.more_fl];exact aM _) ns2;rw[aN]at h0;exact aK h0
  ·simp only[az,gc,hLn.st,hLe.st]
 obtain⟨r,ns,r0,hc,hF,⟨c,rfl,hQ⟩,g',h,rfl,hh,hg⟩:=uh (st:=st) (f:=114) (F:=F114) K.tab rfl rfl rfl (lb rfl) (O8:=[.agg (gc g)]) (by simp[dW]) 1 hw;have hh:∀ q∈al c,(h q.1).isSome=true:=hh;exact⟨_,ns,hc,hF.tk,rZ (rZ hQ hh) fun _ _=>hg _⟩
def Hy{l:List Fd}{i:Nat}(h:i<l.length)(n v:List UInt8)(b:Bool):pB n v b (l.drop i)=(if b=false/\eq l[i].1 n=false then [(n,v)]else [])++(if l[i].1≠n then [l[i]]else [])++pB n v (b||!eq l[i].1 n) (l.drop (i+1)):=by
 rw[a6 h,pB]
def sI{e:Nat}{t:aB}(st:St):mS e (dU e t st):=by cases t<;>exact .inr ⟨_,rfl⟩
def Kb(l:List Fd):∀ p∈l.flatMap fc,w6 p=true:=by
 intro p hp;obtain⟨f,-,h⟩:=oT.1 hp;rcases aX.1 h with rfl|h
 ·rfl
 ·rw[dZ.1 h];rfl
def EN{l L:List Fd}{n v:List UInt8}{tok:aB}(hQ:eN l n v=L)(hG:Gr 133 st.nx st.cnt L.length tok)(hto:mS 133 tok)(hfl:st.fl=0):
  eQ [.list L.length (L.flatMap fc) tok,.bool (decide ((L.length:Int)<=20))]=true/\np (.tup [.list L.length (L.flatMap fc) tok,.bool (decide ((L.length:Int)<=20))])=true/\aJ (.tup [.list L.length (L.flatMap fc) tok,.bool (decide ((L.length:Int)<=20))])=true/\aL st (ar (.tup [.list L.length (L.flatMap fc) tok,.bool (decide ((L.length:Int)<=20))]))/\
   ∃ r0,PV.tup [.list L.length (L.flatMap fc) tok,.bool (decide ((L.length:Int)<=20))]= .tup [r0,.bool (decide (((eN l n v).length:Int)<=20))]/\aC r0=FX (eN l n v):=by
 subst hQ;have hp:=hO (eN l n v);obtain⟨s1,s2⟩:=Ar (Kb (eN l n v));have hn:np (.list (eN l n v).length ((eN l n v).flatMap fc) tok)=true:=hp.1;have hs:aJ (.list (eN l n v).length ((eN l n v).flatMap fc) tok)=true:=by
  rcases hto with rfl|⟨k,rfl⟩
  ·have h0:(eN l n v).length=0:=hG;rw[gd.1 h0];rfl
  ·simp only[aJ,s1,ap]
 have ht:ar (.tup [.list (eN l n v).length ((eN l n v).flatMap fc) tok,.bool (decide (((eN l n v).length:Int)<=20))])=nU tok (eN l n v).length:=by
  show al [_,_]=_;rw[al,al,al,j8,s2];simp[ar]
 refine⟨by simp only[eQ,hn,bg,dj];rfl,?_,?_,?_,_,rfl,?_⟩
 ·simp only[np,off,dh,bg]at hn ⊢;exact hn
 ·show aY [_,_]=true;rw[aY,hs];rfl
 ·rw[ht];rcases hto with rfl|⟨k,rfl⟩
  ·exact fp
  ·exact BP hG.1 hG.2.1 (by rw[hfl];exact aM _)
 ·rw[eF,hp.2.1]
def Ly{l:List Fd}{n v:List UInt8}{b:Bool}{ns:List Nat}{c:PV}{o:Option (PV×St)}(hQ:aC c=FX (eN l n v))(g h:Nat->Option Nat)(hF:cR st.nx ns (ren g false (ren h false (.tup [c,.bool b]))))(hc:o=some (ren g false (ren h false (.tup [c,.bool b])),st.more ns)):∃ r ns,o=some (.tup [r,.bool b],st.more ns)/\cR st.nx ns r/\aC r=FX (eN l n v):=by
 refine⟨ren g false (ren h false c),ns,by rw[hc];rfl,⟨?_,?_,?_⟩,by rw[gt,gt];exact hQ⟩
 ·have:=hF.tk;have e:ar (ren g false (ren h false (.tup [c,.bool b])))=ar (ren g false (ren h false c)):=by
   show al [_,_]=_;rw[al,al,al];simp[ar,ren]
  rwa [e]at this
 ·have:=hF.so;have e:aJ (ren g false (ren h false (.tup [c,.bool b])))=(aJ (ren g false (ren h false c)) && true):=by
   show aY [_,_]=_;rw[aY,aY,aY];simp[aJ,ren]
  rw[e,bg]at this;exact this
 ·have:=hF.np;simp only[PM.np,ren,aZ,off,dh,bg]at this;exact this
def L6(K:bJ cf)(l:List Fd)(n v:List UInt8)(hl:l.length<=1000000):
  ∃ r ns,av cf 190 [FX l,S n,S v] [] st=some (.tup [r,.bool (decide (((eN l n v).length:Int)<=20))],st.more ns)/\cR st.nx ns r/\aC r=FX (eN l n v):=by
 have hw:Wp cf (l.length+2) F190.body (eu [FX l,S n,S v],bn [] []) (mF F190.res fun p s=>np p=true/\aJ p=true/\aL s (ar p)/\∃ r0,p= .tup [r0,.bool (decide (((eN l n v).length:Int)<=20))]/\aC r0=FX (eN l n v)):=by
  have hm:=fq l;have hnull:decide (v=iL)=decide (v=[110,117,108,108]):=rfl;unfold F190 qr qd qm qi qc qb qk ql qf qa qy qn qs qo qN;simp only[↓pa,pb,↓reduceIte,reduceEqDiff,reduceCtorEq];refine be (fun q fr st=>∃ (i:Nat) (b:Bool) (L:List Fd) (tok:aB),q=l.length-i/\i<=l.length/\fr 1=S n/\fr 2=S v/\fr 14=FX l/\fr 15=I l.length/\fr 16=I i/\fr 9= .bool b/\fr 8= .list L.length (L.flatMap fc) tok/\L.length<=i+b.toNat/\eN l n v=L++pB n v b (l.drop i)/\Gr 133 st.nx st.cnt L.length tok/\mS 133 tok/\st.fl=0) l.length (by omega)
   ⟨0,decide (v=iL),[],.nil,by simp,by omega,by simp only[↓pa,↓reduceIte,reduceEqDiff],by simp only[↓pa,↓reduceIte,reduceEqDiff],by simp only[↓pa,↓reduceIte,reduceEqDiff],by simp only[↓pa,↓reduceIte,reduceEqDiff],by simp only[↓pa,↓reduceIte];rfl,by simp only[↓pa,↓reduceIte,reduceEqDiff,hnull],by simp only[↓pa,↓reduceIte,reduceEqDiff];rfl,by simp,rfl,rfl,.inl rfl,rfl⟩ ?_
  rintro q fr st ⟨i,b,L,tok,rfl,hi,f1,f2,f14,f15,f16,f9,f8,hLl,hQ,hG,hto,hfl⟩;simp only[↓pa,pb,aV,↓reduceIte,f15,f16];refine aa (fun k1=>?_) (fun k1=>?_)
  ·have hlt:i<l.length:=k1;rw[Hy hlt]at hQ;cases b with
   |true=>
    have hLl:L.length<=i+1:=hLl;simp only[Bool.true_eq_false,false_and,if_false,aN,Bool.true_or]at hQ;simp (disch:=omega)only[↓pa,pb,ai,↓reduceIte,reduceEqDiff,reduceAdd,reduceLeDiff,du,f1,f14,f16,f9,k1,bi,aq,qv hlt];refine aa (fun e=>?_) (fun e=>?_)
    ·rw[ad (by simpa using e),aN]at hQ;simp (disch:=omega)only[↓pa,pb,aV,↓reduceIte,reduceEqDiff,f1,f2,f14,f15,f16,f9,f8,e];exact⟨l.length- (i+1),by omega,i+1,true,L,tok,rfl,by omega,rfl,rfl,rfl,by show _<=i+1+1;omega,hQ,hG,hto,hfl⟩
    ·rw[ak e]at hQ;simp only[↓pa,↓bT,pb,ai,↓reduceIte,reduceEqDiff,reduceAdd,reduceLeDiff,reduceLT,f8,e];refine bj hG (fq _) rfl (by omega) (by omega) (by decide) ?_;simp (disch:=omega)only[↓pa,pb,aV,↓reduceIte,reduceEqDiff,f1,f2,f14,f15,f16,f9];exact⟨l.length- (i+1),by omega,i+1,true,L++[l[i]],dU 133 tok st,rfl,by omega,rfl,rfl,by rw[af,bE];rfl,by simp only[af,au,aO,ln];omega,by rw[hQ,bl],by rw[af];exact di hG,sI st,by rw[iT];exact hfl⟩
   |false=>
    have hLl:L.length<=i:=hLl;simp only[true_and,Bool.false_or]at hQ;simp (disch:=omega)only[↓pa,pb,ai,↓reduceIte,reduceEqDiff,reduceAdd,reduceLeDiff,f1,f14,f16,f9,k1,bi,aq,qv hlt];refine aa (fun s1=>?_) (fun s1=>?_)
    ·have hne:¬l[i].1=n:=fun e=>by rw[e,mq]at s1;cases s1
     rw[ad (by rw[s1];simp),ak hne,s1,Bool.not_true,aN]at hQ;simp only[↓pa,↓bT,pb,ai,↓reduceIte,reduceEqDiff,reduceAdd,reduceLeDiff,reduceLT,du,f1,f8,s1,hne];refine bj hG (fq _) rfl (by omega) (by omega) (by decide) ?_;simp (disch:=omega)only[↓pa,pb,aV,↓reduceIte,reduceEqDiff,f1,f2,f14,f15,f16,f9];exact⟨l.length- (i+1),by omega,i+1,false,L++[l[i]],dU 133 tok st,rfl,by omega,rfl,rfl,by rw[af,bE];rfl,by simp only[af,au,aO,Bool.toNat_false];omega,by rw[hQ,bl],by rw[af];exact di hG,sI st,by rw[iT];exact hfl⟩
    ·have s0:eq l[i].1 n=false:=by simpa using s1
     rw[ak s0,s0,Bool.not_false]at hQ;simp only[↓pa,↓bT,pb,ai,↓reduceIte,reduceEqDiff,reduceAdd,reduceLeDiff,reduceLT,f1,f2,f8,s1];refine bj hG (fq _) rfl (by omega) (by omega) (by decide) ?_;have hc0:L.flatMap fc++[PV.str ⟨n.toArray⟩,.str ⟨v.toArray⟩]=(L++[(n,v)]).flatMap fc:=by rw[bE];rfl
     have hlx:(L++[(n,v)]).length=L.length+1:=by simp
     have hG2:∀ c d,Gr 133 (dV tok (bP (bP st 11 c) 11 d) (L++[(n,v)]).length).nx (dV tok (bP (bP st 11 c) 11 d) (L++[(n,v)]).length).cnt (L++[(n,v)]).length (dU 133 tok (bP (bP st 11 c) 11 d)):=fun c d=>by
      rw[hlx];exact di (st:=bP (bP st 11 c) 11 d) (m:=1) hG
     simp only[↓pa,pb,ai,↓reduceIte,reduceEqDiff,reduceAdd,du,f1,hc0];rw[<-hlx];refine aa (fun e=>?_) (fun e=>?_)
     ·rw[ad (by simpa using e),aD]at hQ;simp (disch:=omega)only[↓pa,pb,aV,↓reduceIte,reduceEqDiff,f1,f2,f14,f15,f16,e];exact⟨l.length- (i+1),by omega,i+1,true,L++[(n,v)],_,rfl,by omega,rfl,rfl,rfl,by rw[hlx];show _<=i+1+1;omega,by rw[hQ,bl],hG2 _ _,sI _,by rw[iT];exact hfl⟩
     ·rw[ak e]at hQ;simp only[↓pa,↓bT,pb,ai,↓reduceIte,reduceEqDiff,reduceAdd,reduceLeDiff,reduceLT,e];refine bj (hG2 _ _) (fq _) rfl (by omega) (by omega) (by decide) ?_;simp (disch:=omega)only[↓pa,pb,aV,↓reduceIte,reduceEqDiff,f1,f2,f14,f15,f16];exact⟨l.length- (i+1),by omega,i+1,true,L++[(n,v)]++[l[i]],_,rfl,by omega,rfl,rfl,by rw[@af _ (L++[(n,v)]),bE (xs:=L++[(n,v)])];rfl,by simp only[af,au,aO,ln];omega,by rw[hQ];simp only[bl],by rw[@af _ (L++[(n,v)])];exact di (hG2 _ _),sI _,by rw[iT,iT];exact hfl⟩
  ·have hie:l.drop i=[]:=dM (by omega);rw[hie,pB]at hQ;cases b with
   |true=>
    simp only[if_true,aD]at hQ;simp only[↓pa,pb,↓reduceIte,reduceEqDiff,fL,f9,f8,k1];exact EN hQ hG hto hfl
   |false=>
    simp only[bG,if_false]at hQ;simp only[↓pa,↓bT,pb,ai,↓reduceIte,reduceEqDiff,reduceAdd,reduceLeDiff,reduceLT,f1,f2,f9,f8,k1];have hLl:L.length<=i:=hLl;refine bj hG (fq _) rfl (by omega) (by omega) (by decide) ?_;have hc0:L.flatMap fc++[PV.str ⟨n.toArray⟩,.str ⟨v.toArray⟩]=(L++[(n,v)]).flatMap fc:=by rw[bE];rfl
    have hlx:(L++[(n,v)]).length=L.length+1:=by simp
    simp only[↓pa,pb,↓reduceIte,reduceEqDiff,fL,hc0];have hG2:=di (m:=1) hG;rw[<-hlx]at hG2 ⊢;exact EN hQ hG2 (sI st) (by rw[iT];exact hfl)
 obtain⟨r,ns,r0,hc,hF,⟨c,rfl,hQ⟩,g',h,rfl,hh,hg⟩:=uh (st:=st) (f:=190) (F:=F190) K.tab rfl rfl rfl (lb rfl) (O8:=[FX l,S n,S v]) (by simp[ga,bZ]) (l.length+2) hw;exact Ly hQ g' h hF hc
def Di{f:Nat}{F:bp}{t:Nat}{O8 c:List PV}{g:bY}{x:bY×Int}(K:iF cf)(hT:T f=some F)(hres:F.res=[.tmp t])(hown:F.own=true)(hs:st.objs s=some c)(hg:kH g c)(hk:aL st (al c))(has:∀ p∈O8,cT p)(hnt:O8.length+1<=F.nt)(hnk:1<=F.nk)(N:Nat)
  (h:∀ c0 ns,kH g c0->aL (bn ns [c0]) (al c0)->Wp cf N F.body (eu (.ptr 0 0::O8),bn ns [c0]) (zU t fun k c1=>k=x.2/\kH x.1 c1)):
  ∃ c2 ns,av cf f (.ptr s 0::O8) [0] st=some (I x.2,bP (dI ((al c).map (·.1)) ns st) s c2)/\cD (.ptr s 0::O8) [0] st=(al c).map (·.1)/\kH x.1 c2/\al c2=cj st.nx ns:=by
 have hm:∀ q∈al c,(aT ((al c).map (·.1)) q.1).isSome=true:=fun q hq=>gX q hq;have ht:al (aZ (aT ((al c).map (·.1))) false c)=cj 0 ((al c).map (·.2)):=by
  rw[oU (fun q hq=>hq)];exact sA hk.1
 obtain⟨k,c1,c2,ns,h1,h2,⟨rfl,hQ⟩,h4,h5,h6,g',h',rfl,hh,hg'⟩:=Na K hT hres hown hs has hk hnt hnk N (h _ _ (rZ hg hm) (by rw[ht];exact ny _));exact⟨_,ns,h1,h2,rZ (rZ hQ hh) fun _ _=>hg' _,h4⟩
def wK{α:Type}{enc:α->List PV}{m:Nat}(hm:∀ a,(enc a).length=m){l:List α}{cs:List PV}(hL:iY enc m l cs){j off:Nat}(hj:j<l.length)(ho:off<m):∃ pre p post,cs=pre++p::post/\pre.length=j*m+off/\aC p=(enc l[j])[off]'(by rw[hm];exact ho):=by
 have hlt:j*m+off<cs.length:=by
  rw[hL.len];have:=eU m hj;rw[gg]at this;omega
 refine⟨cs.take (j*m+off),cs[j*m+off],cs.drop (j*m+off+1),?_,by rw[aG];omega,?_⟩
 ·rw[<-a6 hlt,dn]
 ·have h1:(aF cs)[j*m+off]'(by rw[bw];exact hlt)=aC cs[j*m+off]:=by simp only[cG,List.getElem_map]
  have h2:bI (l.flatMap enc) (j*m+off) 1 false=some ((enc l[j])[off]'(by rw[hm];exact ho)):=by
   rw[df enc m hm off 1 false (by omega) l j hj];simp only[bI,hm,show off+1<=m by omega,if_true,bG,if_false];exact ax _
  have h3:bI (l.flatMap enc) (j*m+off) 1 false=some ((aF cs)[j*m+off]'(by rw[bw];exact hlt)):=by
   rw[<-hL.st];have hl2:j*m+off+1<=(aF cs).length:=by rw[bw];omega
   simp only[bI,hl2,if_true,bG,if_false];exact ax _
  rw[<-h1];exact Option.some.inj (h3.symm.trans h2)
def sK{n K E off:Nat}{pre post:List PV}{c v:PV}{X Y:List (Nat×Nat)}(hoff:off=pre.length)(hn:0<n)(hs:aJ (.list n (pre++c::post) (.own K E))=true)(hnp:aI (pre++c::post)=true)(hk:aL st (X++ar (.list n (pre++c::post) (.own K E))++Y++ar v))(hv:aJ v=true/\np v=true)
  (k:aJ (.list n (pre++v::post) (.own K E))=true->aI (pre++v::post)=true->aL (Dx (gT (pre++c::post) off K E n [v]) st) (X++ar (.list n (pre++v::post) (.own K E))++Y)->A (mk .hole (Dx (gT (pre++c::post) off K E n [v]) st))):
  cP (vJ 1 (.iptr (pre++c::post) off (.el K E n)) (some [v]) st) mk A:=by
 have hK:=hk.2 (K,n) (by simp[ar]);have hsc:aY (pre++c::post)=true:=by simpa [aJ]using hs
 have hnotin:∀ q∈al (pre++c::post)++ar v,q.1≠K:=by
  intro q hq he;have h1:=hk.1 K;rw[bh,bh,bh,ar,bh]at h1;have h2:=fT.2 ⟨q,hq,he⟩;rw[bh]at h2;simp only[ck,if_true]at h1;omega
 have h8:dw ([K].contains ·) [v]=true:=by
  have:=sb ([K].contains ·) v hv.1 fun q hq=>by simpa using hnotin q (dq _ hq)
  simp only[dw,this,ap]
 refine⟨_,_,Ac rfl (by simp[hoff]) hn hK.2.1 hK.1 hK.2.2 (kS _ _ hsc fun q hq=>by simpa using hnotin q (cM _ hq)) h8,k ?_ ?_ ?_⟩
 ·simp only[ey,aY,ae]at hsc;simp only[aJ,ey,aY,hsc.1,hv.1,hsc.2.2,ap]
 ·have e1:aI pre=true:=lS fun q hq=>fm hnp (by simp[hq]);have e2:aI (v::post)=true:=lS fun q hq=>by
   rcases aX.1 hq with rfl|h
   ·exact hv.2
   ·exact fm hnp (by simp[h])
  exact io e1 e2
 ·have:aL st (X++ar (.list n (pre++v::post) (.own K E))++Y):=dY hk (fun q=>by simp only[ar,dN,al,bh,ck];omega) (fun q hq=>by
   simp only[ar,dN,al,ay,aX,eK,or_false]at hq ⊢;rcases hq with(h|h|h|h|h)|h<;>simp[h])
  exact this
def Dv{K E n off m:Nat}{cs vs ds:List PV}{t:aB}(hs:aJ (.list m ds t)=true)(hk:∀ q∈ar (.list m ds t),q.1≠K):fJ (gT cs off K E n vs) (.list m ds t)= .list m ds t:=
 KI (u:=gT cs off K E n vs) (by simp[gT]) hs fun q hq=>by simpa [gT]using hk q hq
def sq{e n:Nat}{cs:List PV}{t:aB}(h:mS e t)(hs:aJ (.list n cs t)=true)(hc:cs≠ []):∃ k,t= .own k e:=by
 rcases h with rfl|⟨k,rfl⟩
 ·simp only[aJ,ae,List.isEmpty_iff]at hs;exact absurd hs.1 hc
 ·exact⟨k,rfl⟩
def kH.like{g:bY}{cs ds:List PV}{t u:aB}(h:kH g [.list g.nodes.length cs t,.list g.edges.length ds u]):iY nc 3 g.nodes cs/\iY ec 5 g.edges ds/\aJ (.list g.nodes.length cs t)=true/\aJ (.list g.edges.length ds u)=true:=by
 have h1:=h.st;have h2:=h.np;have h3:=h.so;simp only[az,gc,List.cons.injEq,PV.list.injEq,true_and,lE]at h1;simp only[aI,dh,off,bg,ae]at h2;rw[aY,aY,ae,ae]at h3;refine⟨⟨?_,h1.1,h2.1⟩,⟨?_,h1.2,h2.2⟩,h3.1,h3.2.1⟩
 ·rw[<-bw,h1.1,bN nc 3 cC]
 ·rw[<-bw,h1.2,bN ec 5 cw]
def sL{g:bY}{cs ds:List PV}{t u:aB}(h1:iY nc 3 g.nodes cs)(h2:iY ec 5 g.edges ds)(h3:aJ (.list g.nodes.length cs t)=true)(h4:aJ (.list g.edges.length ds u)=true)(h5:mS 72 t)(h6:mS 68 u):kH g [.list g.nodes.length cs t,.list g.edges.length ds u]:=by
 refine⟨by simp only[az,gc,h1.st,h2.st],?_,by rw[aY,aY,h3,h4];rfl,cs,ds,t,u,rfl,h5,h6⟩;have e1:=h1.np;have e2:=h2.np;simp only[aI,dh,off,bg,ae]at e1 e2 ⊢;exact⟨e1,e2⟩
def BH(K:bJ cf)(g:bY)(id:Int)(hl:g.edges.length<=2000000){cs ds:List PV}{tk tk2:aB}(h1:iY nc 3 g.nodes cs)(h2:iY ec 5 g.edges ds):av cf 101 [.agg [.list g.nodes.length cs tk,.list g.edges.length ds tk2],I id] [] st=some (I (fI g.edges id),st):=by
 have hm:([.agg [.list g.nodes.length cs tk,.list g.edges.length ds tk2],I id]:List PV).map aC=[.agg (gc g),I id]:=by
  simp only[aH,bM,az,h1.st,h2.st];rfl
 obtain⟨q1,q2⟩:=dE (ps:=[PV.agg (gc g),I id]) (by simp[dW,aQ]);rw[lA ?_ (by rw[hm];exact q1) (by rw[hm];exact q2),hm,KD K g id hl];simp only[cN,cU,bR,az,h1.np,h2.np,ap]
def Dn(K:bJ cf){l:List Fd}{n v:List UInt8}{p:PV}(hp:aC p=FX l)(hn:np p=true)(hl:l.length<=1000000):
  ∃ r ns,av cf 190 [p,S n,S v] [] st=some (.tup [r,.bool (decide (((eN l n v).length:Int)<=20))],st.more ns)/\cR st.nx ns r/\aC r=FX (eN l n v):=by
 have hm:([p,S n,S v]:List PV).map aC=[FX l,S n,S v]:=by
  simp only[aH,bM,hp];rfl
 obtain⟨q1,q2⟩:=dE (ps:=[FX l,S n,S v]) (by simp[ga,bZ]);rw[lA ?_ (by rw[hm];exact q1) (by rw[hm];exact q2),hm]
 ·exact L6 K l n v hl
 ·obtain⟨cs,t,rfl,-,-⟩:=bt hp;simp only[cN,cU,bR,hn,ap];rfl
def jK:(∀ {t:Nat} {Q:Int->List PV->Prop} {fr:Fr} {st:St},zU t Q .ret (fr,st)↔KV Q (fr t) (st.objs 0) st)/\(∀ {st:St} {ns:List Nat},(st.more ns).objs=st.objs):=⟨I3,fun{st ns}=>St.more_objs st ns⟩
def gy{x:bY×Int}{o:Option (List PV)}{c0:List PV}(hb:o=some c0)(hg:kH x.1 c0)(hk:aL st (al c0)):KV (fun k c1=>k=x.2/\kH x.1 c1) (I x.2) o st:=⟨x.2,c0,rfl,hb,hg.np,hg.so,hk,rfl,hg⟩
def BR{o:Option (PV×St)}{b v:PV}(h:∃ r ns,o=some (.tup [r,b],st.more ns)/\cR st.nx ns r/\aC r=v)(k:∀ r ns,cR st.nx ns r->aC r=v->A (mk (.tup [r,b]) (st.more ns))):cP o mk A:=by
 obtain⟨r,ns,rfl,hF,hr⟩:=h;exact⟨_,_,rfl,k r ns hF hr⟩
def ut{pre post:List PV}{c v:PV}:aF (pre++v::post)=(aF (pre++c::post)).set pre.length (aC v):=by
 rw[cG,cG,ch,ch,aH,aH,List.set_append_right _ _ (by simp)];simp
def KC(K:bJ cf)(g:bY)(c:Ch)(v:V)(hv:fu c.value=some v)(hv8:v.kind=8\/v.kind=9){cells:List PV}(hs:st.objs s=some cells)(hg:kH g cells)(hk:aL st (al cells))(ho:jO g):
  ∃ c2 ns,av cf 164 [.ptr s 0,.agg (cc c)] [0] st=some (I (jr wP g c).2,bP (dI ((al cells).map (·.1)) ns st) s c2)/\cD [.ptr s 0,.agg (cc c)] [0] st=(al cells).map (·.1)/\kH (jr wP g c).1 c2/\al c2=cj st.nx ns:=by
 refine Di (f:=164) (F:=F164) K.tab rfl rfl rfl hs hg hk (by simp[ej,jd]) (lb rfl) (lb rfl) 1 ?_;clear hs hg hk;intro c0 ns hg hk;obtain⟨cs,ds,t,u,rfl,ht,hu⟩:=hg.sh;obtain⟨hLn,hLe,hsn,hse⟩:=hg.like;have hcl:(cc c).length=12:=rfl;have hcn:=hLn.len;have hce:=hLe.len;have hvl:=v.ca_len;have hb0:(bn ns [[.list g.nodes.length cs t,.list g.edges.length ds u]]).objs 0=some [.list g.nodes.length cs t,.list g.edges.length ds u]:=rfl;have hN:∀ st id,av cf 90 [.agg [.list g.nodes.length cs t,.list g.edges.length ds u],I id] [] st=some (I (dA g.nodes id),st):=fun st id=>BC K g id (by have:=ho.nl;omega) hLn hLe;have hE:∀ st id,av cf 101 [.agg [.list g.nodes.length cs t,.list g.edges.length ds u],I id] [] st=some (I (fI g.edges id),st):=fun st id=>BH K g id (by have:=ho.el;omega) hLn hLe;unfold F164 qg qr qd qm qi qk ql qf qt qu qa qo qe qN jr;rw[hv];simp only[↓pa,pb,ai,↓reduceIte,reduceEqDiff,fS,hcl,aq];refine tA rfl (by simp[bZ]) (Dm K) (fun r hr=>?_);unfold tD at hr;rw[hv]at hr;subst hr;simp only[↓pa,↓bT,pb,ai,aj,ah,↓reduceIte,reduceEqDiff,reduceAdd,reduceLeDiff,reduceLT,dz,iu,hvl,d6 hvl,vX,dv,dR];refine aa (fun h8=>?_) (fun h8=>?_)
 ·have h9:¬v.kind=9:=by omega
  simp only[ad h9];unfold ux;simp only[↓pa,pb,ai,↓reduceIte,reduceEqDiff,reduceAdd,reduceLeDiff,reduceCtorEq,AZ,hb0,hN,aq];refine aa (fun h0=>?_) (fun h0=>?_)
  ·rw[dif_pos h0];simp only[↓pa,pb,↓reduceIte,reduceCtorEq,jK,hb0];exact gy (x:=(g,5)) rfl hg hk
  ·rw[dif_neg h0];have hlt:= @kZ g.nodes v.num;obtain⟨j,hj⟩:∃ j:Nat,dA g.nodes v.num=j:=⟨_,(eo (by omega)).symm⟩;simp only[hj]at*;have hlt:j<g.nodes.length:=by omega
   have hfo:=(ho.ns _ (ct hlt)).2;simp only[ez,mK hlt,show wP.put=eN from rfl];obtain⟨k,rfl⟩:=sq ht hsn (by intro e;rw[e]at hcn;simp at hcn;omega);obtain⟨pre,p,post,rfl,hpl,hps⟩:=wK cC hLn hlt (off:=2) (by decide);have hps:aC p=FX g.nodes[j].fields:=hps;have hpn:np p=true:=fm hLn.np (by simp);simp (disch:=omega)only[↓pa,pb,ai,↓reduceIte,reduceEqDiff,reduceCtorEq,dz,fS,aq,hb0,ne hpl];refine BR (Dn K hps hpn (by omega)) (fun r ns2 hF hr=>?_);obtain⟨cr,tr,rfl,-,-⟩:=bt hr;have hk2:aL (bn ns [[.list g.nodes.length (pre++p::post) (.own k 72),.list g.edges.length ds u]]) (ar (.list g.nodes.length (pre++p::post) (.own k 72))++ar (.list g.edges.length ds u)):=by
    have:=hk;rw[al,al,al,aD]at this;exact this
   simp only[↓pa,pb,aj,ah,↓reduceIte,reduceEqDiff];refine aa (fun h20=>?_) (fun h20=>?_)
   ·have h20':¬20<(eN g.nodes[j].fields c.name c.text).length:=by omega
    rw[ad h20'];simp only[↓pa,pb,ai,↓reduceIte,reduceEqDiff,dz,h20];refine sK (X:=[]) (Y:=ar (.list g.edges.length ds u)) hpl.symm (by omega) hsn hLn.np (by rw[hF.tk,aN];exact cV (aK (aK (aK (aK hk2)))) (aM _) ns2) ⟨hF.so,hF.np⟩ (fun hso' hnp' hk'=>?_);have hbN:=fun cs'=> @gD g.nodes.length k 72 72 (j*3+2) pre post cs' p (.list (eN g.nodes[j].fields c.name c.text).length cr tr) hpl.symm;have hbE:=fun off cs vs=> @Dv k 72 g.nodes.length off g.edges.length cs vs ds u hse (fun q hq e=>by
     have h1:=hk2.1 k;rw[bh,ar,bh]at h1;have h2:=fT.2 ⟨q,hq,e⟩;simp only[ck,if_true]at h1;omega)
    simp only[↓pa,pb,↓reduceIte,reduceCtorEq,dz,jK,Ai,hb0,hbN,hbE];have hst:aF (pre++PV.list (eN g.nodes[j].fields c.name c.text).length cr tr::post)=(g.nodes.set j {g.nodes[j]with fields:=eN g.nodes[j].fields c.name c.text}).flatMap nc:=by
     rw[ut (c:=p),hLn.st,hpl,hr];exact oL nc 3 cC (by decide) hlt rfl
    have hgo:kH ⟨g.nodes.set j {g.nodes[j]with fields:=eN g.nodes[j].fields c.name c.text},g.edges⟩ [.list g.nodes.length (pre++PV.list (eN g.nodes[j].fields c.name c.text).length cr tr::post) (.own k 72),.list g.edges.length ds u]:=by
     have e:g.nodes.length=(g.nodes.set j {g.nodes[j]with fields:=eN g.nodes[j].fields c.name c.text}).length:=by rw[ig]
     rw[e]at hso' ⊢;exact sL (g:=⟨g.nodes.set j {g.nodes[j]with fields:=eN g.nodes[j].fields c.name c.text},g.edges⟩) ⟨by rw[<-bw,hst,bN nc 3 cC],hst,hnp'⟩ hLe hso' hse ht hu
    exact gy (x:=(⟨g.nodes.set j {g.nodes[j]with fields:=eN g.nodes[j].fields c.name c.text},g.edges⟩,0)) rfl hgo (by rw[al,al,al,aD];exact hk')
   ·have h20':20<(eN g.nodes[j].fields c.name c.text).length:=by omega
    rw[ak h20'];simp only[↓pa,pb,↓reduceIte,reduceCtorEq,jK,hb0,h20];exact gy (x:=(g,4)) rfl hg (dY (cV (aK (aK (aK (aK hk)))) (aM _) ns2) (fun q=>by rw[bh];omega) fun q hq=>cM _ hq)
 ·have h9:v.kind=9:=by omega
  simp only[ak h9];unfold uy;simp only[↓pa,pb,ai,↓reduceIte,reduceEqDiff,reduceAdd,reduceLeDiff,reduceCtorEq,AZ,hb0,hE,aq];refine aa (fun h0=>?_) (fun h0=>?_)
  ·rw[dif_pos h0];simp only[↓pa,pb,↓reduceIte,reduceCtorEq,jK,hb0];exact gy (x:=(g,5)) rfl hg hk
  ·rw[dif_neg h0];have hlt:= @pn g.edges v.num;obtain⟨j,hj⟩:∃ j:Nat,fI g.edges v.num=j:=⟨_,(eo (by omega)).symm⟩;simp only[hj]at*;have hlt:j<g.edges.length:=by omega
   have hfo:=(ho.es _ (ct hlt));simp only[ez,om hlt,show wP.put=eN from rfl];obtain⟨k,rfl⟩:=sq hu hse (by intro e;rw[e]at hce;simp at hce;omega);obtain⟨pre,p,post,rfl,hpl,hps⟩:=wK cw hLe hlt (off:=4) (by decide);have hps:aC p=FX g.edges[j].fields:=hps;have hpn:np p=true:=fm hLe.np (by simp);simp (disch:=omega)only[↓pa,pb,ai,↓reduceIte,reduceEqDiff,reduceCtorEq,dz,fS,aq,hb0,ne hpl];refine BR (Dn K hps hpn (by omega)) (fun r ns2 hF hr=>?_);obtain⟨cr,tr,rfl,-,-⟩:=bt hr;have hk2:aL (bn ns [[.list g.nodes.length cs t,.list g.edges.length (pre++p::post) (.own k 68)]]) (ar (.list g.nodes.length cs t)++ar (.list g.edges.length (pre++p::post) (.own k 68))):=by
    have:=hk;rw[al,al,al,aD]at this;exact this
   simp only[↓pa,pb,aj,ah,↓reduceIte,reduceEqDiff];refine aa (fun h20=>?_) (fun h20=>?_)
   ·have h20':¬20<(eN g.edges[j].fields c.name c.text).length:=by omega
    rw[ad h20'];simp only[↓pa,pb,ai,↓reduceIte,reduceEqDiff,dz,h20];refine sK (X:=ar (.list g.nodes.length cs t)) (Y:=[]) hpl.symm (by omega) hse hLe.np (by rw[hF.tk,aD];exact cV (aK (aK (aK (aK hk2)))) (aM _) ns2) ⟨hF.so,hF.np⟩ (fun hso' hnp' hk'=>?_);have hbN:=fun cs'=> @gD g.edges.length k 68 68 (j*5+4) pre post cs' p (.list (eN g.edges[j].fields c.name c.text).length cr tr) hpl.symm;have hbE:=fun off cs' vs=> @Dv k 68 g.edges.length off g.nodes.length cs' vs cs t hsn (fun q hq e=>by
     have h1:=hk2.1 k;rw[bh,j8 (t:= .own k 68),bh]at h1;have h2:=fT.2 ⟨q,hq,e⟩;simp only[nU,ck,if_true]at h1;omega)
    simp only[↓pa,pb,↓reduceIte,reduceCtorEq,dz,jK,Ai,hb0,hbN,hbE];have hst:aF (pre++PV.list (eN g.edges[j].fields c.name c.text).length cr tr::post)=(g.edges.set j {g.edges[j]with fields:=eN g.edges[j].fields c.name c.text}).flatMap ec:=by
     rw[ut (c:=p),hLe.st,hpl,hr];exact oL ec 5 cw (by decide) hlt rfl
    have hgo:kH ⟨g.nodes,g.edges.set j {g.edges[j]with fields:=eN g.edges[j].fields c.name c.text}⟩ [.list g.nodes.length cs t,.list g.edges.length (pre++PV.list (eN g.edges[j].fields c.name c.text).length cr tr::post) (.own k 68)]:=by
     have e:g.edges.length=(g.edges.set j {g.edges[j]with fields:=eN g.edges[j].fields c.name c.text}).length:=by rw[ig]
     rw[e]at hso' ⊢;exact sL (g:=⟨g.nodes,g.edges.set j {g.edges[j]with fields:=eN g.edges[j].fields c.name c.text}⟩) hLn ⟨by rw[<-bw,hst,bN ec 5 cw],hst,hnp'⟩ hsn hso' ht hu
    exact gy (x:=(⟨g.nodes,g.edges.set j {g.edges[j]with fields:=eN g.edges[j].fields c.name c.text}⟩,0)) rfl hgo (by rw[al,al,al,aD];simpa using hk')
   ·have h20':20<(eN g.edges[j].fields c.name c.text).length:=by omega
    rw[ak h20'];simp only[↓pa,pb,↓reduceIte,reduceCtorEq,jK,hb0,h20];exact gy (x:=(g,4)) rfl hg (dY (cV (aK (aK (aK (aK hk)))) (aM _) ns2) (fun q=>by rw[bh];omega) fun q hq=>cM _ hq)
def Bj(x:Eg):∀ l:List Eg,(my x l).length=l.length+1
 | []=>rfl
 |y::l=>by
  rw[my];split
  ·rw[au,Bj x l,au]
  ·rw[au]
def KO{l:List Eg}{i:Nat}(h:i<l.length)(id:Int):((l.drop i).any fun e=>decide (e.src=id)||decide (e.dst=id))=((decide (l[i].src=id)||decide (l[i].dst=id))||(l.drop (i+1)).any fun e=>decide (e.src=id)||decide (e.dst=id)):=by
 rw[a6 h,List.any_cons]
def GW{b m e:Nat}(hD:zW cf b m e){n i k:Nat}{cs:List PV}(hs:aJ (.list n cs (.own k e))=true)(hn:aI cs=true)(hk:aL st (ar (.list n cs (.own k e))))(h1:cs.length=n*m)(hi:i<n)(hl:n<=10000000)
  (kk:∀ r ns,cD [.list n cs (.own k e),I i,I ((i+1:Nat):Int)] [0] st=(ar (.list n cs (.own k e))).map (·.1)->np r=true->aJ r=true->(∀ j,ck j (ar r)<=ck j (cj st.nx ns))->(∀ q∈ar r,q∈cj st.nx ns)->aC r= .list (n-1) ((aF cs).take (i*m)++(aF cs).drop ((i+1) *m)) .no->ml r=some e->A (mk r (dI ((ar (.list n cs (.own k e))).map (·.1)) ns st))):
  cP (av cf b [.list n cs (.own k e),I i,I ((i+1:Nat):Int)] [0] st) mk A:=by
 obtain⟨r,ns,hc,h2,h3,h4,h5,h6,h7,h8⟩:=Fx hD hs hn hk h1 hi hl;exact⟨_,_,hc,kk r ns h2 h3 h4 h5 h6 h7 h8⟩
def BV(K:bJ cf){g:bY}{c:Ch}{v:V}(hv:fu c.value=some v)(hv8:v.kind=8\/v.kind=9){cells:List PV}(hs:st.objs s=some cells)(hg:kH g cells)(hk:aL st (al cells))(ho:jO g)
  (kk:∀ c2 ns,cD [.ptr s 0,.agg (cc c)] [0] st=(al cells).map (·.1)->kH (jr wP g c).1 c2->al c2=cj st.nx ns->A (mk (I (jr wP g c).2) (bP (dI ((al cells).map (·.1)) ns st) s c2))):
  cP (av cf 164 [.ptr s 0,.agg (cc c)] [0] st) mk A:=by
 obtain⟨c2,ns,hc,h2,h3,h4⟩:=KC K g c v hv hv8 hs hg hk ho;exact⟨_,_,hc,kk c2 ns h2 h3 h4⟩
def vK{p:PV}{k:IntKind}{n:Int}(h:aC p= .int k n):p= .int k n:=by cases p<;>simp_all [aC,ren]
def Hf{p:PV}{b:ByteArray}(h:aC p= .str b):p= .str b:=by cases p<;>simp_all [aC,ren]
def N4{es:List PV}{e:Eg}(h:aF es=ec e):∃ p,es=[I e.id,S e.type,I e.src,I e.dst,p]:=by
 rw[cG]at h
 match es,h with
 | [a,b,c,d,p],h=>
  simp only[aH,bM,ec,List.cons.injEq,lE]at h;exact⟨p,by rw[vK h.1,Hf h.2.1,vK h.2.2.1,vK h.2.2.2.1]⟩
 | [],h=>simp[ec]at h
 | [_],h=>simp[ec]at h
 | [_,_],h=>simp[ec]at h
 | [_,_,_],h=>simp[ec]at h
 | [_,_,_,_],h=>simp[ec]at h
 |_::_::_::_::_::_::_,h=>simp[ec]at h
def IQ(K:bJ cf)(hI:rQ cf)(g:bY)(c:Ch){cells:List PV}(hs:st.objs s=some cells)(hg:kH g cells)(hk:aL st (al cells))(ho:jO g)(hb:mY c):
  ∃ c2 ns,av cf 115 [.ptr s 0,.agg (cc c)] [0] st=some (I (lH wP g c).2,bP (dI ((al cells).map (·.1)) ns st) s c2)/\cD [.ptr s 0,.agg (cc c)] [0] st=(al cells).map (·.1)/\kH (lH wP g c).1 c2/\al c2=cj st.nx ns:=by
 refine Di (f:=115) (F:=F115) K.tab rfl rfl rfl hs hg hk (by simp[ej,jd]) (lb rfl) (lb rfl) (g.edges.length+1) ?_;clear hs hg hk;intro c0 ns hg hk;obtain⟨cs,ds,t,u,rfl,ht,hu⟩:=hg.sh;obtain⟨hLn,hLe,hsn,hse⟩:=hg.like;have hcl:(cc c).length=12:=rfl;have hct:List.take 12 (cc c)=cc c:=rfl;have hcn:=hLn.len;have hce:=hLe.len;have hnl:=ho.nl;have hel:=ho.el;have hb0:(bn ns [[.list g.nodes.length cs t,.list g.edges.length ds u]]).objs 0=some [.list g.nodes.length cs t,.list g.edges.length ds u]:=rfl;have hF:=fun st=>Mi (st:=st) K c;have hN:∀ st id,av cf 90 [.agg [.list g.nodes.length cs t,.list g.edges.length ds u],I id] [] st=some (I (dA g.nodes id),st):=fun st id=>BC K g id (by omega) hLn hLe;have hE:∀ st id,av cf 101 [.agg [.list g.nodes.length cs t,.list g.edges.length ds u],I id] [] st=some (I (fI g.edges id),st):=fun st id=>BH K g id (by omega) hLn hLe;have hk2:aL (bn ns [[.list g.nodes.length cs t,.list g.edges.length ds u]]) (ar (.list g.nodes.length cs t)++ar (.list g.edges.length ds u)):=by
  have:=hk;rw[al,al,al,aD]at this;exact this
 have hkp:=iV (gu c.node);have hkp2:=iV (gv c.edge);have hkp3:=iV (ia c.node.labels);unfold F115 qg qr qd qm qi qb qk ql qf qt qu qa qx qn qo qe qN lH;cases hf:lf c
 ·rw[ak rfl];simp only[↓pa,pb,ai,↓reduceIte,reduceEqDiff,reduceLeDiff,reduceCtorEq,jK,hcl,hct,hF,hf,hb0];exact gy (x:=(g,1)) rfl hg hk
 rw[ad (by simp)];simp only[↓pa,pb,ai,↓reduceIte,reduceEqDiff,reduceLeDiff,fS,hcl,hct,hF,hf,aq];refine aa (fun k1=>?_) (fun k1=>?_)
 ·rw[ak k1];simp only[↓pa,pb,ai,↓reduceIte,reduceEqDiff,reduceAdd,reduceLeDiff,reduceCtorEq,fS,aq,hb0,hN];refine aa (fun a1=>?_) (fun a1=>?_)
  ·rw[ak a1];simp only[↓pa,pb,↓reduceIte,reduceCtorEq,jK,hb0];exact gy (x:=(g,9)) rfl hg hk
  rw[ad a1];simp only[↓pa,pb,ai,↓reduceIte,reduceCtorEq,aq,hb0];refine aa (fun a2=>?_) (fun a2=>?_)
  ·rw[ak (by omega)];simp only[↓pa,pb,↓reduceIte,reduceCtorEq,jK,hb0];exact gy (x:=(g,4)) rfl hg hk
  rw[ad (by omega)];simp only[↓pa,↓dx,pb,ai,cB,↓reduceIte,reduceEqDiff,reduceCtorEq,fS,aq,hb0];refine dK (Fl K c.node hb.ll hb.nf) (fun r ns2 hF2 hr=>?_);obtain⟨xs,rfl,hxs⟩:=eI hr;have hFt:al xs=cj _ ns2:=hF2.tk;have hFs:aY xs=true:=hF2.so;have hFn:aI xs=true:=hF2.np;simp only[↓pa,↓dx,pb,cB,↓reduceIte,reduceEqDiff,hkp];have hkF:∀ {f:Nat} {xs:List CX} {d:Option Nat} {st:St} {fr:Fr},cJ cf (.call f xs [0,1]) d st fr=tc (cD (xs.map (·.ev fr)) [0,1] st) fr:=rfl;have hS:=cV (aK (s:=3) (c:=cc c) hk2) (aM _) ns2;rw[<-hFt]at hS;refine DM (Em K hI c.node ht hsn hLn hxs hFn hFs (dY hS (fun q=>by simp only[bh];omega) fun q hq=>by simp only[ay]at hq ⊢;rcases hq with h|h<;>simp[h]) (by omega)) (fun r ns3 hF3 hr3 hX=>?_)
  obtain⟨htp,htk⟩:=hX;obtain⟨cr,tr,rfl,hcr,-⟩:=bt hr3;obtain⟨k',rfl⟩:=uq htp;have hap:∀ q∈ar (.list g.edges.length ds u),q.1∉(ar (.list g.nodes.length cs t)++al xs).map (·.1):=by
   intro q hq h;obtain⟨q2,h2,e⟩:=cA.1 h;have h1:=hS.1 q.1;have h3:=fT.2 ⟨q,hq,rfl⟩;have h4:=fT.2 ⟨q2,h2,e⟩;simp only[bh]at h1 h4;omega
  have hkE:= @lv _ (.list g.edges.length ds u) hse hap;simp only[↓pa,↓dx,pb,ai,cB,fD,aj,ah,↓reduceIte,reduceEqDiff,reduceAdd,reduceLeDiff,reduceCtorEq,dz,iu,jK,nV,aq,hb0,hkF,htk,hkE];have hl1:(lw c.node g.nodes).length=g.nodes.length+1:=CZ _ _;have hT:=kr (A:=[]) (B:=ar (.list g.nodes.length cs t)++al xs) (C:=ar (.list g.edges.length ds u)) (ns:=ns3) (dY hS (fun q=>by simp only[bh,aN];omega) fun q hq=>by simp only[ay,aN]at hq ⊢;rcases hq with(h|h)|h<;>simp[h]) (by rw[St.more_fl];exact aM _)
  rw[aN,<-hF3.tk]at hT;have hso3:=hF3.so;have hnp3:=hF3.np;rw[<-hl1]at hso3 hnp3 hT ⊢;exact gy (x:=(⟨lw c.node g.nodes,g.edges⟩,0)) rfl (sL (g:=⟨lw c.node g.nodes,g.edges⟩) ⟨by rw[<-bw,hcr,bN nc 3 cC],hcr,hnp3⟩ hLe hso3 hse (.inr ⟨_,rfl⟩) hu) (by rw[al,al,al,aD];exact hT)
 rw[ad k1];simp only[↓pa,pb,↓reduceIte,reduceEqDiff];refine aa (fun k2=>?_) (fun k2=>?_)
 ·rw[ak k2];simp only[↓pa,pb,ai,↓reduceIte,reduceEqDiff,reduceAdd,reduceLeDiff,reduceCtorEq,fS,aq,hb0,hN];refine aa (fun a1=>?_) (fun a1=>?_)
  ·rw[ak a1];simp only[↓pa,pb,↓reduceIte,reduceCtorEq,jK,hb0];exact gy (x:=(g,5)) rfl hg hk
  rw[ad a1];obtain⟨j,hj⟩:∃ j:Nat,dA g.nodes c.node.id=j:=⟨_,(eo (by omega)).symm⟩;have hlt:= @kZ g.nodes c.node.id;rw[hj]at hlt;simp only[hj,ez]at*;simp only[↓pa,pb,ai,↓reduceIte,reduceCtorEq,aq,hb0];refine be (fun q fr st=>∃ i:Nat,q=g.edges.length-i/\i<=g.edges.length/\fr 0= .ptr 0 0/\fr 3= .ptr 3 0/\fr 5=I j/\fr 56= .list g.edges.length ds u/\fr 57=I g.edges.length/\fr 58=I i/\st.objs 0=some [.list g.nodes.length cs t,.list g.edges.length ds u]/\st.objs 3=some (cc c)/\aL st (ar (.list g.nodes.length cs t)++ar (.list g.edges.length ds u))/\st.fl=0/\(g.edges.any fun e=>decide (e.src=c.node.id)||decide (e.dst=c.node.id))=((g.edges.drop i).any fun e=>decide (e.src=c.node.id)||decide (e.dst=c.node.id))) g.edges.length (by omega)
   ⟨0,by simp,by omega,by simp only[↓pa,pb,↓reduceIte,reduceCtorEq],by simp only[↓pa,↓reduceIte,reduceEqDiff],by simp only[↓pa,↓reduceIte,reduceEqDiff],by simp only[↓pa,↓reduceIte,reduceEqDiff],by simp only[↓pa,↓reduceIte,reduceEqDiff],by simp only[↓pa,↓reduceIte];rfl,by simp only[pb,↓reduceIte,reduceCtorEq,hb0],by simp only[pb,↓reduceIte],aK hk2,rfl,rfl⟩ ?_
  rintro q fr st ⟨i,rfl,hi,f0,f3,f5,f56,f57,f58,o0,o3,hkS,hfl,hany⟩;have hkS':aL st (al [.list g.nodes.length cs t,.list g.edges.length ds u]):=by rw[al,al,al,aD];exact hkS
  simp only[↓pa,pb,aV,↓reduceIte,f57,f58];refine aa (fun b1=>?_) (fun b1=>?_)
  ·have hlt2:i<g.edges.length:=b1;rw[KO hlt2]at hany;obtain⟨hp1,hp2,hp3⟩:=wJ cw hLe.st hLe.np hce hlt2;obtain⟨ef,hef⟩:=N4 hp2;have h5:((ds.drop (i*5)).take 5).length=5:=by rw[hef];rfl
   have q2:bI ((ds.drop (i*5)).take 5) 2 1 false=some (I g.edges[i].src):=by rw[hef];rfl
   have q3:bI ((ds.drop (i*5)).take 5) 3 1 false=some (I g.edges[i].dst):=by rw[hef];rfl
   simp (disch:=omega)only[↓pa,pb,ai,↓reduceIte,reduceEqDiff,reduceAdd,reduceLeDiff,dz,iu,fS,f3,f56,f58,o3,b1,bi,aq,hp1,h5,pD h5,q2];refine aa (fun e1=>?_) (fun e1=>?_)
   ·rw[ak (by rw[hany];simp[e1])];simp only[↓pa,pb,↓reduceIte,reduceEqDiff,reduceCtorEq,jK,o0,e1];exact gy (x:=(g,6)) rfl hg hkS'
   ·simp only[↓pa,pb,ai,↓reduceIte,reduceEqDiff,fS,f3,o3,bi,aq,e1,q3];refine aa (fun e2=>?_) (fun e2=>?_)
    ·rw[ak (by rw[hany];simp[e2])];simp only[↓pa,pb,↓reduceIte,reduceCtorEq,jK,o0,e2];exact gy (x:=(g,6)) rfl hg hkS'
    ·simp (disch:=omega)only[↓pa,pb,aV,↓reduceIte,reduceEqDiff,reduceCtorEq,f0,f3,f5,f56,f57,f58,o0,o3,e2];exact⟨g.edges.length- (i+1),by omega,i+1,rfl,by omega,rfl,aK (aK hkS),hfl,by rw[hany];simp[e1,e2]⟩
  ·have hie:g.edges.drop i=[]:=dM (by omega);rw[hie,List.any_nil]at hany;rw[ad (by rw[hany];simp)];simp (disch:=omega)only[↓pa,pb,ai,aV,↓reduceIte,reduceEqDiff,reduceAdd,reduceCtorEq,nV,f0,f5,o0,b1];obtain⟨k,rfl⟩:=sq ht hsn (by intro e;rw[e]at hcn;simp at hcn;omega);have hkn:aL st (ar (.list g.nodes.length cs (.own k 72))):=dY hkS (fun q=>by rw[bh];omega) fun q hq=>cM _ hq;obtain⟨r,ns3,hc3,htk,hn3,hso3,hck3,hmm3,hr3,htp⟩:=Fx (st:=st) hI.delN hsn hLn.np hkn hcn (i:=j) (by omega) (by omega);obtain⟨cr,tr,rfl,hcr,-⟩:=bt hr3;obtain⟨k',rfl⟩:=uq htp;have hap:∀ q∈ar (.list g.edges.length ds u),q.1∉(ar (.list g.nodes.length cs (.own k 72))).map (·.1):=by
    intro q hq h;obtain⟨q2,h2,e⟩:=cA.1 h;have h1:=hkS.1 q.1;have h3:=fT.2 ⟨q,hq,rfl⟩;have h4:=fT.2 ⟨q2,h2,e⟩;simp only[bh]at h1;omega
   have hkE:= @lv _ (.list g.edges.length ds u) hse hap;rw[hc3];refine eH.2 ?_;simp only[↓pa,pb,ai,↓reduceIte,reduceEqDiff,reduceAdd,reduceLeDiff,dz,iu,jK,nV,o0,htk,hkE];have hl1:(g.nodes.eraseIdx j).length=g.nodes.length-1:=jE (by omega);have hT:=wG (A:=[]) (C:=ar (.list g.edges.length ds u)) (st:=st) (by rw[aN];exact hkS) (by rw[hfl];exact aM _) hck3 hmm3;rw[aN]at hT;have hst:aF cr=(g.nodes.eraseIdx j).flatMap nc:=by rw[hcr,hLn.st,jm nc 3 cC,jn nc 3 cC,iC,bE]
   rw[<-hl1]at hso3 hn3 hT ⊢;exact gy (x:=(⟨g.nodes.eraseIdx j,g.edges⟩,0)) rfl (sL (g:=⟨g.nodes.eraseIdx j,g.edges⟩) ⟨by rw[<-bw,hst,bN nc 3 cC],hst,hn3⟩ hLe hso3 hse (.inr ⟨_,rfl⟩) hu) (by rw[al,al,al,aD];exact hT)
 rw[ad k2];simp only[↓pa,pb,↓reduceIte,reduceEqDiff];refine aa (fun k3=>?_) (fun k3=>?_)
 ·rw[ak k3];simp only[↓pa,pb,ai,↓reduceIte,reduceEqDiff,reduceAdd,reduceLeDiff,reduceCtorEq,fS,aq,hb0,hE];refine aa (fun a1=>?_) (fun a1=>?_)
  ·rw[ak a1];simp only[↓pa,pb,↓reduceIte,reduceCtorEq,jK,hb0];exact gy (x:=(g,9)) rfl hg hk
  rw[ad a1];simp only[↓pa,pb,ai,↓reduceIte,reduceEqDiff,reduceAdd,reduceLeDiff,reduceCtorEq,fS,aq,hb0,hN];refine aa (fun b1=>?_) (fun b1=>?_)
  ·rw[ak (.inl b1)];simp only[↓pa,pb,↓reduceIte,reduceEqDiff,reduceCtorEq,jK,hb0,b1];exact gy (x:=(g,5)) rfl hg hk
  simp only[↓pa,pb,ai,↓reduceIte,reduceEqDiff,reduceAdd,reduceLeDiff,reduceCtorEq,fS,aq,hb0,hN,b1];refine aa (fun b2=>?_) (fun b2=>?_)
  ·rw[ak b2];simp only[↓pa,pb,↓reduceIte,reduceCtorEq,jK,hb0,b2];exact gy (x:=(g,5)) rfl hg hk
  rw[ad b2];simp only[↓pa,pb,ai,↓reduceIte,reduceCtorEq,aq,hb0,b2];refine aa (fun a2=>?_) (fun a2=>?_)
  ·rw[ak (by omega)];simp only[↓pa,pb,↓reduceIte,reduceCtorEq,jK,hb0];exact gy (x:=(g,4)) rfl hg hk
  rw[ad (by omega)];simp only[↓pa,↓dx,pb,ai,cB,↓reduceIte,reduceEqDiff,reduceCtorEq,fS,aq,hb0];refine dK (Fo K c.edge hb.ef) (fun r ns2 hF2 hr=>?_);obtain⟨xs,rfl,hxs⟩:=eI hr;have hFt:al xs=cj _ ns2:=hF2.tk;have hFs:aY xs=true:=hF2.so;have hFn:aI xs=true:=hF2.np;simp only[↓pa,↓dx,pb,cB,↓reduceIte,reduceEqDiff,hkp2];have hkF:∀ {f:Nat} {xs:List CX} {d:Option Nat} {st:St} {fr:Fr},cJ cf (.call f xs [0,1]) d st fr=tc (cD (xs.map (·.ev fr)) [0,1] st) fr:=rfl;have hS:=cV (aK (s:=3) (c:=cc c) hk2) (aM _) ns2;rw[<-hFt]at hS;refine DM (En K hI c.edge hu hse hLe hxs hFn hFs (dY hS (fun q=>by simp only[bh];omega) fun q hq=>by simp only[ay]at hq ⊢;rcases hq with h|h<;>simp[h]) (by omega)) (fun r ns3 hF3 hr3 hX=>?_)
  obtain⟨htp,htk⟩:=hX;obtain⟨cr,tr,rfl,hcr,-⟩:=bt hr3;obtain⟨k',rfl⟩:=uq htp;have hap:∀ q∈ar (.list g.nodes.length cs t),q.1∉(ar (.list g.edges.length ds u)++al xs).map (·.1):=by
   intro q hq h;obtain⟨q2,h2,e⟩:=cA.1 h;have h1:=hS.1 q.1;have h3:=fT.2 ⟨q,hq,rfl⟩;have h4:=fT.2 ⟨q2,h2,e⟩;simp only[bh]at h1 h4;omega
  have hkN:= @lv _ (.list g.nodes.length cs t) hsn hap;simp only[↓pa,↓dx,pb,ai,cB,fD,aj,ah,↓reduceIte,reduceEqDiff,reduceAdd,reduceLeDiff,reduceCtorEq,dz,iu,jK,nV,aq,hb0,hkF,htk,hkN];have hl1:(my c.edge g.edges).length=g.edges.length+1:=Bj _ _;have hT:=kr (A:=ar (.list g.nodes.length cs t)) (B:=ar (.list g.edges.length ds u)++al xs) (C:=[]) (ns:=ns3) (dY hS (fun q=>by simp only[bh,aD];omega) fun q hq=>by simp only[ay,aD]at hq ⊢;rcases hq with h|h|h<;>simp[h]) (by rw[St.more_fl];exact aM _)
  rw[aD,<-hF3.tk]at hT;have hso3:=hF3.so;have hnp3:=hF3.np;rw[<-hl1]at hso3 hnp3 hT ⊢;exact gy (x:=(⟨g.nodes,my c.edge g.edges⟩,0)) rfl (sL (g:=⟨g.nodes,my c.edge g.edges⟩) hLn ⟨by rw[<-bw,hcr,bN ec 5 cw],hcr,hnp3⟩ hsn hso3 ht (.inr ⟨_,rfl⟩)) (by rw[al,al,al,aD];exact hT)
 rw[ad k3];simp only[↓pa,pb,↓reduceIte,reduceEqDiff];refine aa (fun k4=>?_) (fun k4=>?_)
 ·rw[ak k4];simp only[↓pa,pb,ai,↓reduceIte,reduceEqDiff,reduceAdd,reduceLeDiff,reduceCtorEq,fS,aq,hb0,hE];refine aa (fun a1=>?_) (fun a1=>?_)
  ·rw[ak a1];simp only[↓pa,pb,↓reduceIte,reduceCtorEq,jK,hb0];exact gy (x:=(g,5)) rfl hg hk
  rw[ad a1];obtain⟨j,hj⟩:∃ j:Nat,fI g.edges c.edge.id=j:=⟨_,(eo (by omega)).symm⟩;have hlt:= @pn g.edges c.edge.id;rw[hj]at hlt;simp only[hj,ez]at*;obtain⟨k,rfl⟩:=sq hu hse (by intro e;rw[e]at hce;simp at hce;omega);simp (disch:=omega)only[↓pa,pb,ai,aV,↓reduceIte,reduceEqDiff,reduceCtorEq,nV,aq,hb0];refine GW (i:=j) hI.delE hse hLe.np (dY (aK hk2) (fun q=>by rw[bh];omega) fun q hq=>dq _ hq) hce (by omega) (by omega) (fun r ns3 htk hn3 hso3 hck3 hmm3 hr3 htp=>?_);obtain⟨cr,tr,rfl,hcr,-⟩:=bt hr3;obtain⟨k',rfl⟩:=uq htp;have hap:∀ q∈ar (.list g.nodes.length cs t),q.1∉(ar (.list g.edges.length ds (.own k 68))).map (·.1):=by
   intro q hq h;obtain⟨q2,h2,e⟩:=cA.1 h;have h1:=hk2.1 q.1;have h3:=fT.2 ⟨q,hq,rfl⟩;have h4:=fT.2 ⟨q2,h2,e⟩;simp only[bh]at h1;omega
  have hkN:= @lv _ (.list g.nodes.length cs t) hsn hap;simp only[↓pa,pb,ai,↓reduceIte,reduceEqDiff,reduceAdd,reduceLeDiff,reduceCtorEq,dz,iu,jK,nV,aq,hb0,htk,hkN];have hl1:(g.edges.eraseIdx j).length=g.edges.length-1:=jE (by omega);have hT:=wG (A:=ar (.list g.nodes.length cs t)) (C:=[]) (by rw[aD];exact aK hk2) (aM _) hck3 hmm3;rw[aD]at hT;have hst:aF cr=(g.edges.eraseIdx j).flatMap ec:=by rw[hcr,hLe.st,jm ec 5 cw,jn ec 5 cw,iC,bE]
  rw[<-hl1]at hso3 hn3 hT ⊢;exact gy (x:=(⟨g.nodes,g.edges.eraseIdx j⟩,0)) rfl (sL (g:=⟨g.nodes,g.edges.eraseIdx j⟩) hLn ⟨by rw[<-bw,hst,bN ec 5 cw],hst,hn3⟩ hsn hso3 ht (.inr ⟨_,rfl⟩)) (by rw[al,al,al,aD];exact hT)
 rw[ad k4];simp only[↓pa,pb,↓reduceIte,reduceEqDiff];refine aa (fun k5=>?_) (fun k5=>?_)
 ·rw[ak k5];simp only[↓pa,pb,ai,↓reduceIte,reduceEqDiff,reduceAdd,reduceLeDiff,reduceCtorEq,fS,aq,hb0,hN];refine aa (fun a1=>?_) (fun a1=>?_)
  ·rw[ak a1];simp only[↓pa,pb,↓reduceIte,reduceCtorEq,jK,hb0];exact gy (x:=(g,5)) rfl hg hk
  rw[ad a1];obtain⟨j,hj⟩:∃ j:Nat,dA g.nodes c.node.id=j:=⟨_,(eo (by omega)).symm⟩;have hlt:= @kZ g.nodes c.node.id;rw[hj]at hlt;simp only[hj,ez]at*;have hlt:j<g.nodes.length:=by omega
  rw[mK hlt];obtain⟨k,rfl⟩:=sq ht hsn (by intro e;rw[e]at hcn;simp at hcn;omega);obtain⟨pre,p,post,rfl,hpl,hps⟩:=wK cC hLn hlt (off:=1) (by decide);simp only[↓pa,↓dx,pb,ai,cB,↓reduceIte,reduceEqDiff,reduceAdd,reduceCtorEq,fS,aq,hb0];refine dK (Fk K c.node.labels hb.ll) (fun r ns2 hF2 hr=>?_);obtain⟨cr,tr,rfl,-,-⟩:=bt hr;simp (disch:=omega)only[↓pa,↓dx,pb,ai,cB,↓reduceIte,reduceEqDiff,dz,hkp3];refine sK (X:=[]) (Y:=ar (.list g.edges.length ds u)) hpl.symm (by omega) hsn hLn.np (by rw[hF2.tk,aN];exact cV (aK hk2) (aM _) ns2) ⟨hF2.so,hF2.np⟩ (fun hso' hnp' hk'=>?_);have hbN:=fun cs'=> @gD g.nodes.length k 72 72 (j*3+1) pre post cs' p (.list c.node.labels.length cr tr) hpl.symm;have hbE:=fun off cs vs=> @Dv k 72 g.nodes.length off g.edges.length cs vs ds u hse (fun q hq e=>by
   have h1:=hk2.1 k;rw[bh,ar,bh]at h1;have h2:=fT.2 ⟨q,hq,e⟩;simp only[ck,if_true]at h1;omega)
  simp only[↓pa,↓dx,pb,cB,fD,aj,ah,↓reduceIte,reduceCtorEq,dz,jK,Ai,hb0,hbN,hbE];have hst:aF (pre++PV.list c.node.labels.length cr tr::post)=(g.nodes.set j {g.nodes[j]with labels:=c.node.labels}).flatMap nc:=by
   rw[ut (c:=p),hLn.st,hpl,hr];exact oL nc 3 cC (by decide) hlt rfl
  have hgo:kH ⟨g.nodes.set j {g.nodes[j]with labels:=c.node.labels},g.edges⟩ [.list g.nodes.length (pre++PV.list c.node.labels.length cr tr::post) (.own k 72),.list g.edges.length ds u]:=by
   have e:g.nodes.length=(g.nodes.set j {g.nodes[j]with labels:=c.node.labels}).length:=by rw[ig]
   rw[e]at hso' ⊢;exact sL (g:=⟨g.nodes.set j {g.nodes[j]with labels:=c.node.labels},g.edges⟩) ⟨by rw[<-bw,hst,bN nc 3 cC],hst,hnp'⟩ hLe hso' hse ht hu
  exact gy (x:=(⟨g.nodes.set j {g.nodes[j]with labels:=c.node.labels},g.edges⟩,0)) rfl hgo (by rw[al,al,al,aD];exact hk')
 rw[ad k5];simp only[↓pa,pb,↓reduceIte,reduceEqDiff];have k6:c.kind=6:=by
  by_cases k6:c.kind=6
  ·exact k6
  ·simp[lf,k1,k2,k3,k4,k5,k6]at hf
 refine aa (fun k6b=>?_) (fun k6b=>?_);rotate_left
 ·exact absurd k6 k6b
 obtain⟨v,hv⟩:∃ v,fu c.value=some v:=by
  cases h:fu c.value with
  |none=>simp[lf,k6,h]at hf
  |some v=>exact⟨v,rfl⟩
 have hv8:v.kind=8\/v.kind=9:=by
  unfold lf at hf;rw[ad k1,ad k2,ad k3,ad k4,ad k5,ak k6,hv,ae]at hf;simpa using hf.1
 simp only[↓pa,pb,ai,↓reduceIte,reduceEqDiff,reduceLeDiff,reduceCtorEq,nV,hcl,hct];refine BV K hv hv8 (c:=c) (cells:=[.list g.nodes.length cs t,.list g.edges.length ds u]) rfl hg (aK hk) ho (fun c2 ns2 htk hgo htk2=>?_);simp only[↓pa,pb,↓reduceIte,jK,htk];refine gy (x:=jr wP g c) rfl hgo ?_;rw[htk2];have:=kr (A:=[]) (B:=al [.list g.nodes.length cs t,.list g.edges.length ds u]) (C:=[]) (ns:=ns2) (st:=bP (bn ns [[.list g.nodes.length cs t,.list g.edges.length ds u]]) 3 (cc c)) (by rw[aN,aD];exact aK hk) (aM _);rw[aN,aD]at this;exact aK this
structure DQ (x:pX) (r:List PV):Prop where
 sh:∃ p q,r=[I x.code,I x.at_,p,q]/\kH x.graph [p,q]
def xk{f:Nat->Option Nat}{x:pX}{r:List PV}(h:DQ x r)(hf:∀ q∈al r,(f q.1).isSome=true):DQ x (aZ f false r):=by
 obtain⟨p,q,rfl,hg⟩:=h.sh;have:=rZ (f:=f) hg fun q' hq=>hf q' (by simpa [al,ar]using hq);exact⟨_,_,rfl,this⟩
def yP:kH g0 [.list 0 [] .nil,.list 0 [] .nil]:=⟨rfl,rfl,rfl,[],[],.nil,.nil,rfl,.inl rfl,.inl rfl⟩
def oA(x:bY×Nat×Int):pX:=if x.2.2≠0 then⟨x.2.2,x.2.1,g0⟩else⟨0,0,x.1⟩
def DI(K:bJ cf){g:bY}(h1:g.nodes.length<=1000000)(h2:g.edges.length<=1000000)(hn:∀ x∈g.nodes,x.labels.length<=2000000/\x.fields.length<=2000000)(he:∀ x∈g.edges,x.fields.length<=2000000)
  (kk:∀ c ns,al c=cj st.nx ns->kH g c->A (mk (.agg c) (st.more ns))):cP (av cf 114 [.agg [NX g.nodes,EX g.edges]] [] st) mk A:=by
 obtain⟨c,ns,hc,h3,h4⟩:=L0 (st:=st) K g h1 h2 hn he;exact⟨_,_,hc,kk c ns h3 h4⟩
def AI(K:bJ cf)(hI:rQ cf){g:bY}{c:Ch}{cells:List PV}(hs:st.objs s=some cells)(hg:kH g cells)(hk:aL st (al cells))(ho:jO g)(hb:mY c)
  (kk:∀ c2 ns,cD [.ptr s 0,.agg (cc c)] [0] st=(al cells).map (·.1)->kH (lH wP g c).1 c2->al c2=cj st.nx ns->A (mk (I (lH wP g c).2) (bP (dI ((al cells).map (·.1)) ns st) s c2))):
  cP (av cf 115 [.ptr s 0,.agg (cc c)] [0] st) mk A:=by
 obtain⟨c2,ns,hc,h2,h3,h4⟩:=IQ K hI g c hs hg hk ho hb;exact⟨_,_,hc,kk c2 ns h2 h3 h4⟩
def FO{B:List (Nat×Nat)}{ns:List Nat}{c2:List PV}{c3:List PV}{s':Nat}(h:aL st B)(hf:st.fl<=st.nx)(ht:al c2=cj st.nx ns):aL (bP (dI (B.map (·.1)) ns st) s' c3) (al c2):=by
 have:=kr (A:=[]) (B:=B) (C:=[]) (ns:=ns) (st:=st) (by rw[aN,aD];exact h) hf;rw[aN,aD,<-ht]at this;exact aK this
def uj{x:pX}{p q:PV}(hg:kH x.graph [p,q])(hk:aL st (al [p,q])):eQ [.agg [I x.code,I x.at_,p,q]]=true/\np (.agg [I x.code,I x.at_,p,q])=true/\aJ (.agg [I x.code,I x.at_,p,q])=true/\aL st (ar (.agg [I x.code,I x.at_,p,q]))/\∃ r,PV.agg [I x.code,I x.at_,p,q]= .agg r/\DQ x r:=by
 have h1:np (.agg [I x.code,I x.at_,p,q])=true:=hg.np;have h2:aJ (.agg [I x.code,I x.at_,p,q])=true:=hg.so;refine⟨by simp only[eQ,h1,bg,dj];rfl,h1,h2,?_,_,rfl,p,q,rfl,hg⟩;have:ar (.agg [I x.code,I x.at_,p,q])=al [p,q]:=by simp[ar,al]
 rw[this];exact hk
def KH(K:bJ cf)(hI:rQ cf)(g:bY)(l:List Ch)(ho:jO g)(hl:l.length<=2000000)(hb:∀ c∈l,mY c):
  ∃ r ns,av cf 78 [.agg (gc g),HX l] [] st=some (.agg r,st.more ns)/\al r=cj st.nx ns/\DQ (oA (gY wP 0 g l)) r/\aI r=true/\aY r=true:=by
 have hw:Wp cf (l.length+2) F78.body (eu [.agg (gc g),HX l],bn [] []) (mF F78.res fun p s=>np p=true/\aJ p=true/\aL s (ar p)/\∃ r,p= .agg r/\DQ (oA (gY wP 0 g l)) r):=by
  have hm:=bN cc 12 oq l;have hkl:=fun J=> @jU J _ (iU l);have hkn:∀ J,bV J (.list 0 [] .nil)= .list 0 [] .nil:=fun J=>rfl;unfold F78 qr qd qm qi qb qk ql qt qa qn qs qo qN;simp only[↓pa,pb,ai,↓reduceIte,reduceEqDiff,reduceAdd,reduceLeDiff,gc];refine DI K (by have:=ho.nl;omega) (by have:=ho.el;omega) (fun n hn=>by have:=ho.ns n hn;omega) (fun e he=>by have:=ho.es e he;omega) (fun c ns ht hgo=>?_);obtain⟨cs,ds,t,u,rfl,-,-⟩:=hgo.sh;simp only[↓pa,pb,ai,↓reduceIte,reduceEqDiff,reduceAdd,reduceLeDiff];refine be (fun q fr st=>∃ (i:Nat) (G:bY) (p1 p2:PV),q=l.length-i/\i<=l.length/\fr 4= .ptr 4 0/\fr 5= .ptr 5 0/\fr 11=HX l/\fr 12=I l.length/\fr 13=I i/\st.objs 4=some [I 0,I 0,.list 0 [] .nil,.list 0 [] .nil]/\st.objs 5=some [p1,p2]/\kH G [p1,p2]/\aL st (al [p1,p2])/\st.fl<=st.nx/\jO G/\gY wP 0 g l=gY wP i G (l.drop i)) l.length (by omega)
   ⟨0,g,_,_,by simp,by omega,by simp only[↓pa,pb,↓reduceIte,reduceEqDiff],by simp only[↓pa,↓reduceIte,reduceEqDiff],(by simp only[↓pa,↓reduceIte,reduceEqDiff]<;>rfl),(by simp only[↓pa,↓reduceIte,reduceEqDiff]<;>rfl),(by simp only[↓pa,↓reduceIte]<;>rfl),by simp only[pb,↓reduceIte,reduceEqDiff,jk],(by simp only[pb,↓reduceIte]<;>rfl),hgo,?_,?_,ho,rfl⟩ ?_
  ·rw[ht];have h0:=cV (st:=bP (bP (bn [] []) 2 [NX g.nodes,EX g.edges]) 4 [.int .i64 0,.int .i64 0,.list 0 [] .nil,.list 0 [] .nil]) fp (aM _) ns;rw[aN]at h0;exact aK (aK h0)
  ·refine dQ ?_ (aM _);show(St.more _ ns).fl<=0;rw[St.more_fl];exact aE 0
  rintro q fr st ⟨i,G,p1,p2,rfl,hi,f4,f5,f11,f12,f13,o4,o5,hg,hk,hfl,hoG,hQ⟩;simp only[↓pa,pb,aV,↓reduceIte,f12,f13];refine aa (fun k1=>?_) (fun k1=>?_)
  ·have hlt:i<l.length:=k1;rw[Bx hlt]at hQ;have hcl:(cc l[i]).length=12:=rfl;have hct:List.take 12 (cc l[i])=cc l[i]:=rfl;simp (disch:=omega)only[↓pa,pb,ai,↓reduceIte,reduceEqDiff,reduceAdd,reduceLeDiff,f5,f11,f13,nV,ES hlt,hcl,hct,N0 hcl,aq];refine AI K hI (cells:=[p1,p2]) (by simp only[pb,↓reduceIte,reduceEqDiff,o5]) hg (aK (aK hk)) hoG (hb _ (ct hlt)) (fun c2 ns2 htk hgo2 ht2=>?_);obtain⟨cs2,ds2,t2,u2,rfl,-,-⟩:=hgo2.sh;simp only[↓pa,pb,↓reduceIte,du,htk];refine aa (fun h0=>?_) (fun h0=>?_)
   ·rw[ad (by simp[h0])]at hQ;simp (disch:=omega)only[↓pa,pb,aV,↓reduceIte,reduceEqDiff,f4,f5,f11,f12,f13,o4,nV,hkl,hkn];have hko:=ss l[i] hoG;rw[<-De l[i] hoG]at hko;refine⟨l.length- (i+1),by omega,i+1,_,_,_,rfl,by omega,rfl,rfl,hgo2,?_,?_,hko,hQ⟩
    ·exact FO (aK (aK hk)) hfl ht2
    ·show st.fl<=(St.more _ ns2).nx;rw[St.more_nx];exact dQ hfl (Nat.le_add_right _ _)
   ·rw[ak h0]at hQ;simp only[↓pa,↓bT,pb,ai,↓reduceIte,reduceEqDiff,reduceAdd,reduceLeDiff,fL,f4,o4,nV,hkn];have e:oA (gY wP 0 g l)=⟨(lH wP G l[i]).2,(i:Int),g0⟩:=by rw[hQ,oA,ak h0]
    rw[e];exact uj (x:=⟨(lH wP G l[i]).2,(i:Int),g0⟩) yP fp
  ·have hie:l.drop i=[]:=dM (by omega);rw[hie,gY]at hQ;simp only[↓pa,↓bT,pb,ai,↓reduceIte,reduceEqDiff,reduceAdd,reduceLeDiff,fL,f4,f5,o4,o5,k1];have e:oA (gY wP 0 g l)=⟨0,0,G⟩:=by rw[hQ,oA,ad (by simp)]
   rw[e];exact uj (x:=⟨0,0,G⟩) hg (aK hk)
 obtain⟨r,ns,r0,hc,hF,⟨c,rfl,hQ⟩,g',h,rfl,hh,hg⟩:=uh (st:=st) (f:=78) (F:=F78) K.tab rfl rfl rfl (lb rfl) (O8:=[.agg (gc g),HX l]) (by simp[dW,iU]) (l.length+2) hw;have hh:∀ q∈al c,(h q.1).isSome=true:=hh;exact⟨_,ns,hc,hF.tk,xk (xk hQ hh) fun _ _=>hg _,hF.np,hF.so⟩
def DL(K:bJ cf)(hI:rQ cf){g:bY}{l:List Ch}(ho:jO g)(hl:l.length<=2000000)(hb:∀ c∈l,mY c)
  (kk:∀ p q ns,al [I (oA (gY wP 0 g l)).code,I (oA (gY wP 0 g l)).at_,p,q]=cj st.nx ns->kH (oA (gY wP 0 g l)).graph [p,q]->A (mk (.agg [I (oA (gY wP 0 g l)).code,I (oA (gY wP 0 g l)).at_,p,q]) (st.more ns))):cP (av cf 78 [.agg [NX g.nodes,EX g.edges],HX l] [] st) mk A:=by
 obtain⟨r,ns,hc,h3,h4,-,-⟩:=KH (st:=st) K hI g l ho hl hb;obtain⟨p,q,rfl,hg⟩:=h4.sh;exact⟨_,_,hc,kk p q ns h3 hg⟩
def M7(K:bJ cf)(hI:rQ cf)(g:bY)(l:List Ch)(hl:l.length<=2000000)(hb:∀ c∈l,mY c):
  ∃ r ns,av cf 32 [.agg (gc g),HX l] [] st=some (.agg r,st.more ns)/\al r=cj st.nx ns/\DQ (lJ wP g l) r/\aI r=true/\aY r=true:=by
 have hw:Wp cf 1 F32.body (eu [.agg (gc g),HX l],bn [] []) (mF F32.res fun p s=>np p=true/\aJ p=true/\aL s (ar p)/\∃ r,p= .agg r/\DQ (lJ wP g l) r):=by
  have hgo:∀ st,av cf 46 [.agg [NX g.nodes,EX g.edges]] [] st=some (.bool (ed g),st):=fun st=>IK K g;unfold F32 qr qd qm qk ql qt qu qn qs qo qN;simp only[↓pa,pb,ai,↓reduceIte,reduceEqDiff,reduceAdd,gc];refine aa (fun k1=>?_) (fun k1=>?_)
  ·have e:lJ wP g l=⟨2,0,g0⟩:=ak (by omega);simp only[↓pa,↓bT,pb,ai,↓reduceIte,reduceEqDiff,reduceAdd,reduceLeDiff,fL];rw[e];exact uj (x:=⟨2,0,g0⟩) yP fp
  have k2:¬1000<l.length:=by omega
  cases hg:ed g
  ·have e:lJ wP g l=⟨1,0,g0⟩:=by unfold lJ;rw[ad k2,ak hg]
   simp only[↓pa,↓bT,pb,ai,↓reduceIte,reduceEqDiff,reduceAdd,reduceLeDiff,fL,hgo,hg];rw[e];exact uj (x:=⟨1,0,g0⟩) yP fp
  have e:lJ wP g l=oA (gY wP 0 g l):=by unfold lJ;rw[ad k2,ad (by rw[hg];simp)];rfl
  simp only[↓pa,pb,ai,↓reduceIte,reduceEqDiff,reduceAdd,reduceLeDiff,hgo,hg];refine DL K hI (wT hg) hl hb (fun p q ns ht hgc=>?_);have hgc':=hgc;obtain⟨cs,ds,t,u,e2,-,-⟩:=hgc.sh;simp only[List.cons.injEq,lE]at e2;obtain⟨rfl,rfl⟩:=e2;simp only[↓pa,pb,ai,↓reduceIte,reduceEqDiff,reduceAdd,reduceLeDiff,fL,jk];rw[e];refine uj hgc' ?_;have h0:=cV (st:=bP (bP (bn [] []) 2 [NX g.nodes,EX g.edges]) 4 [.int .i64 0,.int .i64 0,.list 0 [] .nil,.list 0 [] .nil]) fp (aM _) ns;rw[aN,<-ht]at h0;exact aK h0
 obtain⟨r,ns,r0,hc,hF,⟨c,rfl,hQ⟩,g',h,rfl,hh,hg⟩:=uh (st:=st) (f:=32) (F:=F32) K.tab rfl rfl rfl (lb rfl) (O8:=[.agg (gc g),HX l]) (by simp[dW,iU]) 1 hw;have hh:∀ q∈al c,(h q.1).isSome=true:=hh;exact⟨_,ns,hc,hF.tk,xk (xk hQ hh) fun _ _=>hg _,hF.np,hF.so⟩
def ke(c:Ch):Nat:=fb c.node+iG c.edge+c.name.length+c.value.length+c.text.length
structure ul (c:Ch):Prop where
 nl:c.node.labels.length<=fC/\∀ t∈c.node.labels,t.length<=fC
 nf:c.node.fields.length<=fC/\∀ f∈c.node.fields,f.1.length<=fC/\f.2.length<=fC
 et:c.edge.type.length<=fC
 ef:c.edge.fields.length<=fC/\∀ f∈c.edge.fields,f.1.length<=fC/\f.2.length<=fC
 na:c.name.length<=fC
 va:c.value.length<=fC
 te:c.text.length<=fC
def M5(K:bJ cf)(c:Ch)(h:ul c)(left:Nat)(hle:left<=2000000):av cf 75 [.agg (cc c),I left] [] st=some (I (eh left (ke c)),st):=by
 refine cQ K.tab (F:=F75) (t:=4) rfl rfl rfl (lb rfl) (by simp[ej (jd c),aQ]) (dD _ _) 1 ?_;have h1:c.name.length<=9223372036854775807:=h.na;have h2:c.value.length<=9223372036854775807:=h.va;have h3:c.text.length<=9223372036854775807:=h.te;have hn:=fun st=>ID (st:=st) K c.node h.nl h.nf left hle;have he:=fun(left:Nat) (hl:left<=2000000) st=>IF (st:=st) K c.edge h.et h.ef left hl;unfold F75 qg qr qm qi qb qk ql qf qu qo;simp only[↓pa,pb,ai,↓reduceIte,reduceEqDiff,reduceAdd,reduceLeDiff,cc];have hn':∀ st,av cf 79 [.agg [I c.node.id,TX c.node.labels,FX c.node.fields],I left] [] st=some (I (eh left (fb c.node)),st):=hn;simp only[↓pa,pb,↓reduceIte,hn'];by_cases hd:fb c.node<=left
 ·have hdd:eh left (fb c.node)=((left-fb c.node:Nat):Int):=by rw[eh,ak hd]
  have hneg:¬ (((left-fb c.node:Nat):Int)<0):=by omega
  have he':∀ st,av cf 80 [.agg [I c.edge.id,S c.edge.type,I c.edge.src,I c.edge.dst,FX c.edge.fields],I (left-fb c.node:Nat)] [] st=some (I (eh (left-fb c.node) (iG c.edge)),st):=fun st=>he (left-fb c.node) (by omega) st;simp only[↓pa,pb,ai,↓reduceIte,reduceEqDiff,reduceAdd,reduceLeDiff,hdd,hneg,he'];by_cases hd2:iG c.edge<=left-fb c.node
  ·have hdd2:eh (left-fb c.node) (iG c.edge)=((left-fb c.node-iG c.edge:Nat):Int):=by rw[eh,ak hd2]
   have hneg2:¬ (((left-fb c.node-iG c.edge:Nat):Int)<0):=by omega
   simp (disch:=omega)only[↓pa,pb,ai,↓reduceIte,reduceEqDiff,reduceAdd,hdd2,hneg2];generalize hm:left-fb c.node-iG c.edge=m at*;refine aa (fun h4=>?_) (fun h4=>?_)
   ·simp only[↓pa,pb,↓reduceIte,h4];rw[eh,ad (by unfold ke;omega)]
   simp (disch:=omega)only[↓pa,pb,ai,↓reduceIte,reduceEqDiff,reduceAdd,h4];refine aa (fun h5=>?_) (fun h5=>?_)
   ·simp only[↓pa,pb,↓reduceIte,h5];rw[eh,ad (by unfold ke;omega)]
   simp (disch:=omega)only[↓pa,pb,ai,↓reduceIte,reduceEqDiff,reduceAdd,h5];refine aa (fun h6=>?_) (fun h6=>?_)
   ·simp only[↓pa,pb,↓reduceIte,h6];rw[eh,ad (by unfold ke;omega)]
   simp only[↓pa,pb,↓reduceIte,reduceEqDiff,h6];rw[eh,ak (by unfold ke;omega)];congr 1;unfold ke;omega
  ·have hdd2:eh (left-fb c.node) (iG c.edge)= -1:=by rw[eh,ad hd2]
   simp only[↓pa,pb,↓reduceIte,Int.reduceLT,hdd2];rw[eh,ad (by unfold ke;omega)]
 ·have hdd:eh left (fb c.node)= -1:=by rw[eh,ad hd]
  simp only[↓pa,pb,↓reduceIte,Int.reduceLT,hdd];rw[eh,ad (by unfold ke;omega)]
def L3(K:bJ cf)(l:List Ch)(hl:l.length<=fC)(h:∀ c∈l,ul c)(left:Nat)(hle:left<=2000000):av cf 29 [HX l,I left] [] st=some (I (eh left (fk ke l)),st):=
 B7 K (f:=29) (F:=F29) rfl ⟨rfl,rfl,rfl,(lb rfl)⟩ cc oq jd ke l hl left hle fun a ha left st hl=>M5 K a (h a ha) left hl
def Kj{c:Ch}(h:ke c<=1048576):mY c:=by
 have h1:fb c.node<=1048576:=by unfold ke at h;omega
 have h2:iG c.edge<=1048576:=by unfold ke at h;omega
 unfold fb mm m6 at h1;unfold iG m6 at h2;have h4:= @jc _ List.length c.node.labels;have h5:= @jc _ mn c.node.fields;have h6:= @jc _ mn c.edge.fields;exact⟨by omega,by omega,by omega⟩
def M2(K:bJ cf)(c:Ch)(h:mY c):∃ r ns,av cf 77 [.agg (cc c)] [] st=some (r,st.more ns)/\cR st.nx ns r/\aC r= .agg (cc c):=by
 refine rx K.tab (F:=F77) (Q:=fun r=>r= .agg (cc c)) rfl rfl rfl (lb rfl) (by simp[ej (jd c)]) 1 ?_;unfold F77 qr ql qf qt qs qo qN;simp only[↓pa,pb,ai,↓reduceIte,reduceEqDiff,reduceAdd,reduceLeDiff,cc];refine dK (K9 K c.node h.ll h.nf) (fun r ns hF hr=>?_);obtain⟨ds,rfl,hd⟩:=eI hr;obtain⟨a1,a2,a3,rfl⟩:∃ a b c,ds=[a,b,c]:=by
  have hl:ds.length=3:=by rw[<-bw,hd];rfl
  match ds,hl with
  | [a,b,c],_=>exact⟨a,b,c,rfl⟩
 simp only[↓pa,pb,ai,↓reduceIte,reduceEqDiff,reduceAdd,reduceLeDiff,jk];refine dK (La K c.edge h.ef) (fun r2 ns2 hF2 hr2=>?_);obtain⟨ds2,rfl,hd2⟩:=eI hr2;obtain⟨b1,b2,b3,b4,b5,rfl⟩:∃ a b c d e,ds2=[a,b,c,d,e]:=by
  have hl:ds2.length=5:=by rw[<-bw,hd2];rfl
  match ds2,hl with
  | [a,b,c,d,e],_=>exact⟨a,b,c,d,e,rfl⟩
 simp only[↓pa,pb,ai,↓reduceIte,reduceEqDiff,reduceAdd,reduceLeDiff,jk];have n1:aI [a1,a2,a3]=true:=hF.np;have n2:aI [b1,b2,b3,b4,b5]=true:=hF2.np;have s1:aY [a1,a2,a3]=true:=by simpa [aJ]using hF.so
 have s2:aY [b1,b2,b3,b4,b5]=true:=by simpa [aJ]using hF2.so
 refine⟨rfl,?_,?_,?_,?_⟩
 ·simp only[aI,dh,off,np,ae,bg,dj]at n1 n2 ⊢;simp only[n1,n2,kx]
  all_goals rfl
 ·simp only[aY,aJ,ae,bg,dj]at s1 s2 ⊢;simp only[s1,s2,kx]
 ·have a:=hF.tk;rw[show ar (.agg [a1,a2,a3])=al [a1,a2,a3] by simp[ar]]at a;have b:=hF2.tk;rw[show ar (.agg [b1,b2,b3,b4,b5])=al [b1,b2,b3,b4,b5] by simp[ar]]at b;have e:ar (.agg [I c.kind,a1,a2,a3,b1,b2,b3,b4,b5,S c.value,S c.name,S c.text])=al [a1,a2,a3]++al [b1,b2,b3,b4,b5]:=by simp[ar,al]
  rw[e,a,b]
  repeat first|exact fp|(refine cV (l:=[]) ?_ (aM _) _)|(refine cV ?_ (by simp only[bP,St.more_fl,bn];exact aM _) _)|refine aK ?_
 ·simp only[m7,cG,aH,bM]at hd hd2 ⊢;simp only[nc,ec,List.cons.injEq]at hd hd2;simp only[hd,hd2,az]
def xd(K:bJ cf)(l:List Ch)(hl:l.length<=2000000)(h:∀ c∈l,mY c):∃ r ns,av cf 31 [HX l] [] st=some (r,st.more ns)/\cR st.nx ns r/\aC r=HX l:=
 B5 K (f:=31) (F:=F31) rfl ⟨rfl,rfl,rfl,rfl,(lb rfl)⟩ rfl (by decide) (by decide) cc oq jd l hl fun a ha st=>M2 K a (h a ha)
def Nm(K:bJ cf)(x:pX)(h:DV x.graph):av cf 33 [.agg (iE x),.agg (iE x)] [] st=some (.bool true,st):=by
 refine cQ K.tab (F:=F33) (t:=4) rfl rfl rfl (lb rfl) (by simp[ej (sS x)]) (ce _) 1 ?_;have hg:∀ st,av cf 13 [.agg [NX x.graph.nodes,EX x.graph.edges],.agg [NX x.graph.nodes,EX x.graph.edges]] [] st=some (.bool true,st):=fun st=>IM K x.graph h;unfold F33 qg qr qc qb ql qf qu qo;simp only[↓pa,pb,ai,↓reduceIte,reduceEqDiff,reduceAdd,reduceLeDiff,du,iE,hg]
def nh(a:List (Nat×Nat))(b:List Nat)(k:Nat):bY:=⟨mL a k,lT b (cq a k)⟩
def Mf(K:bJ cf)(k:Nat)(a:List (Nat×Nat))(b:List Nat)(hk:cH b (cq a k)<=1000000000000):av cf 74 [.agg (gc (nh a b k)),I k] [] st=some (I (cH b (cq a k):Nat),st):=by
 refine cQ K.tab (F:=F74) (t:=4) rfl rfl rfl (lb rfl) (by simp[dW,aQ]) (dD _ _) 1 ?_;have hle:=qE b (cq a k);have h1:=fun st=>Me (st:=st) K k a (by omega);have h2:=fun st=>Mg (st:=st) K (cq a k) b hk;have l1:=tY a k;have l2:=tZ b (cq a k);unfold F74 qg qr qm qi qk ql qf qu qo;simp only[↓pa,pb,ai,↓reduceIte,reduceEqDiff,reduceAdd,gc,nh,NX,EX,l1,l2,h1,h2,uJ]
def KB(K:bJ cf)(k:Nat)(c i:Int)(a:List (Nat×Nat))(b:List Nat)(hk:cH b (cq a k)<=1000000000000):av cf 35 [.agg (iE ⟨c,i,nh a b k⟩),I k] [] st=some (I (cH b (cq a k):Nat),st):=by
 refine cQ K.tab (F:=F35) (t:=4) rfl rfl rfl (lb rfl) (by simp[ej (sS _),aQ]) (dD _ _) 1 ?_;have h1:∀ st,av cf 74 [.agg [NX (nh a b k).nodes,EX (nh a b k).edges],I k] [] st=some (I (cH b (cq a k):Nat),st):=fun st=>Mf K k a b hk;unfold F35 qg qr qm qi qk ql qf qu qo;simp only[↓pa,pb,ai,↓reduceIte,reduceEqDiff,reduceAdd,reduceLeDiff,iE,h1,uJ]
section
variable {f:Nat} {F:bp} {cs:List PV}
def Fi(K:iF cf)(hT:T (kF f)=some F){t:Nat}(hres:F.res=[.tmp t,.tmp 0])(hown:F.own=true)(hs:aY cs=true)(hn:aI cs=true)(hk:aL st (al cs))
  (hnt:2<=F.nt) (N:Nat) {k k':Int} {v:PV}
  (h:∀ cs0 ns,aF cs0=aF cs->aI cs0=true->aY cs0=true->aL (bn ns []) (al cs0)->Wp cf N F.body (eu [.agg cs0,I k],bn ns []) (zV t fun j p=>j=k'/\p=v)):
  ∃ p ns,uP cf f [.agg cs,I k] st=some (I k',p,dI ((al cs).map (·.1)) ns st)/\cR st.nx ns p/\aC p=v/\cD [.agg cs,I k] [0] st=(al cs).map (·.1):=by
 have hrr:ren (aT ((al cs).map (·.1))) false (.agg cs)= .agg (aZ (aT ((al cs).map (·.1))) false cs):=by simp[ren]
 have htt:ar (.agg cs)=al cs:=by simp[ar]
 have hF0:=(ld (r0:= .agg cs) (by simpa [aJ]using hs) hn (by rw[htt];exact hk.1) 0).2;rw[htt,hrr]at hF0;have hTB:aL (bn ((al cs).map (·.2)) []) (al (aZ (aT ((al cs).map (·.1))) false cs)):=by
  have:=hF0.tk;simp only[ar]at this;rw[this];exact⟨fun j=>nM j _,fun q hq=>by have:=jC hq;exact⟨by simpa [bn]using this.2.1,by simpa [bn]using this.2.2,aM _⟩⟩
 have hnp0:aI (aZ (aT ((al cs).map (·.1))) false cs)=true:=hF0.np;obtain⟨j,p,ns,hrun,hFr,hF,hQ1,hQ2⟩:=Cp hown hres N (by exact hnt) (h _ _ (eG _ _) hnp0 (by simpa [aJ]using hF0.so) hTB);have hcf:=K (kF f) F hT N _ _ _ _ hrun;rw[<-hrr]at hcf;subst hQ1;have hst:aJ (.tup [I j,p])=true:=by simp only[aJ,aY,hFr.so,ap]
 obtain⟨h1,h2⟩:=By (rest:=[I k]) hn hk rfl rfl hcf hst;refine⟨ren (fun k=>some (st.nx+k)) false p,ns,?_,hF st.nx,by rw[gt];exact hQ2,h2⟩;unfold uP;rw[h1];rfl
end
mutual
theorem Dy(J:List Nat)(l:List (Nat×Nat×PV))(hu:∀ q∈l,J.contains q.1=true):∀ p:PV,tf (J.contains ·) p=true->iO J l p=p
 | .list n cs t,h=>by
  simp only[tf,ae]at h;have ih:=pp J l hu cs h.2;have:nY l n t=none:=by
   cases hs:nY l n t with
   |none=>rfl
   |some p=>
    obtain⟨k,e,rfl,hm⟩:=uz hs;have h1:=h.1;simp only[aB.free,aB.of,hu _ hm]at h1;cases h1
  simp only[iO,ih,this];rw[ak h.1]
 | .iptr cs o t,h=>by
  simp only[tf,ae]at h;have ih:=pp J l hu cs h.2;simp only[iO,ih];rw[ak h.1]
 | .agg cs,h=>by simp only[tf]at h;simp only[iO,pp J l hu cs h]
 | .tup cs,h=>by simp only[tf]at h;simp only[iO,pp J l hu cs h]
 | .fn g cs,h=>by simp only[tf]at h;simp only[iO,pp J l hu cs h]
 | .any,_| .hole,_| .int _ _,_| .bool _,_| .str _,_| .nilp,_| .nili,_| .err,_| .ptr _ _,_| .osl _ _ _ _,_| .mp _,_=>rfl
theorem pp(J:List Nat)(l:List (Nat×Nat×PV))(hu:∀ q∈l,J.contains q.1=true):∀ ps:List PV,dw (J.contains ·) ps=true->gC J l ps=ps
 | [],_=>rfl
 |p::ps,h=>by
  simp only[dw,ae]at h;simp only[gC,Dy J l hu p h.1,pp J l hu ps h.2]
end
def MC{cs ds:List PV}:∀ q∈gF cs ds,((al cs).map (·.1)).contains q.1=true:=by
 rintro⟨k,n,p⟩ hq;obtain⟨i,c,e,d,h1,h2,h3⟩:=rg hq;have:=wb h1;simp only[ei,cA];exact⟨_,this,rfl⟩
def BM{J:List Nat}{l:List (Nat×Nat×PV)}(hu:∀ q∈l,J.contains q.1=true){p:PV}(h:cT p):iO J l p=p:=by
 have:=pZ (J.contains ·) p;rw[h.2.1]at this;exact Dy J l hu p this
def zP{J:List Nat}{l:List (Nat×Nat×PV)}(hu:∀ q∈l,J.contains q.1=true):∀ {ps:List PV},cK ps->gC J l ps=ps:=fun{ps} h=>by
 have:=BM hu (p:= .agg ps) (ej h);simp only[iO,PV.agg.injEq]at this;exact this
def Mo{J:List Nat}{n m:Nat}{ca cb da db:List PV}{ta tb ua ub:aB}{ns:List Nat}(h1:ca=[]↔n=0)(h2:cb=[]↔m=0)(h3:da=[]↔n=0)(h4:db=[]↔m=0)
  (hs:aY [.list n ca ta,.list m cb tb]=true) (hk:aL st (al [.list n ca ta,.list m cb tb])) (hJ:J=(al [.list n ca ta,.list m cb tb]).map (·.1)) (hF:cR st.nx ns (.agg [.list n da ua,.list m db ub])) (hf:st.fl<=st.nx):
  ∃ x y,gC J (gF [.list n ca ta,.list m cb tb] [.list n da ua,.list m db ub]) [.list n ca ta,.list m cb tb]=[x,y]/\aY [x,y]=true/\aI [x,y]=true/\aC x=aC (.list n da ua)/\aC y=aC (.list m db ub)/\aL (dI J ns st) (al [x,y]):=by
 have hm:=kr (A:=[]) (B:=al [.list n ca ta,.list m cb tb]) (C:=[]) (ns:=ns) (by simpa using hk) hf;rw[<-hJ,<-hF.tk]at hm;simp only[aN,aD,ar,al]at hm;have hso:=hF.so;simp only[aJ,aY,ae,bg]at hso;have hnp:aI [.list n da ua,.list m db ub]=true:=hF.np;have hn1:np (.list n da ua)=true:=fm hnp (by simp);have hn2:np (.list m db ub)=true:=fm hnp (by simp);have stay:∀ {n:Nat} {ca:List PV} {ta:aB} {l:List (Nat×Nat×PV)},(ca=[]↔n=0)->aJ (.list n ca ta)=true->(∀ k e,ta≠ .own k e)->iO J l (.list n ca ta)= .list n ca ta/\ca=[]/\n=0/\ar (.list n ca ta)=[]:=by
  intro n ca ta l hz hs ho;have hc:=vM hs ho;have ht:=ur hs ho;refine⟨?_,hc,hz.1 hc,ht⟩;subst hc;have hse:nY l n ta=none:=by
   cases ta with
   |own k e=>exact absurd rfl (ho k e)
   |_=>rfl
  have hfr:ta.free (J.contains ·)=true:=by
   simp only[aJ,ae]at hs;cases ta with
   |own k e=>exact absurd rfl (ho k e)
   |sub k=>simp at hs
   |el k e n=>simp at hs
   |_=>rfl
  simp only[iO,hse,gC];rw[ak hfr]
 have mark:∀ {n:Nat} {da:List PV} {ua:aB},(da=[]↔n=0)->aJ (.list n da ua)=true->np (.list n da ua)=true->aJ (eP n (.list n da ua))=true/\np (eP n (.list n da ua))=true/\aC (eP n (.list n da ua))=aC (.list n da ua)/\(∀ k,ck k (ar (eP n (.list n da ua)))<=ck k (ar (.list n da ua)))/\∀ q∈ar (eP n (.list n da ua)),q∈ar (.list n da ua):=by
  intro n da ua hz h1 h2;unfold eP;by_cases h:n=0
  ·rw[ak h];refine⟨rfl,rfl,?_,fun k=>aM _,fun q hq=>by simp[ar,al]at hq⟩;rw[eF,eF,hz.2 h,h]
  ·rw[ad h];exact⟨h1,h2,rfl,fun k=>aE _,fun q hq=>hq⟩
 have nil:∀ {n:Nat} {ca da:List PV} {ta ua:aB},ca=[]->(da=[]↔n=0)->n=0->aC (.list n ca ta)=aC (.list n da ua):=by
  intro n ca da ta ua h1 h2 h3;rw[eF,eF,h1,h2.2 h3]
 have hs1:aJ (.list n ca ta)=true:=by simp only[aY,ae]at hs;exact hs.1
 have hs2:aJ (.list m cb tb)=true:=by simp only[aY,ae]at hs;exact hs.2.1
 obtain⟨a1,a2,a3,a4,a5⟩:=mark h3 (by simpa [aJ]using hso.1) hn1;obtain⟨b1,b2,b3,b4,b5⟩:=mark h4 (by simpa [aJ]using hso.2) hn2;have fin:∀ x y,(∀ k,ck k (ar x)<=ck k (ar (.list n da ua)))->(∀ q∈ar x,q∈ar (.list n da ua))->(∀ k,ck k (ar y)<=ck k (ar (.list m db ub)))->(∀ q∈ar y,q∈ar (.list m db ub))->aL (dI J ns st) (al [x,y]):=by
  intro x y x1 x2 y1 y2;refine dY hm (fun k=>?_) (fun q hq=>?_)
  ·have:=x1 k;have:=y1 k;simp only[al,bh,aD,ar]at*;omega
  ·simp only[al,aD,ay]at hq;have e1:=x2 q;have e2:=y2 q;simp only[ar]at e1 e2;rcases hq with hq|hq
   ·exact ay.2 (.inl (e1 hq))
   ·exact ay.2 (.inr (e2 hq))
 have zero:∀ {x:PV},ar x=[]->∀ l:List (Nat×Nat),(∀ k,ck k (ar x)<=ck k l)/\∀ q∈ar x,q∈l:=fun{x} h l=>by
  rw[h];exact⟨fun k=>aM _,fun q hq=>by simp at hq⟩
 by_cases o1:∃ k e,ta= .own k e
 ·obtain⟨k1,e1,rfl⟩:=o1;by_cases o2:∃ k e,tb= .own k e
  ·obtain⟨k2,e2,rfl⟩:=o2;have hne:k1≠k2:=by
    rintro rfl;have:=hk.1 k1;simp only[al,ar,bh,ck,if_true]at this;omega
   refine⟨eP n (.list n da ua),eP m (.list m db ub),?_,by simp only[aY,a1,b1,ap],by show dh _ _=true;simp only[dh];have x1:off _ _=true:=a2;have x2:off _ _=true:=b2;rw[x1,x2];rfl,a3,b3,fin _ _ a4 a5 b4 b5⟩;have hb:(k1==k2)=false:=by simpa using hne
   simp only[gC,iO,gF,nY,List.find?_cons,kw,ap,dC,hb,g8]
  ·have ho:∀ k e,tb≠ .own k e:=fun k e h=>o2 ⟨k,e,h⟩;obtain⟨c1,c2,c3,c4⟩:=stay (l:=gF [.list n ca (.own k1 e1),.list m cb tb] [.list n da ua,.list m db ub]) h2 hs2 ho;refine⟨eP n (.list n da ua),.list m cb tb,?_,by simp only[aY,a1,hs2,ap],?_,a3,nil c2 h4 c3,fin _ _ a4 a5 (zero c4 _).1 (zero c4 _).2⟩
   ·rw[gC,gC,c1];simp only[gC,iO,gF,nY,List.find?_cons,kw,ap,dC]
   ·show dh _ _=true;have x1:off _ _=true:=a2;simp only[dh,x1,c2,off,ap]
 ·have ho:∀ k e,ta≠ .own k e:=fun k e h=>o1 ⟨k,e,h⟩;obtain⟨c1,c2,c3,c4⟩:=stay (l:=gF [.list n ca ta,.list m cb tb] [.list n da ua,.list m db ub]) h1 hs1 ho;have hsel:gF [.list n ca ta,.list m cb tb] [.list n da ua,.list m db ub]=gF [.list m cb tb] [.list m db ub]:=by
   cases ta with
   |own k e=>exact absurd rfl (ho k e)
   |_=>rfl
  by_cases o2:∃ k e,tb= .own k e
  ·obtain⟨k2,e2,rfl⟩:=o2;refine⟨.list n ca ta,eP m (.list m db ub),?_,by simp only[aY,b1,hs1,ap],?_,nil c2 h3 c3,b3,fin _ _ (zero c4 _).1 (zero c4 _).2 b4 b5⟩
   ·rw[gC,gC,c1,hsel];simp only[gC,iO,gF,nY,List.find?_cons,kw,ap,dC]
   ·show dh _ _=true;have x1:off _ _=true:=b2;simp only[dh,x1,c2,off,ap]
  ·have ho2:∀ k e,tb≠ .own k e:=fun k e h=>o2 ⟨k,e,h⟩;obtain⟨d1,d2,d3,d4⟩:=stay (l:=gF [.list n ca ta,.list m cb tb] [.list n da ua,.list m db ub]) h2 hs2 ho2;refine⟨.list n ca ta,.list m cb tb,by rw[gC,gC,c1,d1];rfl,hs,?_,nil c2 h3 c3,nil d2 h4 d3,fin _ _ (zero c4 _).1 (zero c4 _).2 (zero d4 _).1 (zero d4 _).2⟩
   show dh _ _=true;simp only[dh,c2,d2,off,ap]
def H6{n sz:Nat}{cs rest:List PV}{tk:aB}{r p':PV}{s st:St}{ns:List Nat}(hs:aJ (.list n cs tk)=true)(hn:aI cs=true)(hl:cs.length=n*sz)(h0:0<sz)(ht:cD (.list n cs tk::rest) [0] st=(ar (.list n cs tk)).map (·.1))(hF:cR st.nx ns p')(hz:cs=[]->aC p'= .list 0 [] .no){pre post:List PV}
  (hs1:aY pre=true) (hs2:aY post=true) (hk:aL st (al pre++ar (.list n cs tk)++al post)) (hf:st.fl<=st.nx):
  ∃ q,kU (some (r,p',s)) (.list n cs tk::rest) st (.agg (pre++ .list n cs tk::post))= .agg (pre++q::post)/\aJ q=true/\np q=true/\aC q=aC p'/\aL (dI ((ar (.list n cs tk)).map (·.1)) ns st) (al pre++ar q++al post):=by
 obtain⟨q,h1,h2,h3,h4,h5⟩:=H5 (r:=r) (s:=s) hs hn hl h0 ht hF hz hk hf;have hap:=l7 hk;refine⟨q,?_,h2,h3,h4,h5⟩;by_cases ho:∃ k e,tk= .own k e
 ·obtain⟨k,e,rfl⟩:=ho;rw[zt]at h1 ⊢;rw[ht]at h1 ⊢;have hJ:((ar (.list n cs (.own k e))).map (·.1)).contains k=true:=by simp[ar]
  simp only[fJ];rw[vi,tv (u:=⟨(ar (.list n cs (.own k e))).map (·.1),k,n,eP n p'⟩) hJ hs1 (fun x hx=>hap x (by simp[hx]))];simp only[ik];rw[tv (u:=⟨(ar (.list n cs (.own k e))).map (·.1),k,n,eP n p'⟩) hJ hs2 (fun x hx=>hap x (by simp[hx])),h1]
 ·have ho':∀ k e,tk≠ .own k e:=fun k e h=>ho ⟨k,e,h⟩;have htk:=ur hs ho';rw[zu ho',ht,htk,bM,uT]at h1 ⊢;rw[h1]
def H7{cs ds rest:List PV}{r q:PV}{s st:St}:kU (some (r,.agg ds,s)) (.agg cs::rest) st q=iO (cD (.agg cs::rest) [0] st) (gF cs ds) q:=rfl
def yH(J:List Nat)(l:List (Nat×Nat×PV))(st st':St):St:={st' with objs:=fun s=>(st.objs s).map fun c=>gC J l c}
def BQ{f:Nat}{cs vs:List PV}{k k':Int}{J:List Nat}(hn:aI cs=true)
  (h:∃ p ns,uP cf f [.agg cs,I k] st=some (I k',p,dI J ns st)/\cR st.nx ns p/\aC p= .agg vs/\cD [.agg cs,I k] [0] st=J)
  (kk:∀ ds ns,uP cf f [.agg cs,I k] st=some (I k',.agg ds,dI J ns st)->cR st.nx ns (.agg ds)->aF ds=vs->cD [.agg cs,I k] [0] st=J->A (mk (I k') (yH J (gF cs ds) st (dI J ns st)))):
  cP (uR (uP cf f [.agg cs,I k] st) [.agg cs,I k] st) mk A:=by
 obtain⟨p,ns,hu,hF,hs,hX⟩:=h;obtain⟨ds,rfl,hd⟩:=eI hs;refine⟨I k',yH J (gF cs ds) st (dI J ns st),?_,kk ds ns hu hF hd hX⟩;have hkey:cX [.agg cs,I k]=some []:=by
  have hn':np (.agg cs)=true:=hn;rw[cX,ak hn']
  ·rfl
  ·intros;contradiction
 rw[hu];simp only[uR,oH,if_true,IV];rw[ak hkey,hX];rfl
def Kz(K:bJ cf)(k:Nat)(g:bY)(hk:cH (g.edges.map fY) (cq (g.nodes.map fM) k)<=1000000000000){cs:List PV}(hst:aF cs=gc g)(hs:aY cs=true)(hn:aI cs=true)(hT:aL st (al cs)):
  ∃ p ns,uP cf 14 [.agg cs,I k] st=some (I (cH (g.edges.map fY) (cq (g.nodes.map fM) k):Nat),p,dI ((al cs).map (·.1)) ns st)/\cR st.nx ns p/\aC p= .agg (gc (nh (g.nodes.map fM) (g.edges.map fY) k))/\cD [.agg cs,I k] [0] st=(al cs).map (·.1):=by
 refine Fi K.tab (f:=14) (F:=FB14) (t:=4) rfl rfl rfl hs hn hT (lb rfl) 1 (fun c0 ns hst0 hnp0 hso0 hTB=>?_);rw[hst]at hst0;clear hs hn hT hst;obtain⟨c,d,rfl⟩:∃ c d,c0=[c,d]:=by
  have:=bq List.length hst0;rw[bw]at this
  match c0,this with
  | [c,d],_=>exact⟨c,d,rfl⟩
 simp only[cG,aH,bM,gc,List.cons.injEq,lE]at hst0;obtain⟨hr3,hr4⟩:=hst0;obtain⟨ca,ta,rfl,hca,-⟩:=bt hr3;obtain⟨cb,tb,rfl,hcb,-⟩:=bt hr4;simp only[aY,bg,ae]at hso0;have hn1:aI ca=true:=by simp only[az,bg,ae]at hnp0;exact hnp0.1
 have hn2:aI cb=true:=by simp only[az,bg,ae]at hnp0;exact hnp0.2
 have hLa:iY nc 3 g.nodes ca:=uk cC hca hn1;have hLb:iY ec 5 g.edges cb:=uk cw hcb hn2;have hnm:=qE (g.edges.map fY) (cq (g.nodes.map fM) k);have hTB2:aL (bn ns []) ([]++ar (.list g.nodes.length ca ta)++ar (.list g.edges.length cb tb)):=by
  simpa only[al,aD,aN]using hTB
 unfold FB14 qr qm qi ql qf qo;simp only[↓pa,pb,ai,↓reduceIte,reduceEqDiff,reduceAdd,dz];refine qL (Ft K k g.nodes (by omega) hso0.1 hLa (aK (dY hTB2 (fun j=>by simp only[bh];omega) (fun q hq=>by simp[hq])))) (fun p ns1 hu hF1 hv htk=>?_);have hap:=l7 hTB2;have hk1:bV ((ar (.list g.nodes.length ca ta)).map (·.1)) (.list g.edges.length cb tb)= .list g.edges.length cb tb:=lv hso0.2 fun q hq=>hap q (by simp[hq]);have hT1:aL (bP (bn ns []) 2 [.list g.nodes.length ca ta,.list g.edges.length cb tb]) (al []++ar (.list g.nodes.length ca ta)++al [.list g.edges.length cb tb]):=by
  simpa only[al,aD,aN]using aK (s:=2) (c:=[.list g.nodes.length ca ta,.list g.edges.length cb tb]) hTB2
 obtain⟨q1,j1,j2,j3,j4,j5⟩:=H6 (r:=I (cq (g.nodes.map fM) k:Nat)) (s:=dI ((ar (.list g.nodes.length ca ta)).map (·.1)) ns1 (bP (bn ns []) 2 [.list g.nodes.length ca ta,.list g.edges.length cb tb])) (pre:=[]) (post:=[.list g.edges.length cb tb]) hso0.1 hn1 hLa.len (by decide) htk hF1 (fun e=>by
  have h0:g.nodes.length=0:=by have:=hLa.len;rw[e]at this;simp at this;omega
  have h1:g.nodes=[]:=bF h0;rw[hv,h1];rfl) rfl (by simp only[aY,hso0.2,ap]) hT1 (aM _)
 rw[aN,aN]at j1;have hT2:=kr (ns:=ns1) (aK (s:=2) (c:=[.list g.nodes.length ca ta,.list g.edges.length cb tb]) hTB2) (aM _);simp only[↓pa,pb,ai,↓reduceIte,reduceEqDiff,reduceAdd,dz,nV,hk1,hu];generalize hS:dI ((ar (.list g.nodes.length ca ta)).map (·.1)) ns1 (bP (bn ns []) 2 [.list g.nodes.length ca ta,.list g.edges.length cb tb])=S1 at*;have hfl:S1.fl<=S1.nx:=by rw[<-hS];exact aM _
 have hT3:aL S1 (al [q1]++ar (.list g.edges.length cb tb)++al []):=by
  simpa only[al,aD,aN]using j5
 refine qL (Fu K (cq (g.nodes.map fM) k) g.edges hk hso0.2 hLb (dY hT3 (fun j=>by simp only[bh];omega) (fun q hq=>by simp[hq]))) (fun p2 ns2 hu2 hF2 hv2 htk2=>?_);obtain⟨q2,i1,i2,i3,i4,i5⟩:=H6 (r:=I (cH (g.edges.map fY) (cq (g.nodes.map fM) k):Nat)) (s:=dI ((ar (.list g.edges.length cb tb)).map (·.1)) ns2 S1) (pre:=[q1]) (post:=[]) hso0.2 hn2 hLb.len (by decide) htk2 hF2 (fun e=>by
  have h0:g.edges.length=0:=by have:=hLb.len;rw[e]at this;simp at this;omega
  have h1:g.edges=[]:=bF h0;rw[hv2,h1];rfl) (by simp only[aY,j2,ap]) rfl hT3 hfl
 simp only[a8,aN]at i1;simp only[↓pa,pb,↓reduceIte,reduceCtorEq,dz,j1,hu2,i1];refine⟨_,rfl,rfl,?_,?_,by simpa [ar,al]using i5,rfl,?_⟩
 ·show dh _ _=true;have a1:off _ _=true:=j3;have a2:off _ _=true:=i3;simp only[dh,a1,a2,ap]
 ·simp only[aJ,aY,j2,i2,ap]
 ·simp only[m7,cG,aH,bM,j4,i4,hv,hv2];simp only[gc,nh,NX,EX,tY,tZ,b8]
def vH{g:bY}{cs:List PV}(h:aF cs=gc g):∃ ca ta cb tb,cs=[.list g.nodes.length ca ta,.list g.edges.length cb tb]/\aF ca=g.nodes.flatMap nc/\aF cb=g.edges.flatMap ec:=by
 obtain⟨c,d,rfl⟩:∃ c d,cs=[c,d]:=by
  have:=bq List.length h;rw[bw]at this
  match cs,this with
  | [c,d],_=>exact⟨c,d,rfl⟩
 simp only[cG,aH,bM,gc,List.cons.injEq,lE]at h;obtain⟨ca,ta,rfl,hca,-⟩:=bt h.1;obtain⟨cb,tb,rfl,hcb,-⟩:=bt h.2;exact⟨ca,ta,cb,tb,rfl,hca,hcb⟩
def wW{α:Type}{enc:α->List PV}{m:Nat}(hm:∀ a,(enc a).length=m)(h0:0<m){l:List α}{cs:List PV}(h:aF cs=l.flatMap enc):cs=[]↔l.length=0:=by
 have h1:cs.length=l.length*m:=by rw[<-bw,h,bN enc m hm]
 constructor
 ·rintro rfl;rcases iB l.length with h2|h2
  ·exact h2
  ·have:=Nat.mul_pos h2 h0;simp at h1;omega
 ·intro h2;exact bF (by rw[h1,h2,Nat.zero_mul])
def zj{a:List (Nat×Nat)}{b:List Nat}{k:Nat}{g:bY}{cs ds:List PV}{ns:List Nat}(ha:a=g.nodes.map fM)(hb:b=g.edges.map fY)(hst:aF cs=gc g)(hs:aY cs=true)(hT:aL st (al cs))(hd:aF ds=gc (nh a b k))(hF:cR st.nx ns (.agg ds))(hf:st.fl<=st.nx):
  ∃ x y,gC ((al cs).map (·.1)) (gF cs ds) cs=[x,y]/\aY [x,y]=true/\aI [x,y]=true/\aF [x,y]=gc (nh a b k)/\aL (dI ((al cs).map (·.1)) ns st) (al [x,y]):=by
 obtain⟨ca,ta,cb,tb,rfl,hca,hcb⟩:=vH hst;obtain⟨da,ua,db,ub,rfl,hda,hdb⟩:=vH hd;have l1:(nh a b k).nodes.length=g.nodes.length:=by simp only[nh,tY,ha,b8]
 have l2:(nh a b k).edges.length=g.edges.length:=by simp only[nh,tZ,hb,b8]
 have z1:=wW cC (by decide) hda;have z2:=wW cw (by decide) hdb;rw[l1]at z1 hF hd ⊢;rw[l2]at z2 hF hd ⊢;obtain⟨x,y,h1,h2,h3,h4,h5,h6⟩:=Mo (wW cC (by decide) hca) (wW cw (by decide) hcb) z1 z2 hs hT rfl hF hf;exact⟨x,y,h1,h2,h3,by rw[<-hd];simp only[cG,aH,bM,h4,h5],h6⟩
def rE{x:pX}{cs:List PV}(h:aF cs=iE x):∃ ds,cs=I x.code::I x.at_::ds/\aF ds=gc x.graph:=by
 obtain⟨a,b,c,d,rfl⟩:∃ a b c d,cs=[a,b,c,d]:=by
  have hl:cs.length=4:=by rw[<-bw,h];rfl
  match cs,hl with
  | [a,b,c,d],_=>exact⟨a,b,c,d,rfl⟩
 simp only[cG,aH,iE,List.cons.injEq]at h;obtain⟨h1,h2,h3⟩:=h;have e1:a=I x.code:=by cases a<;>simp_all [aC,ren]
 have e2:b=I x.at_:=by cases b<;>simp_all [aC,ren]
 exact⟨[c,d],by rw[e1,e2],by simp only[cG,aH,h3];rfl⟩
def rc{c i:Int}{cs:List PV}:al (I c::I i::cs)=al cs:=by simp[al,ar]
def tE{nx:Nat}{ns:List Nat}{c i:Int}{ds:List PV}(h:cR nx ns (.agg (I c::I i::ds))):cR nx ns (.agg ds):=
 ⟨by have:=h.tk;simpa [ar,al]using this,by have:=h.so;simpa [aJ,aY]using this,by have:=h.np;simpa [np,off,dh,aI]using this⟩
def Ky(K:bJ cf)(k:Nat)(x:pX)(hk:cH (x.graph.edges.map fY) (cq (x.graph.nodes.map fM) k)<=1000000000000){cs:List PV}(hst:aF cs=gc x.graph)(hs:aY cs=true)(hn:aI cs=true)(hT:aL st (al cs)):
  ∃ p ns,uP cf 34 [.agg (I x.code::I x.at_::cs),I k] st=some (I (cH (x.graph.edges.map fY) (cq (x.graph.nodes.map fM) k):Nat),p,dI ((al cs).map (·.1)) ns st)/\cR st.nx ns p/\aC p= .agg (iE ⟨x.code,x.at_,nh (x.graph.nodes.map fM) (x.graph.edges.map fY) k⟩)/\cD [.agg (I x.code::I x.at_::cs),I k] [0] st=(al cs).map (·.1):=by
 rw[<-rc (c:=x.code) (i:=x.at_)];refine Fi K.tab (cs:=I x.code::I x.at_::cs) (f:=34) (F:=FB34) (t:=4) rfl rfl rfl (by simpa [aY,aJ]using hs) hn (by rw[rc];exact hT) (lb rfl) 1 (fun c0 ns hst0 hnp0 hso0 hTB=>?_);have hst1:aF c0=iE x:=by
  rw[hst0,cG,aH,aH,<-cG,hst];rfl
 clear hs hn hT hst hst0;obtain⟨ds,rfl,hd⟩:=rE hst1;have hs:aY ds=true:=by simpa [aY,aJ]using hso0
 have hn:aI ds=true:=hnp0;have hT:aL (bn ns []) (al ds):=by rw[rc]at hTB;exact hTB
 clear hso0 hnp0 hTB hst1;have hm:∀ {st:St},aL st (al ds)->_:=fun{st} h=>Kz (st:=st) K k x.graph hk hd hs hn h;obtain⟨ca,ta,cb,tb,rfl,-,-⟩:=vH hd;unfold FB34 qr qm qi ql qf qo;simp only[↓pa,pb,ai,↓reduceIte,reduceEqDiff,reduceAdd,reduceLeDiff,dz];refine BQ hn (hm (aK hT)) (fun es ns1 hu hF hv htk=>?_);obtain⟨p,q,h1,h2,h3,h4,h5⟩:=zj rfl rfl hd hs (aK hT) hv hF (aM _);have hkk:kU (some (I (cH (x.graph.edges.map fY) (cq (x.graph.nodes.map fM) k):Nat),.agg es,dI ((al [.list x.graph.nodes.length ca ta,.list x.graph.edges.length cb tb]).map (·.1)) ns1 (bP (bn ns []) 2 [I x.code,I x.at_,.list x.graph.nodes.length ca ta,.list x.graph.edges.length cb tb]))) [.agg [.list x.graph.nodes.length ca ta,.list x.graph.edges.length cb tb],I k] (bP (bn ns []) 2 [I x.code,I x.at_,.list x.graph.nodes.length ca ta,.list x.graph.edges.length cb tb]) (.agg [I x.code,I x.at_,.list x.graph.nodes.length ca ta,.list x.graph.edges.length cb tb])= .agg [I x.code,I x.at_,p,q]:=by
  rw[H7,htk]
  show PV.agg (I x.code::I x.at_::gC _ _ [.list x.graph.nodes.length ca ta,.list x.graph.edges.length cb tb])=_;rw[h1]
 simp only[↓pa,pb,↓reduceIte,reduceCtorEq,dz,hu,hkk];refine⟨_,rfl,rfl,h3,by simpa [aJ,aY]using h2,?_,rfl,?_⟩
 ·have:ar (.agg [I x.code,I x.at_,p,q])=al [p,q]:=by simp[ar,al]
  rw[this];exact h5
 ·rw[m7];simp only[cG,aH,bM]at h4 ⊢;simp only[gc,List.cons.injEq,lE]at h4;simp only[iE,h4.1,h4.2,az]
def I2(K:bJ cf){k:Nat}{x:pX}(hk:cH (x.graph.edges.map fY) (cq (x.graph.nodes.map fM) k)<=1000000000000){p q:PV}(hst:aF [p,q]=gc x.graph)(hs:aY [p,q]=true)(hn:aI [p,q]=true)(hT:aL st (al [p,q]))(hf:st.fl<=st.nx)
  (kk:∀ ns ds l u v,(∀ z∈l,((al [p,q]).map (·.1)).contains z.1=true)->uP cf 34 [.agg [I x.code,I x.at_,p,q],I k] st=some (I (cH (x.graph.edges.map fY) (cq (x.graph.nodes.map fM) k):Nat),.agg ds,dI ((al [p,q]).map (·.1)) ns st)->
   (∀ q',kU (uP cf 34 [.agg [I x.code,I x.at_,p,q],I k] st) [.agg [I x.code,I x.at_,p,q],I k] st q'=iO ((al [p,q]).map (·.1)) l q')->
   gC ((al [p,q]).map (·.1)) l [I x.code,I x.at_,p,q]=[I x.code,I x.at_,u,v]->aI [u,v]=true->aF [u,v]=gc (nh (x.graph.nodes.map fM) (x.graph.edges.map fY) k)->
   A (mk (I (cH (x.graph.edges.map fY) (cq (x.graph.nodes.map fM) k):Nat)) (yH ((al [p,q]).map (·.1)) l st (dI ((al [p,q]).map (·.1)) ns st)))):
  cP (uR (uP cf 34 [.agg [I x.code,I x.at_,p,q],I k] st) [.agg [I x.code,I x.at_,p,q],I k] st) mk A:=by
 refine BQ (by exact hn) (Ky K k x hk hst hs hn hT) (fun ds ns hu hF hv htk=>?_);obtain⟨es,rfl,hes⟩:=rE hv;obtain⟨u,v,h1,h2,h3,h4,h5⟩:=zj rfl rfl hst hs hT hes (tE hF) hf;have hsel:gF (I x.code::I x.at_::[p,q]) (I x.code::I x.at_::es)=gF [p,q] es:=rfl;have hin:=MC (cs:=[p,q]) (ds:=es);have hk2:=kk ns (I x.code::I x.at_::es) (gF [p,q] es) u v hin hu (fun q'=>by rw[hu,H7,htk,hsel]) (by show I x.code::I x.at_::gC _ _ [p,q]=_;rw[h1]) h3 h4;exact hk2
def Bs{c:Nat}:∀ (l:List Nd) (k:Nat),(∀ n∈l,n.labels.length<=10/\n.fields.length<=20)->cq (l.map fM) k<=k+l.length*51
 | [],k,_=>by simp[cq]
 |n::l,k,h=>by
  have ih:=Bs (c:=c) l (k+1+n.labels.length+2*n.fields.length) fun x hx=>h x (bU _ hx);have h1:=h n List.mem_cons_self;rw[aH,fM,cq,au,gr];omega
def Bt:∀ (l:List Eg) (k:Nat),(∀ n∈l,n.fields.length<=20)->cH (l.map fY) k<=k+l.length*44
 | [],k,_=>by simp[cH]
 |n::l,k,h=>by
  have ih:=Bt l (k+4+2*n.fields.length) fun x hx=>h x (bU _ hx);have h1:=h n List.mem_cons_self;rw[aH,fY,cH,au,gr];omega
def JK{g:bY}(h:jO g)(k:Nat):cH (g.edges.map fY) (cq (g.nodes.map fM) k)<=k+27800:=by
 have h1:=Bs (c:=0) g.nodes k fun n hn=>⟨(h.ns n hn).1,(h.ns n hn).2.1⟩;have h2:=Bt g.edges (cq (g.nodes.map fM) k) fun n hn=>(h.es n hn).1;have:=h.nl;have:=h.el;omega
def v6:jO g0:=⟨aM _,aM _,fun n hn=>(by cases hn),fun n hn=>(by cases hn)⟩
def JJ(g:bY)(l:List Ch):jO (lJ wS g l).graph:=by
 unfold lJ;split
 ·exact v6
 ·split
  ·exact v6
  ·rename_i h;split
   ·exact v6
   ·exact A2 l 0 (wT (by simpa using h))
def HQ{g:bY}(h:jO g):DV g:=
 ⟨by have:=h.nl;omega,by have:=h.el;omega,fun x hx=>by have:=h.ns x hx;exact⟨by omega,by omega⟩,fun x hx=>by have:=h.es x hx;omega⟩
def Fb:∀ (l:List Ch) (k:Nat),iy (l.map kV) k<=k+l.length*20+4* (l.map ke).sum
 | [],k=>by simp[iy]
 |c::l,k=>by
  have ih:=Fb l (mE k (kV c));have h2:mE k (kV c)=k+2+c.node.labels.length+2*c.node.fields.length+4+2*c.edge.fields.length+3:=rfl;have h4:= @jc _ List.length c.node.labels;have h5:= @jc _ mn c.node.fields;have h6:= @jc _ mn c.edge.fields;have h7:ke c=fk List.length c.node.labels+fk mn c.node.fields+(c.edge.type.length+fk mn c.edge.fields)+c.name.length+c.value.length+c.text.length:=rfl;rw[aH,iy,au,aH,List.sum_cons,gr];omega
def CB{cs ds:List PV}{n:Nat}{t:aB}(h:aI cs=true)(h2:aI ds=true):([.agg cs,.list n ds t]:List PV).all bR=true:=by
 simp only[cN,cU,bR,az,h,h2,ap]
def Ev{cs ds:List PV}(h:aI cs=true)(h2:aI ds=true):([.agg cs,.agg ds]:List PV).all bR=true:=by
 simp only[cN,cU,bR,az,h,h2,ap]
def LH{cs:List PV}{n:Int}(h:aI cs=true):([.agg cs,I n]:List PV).all bR=true:=by
 simp only[cN,cU,bR,az,h,ap]
def Nj(K:bJ cf)(hI:rQ cf)(g:bY)(l:List Ch)(hG:G5 g)(hl:l.length<=fC)(hL:∀ c∈l,ul c):av cf 6 [.agg (gc g),HX l] [] st=some (.bool true,st):=by
 refine cQ K.tab (F:=F6) (t:=4) rfl rfl rfl (lb rfl) (by simp[dW,iU]) (ce _) 1 ?_;have hszA:=fun st=>M3 (st:=st) K g hG 1048576 (by omega);have e48:((1048576:Nat):Int)=1048576:=rfl;rw[e48]at hszA;have hgp:=C1 g;have hgl:=MT g;have hgt:List.take 2 (gc g)=gc g:=rfl;have hp:=iU l;unfold F6 qg qr qd qm qi qc qb qk ql qt qu qx qs qo qN;simp only[↓pa,pb,ai,↓reduceIte,reduceEqDiff,reduceLeDiff,hgl,hgt,hszA];by_cases hs:lQ g<=1048576;rotate_left
 ·have hd:eh 1048576 (lQ g)= -1:=by rw[eh,ad hs]
  simp only[↓pa,pb,↓reduceIte,Int.reduceLT,hd]
 have hd:eh 1048576 (lQ g)=((1048576-lQ g:Nat):Int):=by rw[eh,ak hs]
 have hszB:=fun st=>L3 (st:=st) K l hl hL (1048576-lQ g) (by omega);simp only[↓pa,pb,↓reduceIte,reduceEqDiff,hd,uJ,hszB];by_cases hs2:fk ke l<=1048576-lQ g;rotate_left
 ·have hd2:eh (1048576-lQ g) (fk ke l)= -1:=by rw[eh,ad hs2]
  simp only[↓pa,pb,↓reduceIte,Int.reduceLT,hd2]
 have hd2:eh (1048576-lQ g) (fk ke l)=((1048576-lQ g-fk ke l:Nat):Int):=by rw[eh,ak hs2]
 have hFa:=LR hs;have hll:l.length<=2000000:=by have:= @jc _ ke l;omega
 have hCf:∀ c∈l,mY c:=fun c hc=>Kj (by have:=Ab (m:=ke) hc;omega);have hsame:=GO (g:=g) l;have hok:=JJ g l;generalize hR:lJ wS g l=R at*;have hFR:=HQ hok;have hrl:(iE R).length=4:=rfl;have hrt:List.take 4 (iE R)=iE R:=rfl;have hrp:=sS R;have hpc:bD [.int .i64 0,.int .i64 0,.list 0 [] .nil,.list 0 [] .nil] 0 (iE R)=iE R:=rfl;simp only[↓pa,pb,ai,↓reduceIte,reduceEqDiff,reduceLeDiff,hd2,uJ,hgl,hgt];refine dK (B6 K g hFa) (fun r ns hFr hr=>?_);obtain⟨c1,rfl,hc1⟩:=eI hr;simp only[↓pa,pb,↓reduceIte,reduceEqDiff];refine dK (xd K l hll hCf) (fun r' ns' hFr' hr'=>?_);obtain⟨c2,t2,rfl,hc2,-⟩:=bt hr';simp only[↓pa,pb,↓reduceIte,reduceEqDiff];refine GX (p:= .agg (iE R)) ?_ ?_ (fun fl hfl=>?_)
 ·rw[rW (bs:=[.agg (gc g),HX l]) (by simp only[aH,bM,az,hc1,hc2]) (CB hFr.np hFr'.np) (by simp[dW,iU]),<-hR];exact M6 K g l hll hCf
 ·simp only[St.more_fl,St.more_nx];exact aM _
 simp only[↓pa,pb,ai,↓reduceIte,reduceEqDiff,reduceAdd,reduceLeDiff,jk,hgl,hgt,hrl,hpc];generalize hS0:bP (bP (cZ (((bP (bn [] []) 2 (gc g)).more ns).more ns') fl) 6 [.int .i64 0,.int .i64 0,.list 0 [] .nil,.list 0 [] .nil]) 6 (iE R)=S0 at*;have o2:S0.objs 2=some (gc g):=by rw[<-hS0];simp only[pb,ai,↓reduceIte,reduceEqDiff,jk]
 have o6:S0.objs 6=some (iE R):=by rw[<-hS0];simp only[pb,↓reduceIte]
 have hf0:S0.fl<=S0.nx:=by rw[<-hS0];exact hfl
 clear hS0 hFr hFr' hr hr' hfl;refine dK (B6 K g hFa) (fun r2 ns2 hFr2 hr2=>?_);obtain⟨c7,rfl,hst7⟩:=eI hr2;have hl7:c7.length=2:=by rw[<-bw,hst7];rfl
 obtain⟨x7,y7,rfl⟩:∃ x y,c7=[x,y]:=by
  match c7,hl7 with
  | [x,y],_=>exact⟨x,y,rfl⟩
 have hT1:=cV (st:=S0) fp hf0 ns2;have htk7:al [x7,y7]=cj S0.nx ns2:=by have:=hFr2.tk;simpa [ar]using this
 rw[aN,<-htk7]at hT1;have hso7:aY [x7,y7]=true:=by simpa [aJ]using hFr2.so
 have hnp7:aI [x7,y7]=true:=hFr2.np;simp only[↓pa,pb,ai,↓reduceIte,reduceEqDiff,reduceAdd,reduceLeDiff];generalize hS1:bP (bP (S0.more ns2) 7 [PV.list 0 [] aB.nil,PV.list 0 [] aB.nil]) 7 [x7,y7]=S1 at*;have p2:S1.objs 2=some (gc g):=by rw[<-hS1];simp only[pb,↓reduceIte,reduceEqDiff,jk,o2]
 have p6:S1.objs 6=some (iE R):=by rw[<-hS1];simp only[pb,↓reduceIte,reduceEqDiff,jk,o6]
 have p7:S1.objs 7=some [x7,y7]:=by rw[<-hS1];simp only[pb,↓reduceIte]
 have hT1:aL S1 (al [x7,y7]):=by rw[<-hS1];exact aK (aK hT1)
 have hf1:S1.fl<=S1.nx:=by rw[<-hS1];show(S0.more ns2).fl<=(S0.more ns2).nx;rw[St.more_fl,St.more_nx];omega
 clear hS1 hFr2 hr2 htk7 o2 o6 hf0;refine dK (xd K l hll hCf) (fun r2 ns2 hFr2 hr2=>?_);obtain⟨c8,t8,rfl,hst8,-⟩:=bt hr2;have hT2:=cV (st:=S1) hT1 hf1 ns2;rw[<-hFr2.tk]at hT2;have hso8:=hFr2.so;have hnp8:aI c8=true:=hFr2.np;have o2:(S1.more ns2).objs 2=some (gc g):=by rw[St.more_objs];exact p2
 have o6:(S1.more ns2).objs 6=some (iE R):=by rw[St.more_objs];exact p6
 have o7:(S1.more ns2).objs 7=some [x7,y7]:=by rw[St.more_objs];exact p7
 have hf2:(S1.more ns2).fl<=(S1.more ns2).nx:=by rw[St.more_fl,St.more_nx];omega
 generalize S1.more ns2=S2 at*;clear hFr2 hr2 p2 p6 p7 hf1 hT1;have h32:∀ {st:St} {cs ds:List PV} {t:aB},aF cs=gc g->aF ds=l.flatMap cc->aI cs=true->aI ds=true->∃ r ns,av cf 32 [.agg cs,.list l.length ds t] [] st=some (r,st.more ns)/\cR st.nx ns r/\aC r= .agg (iE R):=fun{st cs ds t} h1 h2 h3 h4=>by
  rw[rW (bs:=[.agg (gc g),HX l]) (by simp only[aH,bM,az,h1,h2]) (CB h3 h4) (by simp[dW,iU])];obtain⟨r,ns,a1,a2,a3,a4,a5⟩:=M7 (st:=st) K hI g l hll hCf;refine⟨_,ns,a1,⟨by simpa [ar]using a2,by simpa [aJ]using a5,a4⟩,?_⟩;obtain⟨p,q,rfl,hg⟩:=a3.sh;rw[hsame]at hg ⊢;have hst:=hg.st;simp only[cG,aH,bM]at hst;simp only[gc,List.cons.injEq,lE]at hst;rw[m7];simp only[cG,aH,bM,iE,hst.1,hst.2,az]
 simp only[↓pa,pb,ai,↓reduceIte,reduceEqDiff,reduceAdd,reduceLeDiff,o7];refine dK (h32 hst7 hst8 hnp7 hnp8) (fun r9 ns3 hFr9 hr9=>?_);obtain⟨c9,rfl,hst9⟩:=eI hr9;obtain⟨d9,rfl,hst9'⟩:=rE hst9;obtain⟨x9,y9,rfl⟩:∃ x y,d9=[x,y]:=by
  have hl:d9.length=2:=by rw[<-bw,hst9'];rfl
  match d9,hl with
  | [x,y],_=>exact⟨x,y,rfl⟩
 have hT3:=cV hT2 hf2 ns3;have htk9:al [x9,y9]=cj S2.nx ns3:=by have:=(tE hFr9).tk;simpa [ar]using this
 rw[<-htk9]at hT3;have hso9:aY [x9,y9]=true:=by simpa [aJ]using(tE hFr9).so
 have hnp9:aI [x9,y9]=true:=(tE hFr9).np;simp only[↓pa,pb,ai,↓reduceIte,reduceEqDiff,reduceAdd,reduceLeDiff,jk,hrl,hrt,o6];generalize hS3:bP (bP (S2.more ns3) 9 [.int .i64 0,.int .i64 0,.list 0 [] .nil,.list 0 [] .nil]) 9 [I R.code,I R.at_,x9,y9]=S3 at*;have p2:S3.objs 2=some (gc g):=by rw[<-hS3];simp only[pb,↓reduceIte,reduceEqDiff,jk,o2]
 have p6:S3.objs 6=some (iE R):=by rw[<-hS3];simp only[pb,↓reduceIte,reduceEqDiff,jk,o6]
 have p7:S3.objs 7=some [x7,y7]:=by rw[<-hS3];simp only[pb,↓reduceIte,reduceEqDiff,jk,o7]
 have p9:S3.objs 9=some [I R.code,I R.at_,x9,y9]:=by rw[<-hS3];simp only[pb,↓reduceIte]
 have hT3:aL S3 (al [x7,y7]++ar (.list l.length c8 t8)++al [x9,y9]):=by rw[<-hS3];exact aK (aK hT3)
 have hf3:S3.fl<=S3.nx:=by rw[<-hS3];show(S2.more ns3).fl<=(S2.more ns3).nx;rw[St.more_fl,St.more_nx];omega
 clear hS3 hFr9 hr9 htk9 o2 o6 o7 hf2 hT2;have h33:∀ {st:St} {cs:List PV},aF cs=iE R->aI cs=true->av cf 33 [.agg cs,.agg (iE R)] [] st=some (.bool true,st):=fun{st cs} h1 h2=>by
  rw[rW (bs:=[.agg (iE R),.agg (iE R)]) (by simp only[aH,bM,m7,h1,hrp.2.1]) (Ev h2 hrp.1) (by simp[ej hrp])];exact Nm K R hFR
 have h33a:=fun st=>h33 (st:=st) hst9 hnp9;simp only[↓pa,↓dx,pb,ai,cB,↓reduceIte,reduceEqDiff,reduceAdd,reduceLeDiff,hgl,hgt,p2,p7,h33a];refine dK (B6 K g hFa) (fun r3 ns4 hFr3 hr3=>?_);obtain⟨c33,rfl,hc33⟩:=eI hr3;have hnp33:aI c33=true:=hFr3.np;have h13a:∀ st:St,av cf 13 [.agg [x7,y7],.agg c33] [] st=some (.bool true,st):=fun st=>by
  rw[rW (bs:=[.agg (gc g),.agg (gc g)]) (by simp only[aH,bM,m7,hst7,hc33]) (Ev hnp7 hnp33) (by simp[dW])];exact IM K g hFa
 have hT4:aL (S3.more ns4) (al [x7,y7]++ar (.list l.length c8 t8)++al [x9,y9]):=dY (cV hT3 hf3 ns4) (fun j=>by simp only[bh];omega) (fun q hq=>by rw[ay];exact .inl hq);have o2:(S3.more ns4).objs 2=some (gc g):=by rw[St.more_objs];exact p2
 have o6:(S3.more ns4).objs 6=some (iE R):=by rw[St.more_objs];exact p6
 have o7:(S3.more ns4).objs 7=some [x7,y7]:=by rw[St.more_objs];exact p7
 have o9:(S3.more ns4).objs 9=some [I R.code,I R.at_,x9,y9]:=by rw[St.more_objs];exact p9
 have hf4:(S3.more ns4).fl<=(S3.more ns4).nx:=by rw[St.more_fl,St.more_nx];omega
 generalize S3.more ns4=S4 at*;clear hFr3 hr3 hT3 hf3 p2 p6 p7 p9;simp only[↓pa,↓dx,pb,cB,fD,aj,ah,↓reduceIte,reduceEqDiff,h13a,pJ hgp.1];refine dK (xd K l hll hCf) (fun r3 ns4 hFr3 hr3=>?_);obtain⟨c34,t34,rfl,hc34,-⟩:=bt hr3;have hnp34:aI c34=true:=hFr3.np;have h19:∀ st:St,av cf 19 [.list l.length c8 t8,.list l.length c34 t34] [] st=some (.bool true,st):=fun st=>by
  rw[rW (bs:=[HX l,HX l]) (by simp only[aH,bM,az,hst8,hc34]) (by simp only[cN,cU,bR,az,hnp8,hnp34,ap]) (by simp[iU])];exact No K l hll hCf
 have hT5:aL (S4.more ns4) (al [x7,y7]++ar (.list l.length c8 t8)++al [x9,y9]):=dY (cV hT4 hf4 ns4) (fun j=>by simp only[bh];omega) (fun q hq=>by rw[ay];exact .inl hq);have p2:(S4.more ns4).objs 2=some (gc g):=by rw[St.more_objs];exact o2
 have p6:(S4.more ns4).objs 6=some (iE R):=by rw[St.more_objs];exact o6
 have p7:(S4.more ns4).objs 7=some [x7,y7]:=by rw[St.more_objs];exact o7
 have p9:(S4.more ns4).objs 9=some [I R.code,I R.at_,x9,y9]:=by rw[St.more_objs];exact o9
 have hf5:(S4.more ns4).fl<=(S4.more ns4).nx:=by rw[St.more_fl,St.more_nx];omega
 generalize S4.more ns4=S5 at*;clear hFr3 hr3 hT4 hf4 o2 o6 o7 o9;simp only[↓pa,pb,ai,↓reduceIte,reduceEqDiff,reduceAdd,reduceLeDiff,p7,h19];have hz1:=C9 g 1;have hb1:cH (g.edges.map fY) (cq (g.nodes.map fM) 1)<=1000000000000:=by omega
 have hm:=Ma (st:=S5) K 1 g hb1 hst7 hso7 hnp7 (dY hT5 (fun j=>by simp only[bh];omega) (fun q hq=>by simp[hq]));have e1:((1:Nat):Int)=1:=rfl;rw[e1]at hm;generalize cH (g.edges.map fY) (cq (g.nodes.map fM) 1)=k2 at*;have hap:∀ q∈ar (.list l.length c8 t8)++al [x9,y9],q.1∉(al [x7,y7]).map (·.1):=fun q hq=>l7 (X:=[]) (B:=al [x7,y7]) (Y:=ar (.list l.length c8 t8)++al [x9,y9]) (by simpa [bl]using hT5) q (by simpa using hq);have hk8:bV ((al [x7,y7]).map (·.1)) (.list l.length c8 t8)= .list l.length c8 t8:=lv hso8 fun q hq=>hap q (by simp[hq]);have hkp:= @jU ((al [x7,y7]).map (·.1)) _ hp;have hT6:=kr (st:=S5) (A:=[]) (B:=al [x7,y7]) (C:=ar (.list l.length c8 t8)++al [x9,y9]) (ns:=[]) (by simpa [bl]using hT5) hf5;refine⟨_,_,hm.1,?_⟩;have o2:(dI ((al [x7,y7]).map (·.1)) [] S5).objs 2=some (gc g):=by rw[qB,p2];exact bq some (s9 hgp)
 have o6:(dI ((al [x7,y7]).map (·.1)) [] S5).objs 6=some (iE R):=by rw[qB,p6];exact bq some (s9 hrp)
 have o9:(dI ((al [x7,y7]).map (·.1)) [] S5).objs 9=some [I R.code,I R.at_,x9,y9]:=by rw[qB,p9];exact bq some (A7 (by simpa [aY,aJ]using hso9) fun q hq=>hap q (by rw[rc]at hq;simp[hq]))
 have hf6:(dI ((al [x7,y7]).map (·.1)) [] S5).fl<=(dI ((al [x7,y7]).map (·.1)) [] S5).nx:=hf5;have hT6:aL (dI ((al [x7,y7]).map (·.1)) [] S5) (ar (.list l.length c8 t8)++al [x9,y9]):=by simpa [cj]using hT6
 have hm2:=hm.2;generalize hJ7:(al [x7,y7]).map (·.1)=J7 at*;generalize dI J7 [] S5=S6 at*;clear hT5 hm hf5 p2 p6 p7 p9 hap;have hkA:∀ {J:List Nat} {fr:Fr} {t:Nat},tc J fr t=bV J (fr t):=rfl;have hkF:∀ {f:Nat} {O8:List CX} {d:Option Nat} {st:St} {fr:Fr},cJ cf (.call f O8 [0]) d st fr=tc (cD (O8.map (·.ev fr)) [0] st) fr:=rfl;simp only[↓pa,pb,↓reduceIte,reduceEqDiff,hkA,hkF,hm2,hk8,dz];have hz2:=Fb l k2;have hz3:fk ke l=l.length+(l.map ke).sum:=rfl;have hL8:iY cc 12 l c8:=uk oq hst8 hnp8;have hmu:=KA (st:=S6) K k2 l (by omega) hso8 hL8 (dY hT6 (fun j=>by simp only[bh];omega) (fun q hq=>by simp[hq]));generalize iy (l.map kV) k2=k3 at*;refine qL hmu (fun p8 ns5 hu hF5 hv htk=>?_);have hap:∀ q∈al [x9,y9],q.1∉(ar (.list l.length c8 t8)).map (·.1):=fun q hq=>l7 (X:=[]) (B:=ar (.list l.length c8 t8)) (Y:=al [x9,y9]) (by simpa using hT6) q (by simpa using hq);have hkpu:= @JZ l.length c8 [I k2] t8 (I k3) p8 (dI ((ar (.list l.length c8 t8)).map (·.1)) ns5 S6) S6 htk _ hp;have hT7:=kr (st:=S6) (A:=[]) (B:=ar (.list l.length c8 t8)) (C:=al [x9,y9]) (ns:=ns5) (by simpa using hT6) hf6;have hT7:aL (dI ((ar (.list l.length c8 t8)).map (·.1)) ns5 S6) (al [x9,y9]):=dY hT7 (fun j=>by simp only[bh];omega) (fun q hq=>by simp[hq]);have p2:(dI ((ar (.list l.length c8 t8)).map (·.1)) ns5 S6).objs 2=some (gc g):=by rw[qB,o2];exact bq some (s9 hgp)
 have p6:(dI ((ar (.list l.length c8 t8)).map (·.1)) ns5 S6).objs 6=some (iE R):=by rw[qB,o6];exact bq some (s9 hrp)
 have p9:(dI ((ar (.list l.length c8 t8)).map (·.1)) ns5 S6).objs 9=some [I R.code,I R.at_,x9,y9]:=by rw[qB,o9];exact bq some (A7 (by simpa [aY,aJ]using hso9) fun q hq=>hap q (by rw[rc]at hq;exact hq))
 have hf7:(dI ((ar (.list l.length c8 t8)).map (·.1)) ns5 S6).fl<=(dI ((ar (.list l.length c8 t8)).map (·.1)) ns5 S6).nx:=by show S6.fl<=(S6.more ns5).nx;rw[St.more_nx];omega
 generalize dI ((ar (.list l.length c8 t8)).map (·.1)) ns5 S6=S7 at*;clear hT6 hf6 o2 o6 o9 hap;simp only[↓pa,pb,ai,↓reduceIte,reduceEqDiff,reduceAdd,reduceLeDiff,hrl,hrt,hkA,wd,p6,p9,dz,hu,uJ,h33a];have hz4:=JK hok 1;refine I2 K (k:=1) (x:=R) (by omega) hst9' hso9 hnp9 hT7 hf7 (fun ns6 ds6 l6 u9 v9 hin hu6 hku hbm hnp6 hst6=>?_);rw[e1]at hku;have hb0:∀ {J:List Nat} {l:List (Nat×Nat×PV)} {s k:Nat},iO J l (.ptr s k)= .ptr s k:=rfl;have hb1:∀ {J:List Nat} {l:List (Nat×Nat×PV)} {k:IntKind} {n:Int},iO J l (.int k n)= .int k n:=rfl;have hb2:∀ {J:List Nat} {l:List (Nat×Nat×PV)} {b:Bool},iO J l (.bool b)= .bool b:=rfl;have hbp:=BM hin hp;have q2:(yH ((al [x9,y9]).map (·.1)) l6 S7 (dI ((al [x9,y9]).map (·.1)) ns6 S7)).objs 2=some (gc g):=by
  show(S7.objs 2).map _=_;rw[p2];exact bq some (zP hin hgp)
 have q6:(yH ((al [x9,y9]).map (·.1)) l6 S7 (dI ((al [x9,y9]).map (·.1)) ns6 S7)).objs 6=some (iE R):=by
  show(S7.objs 6).map _=_;rw[p6];exact bq some (zP hin hrp)
 have q9:(yH ((al [x9,y9]).map (·.1)) l6 S7 (dI ((al [x9,y9]).map (·.1)) ns6 S7)).objs 9=some [I R.code,I R.at_,u9,v9]:=by
  show(S7.objs 9).map _=_;rw[p9];exact bq some hbm
 generalize yH ((al [x9,y9]).map (·.1)) l6 S7 (dI ((al [x9,y9]).map (·.1)) ns6 S7)=S8 at*;have h35:∀ st:St,av cf 35 [.agg [I R.code,I R.at_,u9,v9],I 1] [] st=some (I (cH (R.graph.edges.map fY) (cq (R.graph.nodes.map fM) 1):Nat),st):=fun st=>by
  have hst:aF [I R.code,I R.at_,u9,v9]=iE ⟨R.code,R.at_,nh (R.graph.nodes.map fM) (R.graph.edges.map fY) 1⟩:=by
   rw[cG,aH,aH,<-cG,hst6];rfl
  rw[rW (bs:=[.agg (iE ⟨R.code,R.at_,nh (R.graph.nodes.map fM) (R.graph.edges.map fY) 1⟩),I 1]) (by simp only[aH,bM,m7,hst];rfl) (LH (cs:=[I R.code,I R.at_,u9,v9]) hnp6) (by simp[ej (sS _),aQ])];exact KB K 1 R.code R.at_ _ _ (by omega)
 generalize cH (R.graph.edges.map fY) (cq (R.graph.nodes.map fM) 1)=k4 at*;clear hu6 hbm hst6 hT7 p2 p6 p9 hin;simp only[↓pa,pb,ai,↓reduceIte,reduceEqDiff,reduceAdd,reduceLeDiff,du,hgl,hgt,hkA,wd,q2,q9,dz,hku,hb0,uJ,h35];refine dK (B6 K g hFa) (fun r4 ns7 hFr4 hr4=>?_);obtain⟨c35,rfl,hc35⟩:=eI hr4;have p6:(S8.more ns7).objs 6=some (iE R):=by rw[St.more_objs];exact q6
 have p9:(S8.more ns7).objs 9=some [I R.code,I R.at_,u9,v9]:=by rw[St.more_objs];exact q9
 generalize S8.more ns7=S9 at*;simp only[↓pa,pb,↓reduceIte,reduceEqDiff,hkA,hkp,dz,hkpu,hku,hbp];refine dK (xd K l hll hCf) (fun r5 ns8 hFr5 hr5=>?_);obtain⟨c36,t36,rfl,hc36,-⟩:=bt hr5;have hnp36:aI c36=true:=hFr5.np;have q6:(S9.more ns8).objs 6=some (iE R):=by rw[St.more_objs];exact p6
 have q9:(S9.more ns8).objs 9=some [I R.code,I R.at_,u9,v9]:=by rw[St.more_objs];exact p9
 generalize S9.more ns8=S10 at*;simp only[↓pa,pb,↓reduceIte,reduceEqDiff];refine dK (h32 hc35 hc36 hFr4.np hnp36) (fun r10 ns9 hFr10 hr10=>?_);obtain⟨c10,rfl,hst10⟩:=eI hr10;obtain⟨d10,rfl,hst10'⟩:=rE hst10;obtain⟨x10,y10,rfl⟩:∃ x y,d10=[x,y]:=by
  have hl:d10.length=2:=by rw[<-bw,hst10'];rfl
  match d10,hl with
  | [x,y],_=>exact⟨x,y,rfl⟩
 have hnp10:aI [I R.code,I R.at_,x10,y10]=true:=hFr10.np;have p6:(S10.more ns9).objs 6=some (iE R):=by rw[St.more_objs];exact q6
 have p9:(S10.more ns9).objs 9=some [I R.code,I R.at_,u9,v9]:=by rw[St.more_objs];exact q9
 generalize S10.more ns9=S11 at*;have h33b:=fun st=>h33 (st:=st) hst10 hnp10;simp only[↓pa,pb,ai,↓reduceIte,reduceEqDiff,reduceAdd,reduceLeDiff,du,hrl,hrt,hkA,wd,p6,p9,dz,hku,hb0,uJ,h35,h33b]
end Go.PM
namespace Go.PM
open Go Go.Proofs
def r6:Tryz.prog.underlying 30=some (.slice 68):=by kernel_rfl
def Bl:(Tryz.prog.info? 68).map (·.size)=some 5:=by kernel_rfl
set_option maxRecDepth 100000 in
def yl(base:Option Addr)(n c vc:Nat)(va:Addr)(w w':World)(r:Value)(hnc:n<=c)(hc:c<=9223372036854775807)(hn:base=none->n=0)
  (hrun:∀ ty,(Builtin.append_ #[30,30] ty #[.slice base n c,.slice (some va) 1 vc]).run Tryz.prog w= .ok r w'):
  Calls Tryz.prog 189 #[.slice base n c,.int .i64 n,.slice (some va) 1 vc] w fun e w1=>e= .returned r/\w1=w':=by
 go_enter Tryz.func189,Tryz.ntmps189;cases base with
 |none=>
  have h0:=hn rfl;subst h0
  go_wp2_with (at_builtin;refine Lib.wpList_append_run _ rfl _ _ _ _ rfl _ _ rfl rfl _ _ (hrun _) ?_)
  go_ret;exact⟨rfl,rfl⟩
 |some a=>
  obtain⟨ab,ao,asp⟩:=a
  go_wp2_with (at_builtin;refine Lib.wpList_append_run _ rfl _ _ _ _ rfl _ _ rfl rfl _ _ (hrun _) ?_)
  all_goals (go_ret;exact⟨rfl,rfl⟩)
set_option maxRecDepth 100000 in
def H9(b n c i vb voff vc:Nat)(us vs:List Value)(w:World)(hi:i<n)(hroom:n+1<=c)(hc63:c<=9223372036854775807)(hvb:vb≠b)
  (hul:us.length=n*5) (hvl:vs.length=5)
  (hus:∀ (j:Nat) v,us[j]? =some v->w.cell? ⟨b,j,none⟩=some v) (hsp:∀ j,j<n*5+5->(w.cell? ⟨b,j,none⟩).isSome=true) (hfz:∀ j,w.frozen? ⟨b,j,none⟩=false)
  (hvs:∀ (j:Nat) v,vs[j]? =some v->w.cell? ⟨vb,voff+j,none⟩=some v) (h1u:∀ v∈us,v.oneCell'=true) (h1v:∀ v∈vs,v.oneCell'=true)
  (hov:∀ o lb cb,(callFunc 202 #[.slice (some ⟨vb,voff,none⟩) 1 vc,.slice (some ⟨b,o,none⟩) lb cb]).run Tryz.prog w= .ok (.value (.bool false)) w):
  Calls Tryz.prog 189 #[.slice (some ⟨b,0,none⟩) n c,.int .i64 i,.slice (some ⟨vb,voff,none⟩) 1 vc] w fun e w'=>
   e= .returned (.slice (some ⟨b,0,none⟩) (n+1) c)/\w'=(w.drew.setCells b (i*5+5) (us.drop (i*5))).setCells b (i*5) vs:=by
 have hdl:(us.drop (i*5)).length=n*5-i*5:=by rw[aU,hul]
 have hz2:¬ ((i:Int)=(n:Int)):=by omega
 have hw1:IntKind.i64.wrap ((i:Int)+1)=(i:Int)+1:=by rw[jf];omega
 have hb1:(0:Int)<=(i:Int)+1:=by omega
 have hin:i<=n:=by omega
 have htn:((i:Int)+1).toNat=i+1:=by omega
 have hb2:¬ (c=i+1):=by omega
 have hb3:(i:Int)<=(n:Int)+1:=by omega
 have hb4:¬ (c=i):=by omega
 have hm1:Nat.min (n+1-i) (n-i)=n-i:=Nat.min_eq_right (by omega);have hm2:Nat.min 1 (n+1-i)=1:=fB (by omega);have hmin:Nat.min (n+1-i) (n-i) *5=n*5-i*5:=by rw[hm1];omega
 have hcp1:∀ ty dc sc,(Builtin.copy_ #[30,30] ty #[.slice (some ⟨b,i*5+5,none⟩) (n-i) dc,.slice (some ⟨b,i*5,none⟩) (n+1-i) sc]).run Tryz.prog w.drew= .ok (goInt (Nat.min (n+1-i) (n-i))) (w.drew.setCells b (i*5+5) (us.drop (i*5))):=fun ty dc sc=>
  mc w.drew 30 30 ty 68 b (i*5+5) (n-i) dc ⟨b,i*5,none⟩ (n+1-i) sc 5 (us.drop (i*5)) r6 Bl (by rw[hdl,hmin])
   (fun j v hj=>by rw[Addr.add_lit];exact hus _ v (by rwa [d5]at hj))
   (fun j hj=>hsp _ (by omega)) (fun j hj=>hfz _) (fun v hv=>h1u v (cW hv))
 obtain⟨W1,hW1⟩:∃ W1,W1=w.drew.setCells b (i*5+5) (us.drop (i*5)):=⟨_,rfl⟩;have hsp1:∀ k,k<n*5+5->(W1.cell? ⟨b,k,none⟩).isSome=true:=fun k hk=>by
  rw[hW1];exact kL b (us.drop (i*5)) (i*5+5) w.drew (fun j hj=>hsp _ (by omega)) k (hsp k hk)
 have hcp2:∀ (W:World),(∀ x,W.cell? x=W1.cell? x)->(∀ x,W.frozen? x=W1.frozen? x)->∀ ty dc,(Builtin.copy_ #[30,30] ty #[.slice (some ⟨b,i*5,none⟩) (n+1-i) dc,.slice (some ⟨vb,voff,none⟩) 1 vc]).run Tryz.prog W= .ok (goInt (Nat.min 1 (n+1-i))) (W.setCells b (i*5) vs):=fun W hWc hWf ty dc=>
  mc W 30 30 ty 68 b (i*5) (n+1-i) dc ⟨vb,voff,none⟩ 1 vc 5 vs r6 Bl (by rw[hvl,hm2])
   (fun j v hj=>by
    rw[Addr.add_lit,hWc,hW1,World.cell?_setCells_out b _ _ _ _ (fun h _=>absurd h hvb)];exact hvs j v hj)
   (fun j hj=>by rw[hWc];exact hsp1 _ (by omega)) (fun j hj=>by rw[hWf,hW1,World.frozen?_setCells];exact hfz _) h1v
 rw[<-hW1]at hcp1;have h13:(i+1) *5=i*5+5:=by omega
 clear hmin hm1 hm2 hul hvl hus hvs h1u h1v hsp hdl;go_enter Tryz.func189,Tryz.ntmps189
 go_wp2_with (simp only[hov])
 go_region_law (refine nF rfl _ _ 30 30 rfl _ _ (by simp[Act.eval,Act.put]) (by simp[Act.eval,Act.put]) (hcp1 _ _ _) ?_)
 go_wp2_with (at_builtin;refine jb _ rfl _ _ 30 30 rfl _ _ rfl rfl (hcp2 _ (fun _=>rfl) (fun _=>rfl) _ _) ?_)
 go_ret
 first|exact⟨rfl,rfl⟩|exact⟨rfl,by rw[hW1]⟩
set_option maxRecDepth 100000 in
def Ib(b n c i vb voff vc:Nat)(us vs zc:List Value)(w:World)(hi:i<n)(hnc:n<=c)(hroom:c<n+1)(hbig:n<=10000000)(hvb:vb<w.heap.size)
  (hul:us.length=n*5) (hvl:vs.length=5)
  (hus:∀ (j:Nat) v,us[j]? =some v->w.cell? ⟨b,j,none⟩=some v)
  (hvs:∀ (j:Nat) v,vs[j]? =some v->w.cell? ⟨vb,voff+j,none⟩=some v) (h1u:∀ v∈us,v.oneCell'=true) (h1v:∀ v∈vs,v.oneCell'=true)
  {i0:TypeInfo} {z:Value} (hi0:Tryz.prog.info? 68=some i0) (hz0:i0.zero=some z) (hzs:i0.size=5) (hzb:i0.bytes=64) (hzc:z.cells.size=5):
  Calls Tryz.prog 189 #[.slice (some ⟨b,0,none⟩) n c,.int .i64 i,.slice (some ⟨vb,voff,none⟩) 1 vc] w fun e w'=>
   e= .returned (.slice (some ⟨w.heap.size,0,none⟩) (n+1) (grownCap w (n+1) c 68))/\
   w'=(((w.alloc (.cells ((us.take (i*5)).toArray++Builtin.zeroCells z.cells (n+1-i)++Builtin.zeroCells z.cells (grownCap w (n+1) c 68- (n+1))) 68)).drew.setCells w.heap.size (i*5) vs).drew).setCells w.heap.size (i*5+5) (us.drop (i*5)):=by
 have hz2:¬ ((i:Int)=(n:Int)):=by omega
 have hz3:(c:Int)<(n:Int)+1:=by omega
 have hbw:b<w.heap.size:=block_lt_of_cell (hus 0 _ (ax (by omega)));have hkk:(n:Int)+1- (i:Int)=((n+1-i:Nat):Int):=by omega
 have hik:i+(n+1-i)=n+1:=by omega
 have hold:(Builtin.firstCells i0.size i (.slice (some ⟨b,0,none⟩) i c)).run Tryz.prog w.drew= .ok (us.take (i*5)).toArray w.drew:=by
  rw[hzs];exact run_firstCells_some w.drew 5 i ⟨b,0,none⟩ i c (us.take (i*5)) (by rw[aG];omega) (fun j v hj=>by
   rw[Addr.add_lit];rw[nB]at hj;split at hj
   ·rw[aq];exact hus j v hj
   ·cases hj)
 have hrz:∀ ty,(Builtin.append_ #[30,3] ty #[.slice (some ⟨b,0,none⟩) i c,.int .i64 ((n:Int)+1- (i:Int))]).run Tryz.prog w=
   .ok (.slice (some ⟨w.heap.size,0,none⟩) (n+1) (grownCap w (n+1) c 68)) (w.drew.alloc (.cells ((us.take (i*5)).toArray++Builtin.zeroCells z.cells (n+1-i)++Builtin.zeroCells z.cells (grownCap w (n+1) c 68- (n+1))) 68)):=fun ty=>by
  have h:=Lib.run_append_grow_zeros w 30 3 ty 68 i0 _ .i64 .i64 r6 (by kernel_rfl) hi0 hz0 (some ⟨b,0,none⟩) i c (us.take (i*5)) hold (n+1-i) (by omega) (by omega) (by omega) (by omega) (by rw[hzb];omega) (by rw[hzb,hik];exact growslice_fits hroom (by omega));rw[hik]at h;rw[hkk];exact h
 obtain⟨G,hG⟩:∃ G,G=grownCap w (n+1) c 68:=⟨_,rfl⟩;obtain⟨ROW,hROW⟩:∃ ROW:Array Value,ROW=(us.take (i*5)).toArray++Builtin.zeroCells z.cells (n+1-i)++Builtin.zeroCells z.cells (G- (n+1)):=⟨_,rfl⟩;rw[<-hG]at hrz ⊢;rw[<-hROW]at hrz ⊢;have hRl:n*5+5<=ROW.size:=by
  rw[hROW];simp only[Array.size_append,size_zeroCells,hzc,jH,aG,hul];omega
 obtain⟨W1,hW1⟩:∃ W1,W1=w.drew.alloc (.cells ROW 68):=⟨_,rfl⟩;rw[<-hW1]at hrz;have hN:∀ j,j<n*5+5->(W1.cell? ⟨w.heap.size,j,none⟩).isSome=true:=fun j hj=>by
  rw[hW1,World.cell?_alloc_at (w:=w.drew) ROW _ w.heap.size j rfl,gB (by omega)];rfl
 have hNf:∀ j,W1.frozen? ⟨w.heap.size,j,none⟩=false:=fun j=>by rw[hW1];exact World.frozen?_alloc_at (w:=w.drew) ROW _ w.heap.size j rfl
 have hOb:∀ j v,w.cell? ⟨b,j,none⟩=some v->W1.cell? ⟨b,j,none⟩=some v:=fun j v h=>by rw[hW1,World.cell?_alloc_past (w:=w.drew) _ b j hbw];exact h
 have hOv:∀ j v,w.cell? ⟨vb,j,none⟩=some v->W1.cell? ⟨vb,j,none⟩=some v:=fun j v h=>by rw[hW1,World.cell?_alloc_past (w:=w.drew) _ vb j hvb];exact h
 have hm2:Nat.min 1 (n+1-i)=1:=fB (by omega);have hm1:Nat.min (n-i) (n-i)=n-i:=Nat.min_self _;have hcpA:∀ (W:World),(∀ x,W.cell? x=W1.cell? x)->(∀ x,W.frozen? x=W1.frozen? x)->∀ ty dc,(Builtin.copy_ #[30,30] ty #[.slice (some ⟨w.heap.size,i*5,none⟩) (n+1-i) dc,.slice (some ⟨vb,voff,none⟩) 1 vc]).run Tryz.prog W= .ok (goInt (Nat.min 1 (n+1-i))) (W.setCells w.heap.size (i*5) vs):=fun W hWc hWf ty dc=>
  mc W 30 30 ty 68 w.heap.size (i*5) (n+1-i) dc ⟨vb,voff,none⟩ 1 vc 5 vs r6 Bl (by rw[hvl,hm2])
   (fun j v hj=>by rw[Addr.add_lit,hWc];exact hOv _ v (hvs j v hj))
   (fun j hj=>by rw[hWc];exact hN _ (by omega)) (fun j hj=>by rw[hWf];exact hNf _) h1v
 have hGn:n+1<=G:=by rw[hG];exact grownCap_ge w _ _ _
 have hG63:G<=9223372036854775807:=by
  have:=grownCap_le_maxLen w (n+1) c 68 (by unfold maxLen;omega);rw[<-hG]at this;unfold maxLen at this;omega
 have hGi:¬ (G=i):=by omega
 have hGim:¬ (G=i+1):=by omega
 have hci:¬ (c=i):=by omega
 have hbN:b≠w.heap.size:=by omega
 have hdl:(us.drop (i*5)).length=n*5-i*5:=by rw[aU,hul]
 have hcpB:∀ (W:World),(∀ x,W.cell? x=(W1.setCells w.heap.size (i*5) vs).cell? x)->(∀ x,W.frozen? x=(W1.setCells w.heap.size (i*5) vs).frozen? x)->∀ ty dc sc,(Builtin.copy_ #[30,30] ty #[.slice (some ⟨w.heap.size,i*5+5,none⟩) (n-i) dc,.slice (some ⟨b,i*5,none⟩) (n-i) sc]).run Tryz.prog W= .ok (goInt (Nat.min (n-i) (n-i))) (W.setCells w.heap.size (i*5+5) (us.drop (i*5))):=fun W hWc hWf ty dc sc=>
  mc W 30 30 ty 68 w.heap.size (i*5+5) (n-i) dc ⟨b,i*5,none⟩ (n-i) sc 5 (us.drop (i*5)) r6 Bl (by rw[hdl,hm1];omega)
   (fun j v hj=>by
    rw[Addr.add_lit,hWc,World.cell?_setCells_out _ _ _ _ _ (fun h _=>absurd h hbN)];exact hOb _ v (hus _ v (by rwa [d5]at hj)))
   (fun j hj=>by rw[hWc];exact kL w.heap.size vs (i*5) W1 (fun t ht=>hN _ (by omega)) _ (hN _ (by omega)))
   (fun j hj=>by rw[hWf,World.frozen?_setCells];exact hNf _) (fun v hv=>h1u v (cW hv))
 subst hW1;have hE1:∀ x,((w.alloc (.cells ROW 68)).drew).cell? x=(w.drew.alloc (.cells ROW 68)).cell? x:=fun x=>rfl;have hE2:∀ x,((w.alloc (.cells ROW 68)).drew).frozen? x=(w.drew.alloc (.cells ROW 68)).frozen? x:=fun x=>rfl;have hF1:∀ x,(((w.alloc (.cells ROW 68)).drew.setCells w.heap.size (i*5) vs).drew).cell? x=((w.drew.alloc (.cells ROW 68)).setCells w.heap.size (i*5) vs).cell? x:=fun x=>rfl;have hF2:∀ x,(((w.alloc (.cells ROW 68)).drew.setCells w.heap.size (i*5) vs).drew).frozen? x=((w.drew.alloc (.cells ROW 68)).setCells w.heap.size (i*5) vs).frozen? x:=fun x=>rfl;have hw1:IntKind.i64.wrap ((i:Int)+1)=(i:Int)+1:=by rw[jf];omega
 have hb1:(0:Int)<=(i:Int)+1:=by omega
 have hin:i<=n:=by omega
 have htn:((i:Int)+1).toNat=i+1:=by omega
 have hb3:(i:Int)<=(n:Int):=by omega
 have h13:(i+1) *5=i*5+5:=by omega
 clear hkk hik hold hROW hG hRl hm1 hm2 hul hvl hus hvs h1u h1v hN hNf hOb hOv hdl hzs hzb hzc hz0 hi0;go_enter Tryz.func189,Tryz.ntmps189
 go_wp2_with (first
  |(at_builtin;refine Lib.wpList_append_run _ rfl _ _ _ _ rfl _ _ rfl rfl _ _ (hrz _) ?_)
  |(at_builtin;refine jb _ rfl _ _ 30 30 rfl _ _ rfl rfl (hcpA _ hE1 hE2 _ _) ?_)
  |(at_builtin;refine jb _ rfl _ _ 30 30 rfl _ _ rfl rfl (hcpB _ (fun _=>rfl) (fun _=>rfl) _ _ _) ?_))
 go_region_law (refine nF rfl _ _ 30 30 rfl (.slice (some ⟨w.heap.size,i*5+5,none⟩) (n-i) (G- (i+1))) (.slice (some ⟨b,i*5,none⟩) (n-i) (c-i)) (by simp[Act.eval,Act.put]) (by simp[Act.eval,Act.put]) (hcpB _ hF1 hF2 3 (G- (i+1)) (c-i)) ?_)
 go_wp2;go_ret;exact⟨rfl,rfl⟩
end Go.PM
