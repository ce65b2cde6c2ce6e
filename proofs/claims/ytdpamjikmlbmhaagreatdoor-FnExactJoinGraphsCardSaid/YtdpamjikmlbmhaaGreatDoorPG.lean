/- A part of the proof: texts PhU, PhV, PhW, PhX, PhY, PhZ, joined. Conditions: none. -/
import Derived.Test.YtdpamjikmlbmhaaGreatDoorPF
set_option linter.all false
open Nat (reduceEqDiff reduceAdd reduceLeDiff reduceLT reduceMul reduceSub)
namespace Go.PM
open Go.Lib
variable {cf:au} {st:St} {mk:PV→St→Fr×St} {A:Fr×St→Prop} {s:Nat}
def l7(g:bj):List (Nat×Nat)×List Nat:=(g.nodes.map eL,g.edges.map e9)
theorem pE:∀ (l:List (Nat×Nat)) (k:Nat),(kw l k).length=l.length
 | [],_=>rfl
 |(a,b)::l,k=>by rw[kw,ao,pE l,ao]
theorem pF:∀ (l:List Nat) (k:Nat),(jQ l k).length=l.length
 | [],_=>rfl
 |b::l,k=>by rw[jQ,ao,pF l,ao]
theorem vU:∀ (l:List (List (Nat×Nat)×List Nat)) (a:List (Nat×Nat)) (b:List Nat) (k:Nat),rG (l++[(a,b)]) k=rG l k++[⟨kw a (fy l k),jQ b (bO a (fy l k))⟩]∧fy (l++[(a,b)]) k=cg b (bO a (fy l k))
 | [],a,b,k=>⟨rfl,rfl⟩
 |(x,y)::l,a,b,k=>by
  obtain⟨h1,h2⟩:=vU l a b (cg y (bO x k))
  exact⟨by simp only[aM,rG,fy,h1],by simp only[aM,fy,h2]⟩
theorem Bd:∀ (l m:List (List (Nat×Nat)×List Nat)) (k:Nat),fy (l++m) k=fy m (fy l k)
 | [],_,_=>rfl
 |(x,y)::l,m,k=>by rw[aM,fy,fy,Bd l m]
theorem rR{α:Type}{enc:α→List PV}{m:Nat}(hm:∀ a,(enc a).length=m){l:List α}{cs:List PV}(h:aB cs=l.flatMap enc)(hn:aG cs=true):kO enc m l cs:=
 ⟨by rw[←cZ,h,ce enc m hm],h,hn⟩
set_option maxHeartbeats 8000000 in
theorem Ix(K:bH cf)(k:Nat)(l:List bj)(hN:l.length≤1000000000000)(hk:fy (l.map l7) k≤1000000000000){cs:List PV}{tk:ay}(hs:aH (.list l.length cs tk)=true)(hL:kO gc 2 l cs)(hT:a6 st (aq (.list l.length cs tk))):
  ∃ p ns,uP cf 15 [.list l.length cs tk,I k] st=some (I (fy (l.map l7) k:Nat),p,ez ((aq (.list l.length cs tk)).map (·.1)) ns st)∧cW st.nx ns p∧aA p= .list l.length ((rG (l.map l7) k).flatMap gc) .no∧cX [.list l.length cs tk,I k] [0] st=(aq (.list l.length cs tk)).map (·.1):=by
 refine ug K.tab (f:=15) (F:=FB15) (t:=4) rfl rfl rfl hs hL.np hT (lb rfl) (l.length+1) (fun cs0 tk0 ns h1 h2 h3 h4 h5=>?_)
 have hcl:cs0.length=l.length*2:=by rw[h2,hL.len]
 have hst:aB cs0=l.flatMap gc:=by rw[h1,hL.st]
 clear hs hL hT h1 h2
 unfold FB15 qr qd qm qi qb qk ql qf qa qn qo
 simp only[↓pa]
 refine aX (fun q fr st=>∃ (i:Nat) (ds rs:List PV),q=l.length-i∧i≤l.length∧fr 0= .list l.length (ds++rs) tk0∧fr 1=I (fy ((l.take i).map l7) k:Nat)∧fr 5=I i∧ds.length=i*2∧aB ds=(rG ((l.take i).map l7) k).flatMap gc∧aB rs=(l.drop i).flatMap gc∧aG (ds++rs)=true∧aH (.list l.length (ds++rs) tk0)=true∧a6 st ([]++aq (.list l.length (ds++rs) tk0)++[])∧st.fl=0) l.length (by omega)
  ⟨0,[],cs0,by simp,by omega,by simp only[↓pa,aj,↓reduceIte,reduceCtorEq]<;>simp,by simp only[↓pa,↓reduceIte,reduceEqDiff]<;>simp[fy],by simp only[↓pa,↓reduceIte]<;>rfl,rfl,rfl,hst,by simpa using h3,by simpa using h4,by simpa using h5,rfl⟩ ?_
 rintro q fr st ⟨i,ds,rs,rfl,hi,f0,f1,f5,hd1,hd2,hr2,hnp,hso,hTk,hfl⟩
 simp only[↓pa,pb,aT,↓reduceIte,reduceEqDiff,reduceCtorEq,f0,f5]
 refine ab (fun h=>?_) (fun h=>?_)
 ·have hlt:i<l.length:=h
  rw[aK hlt,aI]at hr2
  have hkk:fy ((l.take (i+1)).map l7) k=cg (l[i].edges.map e9) (bO (l[i].nodes.map eL) (fy ((l.take i).map l7) k)):=by
   rw[aL hlt,bS];exact(vU _ _ _ _).2
  have hkm:rG ((l.take (i+1)).map l7) k=rG ((l.take i).map l7) k++[⟨kw (l[i].nodes.map eL) (fy ((l.take i).map l7) k),jQ (l[i].edges.map e9) (bO (l[i].nodes.map eL) (fy ((l.take i).map l7) k))⟩]:=by
   rw[aL hlt,bS];exact(vU _ _ _ _).1
  have hkl:fy ((l.take (i+1)).map l7) k≤fy (l.map l7) k:=by
   have e:l.map l7=(l.take (i+1)).map l7++(l.drop (i+1)).map l7:=by rw[←bS,eO]
   rw[e,Bd];exact CY _ _
  generalize hm:fy ((l.take i).map l7) k=m at*
  have hnm:=oh (l[i].edges.map e9) (bO (l[i].nodes.map eL) m)
  generalize hm2:bO (l[i].nodes.map eL) m=m2 at*
  obtain⟨c,d,rs',rfl⟩:∃ c d rs',rs=c::d::rs':=by
   have hlen:(aB rs).length=2+((l.drop (i+1)).flatMap gc).length:=by rw[hr2,ak,ki]
   rw[cZ]at hlen
   match rs,hlen with
   | [],h=>simp at h;omega
   | [c],h=>simp at h;omega
   |c::d::rs',_=>exact⟨c,d,rs',rfl⟩
  simp only[ct,aF,gc,aM,bf,List.cons.injEq]at hr2
  obtain⟨hr3,hr4,hr5⟩:=hr2
  rw[←ct]at hr5
  obtain⟨ca,ta,rfl,hca,-⟩:=cw hr3
  obtain⟨cb,tb,rfl,hcb,-⟩:=cw hr4
  have hrl:rs'.length+2=(l.length-i) *2:=by
   have:=aC List.length hr5
   rw[cZ,ce gc 2 ki,cV]at this
   omega
  obtain⟨j,t0,rfl⟩:=tC hso
  have len:∀ (a:List PV) (b:PV) (c:List PV),a.length+(c.length+1)=l.length*2→(a++b::c).length=l.length*2:=fun a b c h=>by rw[ak,ao];exact h
  have l0:=len ds (.list l[i].nodes.length ca ta) (.list l[i].edges.length cb tb::rs') (by simp only[ao];omega)
  have hp0:bT (ds++ .list l[i].nodes.length ca ta:: .list l[i].edges.length cb tb::rs') (i*2) 1 false=some (.list l[i].nodes.length ca ta):=pY hd1
  have hLa:kO nc 3 l[i].nodes ca:=rR dI hca (w4 hnp)
  simp (disch:=omega)only[↓pa,pb,↓reduceIte,reduceEqDiff,reduceCtorEq,f0,f1,f5,h,g9,bh,hp0]
  have hmN:=Da (st:=st) K m l[i].nodes (by rw[hm2];omega) (pN hso) hLa (qE hTk)
  rw[hm2]at hmN
  refine nN (sz:=3) (X:=[]) (Y:=[]) hmN hLa.len (by decide) (fun e=>by have:l[i].nodes=[]:=aP e;rw[this];rfl) hso hnp hTk hfl (fun p ns' q hu k1 k2 k3 k5 k6=>?_)
  have hcat1:ds++q:: .list l[i].edges.length cb tb::rs'=(ds++[q])++ .list l[i].edges.length cb tb::rs':=by simp
  rw[hcat1]at k1 k2 k3 k6
  have hp1:bT (ds++[q]++ .list l[i].edges.length cb tb::rs') (i*2+1) 1 false=some (.list l[i].edges.length cb tb):=pY (by rw[ak,hd1];rfl)
  have l1:=len (ds++[q]) (.list l[i].edges.length cb tb) rs' (by simp only[ak,ao,aV];omega)
  have hLb:kO ec 5 l[i].edges cb:=rR dl hcb (w4 k3)
  simp (disch:=omega)only[↓pa,pb,↓reduceIte,reduceEqDiff,reduceCtorEq,f0,f5,g9,hu,k1,hp1]
  refine nN (sz:=5) (X:=[]) (Y:=[]) (Dc K m2 l[i].edges (by omega) (pN k2) hLb (qE k6)) hLb.len (by decide) (fun e=>by have:l[i].edges=[]:=aP e;rw[this];rfl) k2 k3 k6 hfl (fun p2 ns2 q2 hu2 j1 j2 j3 j5 j6=>?_)
  simp (disch:=omega)only[↓pa,pb,aT,↓reduceIte,reduceEqDiff,reduceCtorEq,f0,f5,g9,k1,hu2,j1]
  have hcat:ds++[q,q2]++rs'=ds++[q]++q2::rs':=by simp
  refine⟨l.length- (i+1),by omega,i+1,ds++[q,q2],rs',rfl,by omega,by rw[hcat],by rw[hkk],rfl,by simp only[ak,hd1,ao,aV];omega,?_,hr5,by rw[hcat];exact j3,by rw[hcat];exact j2,by rw[hcat];exact j6,hfl⟩
  rw[gg,hd2,hkm,dF]
  simp only[av,k5,j5,gc,aI,je,aO,NX,EX,pE,pF,bu]
 ·have hie:l.take i=l:=bC (by omega)
  have hdr:l.drop i=[]:=cz (by omega)
  rw[hdr]at hr2
  have hrn:rs=[]:=aP (by rw[←cZ,hr2];rfl)
  subst hrn
  rw[aO]at hnp hso hTk f0
  rw[hie]at hd2 f1
  simp only[↓pa,pb,↓reduceIte,reduceEqDiff,reduceCtorEq,f0,f1,h,g9]
  refine⟨_,rfl,rfl,hnp,hso,by simpa using hTk,rfl,?_⟩
  rw[ep,hd2]
section
variable {f:Nat} {F:bn} {cs rest:List PV} {rs:List gr}
theorem AP(hr:rest.all bI=true):dy [0] (.agg cs::rest) []=aw cs:=by
 have h:rP (jA [0] 0 (.agg cs::rest)) []=[]:=by cases jA [0] 0 (.agg cs::rest)<;>rfl
 rw[dy,h,jx,pj _ _ (by omega)]
 simp[aq]
theorem Gl(hn:aG cs=true)(hk:a6 st (aw cs))(hr:rest.all bI=true)(hsp:jR ((aw cs).map (·.1)) [0] 1 rest=true){r:PV}{ns:List Nat}
  (hc:cf f (ren (bG ((aw cs).map (·.1))) false (.agg cs)::rest.map aA) ((aw cs).map (·.2)) []=some (r,ns,[])) (hs:aH r=true):
  ar cf f (.agg cs::rest) [0] st=some (ren (fun k=>some (st.nx+k)) false r,ez ((aw cs).map (·.1)) ns st)∧cX (.agg cs::rest) [0] st=(aw cs).map (·.1):=by
 have hn':np (.agg cs)=true:=hn
 have hkeys:ch (.agg cs::rest)=some []:=by
  rw[ch,ai hn']
  ·exact dX hr
  ·intros;contradiction
 have hm:=AP (cs:=cs) hr
 have hb:jX ((aw cs).map (·.1)) (jA [0] 0 (.agg cs::rest)) []=[]:=by cases jA [0] 0 (.agg cs::rest)<;>rfl
 have hbs:∀ J l,lG J l []=true:=by intro J l;cases l<;>rfl
 have hh:d9 ((aw cs).map (·.1)) [0] 0 0 (.agg cs::rest)=ren (bG ((aw cs).map (·.1))) false (.agg cs)::rest.map aA:=by
  rw[d9,rz _ _ _ _ (by omega) hr]
  ·rfl
  ·intros;contradiction
 have hs2:jR ((aw cs).map (·.1)) [0] 0 (.agg cs::rest)=true:=by rw[jR,hsp];rfl
 constructor
 ·simp only[ar,hkeys,cE,hm,m7 hk.1,hk.ok,hs2,hbs,hb,am,if_true,hh,hc,nu r hs,du,aV,dw]
  rfl
 ·simp only[cX,hkeys,cE,hm]
theorem Jz{as:List PV}(hres:F.res=rs)(hown:F.own=false)(hnt:as.length≤F.nt)(N:Nat){ns:List Nat}{v:PV}(h:Wp cf N F.body (eP as,cF ns []) (xN rs (· =v))):ff cf N F as ns []=some (v,[],[]):=by
 obtain⟨e,⟨fr,s1⟩,hev,he,ho⟩:=h
 subst hres
 revert ho
 generalize hps:ei fr s1 F.res=o1
 intro ho
 match o1,ho with
 |some ps0,ho=>
  obtain⟨hp,-,hQ⟩:=ho
  have hf:=sA (n:=0) (cs0:=[]) hown hps hp rfl rfl
  rw[hQ]at hf
  unfold ff
  rw[ai ⟨hnt,aY _⟩,hev]
  cases e with
  |go=>exact hf
  |ret=>exact hf
  |exit i=>exact he.elim
end
theorem tI(n:Nat):(((n:Nat):Int)<0)=False:=eq_false (by omega)
theorem K0{k n i:Nat}(h:i<(kx k n).length):(kx k n)[i]=(mt (k+2*i),mt (k+2*i+1)):=by simp[kx]
theorem FE:∀ (l:List (Nat×Nat)) (k i:Nat) (h:i<(kw l k).length) (h':i<l.length),(kw l k)[i]=⟨bO (l.take i) k,nQ (bO (l.take i) k+1) l[i].1,kx (bO (l.take i) k+1+l[i].1) l[i].2⟩∧bO (l.take (i+1)) k=bO (l.take i) k+1+l[i].1+2*l[i].2
 |(a,b)::l,k,0,_,_=>⟨rfl,rfl⟩
 |(a,b)::l,k,i+1,h,h'=>FE l (k+1+a+2*b) i (by simpa [kw]using h) (by simpa using h')
theorem FF:∀ (l:List Nat) (k i:Nat) (h:i<(jQ l k).length) (h':i<l.length),(jQ l k)[i]=⟨cg (l.take i) k,mt (cg (l.take i) k+1),(cg (l.take i) k+2:Nat),(cg (l.take i) k+3:Nat),kx (cg (l.take i) k+4) l[i]⟩∧cg (l.take (i+1)) k=cg (l.take i) k+4+2*l[i]
 |b::l,k,0,_,_=>⟨rfl,rfl⟩
 |b::l,k,i+1,h,h'=>FF l (k+4+2*b) i (by simpa [jQ]using h) (by simpa using h')
theorem KZ:∀ (l:List (List (Nat×Nat)×List Nat)) (k i:Nat) (h:i<(rG l k).length) (h':i<l.length),(rG l k)[i]=⟨kw l[i].1 (fy (l.take i) k),jQ l[i].2 (bO l[i].1 (fy (l.take i) k))⟩∧fy (l.take (i+1)) k=cg l[i].2 (bO l[i].1 (fy (l.take i) k))
 |(a,b)::l,k,0,_,_=>⟨rfl,rfl⟩
 |(a,b)::l,k,i+1,h,h'=>KZ l (cg b (bO a k)) i (by simpa [rG]using h) (by simpa using h')
theorem JQ:∀ (l:List (List (Nat×Nat)×List Nat)) (k:Nat),(rG l k).length=l.length
 | [],_=>rfl
 |(a,b)::l,k=>by rw[rG,ao,JQ l,ao]
theorem Ga(l:List (Nat×Nat))(i k:Nat):bO (l.take i) k≤bO l k:=by
 have e:bO l k=bO (l.drop i) (bO (l.take i) k):=by rw[←wb,eO]
 rw[e];exact uJ _ _
theorem Gb(l:List Nat)(i k:Nat):cg (l.take i) k≤cg l k:=by
 have e:cg l k=cg (l.drop i) (cg (l.take i) k):=by rw[←wd,eO]
 rw[e];exact oh _ _
set_option maxHeartbeats 1000000 in
theorem De(K:bH cf)(k n:Nat)(hk:k+2*n≤1000000000000):ar cf 61 [FX (kx k n),I k] [] st=some (I (k+2*n:Nat),st):=by
 refine cB K.tab (F:=F61) (t:=4) rfl rfl rfl (lb rfl) (by simp[ly,aQ]) (dn _ _) (n+1) ?_
 have hl:=x8 k n
 have hm:((kx k n).flatMap fc).length=n*2:=by rw[qp,hl]
 unfold F61 qr qd qm qi qb qk ql qf qt qa qn
 simp only[↓pa]
 refine aX (fun q fr st=>∃ i:Nat,q=n-i∧i≤n∧fr 0=FX (kx k n)∧fr 1=I (k+2*i:Nat)∧fr 5=I i) n (by omega) ⟨0,by simp,by omega,by simp only[↓pa,↓reduceIte,reduceCtorEq],by simp only[↓pa,↓reduceIte,reduceEqDiff,reduceMul]<;>rfl,by simp only[↓pa,↓reduceIte]<;>rfl⟩ ?_
 rintro q fr st ⟨i,rfl,hi,f0,f1,f5⟩
 simp only[↓pa,pb,aT,↓reduceIte,reduceEqDiff,reduceCtorEq,f0,f5,hl]
 refine ab (fun h=>?_) (fun h=>?_)
 ·have hlt:i<(kx k n).length:=by omega
  have hp0:=cR fc 2 (fun _=>rfl) 0 1 false (by decide) (kx k n) i hlt
  have hp1:=cR fc 2 (fun _=>rfl) 1 1 false (by decide) (kx k n) i hlt
  rw[K0 hlt]at hp0 hp1
  rw[bh]at hp0
  have ht:=fun st=>jz (st:=st) K (k+2*i) (by omega)
  have ht2:=fun st=>jz (st:=st) K (k+2*i+1) (by omega)
  simp (disch:=omega)only[↓pa,↓dV,pb,aj,cS,fS,aT,ah,af,↓reduceIte,reduceEqDiff,dD,reduceCtorEq,f0,f1,f5,hl,h,bh,hp0,hp1,fc,ht,ht2]
  exact⟨n- (i+1),by omega,i+1,rfl,by omega,by congr 1,rfl⟩
 ·have:i=n:=by omega
  subst this
  simp only[↓pa,pb,↓reduceIte,reduceEqDiff,f1,h]
set_option maxHeartbeats 1000000 in
theorem Kk(K:bH cf)(k:Nat)(l:List (Nat×Nat))(hk:bO l k≤1000000000000):ar cf 52 [.list l.length ((kw l k).flatMap nc) .no,I k] [] st=some (I (bO l k:Nat),st):=by
 have hl:=pE l k
 have hpl:cL (.list l.length ((kw l k).flatMap nc) .no):=eB (fw nc gE _)
 refine cB K.tab (F:=F52) (t:=4) rfl rfl rfl (lb rfl) (by simp[hpl,aQ]) (dn _ _) (l.length+1) ?_
 have hm:((kw l k).flatMap nc).length=l.length*3:=by rw[ce nc 3 dI,hl]
 have hN:=wa l k
 unfold F52 qg qr qd qm qi qb qk ql qf qu qa qn
 simp only[↓pa]
 refine aX (fun q fr st=>∃ i:Nat,q=l.length-i∧i≤l.length∧fr 0= .list l.length ((kw l k).flatMap nc) .no∧fr 1=I (bO (l.take i) k:Nat)∧fr 5=I i) l.length (by omega) ⟨0,by simp,by omega,by simp only[↓pa,↓reduceIte,reduceCtorEq],by simp only[↓pa,↓reduceIte,reduceEqDiff]<;>rfl,by simp only[↓pa,↓reduceIte]<;>rfl⟩ ?_
 rintro q fr st ⟨i,rfl,hi,f0,f1,f5⟩
 simp only[↓pa,pb,aT,↓reduceIte,reduceEqDiff,reduceCtorEq,f0,f5]
 refine ab (fun h=>?_) (fun h=>?_)
 ·have hlt:i<(kw l k).length:=by omega
  have hlt':i<l.length:=by omega
  obtain⟨ha,he⟩:=FE l k i hlt hlt'
  have hle:=Ga l (i+1) k
  have hp0:=cR nc 3 dI 0 1 false (by decide) (kw l k) i hlt
  have hp1:=cR nc 3 dI 1 1 false (by decide) (kw l k) i hlt
  have hp2:=cR nc 3 dI 2 1 false (by decide) (kw l k) i hlt
  rw[ha]at hp0 hp1 hp2
  rw[bh]at hp0
  generalize bO (l.take i) k=m at*
  have ht:=fun st=>Kj (st:=st) K (m+1) l[i].1 (by omega)
  have hf:=fun st=>De (st:=st) K (m+1+l[i].1) l[i].2 (by omega)
  simp (disch:=omega)only[↓pa,pb,aj,aT,↓reduceIte,reduceEqDiff,dD,reduceCtorEq,f0,f1,f5,h,bh,hp0,hp1,hp2,nc,ht,hf,tI]
  exact⟨l.length- (i+1),by omega,i+1,rfl,by omega,by rw[he],rfl⟩
 ·have:l.take i=l:=bC (by omega)
  rw[this]at f1
  simp only[↓pa,pb,↓reduceIte,reduceEqDiff,f1,h]
set_option maxHeartbeats 2000000 in
theorem Km(K:bH cf)(k:Nat)(l:List Nat)(hk:cg l k≤1000000000000):ar cf 53 [.list l.length ((jQ l k).flatMap ec) .no,I k] [] st=some (I (cg l k:Nat),st):=by
 have hl:=pF l k
 have hpl:cL (.list l.length ((jQ l k).flatMap ec) .no):=eB (fw ec jL _)
 refine cB K.tab (F:=F53) (t:=4) rfl rfl rfl (lb rfl) (by simp[hpl,aQ]) (dn _ _) (l.length+1) ?_
 have hm:((jQ l k).flatMap ec).length=l.length*5:=by rw[ce ec 5 dl,hl]
 have hN:=wc l k
 unfold F53 qg qr qd qm qi qb qk ql qf qt qu qa qn
 simp only[↓pa]
 refine aX (fun q fr st=>∃ i:Nat,q=l.length-i∧i≤l.length∧fr 0= .list l.length ((jQ l k).flatMap ec) .no∧fr 1=I (cg (l.take i) k:Nat)∧fr 5=I i) l.length (by omega) ⟨0,by simp,by omega,by simp only[↓pa,↓reduceIte,reduceCtorEq],by simp only[↓pa,↓reduceIte,reduceEqDiff]<;>rfl,by simp only[↓pa,↓reduceIte]<;>rfl⟩ ?_
 rintro q fr st ⟨i,rfl,hi,f0,f1,f5⟩
 simp only[↓pa,pb,aT,↓reduceIte,reduceEqDiff,reduceCtorEq,f0,f5]
 refine ab (fun h=>?_) (fun h=>?_)
 ·have hlt:i<(jQ l k).length:=by omega
  have hlt':i<l.length:=by omega
  obtain⟨ha,he⟩:=FF l k i hlt hlt'
  have hle:=Gb l (i+1) k
  have hp0:=cR ec 5 dl 0 1 false (by decide) (jQ l k) i hlt
  have hp1:=cR ec 5 dl 1 1 false (by decide) (jQ l k) i hlt
  have hp2:=cR ec 5 dl 2 1 false (by decide) (jQ l k) i hlt
  have hp3:=cR ec 5 dl 3 1 false (by decide) (jQ l k) i hlt
  have hp4:=cR ec 5 dl 4 1 false (by decide) (jQ l k) i hlt
  rw[ha]at hp0 hp1 hp2 hp3 hp4
  rw[bh]at hp0
  generalize cg (l.take i) k=m at*
  have ht:=fun st=>jz (st:=st) K (m+1) (by omega)
  have hf:=fun st=>De (st:=st) K (m+4) l[i] (by omega)
  simp (maxSteps:=1000000) (disch:=omega)only[↓pa,↓dV,pb,aj,cS,fS,aT,ah,af,↓reduceIte,reduceEqDiff,dD,reduceCtorEq,f0,f1,f5,h,bh,hp0,hp1,hp2,hp3,hp4,ec,ht,hf,tI]
  exact⟨l.length- (i+1),by omega,i+1,rfl,by omega,by rw[he],rfl⟩
 ·have:l.take i=l:=bC (by omega)
  rw[this]at f1
  simp only[↓pa,pb,↓reduceIte,reduceEqDiff,f1,h]
theorem nS{α:Type}(m:α→Nat)(a:α)(l:List α):eo m (a::l)=1+m a+eo m l:=by simp[eo];omega
theorem Co{α:Type}(m:α→Nat):eo m []=0:=rfl
theorem Du{α:Type}(m:α→Nat)(a b:List α):eo m (a++b)=eo m a+eo m b:=by simp[eo];omega
theorem KL(es:List Eg)(n k:Int):∀ l:List Nd,eo gy (pP es l n k)≤eo gy l
 | []=>aD _
 |x::l=>by
  have ih:=KL es n k l
  rw[pO,Du,nS]
  have:eo gy (l8 es n k x)≤1+gy x:=by
   unfold l8
   split
   ·rw[nS,Co];omega
   ·split
    ·have e:gy (⟨x.id,[],[]⟩:Nd)=0:=rfl
     rw[nS,Co,e];omega
    ·exact aY _
  omega
theorem DE(g:bj)(n:Int):∀ (j:Nat) (x:bj),x∈oJ g n j→∃ k:Int,x=IY g n k
 |0,x,h=>by simp[oJ]at h
 |j+1,x,h=>by
  rw[oJ,ax]at h
  rcases h with h|h
  ·exact DE g n j x h
  ·exact⟨j,by simpa using h⟩
theorem CW:∀ (l:List Nd) (k:Nat),bO (l.map eL) k≤k+2*eo gy l
 | [],k=>by simp[bO,eo]
 |x::l,k=>by
  have ih:=CW l (k+1+x.labels.length+2*x.fields.length)
  have h1:= @lQ _ List.length x.labels
  have h2:= @lQ _ nU x.fields
  rw[aF,eL,bO,nS]
  have h3:gy x=eo List.length x.labels+eo nU x.fields:=rfl
  omega
theorem CZ:∀ (l:List Eg) (k:Nat),cg (l.map e9) k≤k+4*eo kD l
 | [],k=>by simp[cg,eo]
 |x::l,k=>by
  have ih:=CZ l (k+4+2*x.fields.length)
  have h2:= @lQ _ nU x.fields
  rw[aF,e9,cg,nS]
  have h3:kD x=x.type.length+eo nU x.fields:=rfl
  omega
theorem Bf(g:bj)(k:Nat):cg (g.edges.map e9) (bO (g.nodes.map eL) k)≤k+4*kc g:=by
 have h1:=CW g.nodes k
 have h2:=CZ g.edges (bO (g.nodes.map eL) k)
 unfold kc
 omega
theorem J2(c:Nat):∀ (l:List bj) (k:Nat),(∀ g∈l,kc g≤c)→fy (l.map l7) k≤k+l.length* (4*c)
 | [],k,_=>by simp[fy]
 |g::l,k,h=>by
  have h1:=Bf g k
  have h2:=h g List.mem_cons_self
  have ih:=J2 c l (cg (g.edges.map e9) (bO (g.nodes.map eL) k)) fun x hx=>h x (a7 _ hx)
  rw[aF,l7,fy,ao,fm]
  omega
theorem Io{f:Nat}{as:List PV}{r:PV}{st':St}(h:jV cf f as st=some (r,st'))(hf:st.fl≤st.nx):st'.fl≤st'.nx:=by
 unfold jV at h
 split at h
 ·split at h
  ·split at h
   ·split at h
    ·simp only[aZ,bE]at h
     rw[←h.2]
     simp only[St.more_nx]
     split<;>omega
    ·cases h
   ·cases h
  ·cases h
 ·cases h
theorem In{f:Nat}{as:List PV}{r:PV}{st':St}(h:ar cf f as [] st=some (r,st'))(hf:st.fl≤st.nx):st'.fl≤st'.nx:=by
 unfold ar at h
 split at h
 ·exact Io h hf
 ·split at h
  ·cases h
  ·simp only at h
   split at h
   ·split at h
    ·simp only[aZ,bE]at h
     rw[←h.2]
     simp only[St.more_nx]
     split<;>omega
    ·cases h
   ·cases h
theorem EK{f:Nat}{as:List PV}{p:PV}(h:∃ r,r=p∧∃ fl,ar cf f as [] st=some (r,cQ st fl))(hf:st.fl≤st.nx)(k:∀ fl,fl≤st.nx→A (mk p (cQ st fl))):cT (ar cf f as [] st) mk A:=by
 obtain⟨r,rfl,fl,h⟩:=h
 exact⟨_,_,h,k fl (In h hf)⟩
theorem pI{f:Nat}{as bs:List PV}(hm:as.map aA=bs)(hp:as.all bI=true)(hb:∀ p∈bs,cL p)(hf:mn f=false:=by rfl):ar cf f as [] st=ar cf f bs [] st:=by
 subst hm
 obtain⟨q1,q2⟩:=dR hb
 rw[vt hp q1 q2 hf]
theorem si{J ns:List Nat}{st:St}{s:Nat}:(ez J ns st).objs s=(st.objs s).map fun c=>c.map (bJ J):=rfl
theorem mV{cs:List PV}:aA (.agg cs)= .agg (aB cs):=by simp[aA,aB,ren]
def o9(id:Int):List Eg→Nat→Int
 | [],_=> -1
 |e::l,k=>if e.id=id then k else o9 id l (k+1)
def i7(l:List Eg)(id:Int):Int:=o9 id l 0
def qv(l:List Eg)(id:Int):Option Eg:=l.find? fun e=>decide (e.id=id)
def tG(l:List Nd)(id:Int):Option Nd:=l.find? fun e=>decide (e.id=id)
theorem F4(id:Int):∀ (l:List Eg) (k:Nat),(o9 id l k= -1∧qv l id=none)∨∃ j,∃ h:j<l.length,o9 id l k=((k+j:Nat):Int)∧qv l id=some l[j]
 | [],_=> .inl ⟨rfl,rfl⟩
 |e::l,k=>by
  by_cases h:e.id=id
  ·exact .inr ⟨0,by simp,by simp[o9,h],by simp[qv,h]⟩
  ·rcases F4 id l (k+1)with⟨h1,h2⟩|⟨j,hj,h1,h2⟩
   ·exact .inl ⟨by simp[o9,h,h1],by simpa [qv,h]using h2⟩
   ·exact .inr ⟨j+1,by simp;omega,by rw[o9,ad h,h1];congr 1;omega,by simpa [qv,h]using h2⟩
theorem FQ(id:Int):∀ (l:List Nd) (k:Nat),(kJ id l k= -1∧tG l id=none)∨∃ j,∃ h:j<l.length,kJ id l k=((k+j:Nat):Int)∧tG l id=some l[j]
 | [],_=> .inl ⟨rfl,rfl⟩
 |e::l,k=>by
  by_cases h:e.id=id
  ·exact .inr ⟨0,by simp,by simp[kJ,h],by simp[tG,h]⟩
  ·rcases FQ id l (k+1)with⟨h1,h2⟩|⟨j,hj,h1,h2⟩
   ·exact .inl ⟨by simp[kJ,h,h1],by simpa [tG,h]using h2⟩
   ·exact .inr ⟨j+1,by simp;omega,by rw[kJ,ad h,h1];congr 1;omega,by simpa [tG,h]using h2⟩
def KN(x e:Eg):Bool:=decide (x.type=e.type) && (decide (x.src=e.src) && decide (x.dst=e.dst))
def pi:List UInt8:=[110,117,108,108]
def t8:List Fd→List UInt8→List UInt8
 | [],_=>pi
 |f::l,n=>if f.1=n then f.2 else t8 l n
end Go.PM
namespace Go.PM
theorem Cr(a:List UInt8):ej a []=false:=by cases a<;>rfl
theorem tq(b:UInt8)(l:List UInt8):ej [] (b::l)=true:=rfl
theorem vG(a b:UInt8)(l m:List UInt8):ej (a::l) (b::m)=(decide (a<b)||(a==b && ej l m)):=rfl
theorem nw:∀ a:List UInt8,ej a a=false
 | []=>rfl
 |a::l=>by rw[vG,nw l];simp
theorem mY:∀ {a b c:List UInt8},ej a b=true→ej b c=true→ej a c=true
 |_,[],_,h,_=>by rw[Cr]at h;cases h
 |_,_::_,[],_,h=>by rw[Cr]at h;cases h
 | [],_::_,_::_,_,_=>rfl
 |a::l,b::m,c::n,h1,h2=>by
  rw[vG]at h1 h2 ⊢
  simp only[bP,decide_eq_true_eq,aa,hD]at h1 h2 ⊢
  rcases h1 with h1|⟨rfl,h1⟩
  ·rcases h2 with h2|⟨rfl,h2⟩
   ·exact .inl (UInt8.lt_trans h1 h2)
   ·exact .inl h1
  ·rcases h2 with h2|⟨rfl,h2⟩
   ·exact .inl h2
   ·exact .inr ⟨rfl,mY h1 h2⟩
theorem qO:∀ {a b:List UInt8},ej a b=false→ej b a=false→a=b
 | [],[],_,_=>rfl
 | [],_::_,h,_=>by rw[tq]at h;cases h
 |_::_,[],_,h=>by rw[tq]at h;cases h
 |a::l,b::m,h1,h2=>by
  rw[vG]at h1 h2
  simp only[iD,decide_eq_false_iff_not]at h1 h2
  have hab:a=b:=by
   have e1:=UInt8.not_lt.1 h1.1
   have e2:=UInt8.not_lt.1 h2.1
   exact UInt8.le_antisymm e2 e1
  subst hab
  simp only[kP,bX]at h1 h2
  rw[qO h1.2 h2.2]
theorem tr{a b:List UInt8}(h:ej a b=true):ej b a=false:=by
 cases h2:ej b a with
 |false=>rfl
 |true=>rw[←nw a,←mY h h2]
def kK(x:List UInt8):List (List UInt8)→List (List UInt8)
 | []=>[x]
 |y::l=>if ej y x=true then y::kK x l else if y=x then y::l else x::y::l
def kg(l:List (List UInt8)):Prop:=l.Pairwise fun a b=>ej a b=true
theorem vW{x y:List UInt8}:∀ {l:List (List UInt8)},y∈kK x l↔y=x∨y∈l
 | []=>by simp[kK]
 |z::l=>by
  rw[kK]
  split
  ·rw[aJ,vW (l:=l),aJ]
   constructor
   ·rintro(h|h|h)<;>simp[h]
   ·rintro(h|h|h)<;>simp[h]
  ·split
   ·rename_i e;subst e;simp
   ·simp
theorem xm{x:List UInt8}:∀ {l:List (List UInt8)},kg l→kg (kK x l)
 | [],_=>fR _ _
 |y::l,h=>by
  have h2:=b6.1 h
  rw[kK]
  split
  ·rename_i hy
   refine b6.2 ⟨fun z hz=>?_,xm h2.2⟩
   rcases vW.1 hz with rfl|hz
   ·exact hy
   ·exact h2.1 z hz
  ·rename_i hy
   split
   ·exact h
   ·rename_i hne
    have hxy:ej x y=true:=by
     cases hc:ej x y with
     |true=>rfl
     |false=>exact absurd (qO (by simpa using hy) hc) hne
    refine b6.2 ⟨fun z hz=>?_,h⟩
    rcases aJ.1 hz with rfl|hz
    ·exact hxy
    ·exact mY hxy (h2.1 z hz)
theorem Fx:∀ {a b:List (List UInt8)},kg a→kg b→(∀ x,x∈a↔x∈b)→a=b
 | [],[],_,_,_=>rfl
 | [],y::b,_,_,h=>by have:=(h y).2 List.mem_cons_self;simp at this
 |x::a,[],_,_,h=>by have:=(h x).1 List.mem_cons_self;simp at this
 |x::a,y::b,ha,hb,h=>by
  have ha2:=b6.1 ha
  have hb2:=b6.1 hb
  have hxy:x=y:=by
   rcases aJ.1 ((h x).1 List.mem_cons_self)with e|hx
   ·exact e
   ·rcases aJ.1 ((h y).2 List.mem_cons_self)with e|hy
    ·exact e.symm
    ·have h1:=tr (ha2.1 y hy)
     rw[hb2.1 x hx]at h1;cases h1
  subst hxy
  rw[Fx ha2.2 hb2.2 fun z=>?_]
  constructor
  ·intro hz
   rcases aJ.1 ((h z).1 (a7 _ hz))with e|hz'
   ·subst e;have:=ha2.1 z hz;rw[nw]at this;cases this
   ·exact hz'
  ·intro hz
   rcases aJ.1 ((h z).2 (a7 _ hz))with e|hz'
   ·subst e;have:=hb2.1 z hz;rw[nw]at this;cases this
   ·exact hz'
theorem FR{x:List UInt8}:∀ {l:List (List UInt8)} {k:Nat},k≤l.length→(∀ j (h:j<l.length),j<k→ej l[j] x=true)→(∀ h:k<l.length,ej l[k] x=false)→
  (∀ h:k<l.length,l[k]=x→kK x l=l)∧((∀ h:k<l.length,l[k]≠x)→kK x l=l.take k++x::l.drop k)
 | [],k,hk,_,_=>by
  have:k=0:=by simpa using hk
  subst this
  exact⟨fun h=>by simp at h,fun _=>rfl⟩
 |y::l,0,_,_,h2=>by
  have hy:=h2 (by simp)
  have hy:ej y x=false:=hy
  rw[kK,ad (by rw[hy];simp)]
  refine⟨fun _ e=>?_,fun hne=>?_⟩
  ·have e:y=x:=e
   rw[ai e]
  ·have hne:y≠x:=hne (by simp)
   rw[ad hne];rfl
 |y::l,k+1,hk,h1,h2=>by
  have hy:ej y x=true:=h1 0 (by simp) (by omega)
  obtain⟨i1,i2⟩:=FR (x:=x) (l:=l) (k:=k) (by simpa using hk) (fun j h hj=>by have:=h1 (j+1) (by simpa using h) (by omega);simpa using this) (fun h=>by have:=h2 (by simpa using h);simpa using this)
  rw[kK,ai hy]
  refine⟨fun h e=>?_,fun hne=>?_⟩
  ·rw[i1 (by simpa using h) (by simpa using e)]
  ·rw[i2 fun h=>by have:=hne (by simpa using h);simpa using this];rfl
theorem Ea{x:List UInt8}:∀ {l:List (List UInt8)} {k:Nat},kg l→x∉l→k≤l.length→(∀ j (h:j<l.length),k≤j→ej x l[j]=true)→(k=0∨∃ h:k-1<l.length,ej x l[k-1]=false)→kK x l=l.take k++x::l.drop k
 | [],k,_,_,hk,_,_=>by
  have:k=0:=by simpa using hk
  subst this;rfl
 |y::l,k,ho,hn,hk,h1,h2=>by
  have ho2:=b6.1 ho
  have hne:y≠x:=fun e=>hn (by rw[e];exact List.mem_cons_self)
  rw[kK]
  by_cases hy:ej y x=true
  ·rw[ai hy]
   cases k with
   |zero=>have:=h1 0 (by simp) (aD _);have:=tr hy;simp_all
   |succ k=>
    rw[Ea (k:=k) ho2.2 (fun h=>hn (a7 _ h)) (by simpa using hk) (fun j h hj=>by have:=h1 (j+1) (by simpa using h) (by omega);simpa using this) ?_]
    ·rfl
    ·rcases gv k with h0|h0
     ·exact .inl h0
     ·right
      obtain⟨h,h3⟩:=h2.resolve_left (by omega)
      refine⟨by simp at hk;omega,?_⟩
      have e:(y::l)[k+1-1]=l[k-1]'(by simp at hk;omega):=by
       have:k=(k-1)+1:=by omega
       simp only[lM]
       conv=>lhs;arg 2;rw[this]
       rfl
      rw[e]at h3;exact h3
  ·have hxy:ej x y=true:=by
    cases hc:ej x y with
    |true=>rfl
    |false=>exact absurd (qO (by simpa using hy) hc) hne
   rw[ad hy,ad hne]
   have hk0:k=0:=by
    rcases h2 with h|⟨h,h3⟩
    ·exact h
    ·exfalso
     rcases gv (k-1)with h0|h0
     ·simp only[h0,List.getElem_cons_zero]at h3;rw[hxy]at h3;cases h3
     ·have:(y::l)[k-1]∈l:=by
       have e:k-1=(k-1-1)+1:=by omega
       have h':k-1-1<l.length:=by simp at h;omega
       have:(y::l)[k-1]=l[k-1-1]:=by
        conv=>lhs;arg 2;rw[e]
        rfl
       rw[this];exact bL h'
      rw[mY hxy (ho2.1 _ this)]at h3;cases h3
   subst hk0
   rfl
theorem Ek:∀ (l o:List (List UInt8)),kg o→kg (l.foldl (fun o x=>kK x o) o)
 | [],_,h=>h
 |_::l,_,h=>Ek l _ (xm h)
theorem HI{y:List UInt8}:∀ {l o:List (List UInt8)},y∈l.foldl (fun o x=>kK x o) o↔y∈l∨y∈o
 | [],o=>by simp
 |x::l,o=>by
  rw[List.foldl_cons,HI (l:=l),vW,aJ]
  constructor
  ·rintro(h|h|h)<;>simp[h]
  ·rintro((h|h)|h)<;>simp[h]
theorem A0{x:List UInt8}:∀ {l:List (List UInt8)},(kK x l).length≤l.length+1
 | []=>by simp[kK]
 |y::l=>by
  rw[kK]
  split
  ·have:=A0 (x:=x) (l:=l);simp;omega
  ·split<;>simp
theorem H4:∀ {l o:List (List UInt8)},(l.foldl (fun o x=>kK x o) o).length≤l.length+o.length
 | [],o=>by simp
 |x::l,o=>by
  have h1:=H4 (l:=l) (o:=kK x o)
  have h2:=A0 (x:=x) (l:=o)
  rw[List.foldl_cons,ao];omega
structure Ch where
 kind:Int
 node:Nd
 edge:Eg
 value:List UInt8
 name:List UInt8
 text:List UInt8
structure IS (l:List Fd):Prop where
 ord:kg (l.map (·.1))
 val:∀ f∈l,f.2≠pi
theorem Ep:∀ {l:List Fd} {n:List UInt8},n∈l.map (·.1)→∃ f∈l,t8 l n=f.2
 | [],_,h=>by simp at h
 |f::l,n,h=>by
  rw[t8]
  by_cases e:f.1=n
  ·rw[ai e];exact⟨f,List.mem_cons_self,rfl⟩
  ·rw[ad e]
   obtain⟨g,hg,h2⟩:=Ep (l:=l) (n:=n) (by
    rw[aF,aJ]at h
    exact h.resolve_left fun x=>e x.symm)
   exact⟨g,a7 _ hg,h2⟩
theorem Eo:∀ {l:List Fd} {n:List UInt8},n∉l.map (·.1)→t8 l n=pi
 | [],_,_=>rfl
 |f::l,n,h=>by
  rw[aF,aJ,not_or]at h
  rw[t8,ad fun e=>h.1 e.symm,Eo h.2]
end Go.PM
