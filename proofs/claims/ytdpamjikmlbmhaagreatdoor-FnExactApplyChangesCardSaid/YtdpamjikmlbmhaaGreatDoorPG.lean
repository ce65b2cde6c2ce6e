/- A part of the proof. Conditions: none. -/
import Derived.Test.YtdpamjikmlbmhaaGreatDoorPF
set_option linter.all false
set_option maxHeartbeats 9999999
open Nat (reduceEqDiff reduceAdd reduceLeDiff reduceMul)
namespace Go.PM
open Go.Lib
variable {cf:aA} {st:St} {mk:PV->St->Fr×St} {A:Fr×St->Prop} {s:Nat}
def ye:∀ (l:List (Nat×Nat)) (a b k:Nat),mL (l++[(a,b)]) k=mL l k++[⟨cq l k,pI (cq l k+1) a,lG (cq l k+1+a) b⟩]/\cq (l++[(a,b)]) k=cq l k+1+a+2*b
 | [],a,b,k=>⟨rfl,rfl⟩
 |(x,y)::l,a,b,k=>by
  obtain⟨h1,h2⟩:=ye l a b (k+1+x+2*y);exact⟨by simp only[a8,mL,cq,h1],by simp only[a8,cq,h2]⟩
def yf:∀ (l:List Nat) (b k:Nat),lT (l++[b]) k=lT l k++[⟨cH l k,mt (cH l k+1),(cH l k+2:Nat),(cH l k+3:Nat),lG (cH l k+4) b⟩]/\cH (l++[b]) k=cH l k+4+2*b
 | [],b,k=>⟨rfl,rfl⟩
 |y::l,b,k=>by
  obtain⟨h1,h2⟩:=yf l b (k+4+2*y);exact⟨by simp only[a8,lT,cH,h1],by simp only[a8,cH,h2]⟩
def yr:∀ (l m:List (Nat×Nat)) (k:Nat),cq (l++m) k=cq m (cq l k)
 | [],_,_=>rfl
 |(x,y)::l,m,k=>by rw[a8,cq,cq,yr l m]
def yw:∀ (l m:List Nat) (k:Nat),cH (l++m) k=cH m (cH l k)
 | [],_,_=>rfl
 |y::l,m,k=>by rw[a8,cH,cH,yw l m]
def yq:∀ (l:List (Nat×Nat)) (k:Nat),k+l.length<=cq l k
 | [],_=>aE _
 |(a,b)::l,k=>by have:=yq l (k+1+a+2*b);rw[cq,au];omega
def yu:∀ (l:List Nat) (k:Nat),k+l.length<=cH l k
 | [],_=>aE _
 |b::l,k=>by have:=yu l (k+4+2*b);rw[cH,au];omega
def fM(x:Nd):Nat×Nat:=(x.labels.length,x.fields.length)
def fY(x:Eg):Nat:=x.fields.length
def ne{pre post:List PV}{c:PV}{k:Nat}(h:pre.length=k):bI (pre++c::post) k 1 false=some c:=by
 have:= @xF pre (c::post) 0 1 false;rw[bi,h]at this;rw[this,ze]
def qK{N K E:Nat}{pre post:List PV}{c:PV}{X Y:List (Nat×Nat)}(h:aL st (X++ar (.list N (pre++c::post) (.own K E))++Y)):aL st (ar c):=
 dY h (fun k=>by simp only[ar,dN,al,bh];omega) (fun q hq=>by simp only[ar,dN,al,ay];simp[hq])
def p5{N:Nat}{pre post:List PV}{c:PV}{tk:aB}(h:aJ (.list N (pre++c::post) tk)=true):aJ c=true:=by
 simp only[aJ,ey,aY,ae]at h;exact h.2.2.1
def wV{pre post:List PV}{c:PV}(h:aI (pre++c::post)=true):np c=true:=fm h (by simp)
def Ft(K:bJ cf)(k:Nat)(l:List Nd)(hk:cq (l.map fM) k<=1000000000000){cs:List PV}{tk:aB}(hs:aJ (.list l.length cs tk)=true)(hL:iY nc 3 l cs)(hT:aL st (ar (.list l.length cs tk))):
  ∃ p ns,uP cf 50 [.list l.length cs tk,I k] st=some (I (cq (l.map fM) k:Nat),p,dI ((ar (.list l.length cs tk)).map (·.1)) ns st)/\cR st.nx ns p/\aC p= .list l.length ((mL (l.map fM) k).flatMap nc) .no/\cD [.list l.length cs tk,I k] [0] st=(ar (.list l.length cs tk)).map (·.1):=by
 refine wz K.tab (f:=50) (F:=FB50) (t:=4) rfl rfl rfl hs hL.np hT (lb rfl) (l.length+1) (fun cs0 tk0 ns h1 h2 h3 h4 h5=>?_);have hcl:cs0.length=l.length*3:=by rw[h2,hL.len]
 have hst:aF cs0=l.flatMap nc:=by rw[h1,hL.st]
 have hN:l.length<=1000000000000:=by have:=yq (l.map fM) k;rw[b8]at this;omega
 clear hs hL hT h1 h2;unfold FB50 qr qd qm qi qb qk ql qf qa qn qo qe;simp only[↓pa];refine be (fun q fr st=>∃ (i:Nat) (ds rs:List PV),q=l.length-i/\i<=l.length/\fr 0= .list l.length (ds++rs) tk0/\fr 1=I (cq ((l.take i).map fM) k:Nat)/\fr 5=I i/\ds.length=i*3/\aF ds=(mL ((l.take i).map fM) k).flatMap nc/\aF rs=(l.drop i).flatMap nc/\aI (ds++rs)=true/\aJ (.list l.length (ds++rs) tk0)=true/\aL st ([]++ar (.list l.length (ds++rs) tk0)++[])/\st.fl=0) l.length (by omega)
  ⟨0,[],cs0,by simp,by omega,by simp only[↓pa,ai,↓reduceIte,reduceCtorEq]<;>simp,by simp only[↓pa,↓reduceIte,reduceEqDiff]<;>simp[cq],by simp only[↓pa,↓reduceIte]<;>rfl,rfl,rfl,hst,by simpa using h3,by simpa using h4,by simpa using h5,rfl⟩ ?_
 rintro q fr st ⟨i,ds,rs,rfl,hi,f0,f1,f5,hd1,hd2,hr2,hnp,hso,hTk,hfl⟩;simp only[↓pa,pb,aV,↓reduceIte,reduceEqDiff,reduceCtorEq,f0,f5];refine aa (fun h=>?_) (fun h=>?_)
 ·have hlt:i<l.length:=h;rw[a6 hlt,bf]at hr2;have hkk:cq ((l.take (i+1)).map fM) k=cq ((l.take i).map fM) k+1+l[i].labels.length+2*l[i].fields.length:=by
   rw[aW hlt,ch];exact(ye _ _ _ _).2
  have hkm:mL ((l.take (i+1)).map fM) k=mL ((l.take i).map fM) k++[⟨cq ((l.take i).map fM) k,pI (cq ((l.take i).map fM) k+1) l[i].labels.length,lG (cq ((l.take i).map fM) k+1+l[i].labels.length) l[i].fields.length⟩]:=by
   rw[aW hlt,ch];exact(ye _ _ _ _).1
  have hkl:cq ((l.take (i+1)).map fM) k<=cq (l.map fM) k:=by
   have e:l.map fM=(l.take (i+1)).map fM++(l.drop (i+1)).map fM:=by rw[<-ch,dn]
   rw[e,yr];exact w8 _ _
  generalize hm:cq ((l.take i).map fM) k=m at*;obtain⟨c,d,e,rs',rfl⟩:∃ c d e rs',rs=c::d::e::rs':=by
   have hlen:(aF rs).length=3+((l.drop (i+1)).flatMap nc).length:=by rw[hr2,af,cC]
   rw[bw]at hlen
   match rs,hlen with
   | [],h=>simp at h;omega
   | [c],h=>simp at h;omega
   | [c,d],h=>simp at h;omega
   |c::d::e::rs',_=>exact⟨c,d,e,rs',rfl⟩
  simp only[cG,aH,nc,a8,aN,List.cons.injEq]at hr2;obtain⟨-,hr3,hr4,hr5⟩:=hr2;rw[<-cG]at hr5;obtain⟨ca,ta,rfl,hca,-⟩:=bt hr3;obtain⟨cb,tb,rfl,hcb,-⟩:=bt hr4;have hrl:rs'.length+3=(l.length-i) *3:=by
   have:=bq List.length hr5;rw[bw,bN nc 3 cC,aU]at this;omega
  obtain⟨j,t0,rfl⟩:=vZ hso;have hlen:∀ x y z:PV,(ds++x::y::z::rs').length=l.length*3:=fun x y z=>by rw[af,hd1];simp only[au];omega
  have hl0:=hlen c (.list l[i].labels.length ca ta) (.list l[i].fields.length cb tb);have hl1:=hlen (I m) (.list l[i].labels.length ca ta) (.list l[i].fields.length cb tb);simp (disch:=omega)only[↓pa,pb,ai,↓reduceIte,reduceEqDiff,reduceCtorEq,f0,f1,f5,h,dz,bi];refine eY (X:=[]) (Y:=[]) hd1.symm (by omega) hso hnp hTk ⟨rfl,rfl,rfl⟩ (fun hso' hnp' hTk'=>?_);have hbk:=fun cs' E'=> @gD l.length j t0 E' (i*3) ds (.list l[i].labels.length ca ta:: .list l[i].fields.length cb tb::rs') cs' c (I m) hd1.symm;have hp1:bI (ds++I m:: .list l[i].labels.length ca ta:: .list l[i].fields.length cb tb::rs') (i*3+1) 1 false=some (.list l[i].labels.length ca ta):=by
   have:= @ne (ds++[I m]) (.list l[i].fields.length cb tb::rs') (.list l[i].labels.length ca ta) (i*3+1) (by rw[af,hd1];rfl);rw[bl]at this;exact this
  simp (disch:=omega)only[↓pa,pb,aV,↓reduceIte,reduceEqDiff,reduceCtorEq,f0,f1,f5,dz,hbk,hp1];have hcat1:ds++I m:: .list l[i].labels.length ca ta:: .list l[i].fields.length cb tb::rs'=(ds++[I m])++ .list l[i].labels.length ca ta::(.list l[i].fields.length cb tb::rs'):=by simp
  rw[hcat1]at hso' hnp' hTk';have la:ca.length=l[i].labels.length:=by rw[<-bw,hca,b8]
  have lb:cb.length=l[i].fields.length*2:=by rw[<-bw,hcb,fq]
  refine nQ (sz:=1) (X:=[]) (Y:=[]) (Fs K (m+1) l[i].labels.length (by omega) (p5 hso') (wV hnp') la (qK hTk')) (by omega) (by decide) (fun e=>by rw[e];rfl) hso' hnp' hTk' hfl (fun p ns' q hu k1 k2 k3 k5 k6=>?_);rw[<-hcat1]at k1;have hl2:(ds++[I m]++q:: .list l[i].fields.length cb tb::rs').length=l.length*3:=by rw[af,af,hd1];simp only[au,aO];omega
  have hcat2:ds++[I m]++q:: .list l[i].fields.length cb tb::rs'=(ds++[I m,q])++ .list l[i].fields.length cb tb::rs':=by simp
  have hp2:bI (ds++[I m]++q:: .list l[i].fields.length cb tb::rs') (i*3+2) 1 false=some (.list l[i].fields.length cb tb):=by
   rw[hcat2];exact ne (by rw[af,hd1];rfl)
  simp (disch:=omega)only[↓pa,pb,↓reduceIte,reduceEqDiff,reduceCtorEq,f0,f5,dz,hbk,hu,k1,hp2];rw[hcat2]at k2 k3 k6;refine nQ (sz:=2) (X:=[]) (Y:=[]) (xf K (m+1+l[i].labels.length) l[i].fields.length (by omega) (p5 k2) (wV k3) lb (qK k6)) lb (by decide) (fun e=>by rw[e];rfl) k2 k3 k6 hfl (fun p2 ns2 q2 hu2 j1 j2 j3 j5 j6=>?_);rw[<-hcat2]at j1;simp (disch:=omega)only[↓pa,pb,aV,↓reduceIte,reduceEqDiff,reduceCtorEq,f0,f5,dz,hbk,k1,hu2,j1];have hcat:ds++[I m,q,q2]++rs'=ds++[I m,q]++q2::rs':=by simp
  refine⟨l.length- (i+1),by omega,i+1,ds++[I m,q,q2],rs',rfl,by omega,by rw[hcat],by rw[hkk],rfl,by simp only[af,hd1,au,aO];omega,?_,hr5,by rw[hcat];exact j3,by rw[hcat];exact j2,by rw[hcat];exact j6,hfl⟩;rw[gQ,hd2,hkm,bE];simp only[az,k5,j5,nc,bf,mH,aD,TX,FX,wX,wY]
 ·have hie:l.take i=l:=bA (by omega);have hdr:l.drop i=[]:=dM (by omega);rw[hdr]at hr2;have hrn:rs=[]:=bF (by rw[<-bw,hr2];rfl);subst hrn;rw[aD]at hnp hso hTk f0;rw[hie]at hd2 f1;simp only[↓pa,pb,↓reduceIte,reduceEqDiff,reduceCtorEq,f0,f1,h,dz];refine⟨_,rfl,rfl,hnp,hso,by simpa using hTk,rfl,?_⟩;rw[eF,hd2]
def Fu(K:bJ cf)(k:Nat)(l:List Eg)(hk:cH (l.map fY) k<=1000000000000){cs:List PV}{tk:aB}(hs:aJ (.list l.length cs tk)=true)(hL:iY ec 5 l cs)(hT:aL st (ar (.list l.length cs tk))):
  ∃ p ns,uP cf 51 [.list l.length cs tk,I k] st=some (I (cH (l.map fY) k:Nat),p,dI ((ar (.list l.length cs tk)).map (·.1)) ns st)/\cR st.nx ns p/\aC p= .list l.length ((lT (l.map fY) k).flatMap ec) .no/\cD [.list l.length cs tk,I k] [0] st=(ar (.list l.length cs tk)).map (·.1):=by
 refine wz K.tab (f:=51) (F:=FB51) (t:=4) rfl rfl rfl hs hL.np hT (lb rfl) (l.length+1) (fun cs0 tk0 ns h1 h2 h3 h4 h5=>?_);have hcl:cs0.length=l.length*5:=by rw[h2,hL.len]
 have hst:aF cs0=l.flatMap ec:=by rw[h1,hL.st]
 have hN:l.length<=1000000000000:=by have:=yu (l.map fY) k;rw[b8]at this;omega
 clear hs hL hT h1 h2;unfold FB51 qr qd qm qi qb qk ql qf qt qa qn qo qe;simp only[↓pa];refine be (fun q fr st=>∃ (i:Nat) (ds rs:List PV),q=l.length-i/\i<=l.length/\fr 0= .list l.length (ds++rs) tk0/\fr 1=I (cH ((l.take i).map fY) k:Nat)/\fr 5=I i/\ds.length=i*5/\aF ds=(lT ((l.take i).map fY) k).flatMap ec/\aF rs=(l.drop i).flatMap ec/\aI (ds++rs)=true/\aJ (.list l.length (ds++rs) tk0)=true/\aL st ([]++ar (.list l.length (ds++rs) tk0)++[])/\st.fl=0) l.length (by omega)
  ⟨0,[],cs0,by simp,by omega,by simp only[↓pa,ai,↓reduceIte,reduceCtorEq]<;>simp,by simp only[↓pa,↓reduceIte,reduceEqDiff]<;>simp[cH],by simp only[↓pa,↓reduceIte]<;>rfl,rfl,rfl,hst,by simpa using h3,by simpa using h4,by simpa using h5,rfl⟩ ?_
 rintro q fr st ⟨i,ds,rs,rfl,hi,f0,f1,f5,hd1,hd2,hr2,hnp,hso,hTk,hfl⟩;simp only[↓pa,pb,aV,↓reduceIte,reduceEqDiff,reduceCtorEq,f0,f5];refine aa (fun h=>?_) (fun h=>?_)
 ·have hlt:i<l.length:=h;rw[a6 hlt,bf]at hr2;have hkk:cH ((l.take (i+1)).map fY) k=cH ((l.take i).map fY) k+4+2*l[i].fields.length:=by
   rw[aW hlt,ch];exact(yf _ _ _).2
  have hkm:lT ((l.take (i+1)).map fY) k=lT ((l.take i).map fY) k++[⟨cH ((l.take i).map fY) k,mt (cH ((l.take i).map fY) k+1),(cH ((l.take i).map fY) k+2:Nat),(cH ((l.take i).map fY) k+3:Nat),lG (cH ((l.take i).map fY) k+4) l[i].fields.length⟩]:=by
   rw[aW hlt,ch];exact(yf _ _ _).1
  have hkl:cH ((l.take (i+1)).map fY) k<=cH (l.map fY) k:=by
   have e:l.map fY=(l.take (i+1)).map fY++(l.drop (i+1)).map fY:=by rw[<-ch,dn]
   rw[e,yw];exact qE _ _
  generalize hm:cH ((l.take i).map fY) k=m at*;obtain⟨c0,c1,c2,c3,c4,rs',rfl⟩:∃ c0 c1 c2 c3 c4 rs',rs=c0::c1::c2::c3::c4::rs':=by
   have hlen:(aF rs).length=5+((l.drop (i+1)).flatMap ec).length:=by rw[hr2,af,cw]
   rw[bw]at hlen
   match rs,hlen with
   | [],h=>simp at h;omega
   | [_],h=>simp at h;omega
   | [_,_],h=>simp at h;omega
   | [_,_,_],h=>simp at h;omega
   | [_,_,_,_],h=>simp at h;omega
   |c0::c1::c2::c3::c4::rs',_=>exact⟨c0,c1,c2,c3,c4,rs',rfl⟩
  simp only[cG,aH,ec,a8,aN,List.cons.injEq]at hr2;obtain⟨-,-,-,-,hr4,hr5⟩:=hr2;rw[<-cG]at hr5;obtain⟨cb,tb,rfl,hcb,-⟩:=bt hr4;have hrl:rs'.length+5=(l.length-i) *5:=by
   have:=bq List.length hr5;rw[bw,bN ec 5 cw,aU]at this;omega
  obtain⟨j,t0,rfl⟩:=vZ hso;have lb:cb.length=l[i].fields.length*2:=by rw[<-bw,hcb,fq]
  have ht:=fun st=>ip (st:=st) K (m+1) (by omega);have len:∀ (a:List PV) (b:PV) (c:List PV),a.length+(c.length+1)=l.length*5->(a++b::c).length=l.length*5:=fun a b c h=>by rw[af,au];exact h
  have l0:=len ds c0 (c1::c2::c3:: .list l[i].fields.length cb tb::rs') (by simp only[au];omega);simp (disch:=omega)only[↓pa,pb,ai,↓reduceIte,reduceEqDiff,reduceCtorEq,f0,f1,f5,h,dz,bi];refine eY (X:=[]) (Y:=[]) hd1.symm (by omega) hso hnp hTk ⟨rfl,rfl,rfl⟩ (fun hso1 hnp1 hT1=>?_);have b1:=fun cs' E'=> @gD l.length j t0 E' (i*5) ds (c1::c2::c3:: .list l[i].fields.length cb tb::rs') cs' c0 (I m) hd1.symm;have e1:ds++I m::c1::c2::c3:: .list l[i].fields.length cb tb::rs'=(ds++[I m])++c1::c2::c3:: .list l[i].fields.length cb tb::rs':=by simp
  rw[e1]at b1 hso1 hnp1 hT1;have o1:i*5+1=(ds++[I m]).length:=by rw[af,hd1];rfl
  have l1:=len (ds++[I m]) c1 (c2::c3:: .list l[i].fields.length cb tb::rs') (by simp only[af,au,aO];omega);simp (disch:=omega)only[↓pa,pb,ai,aV,↓reduceIte,reduceEqDiff,reduceCtorEq,f0,f1,f5,dz,b1,ht];refine eY (X:=[]) (Y:=[]) o1 (by omega) hso1 hnp1 hT1 ⟨rfl,rfl,rfl⟩ (fun hso2 hnp2 hT2=>?_);have b2:=fun cs' E'=> @gD l.length j t0 E' (i*5+1) (ds++[I m]) (c2::c3:: .list l[i].fields.length cb tb::rs') cs' c1 (S (mt (m+1))) o1;have e2:ds++[I m]++S (mt (m+1))::c2::c3:: .list l[i].fields.length cb tb::rs'=(ds++[I m,S (mt (m+1))])++c2::c3:: .list l[i].fields.length cb tb::rs':=by simp
  rw[e2]at b2 hso2 hnp2 hT2;have o2:i*5+2=(ds++[I m,S (mt (m+1))]).length:=by rw[af,hd1];rfl
  have l2:=len (ds++[I m,S (mt (m+1))]) c2 (c3:: .list l[i].fields.length cb tb::rs') (by simp only[af,au,aO];omega);simp (disch:=omega)only[↓pa,pb,ai,aV,↓reduceIte,reduceEqDiff,reduceCtorEq,f0,f5,dz,b1,b2];refine eY (X:=[]) (Y:=[]) o2 (by omega) hso2 hnp2 hT2 ⟨rfl,rfl,rfl⟩ (fun hso3 hnp3 hT3=>?_);have b3:=fun cs' E'=> @gD l.length j t0 E' (i*5+2) (ds++[I m,S (mt (m+1))]) (c3:: .list l[i].fields.length cb tb::rs') cs' c2 (I (m+2:Nat)) o2;have e3:ds++[I m,S (mt (m+1))]++I (m+2:Nat)::c3:: .list l[i].fields.length cb tb::rs'=(ds++[I m,S (mt (m+1)),I (m+2:Nat)])++c3:: .list l[i].fields.length cb tb::rs':=by simp
  rw[e3]at b3 hso3 hnp3 hT3;have o3:i*5+3=(ds++[I m,S (mt (m+1)),I (m+2:Nat)]).length:=by rw[af,hd1];rfl
  have l3:=len (ds++[I m,S (mt (m+1)),I (m+2:Nat)]) c3 (.list l[i].fields.length cb tb::rs') (by simp only[af,au,aO];omega);simp (disch:=omega)only[↓pa,pb,ai,aV,↓reduceIte,reduceEqDiff,reduceCtorEq,f0,f5,dz,b1,b2,b3];refine eY (X:=[]) (Y:=[]) o3 (by omega) hso3 hnp3 hT3 ⟨rfl,rfl,rfl⟩ (fun hso4 hnp4 hT4=>?_);have b4:=fun cs' E'=> @gD l.length j t0 E' (i*5+3) (ds++[I m,S (mt (m+1)),I (m+2:Nat)]) (.list l[i].fields.length cb tb::rs') cs' c3 (I (m+3:Nat)) o3;have e4:ds++[I m,S (mt (m+1)),I (m+2:Nat)]++I (m+3:Nat):: .list l[i].fields.length cb tb::rs'=(ds++[I m,S (mt (m+1)),I (m+2:Nat),I (m+3:Nat)])++ .list l[i].fields.length cb tb::rs':=by simp
  rw[e4]at b4 hso4 hnp4 hT4;have hp4:bI (ds++[I m,S (mt (m+1)),I (m+2:Nat),I (m+3:Nat)]++ .list l[i].fields.length cb tb::rs') (i*5+4) 1 false=some (.list l[i].fields.length cb tb):=ne (by rw[af,hd1];rfl);have l4:=len (ds++[I m,S (mt (m+1)),I (m+2:Nat),I (m+3:Nat)]) (.list l[i].fields.length cb tb) rs' (by simp only[af,au,aO];omega);simp (disch:=omega)only[↓pa,pb,aV,↓reduceIte,reduceEqDiff,reduceCtorEq,f0,f5,dz,b1,b2,b3,b4,hp4];refine nQ (sz:=2) (X:=[]) (Y:=[]) (xf K (m+4) l[i].fields.length (by omega) (p5 hso4) (wV hnp4) lb (qK hT4)) lb (by decide) (fun e=>by rw[e];rfl) hso4 hnp4 hT4 hfl (fun p2 ns2 q2 hu2 j1 j2 j3 j5 j6=>?_);simp (disch:=omega)only[↓pa,pb,aV,↓reduceIte,reduceEqDiff,reduceCtorEq,f0,f5,dz,b1,b2,b3,b4,hu2,j1];have hcat:ds++[I m,S (mt (m+1)),I (m+2:Nat),I (m+3:Nat),q2]++rs'=ds++[I m,S (mt (m+1)),I (m+2:Nat),I (m+3:Nat)]++q2::rs':=by simp
  refine⟨l.length- (i+1),by omega,i+1,ds++[I m,S (mt (m+1)),I (m+2:Nat),I (m+3:Nat),q2],rs',rfl,by omega,by rw[hcat],by rw[hkk],rfl,by simp only[af,hd1,au,aO];omega,?_,hr5,by rw[hcat];exact j3,by rw[hcat];exact j2,by rw[hcat];exact j6,hfl⟩;rw[gQ,hd2,hkm,bE];simp only[az,j5,ec,bf,mH,aD,FX,wY]
 ·have hie:l.take i=l:=bA (by omega);have hdr:l.drop i=[]:=dM (by omega);rw[hdr]at hr2;have hrn:rs=[]:=bF (by rw[<-bw,hr2];rfl);subst hrn;rw[aD]at hnp hso hTk f0;rw[hie]at hd2 f1;simp only[↓pa,pb,↓reduceIte,reduceEqDiff,reduceCtorEq,f0,f1,h,dz];refine⟨_,rfl,rfl,hnp,hso,by simpa using hTk,rfl,?_⟩;rw[eF,hd2]
def Ou(g:bY):List (Nat×Nat)×List Nat:=(g.nodes.map fM,g.edges.map fY)
def tY:∀ (l:List (Nat×Nat)) (k:Nat),(mL l k).length=l.length
 | [],_=>rfl
 |(a,b)::l,k=>by rw[mL,au,tY l,au]
def tZ:∀ (l:List Nat) (k:Nat),(lT l k).length=l.length
 | [],_=>rfl
 |b::l,k=>by rw[lT,au,tZ l,au]
def JO:∀ (l:List (List (Nat×Nat)×List Nat)) (a:List (Nat×Nat)) (b:List Nat) (k:Nat),zi (l++[(a,b)]) k=zi l k++[⟨mL a (lx l k),lT b (cq a (lx l k))⟩]/\lx (l++[(a,b)]) k=cH b (cq a (lx l k))
 | [],a,b,k=>⟨rfl,rfl⟩
 |(x,y)::l,a,b,k=>by
  obtain⟨h1,h2⟩:=JO l a b (cH y (cq x k));exact⟨by simp only[a8,zi,lx,h1],by simp only[a8,lx,h2]⟩
def Kf:∀ (l m:List (List (Nat×Nat)×List Nat)) (k:Nat),lx (l++m) k=lx m (lx l k)
 | [],_,_=>rfl
 |(x,y)::l,m,k=>by rw[a8,lx,lx,Kf l m]
def uk{α:Type}{enc:α->List PV}{m:Nat}(hm:∀ a,(enc a).length=m){l:List α}{cs:List PV}(h:aF cs=l.flatMap enc)(hn:aI cs=true):iY enc m l cs:=
 ⟨by rw[<-bw,h,bN enc m hm],h,hn⟩
section
variable {f:Nat} {F:bp} {cs rest:List PV} {rs:List hZ}
def CL(hr:rest.all bR=true):dJ [0] (.agg cs::rest) []=al cs:=by
 have h:rX (jx [0] 0 (.agg cs::rest)) []=[]:=by cases jx [0] 0 (.agg cs::rest)<;>rfl
 rw[dJ,h,fQ,pH _ _ (by omega)];simp[ar]
def By(hn:aI cs=true)(hk:aL st (al cs))(hr:rest.all bR=true)(hsp:gU ((al cs).map (·.1)) [0] 1 rest=true){r:PV}{ns:List Nat}
  (hc:cf f (ren (aT ((al cs).map (·.1))) false (.agg cs)::rest.map aC) ((al cs).map (·.2)) []=some (r,ns,[])) (hs:aJ r=true):
  av cf f (.agg cs::rest) [0] st=some (ren (fun k=>some (st.nx+k)) false r,dI ((al cs).map (·.1)) ns st)/\cD (.agg cs::rest) [0] st=(al cs).map (·.1):=by
 have hn':np (.agg cs)=true:=hn;have hkeys:cX (.agg cs::rest)=some []:=by
  rw[cX,ak hn']
  ·exact fj hr
  ·intros;contradiction
 have hm:=CL (cs:=cs) hr;have hb:lh ((al cs).map (·.1)) (jx [0] 0 (.agg cs::rest)) []=[]:=by cases jx [0] 0 (.agg cs::rest)<;>rfl
 have hbs:∀ J l,mD J l []=true:=by intro J l;cases l<;>rfl
 have hh:eX ((al cs).map (·.1)) [0] 0 0 (.agg cs::rest)=ren (aT ((al cs).map (·.1))) false (.agg cs)::rest.map aC:=by
  rw[eX,qU _ _ _ _ (by omega) hr]
  ·rfl
  ·intros;contradiction
 have hs2:gU ((al cs).map (·.1)) [0] 0 (.agg cs::rest)=true:=by rw[gU,hsp];rfl
 constructor
 ·simp only[av,hkeys,dl,hm,mf hk.1,hk.ok,hs2,hbs,hb,ap,if_true,hh,hc,kf r hs,cU,aO,fi];rfl
 ·simp only[cD,hkeys,dl,hm]
def EE{as:List PV}(hres:F.res=rs)(hown:F.own=false)(hnt:as.length<=F.nt)(N:Nat){ns:List Nat}{v:PV}(h:Wp cf N F.body (eu as,bn ns []) (zT rs (· =v))):fO cf N F as ns []=some (v,[],[]):=by
 obtain⟨e,⟨fr,s1⟩,hev,he,ho⟩:=h;subst hres;revert ho;generalize hps:ff fr s1 F.res=o1;intro ho
 match o1,ho with
 |some ps0,ho=>
  obtain⟨hp,-,hQ⟩:=ho;have hf:=uZ (n:=0) (cs0:=[]) hown hps hp rfl rfl;rw[hQ]at hf;unfold fO;rw[ak ⟨hnt,aM _⟩,hev];cases e with
  |go=>exact hf
  |ret=>exact hf
  |exit i=>exact he.elim
end
def Ma(K:bJ cf)(k:Nat)(g:bY)(hk:cH (g.edges.map fY) (cq (g.nodes.map fM) k)<=1000000000000){cs:List PV}(hst:aF cs=gc g)(hs:aY cs=true)(hn:aI cs=true)(hT:aL st (al cs)):
  av cf 14 [.agg cs,I k] [0] st=some (I (cH (g.edges.map fY) (cq (g.nodes.map fM) k):Nat),dI ((al cs).map (·.1)) [] st)/\cD [.agg cs,I k] [0] st=(al cs).map (·.1):=by
 have hF:=ld (r0:= .agg cs) (by simpa [aJ]using hs) hn hT.1 0;have hF0:=hF.2;have hrr:ren (aT ((al cs).map (·.1))) false (.agg cs)= .agg (aZ (aT ((al cs).map (·.1))) false cs):=by simp[ren]
 have htt:ar (.agg cs)=al cs:=by simp[ar]
 rw[htt,hrr]at hF0;have hst0:aF (aZ (aT ((al cs).map (·.1))) false cs)=gc g:=by rw[eG];exact hst
 have hTB:aL (bn ((al cs).map (·.2)) []) (al (aZ (aT ((al cs).map (·.1))) false cs)):=by
  have:=hF0.tk;simp only[ar]at this;rw[this];exact⟨fun j=>nM j _,fun q hq=>by have:=jC hq;exact⟨by simpa [bn]using this.2.1,by simpa [bn]using this.2.2,aM _⟩⟩
 have hso0:aY (aZ (aT ((al cs).map (·.1))) false cs)=true:=by simpa [aJ]using hF0.so
 have hnp0:aI (aZ (aT ((al cs).map (·.1))) false cs)=true:=hF0.np;generalize hc0:aZ (aT ((al cs).map (·.1))) false cs=c0 at*;have hrun:fO cf 1 F14 [.agg c0,I k] ((al cs).map (·.2)) []=some (I (cH (g.edges.map fY) (cq (g.nodes.map fM) k):Nat),[],[]):=by
  refine EE (rs:=[.tmp 4]) rfl rfl (lb rfl) 1 ?_;obtain⟨c,d,rfl⟩:∃ c d,c0=[c,d]:=by
   have:=bq List.length hst0;rw[bw]at this
   match c0,this with
   | [c,d],_=>exact⟨c,d,rfl⟩
  simp only[cG,aH,bM,gc,List.cons.injEq,lE]at hst0;obtain⟨hr3,hr4⟩:=hst0;obtain⟨ca,ta,rfl,hca,-⟩:=bt hr3;obtain⟨cb,tb,rfl,hcb,-⟩:=bt hr4;simp only[aY,bg,ae]at hso0;have hLa:iY nc 3 g.nodes ca:=uk cC hca (by simp only[az,bg,ae]at hnp0;first|exact hnp0.1|exact hnp0.2);have hLb:iY ec 5 g.edges cb:=uk cw hcb (by simp only[az,bg,ae]at hnp0;exact hnp0.2);have hnm:=qE (g.edges.map fY) (cq (g.nodes.map fM) k);have hTB2:aL (bn ((al cs).map (·.2)) []) ([]++ar (.list g.nodes.length ca ta)++ar (.list g.edges.length cb tb)):=by
   simpa only[al,aD,aN]using hTB
  unfold F14 qr qm qi ql qf qo;simp only[↓pa,pb,ai,↓reduceIte,reduceEqDiff,reduceAdd,dz];refine qL (Ft K k g.nodes (by omega) hso0.1 hLa (aK (dY hTB2 (fun j=>by simp only[bh];omega) (fun q hq=>by simp[hq])))) (fun p ns1 hu hF1 hv htk=>?_);have hap:=l7 hTB2;have hk1:bV ((ar (.list g.nodes.length ca ta)).map (·.1)) (.list g.edges.length cb tb)= .list g.edges.length cb tb:=lv hso0.2 fun q hq=>hap q (by simp[hq]);have hT2:=kr (ns:=ns1) (aK (s:=2) (c:=[.list g.nodes.length ca ta,.list g.edges.length cb tb]) hTB2) (aM _);simp only[↓pa,pb,ai,↓reduceIte,reduceEqDiff,reduceAdd,dz,nV,hk1,hu];refine qL (Fu K (cq (g.nodes.map fM) k) g.edges hk hso0.2 hLb (dY hT2 (fun j=>by simp only[bh];omega) (fun q hq=>by simp[hq]))) (fun p2 ns2 hu2 hF2 hv2 htk2=>?_);simp only[↓pa,pb,az,↓reduceIte,hu2]
 have hcf:=K.tab 14 F14 rfl 1 _ _ _ _ hrun;rw[<-hrr]at hcf;obtain⟨a,b⟩:=By (rest:=[I k]) hn hT rfl rfl hcf rfl;exact⟨a,b⟩
def uJ(n:Nat):(((n:Nat):Int)<0)=False:=eq_false (by omega)
def ML{k n i:Nat}(h:i<(lG k n).length):(lG k n)[i]=(mt (k+2*i),mt (k+2*i+1)):=by simp[lG]
def HV:∀ (l:List (Nat×Nat)) (k i:Nat) (h:i<(mL l k).length) (h':i<l.length),(mL l k)[i]=⟨cq (l.take i) k,pI (cq (l.take i) k+1) l[i].1,lG (cq (l.take i) k+1+l[i].1) l[i].2⟩/\cq (l.take (i+1)) k=cq (l.take i) k+1+l[i].1+2*l[i].2
 |(a,b)::l,k,0,_,_=>⟨rfl,rfl⟩
 |(a,b)::l,k,i+1,h,h'=>HV l (k+1+a+2*b) i (by simpa [mL]using h) (by simpa using h')
def HW:∀ (l:List Nat) (k i:Nat) (h:i<(lT l k).length) (h':i<l.length),(lT l k)[i]=⟨cH (l.take i) k,mt (cH (l.take i) k+1),(cH (l.take i) k+2:Nat),(cH (l.take i) k+3:Nat),lG (cH (l.take i) k+4) l[i]⟩/\cH (l.take (i+1)) k=cH (l.take i) k+4+2*l[i]
 |b::l,k,0,_,_=>⟨rfl,rfl⟩
 |b::l,k,i+1,h,h'=>HW l (k+4+2*b) i (by simpa [lT]using h) (by simpa using h')
def MK:∀ (l:List (List (Nat×Nat)×List Nat)) (k i:Nat) (h:i<(zi l k).length) (h':i<l.length),(zi l k)[i]=⟨mL l[i].1 (lx (l.take i) k),lT l[i].2 (cq l[i].1 (lx (l.take i) k))⟩/\lx (l.take (i+1)) k=cH l[i].2 (cq l[i].1 (lx (l.take i) k))
 |(a,b)::l,k,0,_,_=>⟨rfl,rfl⟩
 |(a,b)::l,k,i+1,h,h'=>MK l (cH b (cq a k)) i (by simpa [zi]using h) (by simpa using h')
def LI:∀ (l:List (List (Nat×Nat)×List Nat)) (k:Nat),(zi l k).length=l.length
 | [],_=>rfl
 |(a,b)::l,k=>by rw[zi,au,LI l,au]
def Iq(l:List (Nat×Nat))(i k:Nat):cq (l.take i) k<=cq l k:=by
 have e:cq l k=cq (l.drop i) (cq (l.take i) k):=by rw[<-yr,dn]
 rw[e];exact w8 _ _
def Ir(l:List Nat)(i k:Nat):cH (l.take i) k<=cH l k:=by
 have e:cH l k=cH (l.drop i) (cH (l.take i) k):=by rw[<-yw,dn]
 rw[e];exact qE _ _
def Fw(K:bJ cf)(k n:Nat)(hk:k+2*n<=1000000000000):av cf 61 [FX (lG k n),I k] [] st=some (I (k+2*n:Nat),st):=by
 refine cQ K.tab (F:=F61) (t:=4) rfl rfl rfl (lb rfl) (by simp[ga,aQ]) (dD _ _) (n+1) ?_;have hl:=wY k n;have hm:((lG k n).flatMap fc).length=n*2:=by rw[fq,hl]
 unfold F61 qr qd qm qi qb qk ql qf qt qa qn;simp only[↓pa];refine be (fun q fr st=>∃ i:Nat,q=n-i/\i<=n/\fr 0=FX (lG k n)/\fr 1=I (k+2*i:Nat)/\fr 5=I i) n (by omega) ⟨0,by simp,by omega,by simp only[↓pa,↓reduceIte,reduceCtorEq],by simp only[↓pa,↓reduceIte,reduceEqDiff,reduceMul]<;>rfl,by simp only[↓pa,↓reduceIte]<;>rfl⟩ ?_
 rintro q fr st ⟨i,rfl,hi,f0,f1,f5⟩;simp only[↓pa,pb,aV,↓reduceIte,reduceEqDiff,reduceCtorEq,f0,f5,hl];refine aa (fun h=>?_) (fun h=>?_)
 ·have hlt:i<(lG k n).length:=by omega
  have hp0:=df fc 2 (fun _=>rfl) 0 1 false (by decide) (lG k n) i hlt;have hp1:=df fc 2 (fun _=>rfl) 1 1 false (by decide) (lG k n) i hlt;rw[ML hlt]at hp0 hp1;rw[bi]at hp0;have ht:=fun st=>ip (st:=st) K (k+2*i) (by omega);have ht2:=fun st=>ip (st:=st) K (k+2*i+1) (by omega);simp (disch:=omega)only[↓pa,↓dx,pb,ai,cB,fD,aV,aj,ah,↓reduceIte,reduceEqDiff,du,reduceCtorEq,f0,f1,f5,hl,h,bi,hp0,hp1,fc,ht,ht2];exact⟨n- (i+1),by omega,i+1,rfl,by omega,by congr 1,rfl⟩
 ·have:i=n:=by omega
  subst this;simp only[↓pa,pb,↓reduceIte,reduceEqDiff,f1,h]
def Me(K:bJ cf)(k:Nat)(l:List (Nat×Nat))(hk:cq l k<=1000000000000):av cf 52 [.list l.length ((mL l k).flatMap nc) .no,I k] [] st=some (I (cq l k:Nat),st):=by
 have hl:=tY l k;have hpl:cT (.list l.length ((mL l k).flatMap nc) .no):=fE (gz nc lu _);refine cQ K.tab (F:=F52) (t:=4) rfl rfl rfl (lb rfl) (by simp[hpl,aQ]) (dD _ _) (l.length+1) ?_;have hm:((mL l k).flatMap nc).length=l.length*3:=by rw[bN nc 3 cC,hl]
 have hN:=yq l k;unfold F52 qg qr qd qm qi qb qk ql qf qu qa qn;simp only[↓pa];refine be (fun q fr st=>∃ i:Nat,q=l.length-i/\i<=l.length/\fr 0= .list l.length ((mL l k).flatMap nc) .no/\fr 1=I (cq (l.take i) k:Nat)/\fr 5=I i) l.length (by omega) ⟨0,by simp,by omega,by simp only[↓pa,↓reduceIte,reduceCtorEq],by simp only[↓pa,↓reduceIte,reduceEqDiff]<;>rfl,by simp only[↓pa,↓reduceIte]<;>rfl⟩ ?_
 rintro q fr st ⟨i,rfl,hi,f0,f1,f5⟩;simp only[↓pa,pb,aV,↓reduceIte,reduceEqDiff,reduceCtorEq,f0,f5];refine aa (fun h=>?_) (fun h=>?_)
 ·have hlt:i<(mL l k).length:=by omega
  have hlt':i<l.length:=by omega
  obtain⟨ha,he⟩:=HV l k i hlt hlt';have hle:=Iq l (i+1) k;have hp0:=df nc 3 cC 0 1 false (by decide) (mL l k) i hlt;have hp1:=df nc 3 cC 1 1 false (by decide) (mL l k) i hlt;have hp2:=df nc 3 cC 2 1 false (by decide) (mL l k) i hlt;rw[ha]at hp0 hp1 hp2;rw[bi]at hp0;generalize cq (l.take i) k=m at*;have ht:=fun st=>Md (st:=st) K (m+1) l[i].1 (by omega);have hf:=fun st=>Fw (st:=st) K (m+1+l[i].1) l[i].2 (by omega);simp (disch:=omega)only[↓pa,pb,ai,aV,↓reduceIte,reduceEqDiff,du,reduceCtorEq,f0,f1,f5,h,bi,hp0,hp1,hp2,nc,ht,hf,uJ];exact⟨l.length- (i+1),by omega,i+1,rfl,by omega,by rw[he],rfl⟩
 ·have:l.take i=l:=bA (by omega);rw[this]at f1;simp only[↓pa,pb,↓reduceIte,reduceEqDiff,f1,h]
def Mg(K:bJ cf)(k:Nat)(l:List Nat)(hk:cH l k<=1000000000000):av cf 53 [.list l.length ((lT l k).flatMap ec) .no,I k] [] st=some (I (cH l k:Nat),st):=by
 have hl:=tZ l k;have hpl:cT (.list l.length ((lT l k).flatMap ec) .no):=fE (gz ec ly _);refine cQ K.tab (F:=F53) (t:=4) rfl rfl rfl (lb rfl) (by simp[hpl,aQ]) (dD _ _) (l.length+1) ?_;have hm:((lT l k).flatMap ec).length=l.length*5:=by rw[bN ec 5 cw,hl]
 have hN:=yu l k;unfold F53 qg qr qd qm qi qb qk ql qf qt qu qa qn;simp only[↓pa];refine be (fun q fr st=>∃ i:Nat,q=l.length-i/\i<=l.length/\fr 0= .list l.length ((lT l k).flatMap ec) .no/\fr 1=I (cH (l.take i) k:Nat)/\fr 5=I i) l.length (by omega) ⟨0,by simp,by omega,by simp only[↓pa,↓reduceIte,reduceCtorEq],by simp only[↓pa,↓reduceIte,reduceEqDiff]<;>rfl,by simp only[↓pa,↓reduceIte]<;>rfl⟩ ?_
 rintro q fr st ⟨i,rfl,hi,f0,f1,f5⟩;simp only[↓pa,pb,aV,↓reduceIte,reduceEqDiff,reduceCtorEq,f0,f5];refine aa (fun h=>?_) (fun h=>?_)
 ·have hlt:i<(lT l k).length:=by omega
  have hlt':i<l.length:=by omega
  obtain⟨ha,he⟩:=HW l k i hlt hlt';have hle:=Ir l (i+1) k;have hp0:=df ec 5 cw 0 1 false (by decide) (lT l k) i hlt;have hp1:=df ec 5 cw 1 1 false (by decide) (lT l k) i hlt;have hp2:=df ec 5 cw 2 1 false (by decide) (lT l k) i hlt;have hp3:=df ec 5 cw 3 1 false (by decide) (lT l k) i hlt;have hp4:=df ec 5 cw 4 1 false (by decide) (lT l k) i hlt;rw[ha]at hp0 hp1 hp2 hp3 hp4;rw[bi]at hp0;generalize cH (l.take i) k=m at*;have ht:=fun st=>ip (st:=st) K (m+1) (by omega);have hf:=fun st=>Fw (st:=st) K (m+4) l[i] (by omega);simp (maxSteps:=999999) (disch:=omega)only[↓pa,↓dx,pb,ai,cB,fD,aV,aj,ah,↓reduceIte,reduceEqDiff,du,reduceCtorEq,f0,f1,f5,h,bi,hp0,hp1,hp2,hp3,hp4,ec,ht,hf,uJ];exact⟨l.length- (i+1),by omega,i+1,rfl,by omega,by rw[he],rfl⟩
 ·have:l.take i=l:=bA (by omega);rw[this]at f1;simp only[↓pa,pb,↓reduceIte,reduceEqDiff,f1,h]
def sa{α:Type}(m:α->Nat)(a:α)(l:List α):fk m (a::l)=1+m a+fk m l:=by simp[fk];omega
def Ez{α:Type}(m:α->Nat):fk m []=0:=rfl
def FP{α:Type}(m:α->Nat)(a b:List α):fk m (a++b)=fk m a+fk m b:=by simp[fk];omega
def MB(es:List Eg)(n k:Int):∀ l:List Nd,fk fb (se es l n k)<=fk fb l
 | []=>aE _
 |x::l=>by
  have ih:=MB es n k l;rw[sd,FP,sa];have:fk fb (nX es n k x)<=1+fb x:=by
   unfold nX;split
   ·rw[sa,Ez];omega
   ·split
    ·have e:fb (⟨x.id,[],[]⟩:Nd)=0:=rfl;rw[sa,Ez,e];omega
    ·exact aM _
  omega
def FQ(g:bY)(n:Int):∀ (j:Nat) (x:bY),x∈rf g n j->∃ k:Int,x=K3 g n k
 |0,x,h=>by simp[rf]at h
 |j+1,x,h=>by
  rw[rf,ay]at h;rcases h with h|h
  ·exact FQ g n j x h
  ·exact⟨j,by simpa using h⟩
def E9:∀ (l:List Nd) (k:Nat),cq (l.map fM) k<=k+2*fk fb l
 | [],k=>by simp[cq,fk]
 |x::l,k=>by
  have ih:=E9 l (k+1+x.labels.length+2*x.fields.length);have h1:= @jc _ List.length x.labels;have h2:= @jc _ mn x.fields;rw[aH,fM,cq,sa];have h3:fb x=fk List.length x.labels+fk mn x.fields:=rfl;omega
def Fa:∀ (l:List Eg) (k:Nat),cH (l.map fY) k<=k+4*fk iG l
 | [],k=>by simp[cH,fk]
 |x::l,k=>by
  have ih:=Fa l (k+4+2*x.fields.length);have h2:= @jc _ mn x.fields;rw[aH,fY,cH,sa];have h3:iG x=x.type.length+fk mn x.fields:=rfl;omega
def C9(g:bY)(k:Nat):cH (g.edges.map fY) (cq (g.nodes.map fM) k)<=k+4*lQ g:=by
 have h1:=E9 g.nodes k;have h2:=Fa g.edges (cq (g.nodes.map fM) k);unfold lQ;omega
def LT(c:Nat):∀ (l:List bY) (k:Nat),(∀ g∈l,lQ g<=c)->lx (l.map Ou) k<=k+l.length* (4*c)
 | [],k,_=>by simp[lx]
 |g::l,k,h=>by
  have h1:=C9 g k;have h2:=h g List.mem_cons_self;have ih:=LT c l (cH (g.edges.map fY) (cq (g.nodes.map fM) k)) fun x hx=>h x (bU _ hx);rw[aH,Ou,lx,au,gr];omega
def Kq{f:Nat}{as:List PV}{r:PV}{st':St}(h:av cf f as [] st=some (r,st'))(hf:st.fl<=st.nx):st'.fl<=st'.nx:=by
 unfold av at h;split at h
 ·cases h
 ·split at h
  ·cases h
  ·simp only at h;split at h
   ·split at h
    ·simp only[bo,cn]at h;rw[<-h.2];simp only[St.more_nx];split<;>omega
    ·cases h
   ·cases h
def GX{f:Nat}{as:List PV}{p:PV}(h:∃ r,r=p/\∃ fl,av cf f as [] st=some (r,cZ st fl))(hf:st.fl<=st.nx)(k:∀ fl,fl<=st.nx->A (mk p (cZ st fl))):cP (av cf f as [] st) mk A:=by
 obtain⟨r,rfl,fl,h⟩:=h;exact⟨_,_,h,k fl (Kq h hf)⟩
def rW{f:Nat}{as bs:List PV}(hm:as.map aC=bs)(hp:as.all bR=true)(hb:∀ p∈bs,cT p)(hf:nj f=false:=by rfl):av cf f as [] st=av cf f bs [] st:=by
 subst hm;obtain⟨q1,q2⟩:=dE hb;rw[lA hp q1 q2 hf]
def qB{J ns:List Nat}{st:St}{s:Nat}:(dI J ns st).objs s=(st.objs s).map fun c=>c.map (bV J):=rfl
def m7{cs:List PV}:aC (.agg cs)= .agg (aF cs):=by simp[aC,aF,ren]
def oa(id:Int):List Eg->Nat->Int
 | [],_=> -1
 |e::l,k=>if e.id=id then k else oa id l (k+1)
def fI(l:List Eg)(id:Int):Int:=oa id l 0
def sD(l:List Eg)(id:Int):Option Eg:=l.find? fun e=>decide (e.id=id)
def wa(l:List Nd)(id:Int):Option Nd:=l.find? fun e=>decide (e.id=id)
def Ii(id:Int):∀ (l:List Eg) (k:Nat),(oa id l k= -1/\sD l id=none)\/∃ j,∃ h:j<l.length,oa id l k=((k+j:Nat):Int)/\sD l id=some l[j]
 | [],_=> .inl ⟨rfl,rfl⟩
 |e::l,k=>by
  by_cases h:e.id=id
  ·exact .inr ⟨0,by simp,by simp[oa,h],by simp[sD,h]⟩
  ·rcases Ii id l (k+1)with⟨h1,h2⟩|⟨j,hj,h1,h2⟩
   ·exact .inl ⟨by simp[oa,h,h1],by simpa [sD,h]using h2⟩
   ·exact .inr ⟨j+1,by simp;omega,by rw[oa,ad h,h1];congr 1;omega,by simpa [sD,h]using h2⟩
def H8(id:Int):∀ (l:List Nd) (k:Nat),(mw id l k= -1/\wa l id=none)\/∃ j,∃ h:j<l.length,mw id l k=((k+j:Nat):Int)/\wa l id=some l[j]
 | [],_=> .inl ⟨rfl,rfl⟩
 |e::l,k=>by
  by_cases h:e.id=id
  ·exact .inr ⟨0,by simp,by simp[mw,h],by simp[wa,h]⟩
  ·rcases H8 id l (k+1)with⟨h1,h2⟩|⟨j,hj,h1,h2⟩
   ·exact .inl ⟨by simp[mw,h,h1],by simpa [wa,h]using h2⟩
   ·exact .inr ⟨j+1,by simp;omega,by rw[mw,ad h,h1];congr 1;omega,by simpa [wa,h]using h2⟩
def HJ{l:List Eg}{j:Nat}(h:j<l.length):bI (l.flatMap ec) (j*5+4) 1 false=some (FX l[j].fields):=by
 have:=df ec 5 cw 4 1 false (by decide) l j h;rw[this];rfl
def HH{l:List Nd}{j:Nat}(h:j<l.length):bI (l.flatMap nc) (j*3+2) 1 false=some (FX l[j].fields):=by
 have:=df nc 3 cC 2 1 false (by decide) l j h;rw[this];rfl
def BG(K:bJ cf)(g:bY)(id:Int)(hl:g.edges.length<=2000000):av cf 99 [.agg (gc g),I id] [] st=some (I (fI g.edges id),st):=by
 refine cQ K.tab (F:=F99) (t:=4) rfl rfl rfl (lb rfl) (by simp[dW,aQ]) (dD _ _) (g.edges.length+1) ?_;have hm:=bN ec 5 cw g.edges;unfold F99 qr qd qm qi qb qk ql qf qa qn qo;simp only[↓pa,ai,↓reduceIte,reduceAdd,gc];refine be (fun k fr st=>∃ i:Nat,k=g.edges.length-i/\i<=g.edges.length/\fr 1=I id/\fr 2= .ptr 2 0/\st.objs 2=some [NX g.nodes,EX g.edges]/\fr 5=I i/\oa id (g.edges.drop i) i=fI g.edges id) g.edges.length (by omega) ⟨0,by simp,by omega,by simp only[↓pa,pb,↓reduceIte,reduceEqDiff],by simp only[↓pa,↓reduceIte,reduceEqDiff],by simp only[pb,↓reduceIte],by simp only[↓pa,↓reduceIte];rfl,rfl⟩ ?_;rintro k fr st ⟨i,rfl,hi,f1,f2,o2,f5,hQ⟩;simp only[↓pa,pb,ai,aV,↓reduceIte,reduceEqDiff,reduceAdd,f2,o2,f5];refine aa (fun h1=>?_) (fun h1=>?_)
 ·rw[a6 h1,oa]at hQ;simp (disch:=omega)only[↓pa,pb,ai,↓reduceIte,reduceEqDiff,reduceAdd,f1,f2,o2,f5,bi,pi h1];refine aa (fun h2=>?_) (fun h2=>?_)
  ·rw[ak h2]at hQ;simp only[↓pa,pb,↓reduceIte,reduceEqDiff,f5,h2];rw[<-hQ]
  ·rw[ad h2]at hQ;simp (disch:=omega)only[↓pa,pb,aV,↓reduceIte,reduceEqDiff,f1,f2,o2,f5,h2];exact⟨g.edges.length- (i+1),by omega,i+1,rfl,by omega,rfl,hQ⟩
 ·have:i=g.edges.length:=by omega
  rw[this,mI]at hQ;simp only[↓pa,pb,↓reduceIte,h1];rw[<-hQ];rfl
def KD(K:bJ cf)(g:bY)(id:Int)(hl:g.edges.length<=2000000):av cf 101 [.agg (gc g),I id] [] st=some (I (fI g.edges id),st):=by
 refine cQ K.tab (F:=F101) (t:=4) rfl rfl rfl (lb rfl) (by simp[dW,aQ]) (dD _ _) (g.edges.length+1) ?_;have hm:=bN ec 5 cw g.edges;unfold F101 qr qd qm qi qb qk ql qf qa qn qs qo qN;simp only[↓pa,pb,ai,↓reduceIte,reduceEqDiff,reduceAdd,gc];refine be (fun k fr st=>∃ i:Nat,k=g.edges.length-i/\i<=g.edges.length/\fr 1=I id/\fr 8=EX g.edges/\fr 9=I g.edges.length/\fr 10=I i/\oa id (g.edges.drop i) i=fI g.edges id) g.edges.length (by omega) ⟨0,by simp,by omega,by simp only[↓pa,pb,↓reduceIte,reduceEqDiff],by simp only[↓pa,↓reduceIte,reduceEqDiff],by simp only[↓pa,↓reduceIte,reduceEqDiff],by simp only[↓pa,↓reduceIte];rfl,rfl⟩ ?_;rintro k fr st ⟨i,rfl,hi,f1,f8,f9,f10,hQ⟩;simp only[↓pa,pb,aV,↓reduceIte,f9,f10];refine aa (fun h1=>?_) (fun h1=>?_)
 ·rw[a6 h1,oa]at hQ;simp (disch:=omega)only[↓pa,pb,ai,↓reduceIte,reduceEqDiff,reduceAdd,reduceLeDiff,f1,f8,f10,h1,pj h1,ec];refine aa (fun h2=>?_) (fun h2=>?_)
  ·rw[ak h2]at hQ;simp only[↓pa,pb,↓reduceIte,reduceEqDiff,h2];rw[<-hQ]
  ·rw[ad h2]at hQ;simp (disch:=omega)only[↓pa,pb,aV,↓reduceIte,reduceEqDiff,f1,f8,f9,f10,h2];exact⟨g.edges.length- (i+1),by omega,i+1,rfl,by omega,rfl,hQ⟩
 ·have:i=g.edges.length:=by omega
  rw[this,mI]at hQ;simp only[↓pa,pb,↓reduceIte,h1];rw[<-hQ];rfl
def same(x e:Eg):Bool:=decide (x.type=e.type) && (decide (x.src=e.src) && decide (x.dst=e.dst))
def iL:List UInt8:=[110,117,108,108]
def wu:List Fd->List UInt8->List UInt8
 | [],_=>iL
 |f::l,n=>if f.1=n then f.2 else wu l n
end Go.PM
namespace Go.PM
def ED(a:List UInt8):eq a []=false:=by cases a<;>rfl
def vO(b:UInt8)(l:List UInt8):eq [] (b::l)=true:=rfl
def xY(a b:UInt8)(l m:List UInt8):eq (a::l) (b::m)=(decide (a<b)||(a==b && eq l m)):=rfl
def mq:∀ a:List UInt8,eq a a=false
 | []=>rfl
 |a::l=>by rw[xY,mq l];simp
def m8:∀ {a b c:List UInt8},eq a b=true->eq b c=true->eq a c=true
 |_,[],_,h,_=>by rw[ED]at h;cases h
 |_,_::_,[],_,h=>by rw[ED]at h;cases h
 | [],_::_,_::_,_,_=>rfl
 |a::l,b::m,c::n,h1,h2=>by
  rw[xY]at h1 h2 ⊢;simp only[cF,decide_eq_true_eq,ae,jh]at h1 h2 ⊢;rcases h1 with h1|⟨rfl,h1⟩
  ·rcases h2 with h2|⟨rfl,h2⟩
   ·exact .inl (UInt8.lt_trans h1 h2)
   ·exact .inl h1
  ·rcases h2 with h2|⟨rfl,h2⟩
   ·exact .inl h2
   ·exact .inr ⟨rfl,m8 h1 h2⟩
def pc:∀ {a b:List UInt8},eq a b=false->eq b a=false->a=b
 | [],[],_,_=>rfl
 | [],_::_,h,_=>by rw[vO]at h;cases h
 |_::_,[],_,h=>by rw[vO]at h;cases h
 |a::l,b::m,h1,h2=>by
  rw[xY]at h1 h2;simp only[jQ,decide_eq_false_iff_not]at h1 h2;have hab:a=b:=by
   have e1:=UInt8.not_lt.1 h1.1;have e2:=UInt8.not_lt.1 h2.1;exact UInt8.le_antisymm e2 e1
  subst hab;simp only[kw,dj]at h1 h2;rw[pc h1.2 h2.2]
def rh{a b:List UInt8}(h:eq a b=true):eq b a=false:=by
 cases h2:eq b a with
 |false=>rfl
 |true=>rw[<-mq a,<-m8 h h2]
def mx(x:List UInt8):List (List UInt8)->List (List UInt8)
 | []=>[x]
 |y::l=>if eq y x=true then y::mx x l else if y=x then y::l else x::y::l
def lX(l:List (List UInt8)):Prop:=l.Pairwise fun a b=>eq a b=true
def yh{x y:List UInt8}:∀ {l:List (List UInt8)},y∈mx x l↔y=x\/y∈l
 | []=>by simp[mx]
 |z::l=>by
  rw[mx];split
  ·rw[aX,yh (l:=l),aX];constructor
   ·rintro(h|h|h)<;>simp[h]
   ·rintro(h|h|h)<;>simp[h]
  ·split
   ·rename_i e;subst e;simp
   ·simp
def zA{x:List UInt8}:∀ {l:List (List UInt8)},lX l->lX (mx x l)
 | [],_=>i7 _ _
 |y::l,h=>by
  have h2:=dr.1 h;rw[mx];split
  ·rename_i hy;refine dr.2 ⟨fun z hz=>?_,zA h2.2⟩;rcases yh.1 hz with rfl|hz
   ·exact hy
   ·exact h2.1 z hz
  ·rename_i hy;split
   ·exact h
   ·rename_i hne;have hxy:eq x y=true:=by
     cases hc:eq x y with
     |true=>rfl
     |false=>exact absurd (pc (by simpa using hy) hc) hne
    refine dr.2 ⟨fun z hz=>?_,h⟩;rcases aX.1 hz with rfl|hz
    ·exact hxy
    ·exact m8 hxy (h2.1 z hz)
def HP:∀ {a b:List (List UInt8)},lX a->lX b->(∀ x,x∈a↔x∈b)->a=b
 | [],[],_,_,_=>rfl
 | [],y::b,_,_,h=>by have:=(h y).2 List.mem_cons_self;simp at this
 |x::a,[],_,_,h=>by have:=(h x).1 List.mem_cons_self;simp at this
 |x::a,y::b,ha,hb,h=>by
  have ha2:=dr.1 ha;have hb2:=dr.1 hb;have hxy:x=y:=by
   rcases aX.1 ((h x).1 List.mem_cons_self)with e|hx
   ·exact e
   ·rcases aX.1 ((h y).2 List.mem_cons_self)with e|hy
    ·exact e.symm
    ·have h1:=rh (ha2.1 y hy);rw[hb2.1 x hx]at h1;cases h1
  subst hxy;rw[HP ha2.2 hb2.2 fun z=>?_];constructor
  ·intro hz;rcases aX.1 ((h z).1 (bU _ hz))with e|hz'
   ·subst e;have:=ha2.1 z hz;rw[mq]at this;cases this
   ·exact hz'
  ·intro hz;rcases aX.1 ((h z).2 (bU _ hz))with e|hz'
   ·subst e;have:=hb2.1 z hz;rw[mq]at this;cases this
   ·exact hz'
def Ic{x:List UInt8}:∀ {l:List (List UInt8)} {k:Nat},k<=l.length->(∀ j (h:j<l.length),j<k->eq l[j] x=true)->(∀ h:k<l.length,eq l[k] x=false)->
  (∀ h:k<l.length,l[k]=x->mx x l=l)/\((∀ h:k<l.length,l[k]≠x)->mx x l=l.take k++x::l.drop k)
 | [],k,hk,_,_=>by
  have:k=0:=by simpa using hk
  subst this;exact⟨fun h=>by simp at h,fun _=>rfl⟩
 |y::l,0,_,_,h2=>by
  have hy:=h2 (by simp);have hy:eq y x=false:=hy;rw[mx,ad (by rw[hy];simp)];refine⟨fun _ e=>?_,fun hne=>?_⟩
  ·have e:y=x:=e;rw[ak e]
  ·have hne:y≠x:=hne (by simp);rw[ad hne];rfl
 |y::l,k+1,hk,h1,h2=>by
  have hy:eq y x=true:=h1 0 (by simp) (by omega);obtain⟨i1,i2⟩:=Ic (x:=x) (l:=l) (k:=k) (by simpa using hk) (fun j h hj=>by have:=h1 (j+1) (by simpa using h) (by omega);simpa using this) (fun h=>by have:=h2 (by simpa using h);simpa using this);rw[mx,ak hy];refine⟨fun h e=>?_,fun hne=>?_⟩
  ·rw[i1 (by simpa using h) (by simpa using e)]
  ·rw[i2 fun h=>by have:=hne (by simpa using h);simpa using this];rfl
def Gs{x:List UInt8}:∀ {l:List (List UInt8)} {k:Nat},lX l->x∉l->k<=l.length->(∀ j (h:j<l.length),k<=j->eq x l[j]=true)->(k=0\/∃ h:k-1<l.length,eq x l[k-1]=false)->mx x l=l.take k++x::l.drop k
 | [],k,_,_,hk,_,_=>by
  have:k=0:=by simpa using hk
  subst this;rfl
 |y::l,k,ho,hn,hk,h1,h2=>by
  have ho2:=dr.1 ho;have hne:y≠x:=fun e=>hn (by rw[e];exact List.mem_cons_self);rw[mx];by_cases hy:eq y x=true
  ·rw[ak hy];cases k with
   |zero=>have:=h1 0 (by simp) (aE _);have:=rh hy;simp_all
   |succ k=>
    rw[Gs (k:=k) ho2.2 (fun h=>hn (bU _ h)) (by simpa using hk) (fun j h hj=>by have:=h1 (j+1) (by simpa using h) (by omega);simpa using this) ?_]
    ·rfl
    ·rcases iB k with h0|h0
     ·exact .inl h0
     ·right;obtain⟨h,h3⟩:=h2.resolve_left (by omega);refine⟨by simp at hk;omega,?_⟩;have e:(y::l)[k+1-1]=l[k-1]'(by simp at hk;omega):=by
       have:k=(k-1)+1:=by omega
       simp only[nA]
       conv=>lhs;arg 2;rw[this]
       rfl
      rw[e]at h3;exact h3
  ·have hxy:eq x y=true:=by
    cases hc:eq x y with
    |true=>rfl
    |false=>exact absurd (pc (by simpa using hy) hc) hne
   rw[ad hy,ad hne];have hk0:k=0:=by
    rcases h2 with h|⟨h,h3⟩
    ·exact h
    ·exfalso;rcases iB (k-1)with h0|h0
     ·simp only[h0,List.getElem_cons_zero]at h3;rw[hxy]at h3;cases h3
     ·have:(y::l)[k-1]∈l:=by
       have e:k-1=(k-1-1)+1:=by omega
       have h':k-1-1<l.length:=by simp at h;omega
       have:(y::l)[k-1]=l[k-1-1]:=by
        conv=>lhs;arg 2;rw[e]
        rfl
       rw[this];exact ct h'
      rw[m8 hxy (ho2.1 _ this)]at h3;cases h3
   subst hk0;rfl
def GB:∀ (l o:List (List UInt8)),lX o->lX (l.foldl (fun o x=>mx x o) o)
 | [],_,h=>h
 |_::l,_,h=>GB l _ (zA h)
def JR{y:List UInt8}:∀ {l o:List (List UInt8)},y∈l.foldl (fun o x=>mx x o) o↔y∈l\/y∈o
 | [],o=>by simp
 |x::l,o=>by
  rw[lm,JR (l:=l),yh,aX];constructor
  ·rintro(h|h|h)<;>simp[h]
  ·rintro((h|h)|h)<;>simp[h]
def CV{x:List UInt8}:∀ {l:List (List UInt8)},(mx x l).length<=l.length+1
 | []=>by simp[mx]
 |y::l=>by
  rw[mx];split
  ·have:=CV (x:=x) (l:=l);simp;omega
  ·split<;>simp
def J9:∀ {l o:List (List UInt8)},(l.foldl (fun o x=>mx x o) o).length<=l.length+o.length
 | [],o=>by simp
 |x::l,o=>by
  have h1:=J9 (l:=l) (o:=mx x o);have h2:=CV (x:=x) (l:=o);rw[lm,au];omega
structure Ch where
 kind:Int
 node:Nd
 edge:Eg
 value:List UInt8
 name:List UInt8
 text:List UInt8
structure KW (l:List Fd):Prop where
 ord:lX (l.map (·.1))
 val:∀ f∈l,f.2≠iL
def GF:∀ {l:List Fd} {n:List UInt8},n∈l.map (·.1)->∃ f∈l,wu l n=f.2
 | [],_,h=>by simp at h
 |f::l,n,h=>by
  rw[wu];by_cases e:f.1=n
  ·rw[ak e];exact⟨f,List.mem_cons_self,rfl⟩
  ·rw[ad e];obtain⟨g,hg,h2⟩:=GF (l:=l) (n:=n) (by
    rw[aH,aX]at h;exact h.resolve_left fun x=>e x.symm)
   exact⟨g,bU _ hg,h2⟩
def GE:∀ {l:List Fd} {n:List UInt8},n∉l.map (·.1)->wu l n=iL
 | [],_,_=>rfl
 |f::l,n,h=>by
  rw[aH,aX,not_or]at h;rw[wu,ad fun e=>h.1 e.symm,GE h.2]
end Go.PM
