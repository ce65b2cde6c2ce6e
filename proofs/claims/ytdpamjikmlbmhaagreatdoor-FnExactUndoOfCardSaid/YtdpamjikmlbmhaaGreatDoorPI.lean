/- A part of the proof: texts PkO to PuC, joined. Conditions: none. -/
import Derived.Test.YtdpamjikmlbmhaaGreatDoorPH
import Derived.Test.YtdpamjikmlbmhaaGreatDoorProg
import Derived.WalkKit
import Derived.OwnWalk
import Derived.RegionTactic
import Derived.Deep.RegionLaw
import Derived.Deep.LoopGhost
import Derived.Test.YtdpamjikmlbmhaaGreatDoorCards
import Derived.Test.YtdpamjikmlbmhaaGreatDoorTie
import Derived.Deep.DeepWitnessRowRef
import Derived.LaidMore
import Derived.ProofKit
import Derived.SevenTiedAt
set_option linter.all false
set_option maxHeartbeats 32000000
open Nat (reduceEqDiff reduceAdd reduceLeDiff reduceLT reduceMul reduceSub)
namespace Go.PM
open Go.Lib
variable {cf:aJ} {st:St} {mk:PV->St->Fr×St} {A:Fr×St->Prop} {s:Nat}
def JQ{l:List Fd}{i:Nat}(h:i<l.length)(n v:List UInt8)(b:Bool):re n v b (l.drop i)=(if b=false/\d4 l[i].1 n=false then [(n,v)]else [])++(if l[i].1≠n then [l[i]]else [])++re n v (b||!d4 l[i].1 n) (l.drop (i+1)):=by
 rw[bj h,re]
def uj{e:Nat}{t:aF}(st:St):jA e (cS e t st):=by cases t<;>exact .inr ⟨_,rfl⟩
def Mk(l:List Fd):∀ p∈l.flatMap fc,yJ p=true:=by
 intro p hp;obtain⟨f,-,h⟩:=nP.1 hp;rcases aZ.1 h with rfl|h
 ·rfl
 ·rw[dM.1 h];rfl
def G7{l L:List Fd}{n v:List UInt8}{tok:aF}(hQ:fp l n v=L)(hG:Gr 133 st.nx st.cnt L.length tok)(hto:jA 133 tok)(hfl:st.fl=0):
  ft [.list L.length (L.flatMap fc) tok,.bool (decide ((L.length:Int)<=20))]=true/\np (.tup [.list L.length (L.flatMap fc) tok,.bool (decide ((L.length:Int)<=20))])=true/\aY (.tup [.list L.length (L.flatMap fc) tok,.bool (decide ((L.length:Int)<=20))])=true/\a8 st (aB (.tup [.list L.length (L.flatMap fc) tok,.bool (decide ((L.length:Int)<=20))]))/\
   ∃ r0,PV.tup [.list L.length (L.flatMap fc) tok,.bool (decide ((L.length:Int)<=20))]= .tup [r0,.bool (decide (((fp l n v).length:Int)<=20))]/\aO r0=FX (fp l n v):=by
 subst hQ;have hp:=gK (fp l n v);obtain⟨s1,s2⟩:=B5 (Mk (fp l n v));have hn:np (.list (fp l n v).length ((fp l n v).flatMap fc) tok)=true:=hp.1;have hs:aY (.list (fp l n v).length ((fp l n v).flatMap fc) tok)=true:=by
  rcases hto with rfl|⟨k,rfl⟩
  ·have h0:(fp l n v).length=0:=hG;rw[gI.1 h0];rfl
  ·simp only[aY,s1,ay]
 have ht:aB (.tup [.list (fp l n v).length ((fp l n v).flatMap fc) tok,.bool (decide (((fp l n v).length:Int)<=20))])=pG tok (fp l n v).length:=by
  show aw [_,_]=_;rw[aw,aw,aw,k7,s2];simp[aB]
 refine⟨by simp only[ft,hn,bv,cH];rfl,?_,?_,?_,_,rfl,?_⟩
 ·simp only[np,off,dS,bv]at hn ⊢;exact hn
 ·show bq [_,_]=true;rw[bq,hs];rfl
 ·rw[ht];rcases hto with rfl|⟨k,rfl⟩
  ·exact eN
  ·exact DN hG.1 hG.2.1 (by rw[hfl];exact aW _)
 ·rw[fO,hp.2.1]
def NJ{l:List Fd}{n v:List UInt8}{b:Bool}{ns:List Nat}{c:PV}{o:Option (PV×St)}(hQ:aO c=FX (fp l n v))(g h:Nat->Option Nat)(hF:dC st.nx ns (ren g false (ren h false (.tup [c,.bool b]))))(hc:o=some (ren g false (ren h false (.tup [c,.bool b])),st.more ns)):∃ r ns,o=some (.tup [r,.bool b],st.more ns)/\dC st.nx ns r/\aO r=FX (fp l n v):=by
 refine⟨ren g false (ren h false c),ns,by rw[hc];rfl,⟨?_,?_,?_⟩,by rw[ij,ij];exact hQ⟩
 ·have:=hF.tk;have e:aB (ren g false (ren h false (.tup [c,.bool b])))=aB (ren g false (ren h false c)):=by
   show aw [_,_]=_;rw[aw,aw,aw];simp[aB,ren]
  rwa [e]at this
 ·have:=hF.so;have e:aY (ren g false (ren h false (.tup [c,.bool b])))=(aY (ren g false (ren h false c)) && true):=by
   show bq [_,_]=_;rw[bq,bq,bq];simp[aY,ren]
  rw[e,bv]at this;exact this
 ·have:=hF.np;simp only[PM.np,ren,bm,off,dS,bv]at this;exact this
def Oi(K:bO cf)(l:List Fd)(n v:List UInt8)(hl:l.length<=1000000):
  ∃ r ns,az cf 190 [FX l,S n,S v] [] st=some (.tup [r,.bool (decide (((fp l n v).length:Int)<=20))],st.more ns)/\dC st.nx ns r/\aO r=FX (fp l n v):=by
 have hw:Wp cf (l.length+2) F190.body (eM [FX l,S n,S v],bV [] []) (nO F190.res fun p s=>np p=true/\aY p=true/\a8 s (aB p)/\∃ r0,p= .tup [r0,.bool (decide (((fp l n v).length:Int)<=20))]/\aO r0=FX (fp l n v)):=by
  have hm:=eH l;have hnull:decide (v=fX)=decide (v=[110,117,108,108]):=rfl;simp only[F190,↓qU,reduceAdd,reduceSub];simp only[↓pa,pb,↓reduceIte,reduceEqDiff,reduceCtorEq];refine a7 (fun q fr st=>∃ (i:Nat) (b:Bool) (L:List Fd) (tok:aF),q=l.length-i/\i<=l.length/\fr 1=S n/\fr 2=S v/\fr 14=FX l/\fr 15=I l.length/\fr 16=I i/\fr 9= .bool b/\fr 8= .list L.length (L.flatMap fc) tok/\L.length<=i+b.toNat/\fp l n v=L++re n v b (l.drop i)/\Gr 133 st.nx st.cnt L.length tok/\jA 133 tok/\st.fl=0) l.length (by omega)
   ⟨0,decide (v=fX),[],.nil,by simp,by omega,by simp only[↓pa,↓reduceIte,reduceEqDiff],by simp only[↓pa,↓reduceIte,reduceEqDiff],by simp only[↓pa,↓reduceIte,reduceEqDiff],by simp only[↓pa,↓reduceIte,reduceEqDiff],by simp only[↓pa,↓reduceIte];rfl,by simp only[↓pa,↓reduceIte,reduceEqDiff,hnull],by simp only[↓pa,↓reduceIte,reduceEqDiff];rfl,by simp,rfl,rfl,.inl rfl,rfl⟩ ?_
  rintro q fr st ⟨i,b,L,tok,rfl,hi,f1,f2,f14,f15,f16,f9,f8,hLl,hQ,hG,hto,hfl⟩;simp only[↓pa,pb,ak,↓reduceIte,f15,f16];refine af (fun k1=>?_) (fun k1=>?_)
  ·have hlt:i<l.length:=k1;rw[JQ hlt]at hQ;cases b with
   |true=>
    have hLl:L.length<=i+1:=hLl;simp only[Bool.true_eq_false,false_and,if_false,aU,jZ]at hQ;simp (maxSteps:=1000000) (disch:=omega)only[↓pa,pb,ah,↓reduceIte,reduceEqDiff,reduceAdd,reduceLeDiff,al,f1,f14,f16,f9,k1,aI,ar,mn hlt];refine af (fun e=>?_) (fun e=>?_)
    ·rw[ai (by simpa using e),aU]at hQ;simp (maxSteps:=1000000) (disch:=omega)only[↓pa,pb,ak,↓reduceIte,reduceEqDiff,f1,f2,f14,f15,f16,f9,f8,e];exact⟨l.length- (i+1),by omega,i+1,true,L,tok,rfl,by omega,rfl,rfl,rfl,by show _<=i+1+1;omega,hQ,hG,hto,hfl⟩
    ·rw[am e]at hQ;simp only[↓pa,↓au,pb,ah,↓reduceIte,reduceEqDiff,reduceAdd,reduceLeDiff,reduceLT,f8,e];refine bc hG (eH _) rfl (by omega) (by omega) (by decide) ?_;simp (maxSteps:=1000000) (disch:=omega)only[↓pa,pb,ak,↓reduceIte,reduceEqDiff,f1,f2,f14,f15,f16,f9];exact⟨l.length- (i+1),by omega,i+1,true,L++[l[i]],cS 133 tok st,rfl,by omega,rfl,rfl,by rw[ae,bA];rfl,by simp only[ae,aA,a6,ml];omega,by rw[hQ,bn],by rw[ae];exact cD hG,uj st,by rw[jx];exact hfl⟩
   |false=>
    have hLl:L.length<=i:=hLl;simp only[qy,kr]at hQ;simp (maxSteps:=1000000) (disch:=omega)only[↓pa,pb,ah,↓reduceIte,reduceEqDiff,reduceAdd,reduceLeDiff,f1,f14,f16,f9,k1,aI,ar,mn hlt];refine af (fun s1=>?_) (fun s1=>?_)
    ·have hne:¬l[i].1=n:=fun e=>by rw[e,lY]at s1;cases s1
     rw[ai (by rw[s1];simp),am hne,s1,Bool.not_true,aU]at hQ;simp only[↓pa,↓au,pb,ah,↓reduceIte,reduceEqDiff,reduceAdd,reduceLeDiff,reduceLT,al,f1,f8,s1,hne];refine bc hG (eH _) rfl (by omega) (by omega) (by decide) ?_;simp (maxSteps:=1000000) (disch:=omega)only[↓pa,pb,ak,↓reduceIte,reduceEqDiff,f1,f2,f14,f15,f16,f9];exact⟨l.length- (i+1),by omega,i+1,false,L++[l[i]],cS 133 tok st,rfl,by omega,rfl,rfl,by rw[ae,bA];rfl,by simp only[ae,aA,a6,Bool.toNat_false];omega,by rw[hQ,bn],by rw[ae];exact cD hG,uj st,by rw[jx];exact hfl⟩
    ·have s0:d4 l[i].1 n=false:=by simpa using s1
     rw[am s0,s0,Bool.not_false]at hQ;simp only[↓pa,↓au,pb,ah,↓reduceIte,reduceEqDiff,reduceAdd,reduceLeDiff,reduceLT,f1,f2,f8,s1];refine bc hG (eH _) rfl (by omega) (by omega) (by decide) ?_;have hc0:L.flatMap fc++[PV.str ⟨n.toArray⟩,.str ⟨v.toArray⟩]=(L++[(n,v)]).flatMap fc:=by rw[bA];rfl
     have hlx:(L++[(n,v)]).length=L.length+1:=by simp
     have hG2:∀ c d,Gr 133 (cV tok (cA (cA st 11 c) 11 d) (L++[(n,v)]).length).nx (cV tok (cA (cA st 11 c) 11 d) (L++[(n,v)]).length).cnt (L++[(n,v)]).length (cS 133 tok (cA (cA st 11 c) 11 d)):=fun c d=>by
      rw[hlx];exact cD (st:=cA (cA st 11 c) 11 d) (m:=1) hG
     simp only[↓pa,pb,ah,↓reduceIte,reduceEqDiff,reduceAdd,al,f1,hc0];rw[<-hlx];refine af (fun e=>?_) (fun e=>?_)
     ·rw[ai (by simpa using e),aD]at hQ;simp (maxSteps:=1000000) (disch:=omega)only[↓pa,pb,ak,↓reduceIte,reduceEqDiff,f1,f2,f14,f15,f16,e];exact⟨l.length- (i+1),by omega,i+1,true,L++[(n,v)],_,rfl,by omega,rfl,rfl,rfl,by rw[hlx];show _<=i+1+1;omega,by rw[hQ,bn],hG2 _ _,uj _,by rw[jx];exact hfl⟩
     ·rw[am e]at hQ;simp only[↓pa,↓au,pb,ah,↓reduceIte,reduceEqDiff,reduceAdd,reduceLeDiff,reduceLT,e];refine bc (hG2 _ _) (eH _) rfl (by omega) (by omega) (by decide) ?_;simp (maxSteps:=1000000) (disch:=omega)only[↓pa,pb,ak,↓reduceIte,reduceEqDiff,f1,f2,f14,f15,f16];exact⟨l.length- (i+1),by omega,i+1,true,L++[(n,v)]++[l[i]],_,rfl,by omega,rfl,rfl,by rw[@ae _ (L++[(n,v)]),bA (xs:=L++[(n,v)])];rfl,by simp only[ae,aA,a6,ml];omega,by rw[hQ];simp only[bn],by rw[@ae _ (L++[(n,v)])];exact cD (hG2 _ _),uj _,by rw[jx,jx];exact hfl⟩
  ·have hie:l.drop i=[]:=ei (by omega);rw[hie,re]at hQ;cases b with
   |true=>
    simp only[if_true,aD]at hQ;simp only[↓pa,pb,↓reduceIte,reduceEqDiff,gh,f9,f8,k1];exact G7 hQ hG hto hfl
   |false=>
    simp only[cz,if_false]at hQ;simp only[↓pa,↓au,pb,ah,↓reduceIte,reduceEqDiff,reduceAdd,reduceLeDiff,reduceLT,f1,f2,f9,f8,k1];have hLl:L.length<=i:=hLl;refine bc hG (eH _) rfl (by omega) (by omega) (by decide) ?_;have hc0:L.flatMap fc++[PV.str ⟨n.toArray⟩,.str ⟨v.toArray⟩]=(L++[(n,v)]).flatMap fc:=by rw[bA];rfl
    have hlx:(L++[(n,v)]).length=L.length+1:=by simp
    simp only[↓pa,pb,↓reduceIte,reduceEqDiff,gh,hc0];have hG2:=cD (m:=1) hG;rw[<-hlx]at hG2 ⊢;exact G7 hQ hG2 (uj st) (by rw[jx];exact hfl)
 obtain⟨r,ns,r0,hc,hF,⟨c,rfl,hQ⟩,g',h,rfl,hh,hg⟩:=vP (st:=st) (f:=190) (F:=F190) K.tab rfl rfl rfl (lb rfl) (a9z:=[FX l,S n,S v]) (by simp[eL,bR]) (l.length+2) hw;exact NJ hQ g' h hF hc
def Fv{f:Nat}{F:bw}{t:Nat}{a9z c:List PV}{g:cj}{x:cj×Int}(K:jj cf)(hT:T f=some F)(hres:F.res=[.tmp t])(hown:F.own=true)(hs:st.objs s=some c)(hg:lK g c)(hk:a8 st (aw c))(has:∀ p∈a9z,dq p)(hnt:a9z.length+1<=F.nt)(hnk:1<=F.nk)(N:Nat)
  (h:∀ c0 ns,lK g c0->a8 (bV ns [c0]) (aw c0)->Wp cf N F.body (eM (.ptr 0 0::a9z),bV ns [c0]) (BH t fun k c1=>k=x.2/\lK x.1 c1)):
  ∃ c2 ns,az cf f (.ptr s 0::a9z) [0] st=some (I x.2,cA (fA ((aw c).map (·.1)) ns st) s c2)/\dn (.ptr s 0::a9z) [0] st=(aw c).map (·.1)/\lK x.1 c2/\aw c2=cB st.nx ns:=by
 have hm:∀ q∈aw c,(bi ((aw c).map (·.1)) q.1).isSome=true:=fun q hq=>iA q hq;have ht:aw (bm (bi ((aw c).map (·.1))) false c)=cB 0 ((aw c).map (·.2)):=by
  rw[qB (fun q hq=>hq)];exact ua hk.1
 obtain⟨k,c1,c2,ns,h1,h2,⟨rfl,hQ⟩,h4,h5,h6,g',h',rfl,hh,hg'⟩:=Pz K hT hres hown hs has hk hnt hnk N (h _ _ (tE hg hm) (by rw[ht];exact oX _));exact⟨_,ns,h1,h2,tE (tE hQ hh) fun _ _=>hg' _,h4⟩
def yw{α:Type}{enc:α->List PV}{m:Nat}(hm:∀ a,(enc a).length=m){l:List α}{cs:List PV}(hL:fK enc m l cs){j off:Nat}(hj:j<l.length)(ho:off<m):∃ pre p post,cs=pre++p::post/\pre.length=j*m+off/\aO p=(enc l[j])[off]'(by rw[hm];exact ho):=by
 have hlt:j*m+off<cs.length:=by
  rw[hL.len];have:=du m hj;rw[fM]at this;omega
 refine⟨cs.take (j*m+off),cs[j*m+off],cs.drop (j*m+off+1),?_,by rw[aL];omega,?_⟩
 ·rw[<-bj hlt,dy]
 ·have h1:(aQ cs)[j*m+off]'(by rw[ch];exact hlt)=aO cs[j*m+off]:=by simp only[dX,List.getElem_map]
  have h2:bL (l.flatMap enc) (j*m+off) 1 false=some ((enc l[j])[off]'(by rw[hm];exact ho)):=by
   rw[dY enc m hm off 1 false (by omega) l j hj];simp only[bL,hm,show off+1<=m by omega,if_true,cz,if_false];exact aK _
  have h3:bL (l.flatMap enc) (j*m+off) 1 false=some ((aQ cs)[j*m+off]'(by rw[ch];exact hlt)):=by
   rw[<-hL.st];have hl2:j*m+off+1<=(aQ cs).length:=by rw[ch];omega
   simp only[bL,hl2,if_true,cz,if_false];exact aK _
  rw[<-h1];exact Option.some.inj (h3.symm.trans h2)
def ul{n K E off:Nat}{pre post:List PV}{c v:PV}{X Y:List (Nat×Nat)}(hoff:off=pre.length)(hn:0<n)(hs:aY (.list n (pre++c::post) (.own K E))=true)(hnp:aX (pre++c::post)=true)(hk:a8 st (X++aB (.list n (pre++c::post) (.own K E))++Y++aB v))(hv:aY v=true/\np v=true)
  (k:aY (.list n (pre++v::post) (.own K E))=true->aX (pre++v::post)=true->a8 (FO (ir (pre++c::post) off K E n [v]) st) (X++aB (.list n (pre++v::post) (.own K E))++Y)->A (mk .hole (FO (ir (pre++c::post) off K E n [v]) st))):
  dj (xq 1 (.iptr (pre++c::post) off (.el K E n)) (some [v]) st) mk A:=by
 have hK:=hk.2 (K,n) (by simp[aB]);have hsc:bq (pre++c::post)=true:=by simpa [aY]using hs
 have hnotin:∀ q∈aw (pre++c::post)++aB v,q.1≠K:=by
  intro q hq he;have h1:=hk.1 K;rw[bt,bt,bt,aB,bt]at h1;have h2:=fJ.2 ⟨q,hq,he⟩;rw[bt]at h2;simp only[ck,if_true]at h1;omega
 have h8:dN ([K].contains ·) [v]=true:=by
  have:=tH ([K].contains ·) v hv.1 fun q hq=>by simpa using hnotin q (dG _ hq)
  simp only[dN,this,ay]
 refine⟨_,_,BR rfl (by simp[hoff]) hn hK.2.1 hK.1 hK.2.2 (m0 _ _ hsc fun q hq=>by simpa using hnotin q (dk _ hq)) h8,k ?_ ?_ ?_⟩
 ·simp only[eu,bq,aj]at hsc;simp only[aY,eu,bq,hsc.1,hv.1,hsc.2.2,ay]
 ·have e1:aX pre=true:=mP fun q hq=>gm hnp (by simp[hq]);have e2:aX (v::post)=true:=mP fun q hq=>by
   rcases aZ.1 hq with rfl|h
   ·exact hv.2
   ·exact gm hnp (by simp[h])
  exact iz e1 e2
 ·have:a8 st (X++aB (.list n (pre++v::post) (.own K E))++Y):=fo hk (fun q=>by simp only[aB,dP,aw,bt,ck];omega) (fun q hq=>by
   simp only[aB,dP,aw,aG,aZ,eo,or_false]at hq ⊢;rcases hq with(h|h|h|h|h)|h<;>simp[h])
  exact this
def FM{K E n off m:Nat}{cs vs ds:List PV}{t:aF}(hs:aY (.list m ds t)=true)(hk:∀ q∈aB (.list m ds t),q.1≠K):gn (ir cs off K E n vs) (.list m ds t)= .list m ds t:=
 FL (u:=ir cs off K E n vs) (by simp[ir]) hs fun q hq=>by simpa [ir]using hk q hq
def tU{e n:Nat}{cs:List PV}{t:aF}(h:jA e t)(hs:aY (.list n cs t)=true)(hc:cs≠ []):∃ k,t= .own k e:=by
 rcases h with rfl|⟨k,rfl⟩
 ·simp only[aY,aj,qz]at hs;exact absurd hs.1 hc
 ·exact⟨k,rfl⟩
def lK.like{g:cj}{cs ds:List PV}{t u:aF}(h:lK g [.list g.nodes.length cs t,.list g.edges.length ds u]):fK nc 3 g.nodes cs/\fK ec 5 g.edges ds/\aY (.list g.nodes.length cs t)=true/\aY (.list g.edges.length ds u)=true:=by
 have h1:=h.st;have h2:=h.np;have h3:=h.so;simp only[aH,gc,List.cons.injEq,PV.list.injEq,qy,and_true]at h1;simp only[aX,dS,off,bv,aj]at h2;rw[bq,bq,aj,aj]at h3;refine⟨⟨?_,h1.1,h2.1⟩,⟨?_,h1.2,h2.2⟩,h3.1,h3.2.1⟩
 ·rw[<-ch,h1.1,bC nc 3 cP]
 ·rw[<-ch,h1.2,bC ec 5 cN]
def uo{g:cj}{cs ds:List PV}{t u:aF}(h1:fK nc 3 g.nodes cs)(h2:fK ec 5 g.edges ds)(h3:aY (.list g.nodes.length cs t)=true)(h4:aY (.list g.edges.length ds u)=true)(h5:jA 72 t)(h6:jA 68 u):lK g [.list g.nodes.length cs t,.list g.edges.length ds u]:=by
 refine⟨by simp only[aH,gc,h1.st,h2.st],?_,by rw[bq,bq,h3,h4];rfl,cs,ds,t,u,rfl,h5,h6⟩;have e1:=h1.np;have e2:=h2.np;simp only[aX,dS,off,bv,aj]at e1 e2 ⊢;exact⟨e1,e2⟩
def DE(K:bO cf)(g:cj)(id:Int)(hl:g.edges.length<=2000000){cs ds:List PV}{tk tk2:aF}(h1:fK nc 3 g.nodes cs)(h2:fK ec 5 g.edges ds):az cf 101 [.agg [.list g.nodes.length cs tk,.list g.edges.length ds tk2],I id] [] st=some (I (eJ g.edges id),st):=by
 have hm:([.agg [.list g.nodes.length cs tk,.list g.edges.length ds tk2],I id]:List PV).map aO=[.agg (gc g),I id]:=by
  simp only[bg,cJ,aH,h1.st,h2.st];rfl
 obtain⟨q1,q2⟩:=dD (ps:=[PV.agg (gc g),I id]) (by simp[dE,bh]);rw[kR ?_ (by rw[hm];exact q1) (by rw[hm];exact q2),hm,Al K g id hl];simp only[cT,dd,bF,aH,h1.np,h2.np,ay]
def FB(K:bO cf){l:List Fd}{n v:List UInt8}{p:PV}(hp:aO p=FX l)(hn:np p=true)(hl:l.length<=1000000):
  ∃ r ns,az cf 190 [p,S n,S v] [] st=some (.tup [r,.bool (decide (((fp l n v).length:Int)<=20))],st.more ns)/\dC st.nx ns r/\aO r=FX (fp l n v):=by
 have hm:([p,S n,S v]:List PV).map aO=[FX l,S n,S v]:=by
  simp only[bg,cJ,hp];rfl
 obtain⟨q1,q2⟩:=dD (ps:=[FX l,S n,S v]) (by simp[eL,bR]);rw[kR ?_ (by rw[hm];exact q1) (by rw[hm];exact q2),hm]
 ·exact Oi K l n v hl
 ·obtain⟨cs,t,rfl,-,-⟩:=bu hp;simp only[cT,dd,bF,hn,ay];rfl
def fb:(∀ {t:Nat} {Q:Int->List PV->Prop} {fr:Fr} {st:St},BH t Q .ret (fr,st)↔M5 Q (fr t) (st.objs 0) st)/\(∀ {st:St} {ns:List Nat},(st.more ns).objs=st.objs):=⟨Lf,fun{st ns}=>St.more_objs st ns⟩
def hH{x:cj×Int}{o:Option (List PV)}{c0:List PV}(hb:o=some c0)(hg:lK x.1 c0)(hk:a8 st (aw c0)):M5 (fun k c1=>k=x.2/\lK x.1 c1) (I x.2) o st:=⟨x.2,c0,rfl,hb,hg.np,hg.so,hk,rfl,hg⟩
def DO{o:Option (PV×St)}{b v:PV}(h:∃ r ns,o=some (.tup [r,b],st.more ns)/\dC st.nx ns r/\aO r=v)(k:∀ r ns,dC st.nx ns r->aO r=v->A (mk (.tup [r,b]) (st.more ns))):dj o mk A:=by
 obtain⟨r,ns,rfl,hF,hr⟩:=h;exact⟨_,_,rfl,k r ns hF hr⟩
def vY{pre post:List PV}{c v:PV}:aQ (pre++v::post)=(aQ (pre++c::post)).set pre.length (aO v):=by
 rw[dX,dX,cn,cn,bg,bg,List.set_append_right _ _ (by simp)];simp
def MM(K:bO cf)(g:cj)(c:Ch)(v:V)(hv:fV c.value=some v)(hv8:v.kind=8\/v.kind=9){cells:List PV}(hs:st.objs s=some cells)(hg:lK g cells)(hk:a8 st (aw cells))(ho:mW g):
  ∃ c2 ns,az cf 164 [.ptr s 0,.agg (cc c)] [0] st=some (I (jK wP g c).2,cA (fA ((aw cells).map (·.1)) ns st) s c2)/\dn [.ptr s 0,.agg (cc c)] [0] st=(aw cells).map (·.1)/\lK (jK wP g c).1 c2/\aw c2=cB st.nx ns:=by
 refine Fv (f:=164) (F:=F164) K.tab rfl rfl rfl hs hg hk (by simp[gd,gz]) (lb rfl) (lb rfl) 1 ?_;clear hs hg hk;intro c0 ns hg hk;obtain⟨cs,ds,t,u,rfl,ht,hu⟩:=hg.sh;obtain⟨hLn,hLe,hsn,hse⟩:=hg.like;have hcl:(cc c).length=12:=rfl;have hcn:=hLn.len;have hce:=hLe.len;have hvl:=v.ca_len;have hb0:(bV ns [[.list g.nodes.length cs t,.list g.edges.length ds u]]).objs 0=some [.list g.nodes.length cs t,.list g.edges.length ds u]:=rfl;have hN:∀ st id,az cf 90 [.agg [.list g.nodes.length cs t,.list g.edges.length ds u],I id] [] st=some (I (cU g.nodes id),st):=fun st id=>Dz K g id (by have:=ho.nl;omega) hLn hLe;have hE:∀ st id,az cf 101 [.agg [.list g.nodes.length cs t,.list g.edges.length ds u],I id] [] st=some (I (eJ g.edges id),st):=fun st id=>DE K g id (by have:=ho.el;omega) hLn hLe;simp only[F164,↓qU,seval];unfold jK;rw[hv];simp only[↓pa,pb,ah,seval,cC,hcl,ar];refine u7 rfl (by simp[bR]) (FA K) (fun r hr=>?_);unfold ve at hr;rw[hv]at hr;subst hr;simp only[↓pa,↓au,pb,ah,ad,aa,seval,bK,bG,hvl,ed hvl,xH,cG,da];refine af (fun h8=>?_) (fun h8=>?_)
 ·have h9:¬v.kind=9:=by omega
  simp only[ai h9];unfold uw;simp only[↓pa,pb,ah,seval,CY,hb0,hN,ar];refine af (fun h0=>?_) (fun h0=>?_)
  ·rw[dif_pos h0];simp only[↓pa,pb,seval,fb,hb0];exact hH (x:=(g,5)) rfl hg hk
  ·rw[dif_neg h0];have hlt:= @jS g.nodes v.num;obtain⟨j,hj⟩:∃ j:Nat,cU g.nodes v.num=j:=⟨_,(eK (by omega)).symm⟩;simp only[hj]at*;have hlt:j<g.nodes.length:=by omega
   have hfo:=(ho.ns _ (cp hlt)).2;simp only[eQ,l9 hlt,show wP.put=fp from rfl];obtain⟨k,rfl⟩:=tU ht hsn (by intro e;rw[e]at hcn;simp at hcn;omega);obtain⟨pre,p,post,rfl,hpl,hps⟩:=yw cP hLn hlt (off:=2) (by decide);have hps:aO p=FX g.nodes[j].fields:=hps;have hpn:np p=true:=gm hLn.np (by simp);simp (maxSteps:=1000000) (disch:=omega)only[↓pa,pb,ah,seval,bK,cC,ar,hb0,oI hpl];refine DO (FB K hps hpn (by omega)) (fun r ns2 hF hr=>?_);obtain⟨cr,tr,rfl,-,-⟩:=bu hr;have hk2:a8 (bV ns [[.list g.nodes.length (pre++p::post) (.own k 72),.list g.edges.length ds u]]) (aB (.list g.nodes.length (pre++p::post) (.own k 72))++aB (.list g.edges.length ds u)):=by
    have:=hk;rw[aw,aw,aw,aD]at this;exact this
   simp only[↓pa,pb,ad,aa,seval];refine af (fun h20=>?_) (fun h20=>?_)
   ·have h20':¬20<(fp g.nodes[j].fields c.name c.text).length:=by omega
    rw[ai h20'];simp only[↓pa,pb,ah,seval,bK,h20];refine ul (X:=[]) (Y:=aB (.list g.edges.length ds u)) hpl.symm (by omega) hsn hLn.np (by rw[hF.tk,aU];exact cK (aT (aT (aT (aT hk2)))) (aW _) ns2) ⟨hF.so,hF.np⟩ (fun hso' hnp' hk'=>?_);have hbN:=fun cs'=> @ib g.nodes.length k 72 72 (j*3+2) pre post cs' p (.list (fp g.nodes[j].fields c.name c.text).length cr tr) hpl.symm;have hbE:=fun off cs vs=> @FM k 72 g.nodes.length off g.edges.length cs vs ds u hse (fun q hq e=>by
     have h1:=hk2.1 k;rw[bt,aB,bt]at h1;have h2:=fJ.2 ⟨q,hq,e⟩;simp only[ck,if_true]at h1;omega)
    simp only[↓pa,pb,seval,bK,fb,BX,hb0,hbN,hbE];have hst:aQ (pre++PV.list (fp g.nodes[j].fields c.name c.text).length cr tr::post)=(g.nodes.set j {g.nodes[j]with fields:=fp g.nodes[j].fields c.name c.text}).flatMap nc:=by
     rw[vY (c:=p),hLn.st,hpl,hr];exact qo nc 3 cP (by decide) hlt rfl
    have hgo:lK ⟨g.nodes.set j {g.nodes[j]with fields:=fp g.nodes[j].fields c.name c.text},g.edges⟩ [.list g.nodes.length (pre++PV.list (fp g.nodes[j].fields c.name c.text).length cr tr::post) (.own k 72),.list g.edges.length ds u]:=by
     have e:g.nodes.length=(g.nodes.set j {g.nodes[j]with fields:=fp g.nodes[j].fields c.name c.text}).length:=by rw[iN]
     rw[e]at hso' ⊢;exact uo (g:=⟨g.nodes.set j {g.nodes[j]with fields:=fp g.nodes[j].fields c.name c.text},g.edges⟩) ⟨by rw[<-ch,hst,bC nc 3 cP],hst,hnp'⟩ hLe hso' hse ht hu
    exact hH (x:=(⟨g.nodes.set j {g.nodes[j]with fields:=fp g.nodes[j].fields c.name c.text},g.edges⟩,0)) rfl hgo (by rw[aw,aw,aw,aD];exact hk')
   ·have h20':20<(fp g.nodes[j].fields c.name c.text).length:=by omega
    rw[am h20'];simp only[↓pa,pb,seval,fb,hb0,h20];exact hH (x:=(g,4)) rfl hg (fo (cK (aT (aT (aT (aT hk)))) (aW _) ns2) (fun q=>by rw[bt];omega) fun q hq=>dk _ hq)
 ·have h9:v.kind=9:=by omega
  simp only[am h9];unfold ux;simp only[↓pa,pb,ah,seval,CY,hb0,hE,ar];refine af (fun h0=>?_) (fun h0=>?_)
  ·rw[dif_pos h0];simp only[↓pa,pb,seval,fb,hb0];exact hH (x:=(g,5)) rfl hg hk
  ·rw[dif_neg h0];have hlt:= @oO g.edges v.num;obtain⟨j,hj⟩:∃ j:Nat,eJ g.edges v.num=j:=⟨_,(eK (by omega)).symm⟩;simp only[hj]at*;have hlt:j<g.edges.length:=by omega
   have hfo:=(ho.es _ (cp hlt));simp only[eQ,oP hlt,show wP.put=fp from rfl];obtain⟨k,rfl⟩:=tU hu hse (by intro e;rw[e]at hce;simp at hce;omega);obtain⟨pre,p,post,rfl,hpl,hps⟩:=yw cN hLe hlt (off:=4) (by decide);have hps:aO p=FX g.edges[j].fields:=hps;have hpn:np p=true:=gm hLe.np (by simp);simp (maxSteps:=1000000) (disch:=omega)only[↓pa,pb,ah,seval,bK,cC,ar,hb0,oI hpl];refine DO (FB K hps hpn (by omega)) (fun r ns2 hF hr=>?_);obtain⟨cr,tr,rfl,-,-⟩:=bu hr;have hk2:a8 (bV ns [[.list g.nodes.length cs t,.list g.edges.length (pre++p::post) (.own k 68)]]) (aB (.list g.nodes.length cs t)++aB (.list g.edges.length (pre++p::post) (.own k 68))):=by
    have:=hk;rw[aw,aw,aw,aD]at this;exact this
   simp only[↓pa,pb,ad,aa,seval];refine af (fun h20=>?_) (fun h20=>?_)
   ·have h20':¬20<(fp g.edges[j].fields c.name c.text).length:=by omega
    rw[ai h20'];simp only[↓pa,pb,ah,seval,bK,h20];refine ul (X:=aB (.list g.nodes.length cs t)) (Y:=[]) hpl.symm (by omega) hse hLe.np (by rw[hF.tk,aD];exact cK (aT (aT (aT (aT hk2)))) (aW _) ns2) ⟨hF.so,hF.np⟩ (fun hso' hnp' hk'=>?_);have hbN:=fun cs'=> @ib g.edges.length k 68 68 (j*5+4) pre post cs' p (.list (fp g.edges[j].fields c.name c.text).length cr tr) hpl.symm;have hbE:=fun off cs' vs=> @FM k 68 g.edges.length off g.nodes.length cs' vs cs t hsn (fun q hq e=>by
     have h1:=hk2.1 k;rw[bt,k7 (t:= .own k 68),bt]at h1;have h2:=fJ.2 ⟨q,hq,e⟩;simp only[pG,ck,if_true]at h1;omega)
    simp only[↓pa,pb,seval,bK,fb,BX,hb0,hbN,hbE];have hst:aQ (pre++PV.list (fp g.edges[j].fields c.name c.text).length cr tr::post)=(g.edges.set j {g.edges[j]with fields:=fp g.edges[j].fields c.name c.text}).flatMap ec:=by
     rw[vY (c:=p),hLe.st,hpl,hr];exact qo ec 5 cN (by decide) hlt rfl
    have hgo:lK ⟨g.nodes,g.edges.set j {g.edges[j]with fields:=fp g.edges[j].fields c.name c.text}⟩ [.list g.nodes.length cs t,.list g.edges.length (pre++PV.list (fp g.edges[j].fields c.name c.text).length cr tr::post) (.own k 68)]:=by
     have e:g.edges.length=(g.edges.set j {g.edges[j]with fields:=fp g.edges[j].fields c.name c.text}).length:=by rw[iN]
     rw[e]at hso' ⊢;exact uo (g:=⟨g.nodes,g.edges.set j {g.edges[j]with fields:=fp g.edges[j].fields c.name c.text}⟩) hLn ⟨by rw[<-ch,hst,bC ec 5 cN],hst,hnp'⟩ hsn hso' ht hu
    exact hH (x:=(⟨g.nodes,g.edges.set j {g.edges[j]with fields:=fp g.edges[j].fields c.name c.text}⟩,0)) rfl hgo (by rw[aw,aw,aw,aD];simpa using hk')
   ·have h20':20<(fp g.edges[j].fields c.name c.text).length:=by omega
    rw[am h20'];simp only[↓pa,pb,seval,fb,hb0,h20];exact hH (x:=(g,4)) rfl hg (fo (cK (aT (aT (aT (aT hk)))) (aW _) ns2) (fun q=>by rw[bt];omega) fun q hq=>dk _ hq)
def Di(x:Eg):∀ l:List Eg,(nC x l).length=l.length+1
 | []=>rfl
 |y::l=>by
  rw[nC];split
  ·rw[aA,Di x l,aA]
  ·rw[aA]
def MX{l:List Eg}{i:Nat}(h:i<l.length)(id:Int):((l.drop i).any fun e=>decide (e.src=id)||decide (e.dst=id))=((decide (l[i].src=id)||decide (l[i].dst=id))||(l.drop (i+1)).any fun e=>decide (e.src=id)||decide (e.dst=id)):=by
 rw[bj h,List.any_cons]
def Jg{b m e:Nat}(hD:BI cf b m e){n i k:Nat}{cs:List PV}(hs:aY (.list n cs (.own k e))=true)(hn:aX cs=true)(hk:a8 st (aB (.list n cs (.own k e))))(h1:cs.length=n*m)(hi:i<n)(hl:n<=10000000)
  (kk:∀ r ns,dn [.list n cs (.own k e),I i,I ((i+1:Nat):Int)] [0] st=(aB (.list n cs (.own k e))).map (·.1)->np r=true->aY r=true->(∀ j,ck j (aB r)<=ck j (cB st.nx ns))->(∀ q∈aB r,q∈cB st.nx ns)->aO r= .list (n-1) ((aQ cs).take (i*m)++(aQ cs).drop ((i+1) *m)) .no->nn r=some e->A (mk r (fA ((aB (.list n cs (.own k e))).map (·.1)) ns st))):
  dj (az cf b [.list n cs (.own k e),I i,I ((i+1:Nat):Int)] [0] st) mk A:=by
 obtain⟨r,ns,hc,h2,h3,h4,h5,h6,h7,h8⟩:=HU hD hs hn hk h1 hi hl;exact⟨_,_,hc,kk r ns h2 h3 h4 h5 h6 h7 h8⟩
def DS(K:bO cf){g:cj}{c:Ch}{v:V}(hv:fV c.value=some v)(hv8:v.kind=8\/v.kind=9){cells:List PV}(hs:st.objs s=some cells)(hg:lK g cells)(hk:a8 st (aw cells))(ho:mW g)
  (kk:∀ c2 ns,dn [.ptr s 0,.agg (cc c)] [0] st=(aw cells).map (·.1)->lK (jK wP g c).1 c2->aw c2=cB st.nx ns->A (mk (I (jK wP g c).2) (cA (fA ((aw cells).map (·.1)) ns st) s c2))):
  dj (az cf 164 [.ptr s 0,.agg (cc c)] [0] st) mk A:=by
 obtain⟨c2,ns,hc,h2,h3,h4⟩:=MM K g c v hv hv8 hs hg hk ho;exact⟨_,_,hc,kk c2 ns h2 h3 h4⟩
def xr{p:PV}{k:IntKind}{n:Int}(h:aO p= .int k n):p= .int k n:=by cases p<;>simp_all [aO,ren]
def Jv{p:PV}{b:ByteArray}(h:aO p= .str b):p= .str b:=by cases p<;>simp_all [aO,ren]
def QE{es:List PV}{e:Eg}(h:aQ es=ec e):∃ p,es=[I e.id,S e.type,I e.src,I e.dst,p]:=by
 rw[dX]at h
 match es,h with
 | [a,b,c,d,p],h=>
  simp only[bg,cJ,ec,List.cons.injEq,and_true]at h;exact⟨p,by rw[xr h.1,Jv h.2.1,xr h.2.2.1,xr h.2.2.2.1]⟩
 | [],h=>simp[ec]at h
 | [_],h=>simp[ec]at h
 | [_,_],h=>simp[ec]at h
 | [_,_,_],h=>simp[ec]at h
 | [_,_,_,_],h=>simp[ec]at h
 |_::_::_::_::_::_::_,h=>simp[ec]at h
def K3(K:bO cf)(hI:sy cf)(g:cj)(c:Ch){cells:List PV}(hs:st.objs s=some cells)(hg:lK g cells)(hk:a8 st (aw cells))(ho:mW g)(hb:lH c):
  ∃ c2 ns,az cf 115 [.ptr s 0,.agg (cc c)] [0] st=some (I (lJ wP g c).2,cA (fA ((aw cells).map (·.1)) ns st) s c2)/\dn [.ptr s 0,.agg (cc c)] [0] st=(aw cells).map (·.1)/\lK (lJ wP g c).1 c2/\aw c2=cB st.nx ns:=by
 refine Fv (f:=115) (F:=F115) K.tab rfl rfl rfl hs hg hk (by simp[gd,gz]) (lb rfl) (lb rfl) (g.edges.length+1) ?_;clear hs hg hk;intro c0 ns hg hk;obtain⟨cs,ds,t,u,rfl,ht,hu⟩:=hg.sh;obtain⟨hLn,hLe,hsn,hse⟩:=hg.like;have hcl:(cc c).length=12:=rfl;have hct:List.take 12 (cc c)=cc c:=rfl;have hcn:=hLn.len;have hce:=hLe.len;have hnl:=ho.nl;have hel:=ho.el;have hb0:(bV ns [[.list g.nodes.length cs t,.list g.edges.length ds u]]).objs 0=some [.list g.nodes.length cs t,.list g.edges.length ds u]:=rfl;have hF:=fun st=>Ox (st:=st) K c;have hN:∀ st id,az cf 90 [.agg [.list g.nodes.length cs t,.list g.edges.length ds u],I id] [] st=some (I (cU g.nodes id),st):=fun st id=>Dz K g id (by omega) hLn hLe;have hE:∀ st id,az cf 101 [.agg [.list g.nodes.length cs t,.list g.edges.length ds u],I id] [] st=some (I (eJ g.edges id),st):=fun st id=>DE K g id (by omega) hLn hLe;have hk2:a8 (bV ns [[.list g.nodes.length cs t,.list g.edges.length ds u]]) (aB (.list g.nodes.length cs t)++aB (.list g.edges.length ds u)):=by
  have:=hk;rw[aw,aw,aw,aD]at this;exact this
 have hkp:=gG (gF c.node);have hkp2:=gG (fR c.edge);have hkp3:=gG (fy c.node.labels);simp only[F115,↓qU,seval];unfold lJ;cases hf:kw c
 ·rw[am rfl];simp only[↓pa,pb,ah,seval,fb,hcl,hct,hF,hf,hb0];exact hH (x:=(g,1)) rfl hg hk
 rw[ai (by simp)];simp only[↓pa,pb,ah,seval,cC,hcl,hct,hF,hf,ar];refine af (fun k1=>?_) (fun k1=>?_)
 ·rw[am k1];simp only[↓pa,pb,ah,seval,cC,ar,hb0,hN];refine af (fun a1=>?_) (fun a1=>?_)
  ·rw[am a1];simp only[↓pa,pb,seval,fb,hb0];exact hH (x:=(g,9)) rfl hg hk
  rw[ai a1];simp only[↓pa,pb,ah,seval,ar,hb0];refine af (fun a2=>?_) (fun a2=>?_)
  ·rw[am (by omega)];simp only[↓pa,pb,seval,fb,hb0];exact hH (x:=(g,4)) rfl hg hk
  rw[ai (by omega)];simp only[↓pa,↓ax,pb,ah,ap,seval,cC,ar,hb0];refine dx (Cl K c.node hb.ll hb.nf) (fun r ns2 hF2 hr=>?_);obtain⟨xs,rfl,hxs⟩:=fi hr;have hFt:aw xs=cB _ ns2:=hF2.tk;have hFs:bq xs=true:=hF2.so;have hFn:aX xs=true:=hF2.np;simp only[↓pa,↓ax,pb,ap,seval,hkp];have hkF:∀ {f:Nat} {xs:List CX} {d:Option Nat} {st:St} {fr:Fr},de cf (.call f xs [0,1]) d st fr=uN (dn (xs.map (·.ev fr)) [0,1] st) fr:=rfl;have hS:=cK (aT (s:=3) (c:=cc c) hk2) (aW _) ns2;rw[<-hFt]at hS;refine F2 (GF K hI c.node ht hsn hLn hxs hFn hFs (fo hS (fun q=>by simp only[bt];omega) fun q hq=>by simp only[aG]at hq ⊢;rcases hq with h|h<;>simp[h]) (by omega)) (fun r ns3 hF3 hr3 hX=>?_)
  obtain⟨htp,htk⟩:=hX;obtain⟨cr,tr,rfl,hcr,-⟩:=bu hr3;obtain⟨k',rfl⟩:=vX htp;have hap:∀ q∈aB (.list g.edges.length ds u),q.1∉(aB (.list g.nodes.length cs t)++aw xs).map (·.1):=by
   intro q hq h;obtain⟨q2,h2,e⟩:=cX.1 h;have h1:=hS.1 q.1;have h3:=fJ.2 ⟨q,hq,rfl⟩;have h4:=fJ.2 ⟨q2,h2,e⟩;simp only[bt]at h1 h4;omega
  have hkE:= @kN _ (.list g.edges.length ds u) hse hap;simp only[↓pa,↓ax,pb,ah,ap,aq,ad,aa,seval,bK,bG,fb,m7,ar,hb0,hkF,htk,hkE];have hl1:(mq c.node g.nodes).length=g.nodes.length+1:=E6 _ _;have hT:=nL (A:=[]) (B:=aB (.list g.nodes.length cs t)++aw xs) (C:=aB (.list g.edges.length ds u)) (ns:=ns3) (fo hS (fun q=>by simp only[bt,aU];omega) fun q hq=>by simp only[aG,aU]at hq ⊢;rcases hq with(h|h)|h<;>simp[h]) (by rw[St.more_fl];exact aW _)
  rw[aU,<-hF3.tk]at hT;have hso3:=hF3.so;have hnp3:=hF3.np;rw[<-hl1]at hso3 hnp3 hT ⊢;exact hH (x:=(⟨mq c.node g.nodes,g.edges⟩,0)) rfl (uo (g:=⟨mq c.node g.nodes,g.edges⟩) ⟨by rw[<-ch,hcr,bC nc 3 cP],hcr,hnp3⟩ hLe hso3 hse (.inr ⟨_,rfl⟩) hu) (by rw[aw,aw,aw,aD];exact hT)
 rw[ai k1];simp only[↓pa,pb,seval];refine af (fun k2=>?_) (fun k2=>?_)
 ·rw[am k2];simp only[↓pa,pb,ah,seval,cC,ar,hb0,hN];refine af (fun a1=>?_) (fun a1=>?_)
  ·rw[am a1];simp only[↓pa,pb,seval,fb,hb0];exact hH (x:=(g,5)) rfl hg hk
  rw[ai a1];obtain⟨j,hj⟩:∃ j:Nat,cU g.nodes c.node.id=j:=⟨_,(eK (by omega)).symm⟩;have hlt:= @jS g.nodes c.node.id;rw[hj]at hlt;simp only[hj,eQ]at*;simp only[↓pa,pb,ah,seval,ar,hb0];refine a7 (fun q fr st=>∃ i:Nat,q=g.edges.length-i/\i<=g.edges.length/\fr 0= .ptr 0 0/\fr 3= .ptr 3 0/\fr 5=I j/\fr 56= .list g.edges.length ds u/\fr 57=I g.edges.length/\fr 58=I i/\st.objs 0=some [.list g.nodes.length cs t,.list g.edges.length ds u]/\st.objs 3=some (cc c)/\a8 st (aB (.list g.nodes.length cs t)++aB (.list g.edges.length ds u))/\st.fl=0/\(g.edges.any fun e=>decide (e.src=c.node.id)||decide (e.dst=c.node.id))=((g.edges.drop i).any fun e=>decide (e.src=c.node.id)||decide (e.dst=c.node.id))) g.edges.length (by omega)
   ⟨0,by simp,by omega,by simp only[↓pa,pb,seval],by simp only[↓pa,seval],by simp only[↓pa,seval],by simp only[↓pa,seval],by simp only[↓pa,seval],by simp only[↓pa,seval]<;>rfl,by simp only[pb,seval,hb0],by simp only[pb,seval],aT hk2,rfl,rfl⟩ ?_
  rintro q fr st ⟨i,rfl,hi,f0,f3,f5,f56,f57,f58,o0,o3,hkS,hfl,hany⟩;have hkS':a8 st (aw [.list g.nodes.length cs t,.list g.edges.length ds u]):=by rw[aw,aw,aw,aD];exact hkS
  simp only[↓pa,pb,ak,seval,f57,f58];refine af (fun b1=>?_) (fun b1=>?_)
  ·have hlt2:i<g.edges.length:=b1;rw[MX hlt2]at hany;obtain⟨hp1,hp2,hp3⟩:=yu cN hLe.st hLe.np hce hlt2;obtain⟨ef,hef⟩:=QE hp2;have h5:((ds.drop (i*5)).take 5).length=5:=by rw[hef];rfl
   have q2:bL ((ds.drop (i*5)).take 5) 2 1 false=some (I g.edges[i].src):=by rw[hef];rfl
   have q3:bL ((ds.drop (i*5)).take 5) 3 1 false=some (I g.edges[i].dst):=by rw[hef];rfl
   simp (maxSteps:=1000000) (disch:=omega)only[↓pa,pb,ah,seval,bK,bG,cC,f3,f56,f58,o3,b1,aI,ar,hp1,h5,ol h5,q2];refine af (fun e1=>?_) (fun e1=>?_)
   ·rw[am (by rw[hany];simp[e1])];simp only[↓pa,pb,seval,fb,o0,e1];exact hH (x:=(g,6)) rfl hg hkS'
   ·simp only[↓pa,pb,ah,seval,cC,f3,o3,aI,ar,e1,q3];refine af (fun e2=>?_) (fun e2=>?_)
    ·rw[am (by rw[hany];simp[e2])];simp only[↓pa,pb,seval,fb,o0,e2];exact hH (x:=(g,6)) rfl hg hkS'
    ·simp (maxSteps:=1000000) (disch:=omega)only[↓pa,pb,ak,seval,f0,f3,f5,f56,f57,f58,o0,o3,e2];exact⟨g.edges.length- (i+1),by omega,i+1,rfl,by omega,rfl,aT (aT hkS),hfl,by rw[hany];simp[e1,e2]⟩
  ·have hie:g.edges.drop i=[]:=ei (by omega);rw[hie,List.any_nil]at hany;rw[ai (by rw[hany];simp)];simp (maxSteps:=1000000) (disch:=omega)only[↓pa,pb,ah,ak,seval,m7,f0,f5,o0,b1];obtain⟨k,rfl⟩:=tU ht hsn (by intro e;rw[e]at hcn;simp at hcn;omega);have hkn:a8 st (aB (.list g.nodes.length cs (.own k 72))):=fo hkS (fun q=>by rw[bt];omega) fun q hq=>dk _ hq;obtain⟨r,ns3,hc3,htk,hn3,hso3,hck3,hmm3,hr3,htp⟩:=HU (st:=st) hI.delN hsn hLn.np hkn hcn (i:=j) (by omega) (by omega);obtain⟨cr,tr,rfl,hcr,-⟩:=bu hr3;obtain⟨k',rfl⟩:=vX htp;have hap:∀ q∈aB (.list g.edges.length ds u),q.1∉(aB (.list g.nodes.length cs (.own k 72))).map (·.1):=by
    intro q hq h;obtain⟨q2,h2,e⟩:=cX.1 h;have h1:=hkS.1 q.1;have h3:=fJ.2 ⟨q,hq,rfl⟩;have h4:=fJ.2 ⟨q2,h2,e⟩;simp only[bt]at h1;omega
   have hkE:= @kN _ (.list g.edges.length ds u) hse hap;rw[hc3];refine fg.2 ?_;simp only[↓pa,pb,ah,seval,bK,bG,fb,m7,o0,htk,hkE];have hl1:(g.nodes.eraseIdx j).length=g.nodes.length-1:=kq (by omega);have hT:=yn (A:=[]) (C:=aB (.list g.edges.length ds u)) (st:=st) (by rw[aU];exact hkS) (by rw[hfl];exact aW _) hck3 hmm3;rw[aU]at hT;have hst:aQ cr=(g.nodes.eraseIdx j).flatMap nc:=by rw[hcr,hLn.st,jU nc 3 cP,jV nc 3 cP,jh,bA]
   rw[<-hl1]at hso3 hn3 hT ⊢;exact hH (x:=(⟨g.nodes.eraseIdx j,g.edges⟩,0)) rfl (uo (g:=⟨g.nodes.eraseIdx j,g.edges⟩) ⟨by rw[<-ch,hst,bC nc 3 cP],hst,hn3⟩ hLe hso3 hse (.inr ⟨_,rfl⟩) hu) (by rw[aw,aw,aw,aD];exact hT)
 rw[ai k2];simp only[↓pa,pb,seval];refine af (fun k3=>?_) (fun k3=>?_)
 ·rw[am k3];simp only[↓pa,pb,ah,seval,cC,ar,hb0,hE];refine af (fun a1=>?_) (fun a1=>?_)
  ·rw[am a1];simp only[↓pa,pb,seval,fb,hb0];exact hH (x:=(g,9)) rfl hg hk
  rw[ai a1];simp only[↓pa,pb,ah,seval,cC,ar,hb0,hN];refine af (fun b1=>?_) (fun b1=>?_)
  ·rw[am (.inl b1)];simp only[↓pa,pb,seval,fb,hb0,b1];exact hH (x:=(g,5)) rfl hg hk
  simp only[↓pa,pb,ah,seval,cC,ar,hb0,hN,b1];refine af (fun b2=>?_) (fun b2=>?_)
  ·rw[am b2];simp only[↓pa,pb,seval,fb,hb0,b2];exact hH (x:=(g,5)) rfl hg hk
  rw[ai b2];simp only[↓pa,pb,ah,seval,ar,hb0,b2];refine af (fun a2=>?_) (fun a2=>?_)
  ·rw[am (by omega)];simp only[↓pa,pb,seval,fb,hb0];exact hH (x:=(g,4)) rfl hg hk
  rw[ai (by omega)];simp only[↓pa,↓ax,pb,ah,ap,seval,cC,ar,hb0];refine dx (yO K c.edge hb.ef) (fun r ns2 hF2 hr=>?_);obtain⟨xs,rfl,hxs⟩:=fi hr;have hFt:aw xs=cB _ ns2:=hF2.tk;have hFs:bq xs=true:=hF2.so;have hFn:aX xs=true:=hF2.np;simp only[↓pa,↓ax,pb,ap,seval,hkp2];have hkF:∀ {f:Nat} {xs:List CX} {d:Option Nat} {st:St} {fr:Fr},de cf (.call f xs [0,1]) d st fr=uN (dn (xs.map (·.ev fr)) [0,1] st) fr:=rfl;have hS:=cK (aT (s:=3) (c:=cc c) hk2) (aW _) ns2;rw[<-hFt]at hS;refine F2 (GG K hI c.edge hu hse hLe hxs hFn hFs (fo hS (fun q=>by simp only[bt];omega) fun q hq=>by simp only[aG]at hq ⊢;rcases hq with h|h<;>simp[h]) (by omega)) (fun r ns3 hF3 hr3 hX=>?_)
  obtain⟨htp,htk⟩:=hX;obtain⟨cr,tr,rfl,hcr,-⟩:=bu hr3;obtain⟨k',rfl⟩:=vX htp;have hap:∀ q∈aB (.list g.nodes.length cs t),q.1∉(aB (.list g.edges.length ds u)++aw xs).map (·.1):=by
   intro q hq h;obtain⟨q2,h2,e⟩:=cX.1 h;have h1:=hS.1 q.1;have h3:=fJ.2 ⟨q,hq,rfl⟩;have h4:=fJ.2 ⟨q2,h2,e⟩;simp only[bt]at h1 h4;omega
  have hkN:= @kN _ (.list g.nodes.length cs t) hsn hap;simp only[↓pa,↓ax,pb,ah,ap,aq,ad,aa,seval,bK,bG,fb,m7,ar,hb0,hkF,htk,hkN];have hl1:(nC c.edge g.edges).length=g.edges.length+1:=Di _ _;have hT:=nL (A:=aB (.list g.nodes.length cs t)) (B:=aB (.list g.edges.length ds u)++aw xs) (C:=[]) (ns:=ns3) (fo hS (fun q=>by simp only[bt,aD];omega) fun q hq=>by simp only[aG,aD]at hq ⊢;rcases hq with h|h|h<;>simp[h]) (by rw[St.more_fl];exact aW _)
  rw[aD,<-hF3.tk]at hT;have hso3:=hF3.so;have hnp3:=hF3.np;rw[<-hl1]at hso3 hnp3 hT ⊢;exact hH (x:=(⟨g.nodes,nC c.edge g.edges⟩,0)) rfl (uo (g:=⟨g.nodes,nC c.edge g.edges⟩) hLn ⟨by rw[<-ch,hcr,bC ec 5 cN],hcr,hnp3⟩ hsn hso3 ht (.inr ⟨_,rfl⟩)) (by rw[aw,aw,aw,aD];exact hT)
 rw[ai k3];simp only[↓pa,pb,seval];refine af (fun k4=>?_) (fun k4=>?_)
 ·rw[am k4];simp only[↓pa,pb,ah,seval,cC,ar,hb0,hE];refine af (fun a1=>?_) (fun a1=>?_)
  ·rw[am a1];simp only[↓pa,pb,seval,fb,hb0];exact hH (x:=(g,5)) rfl hg hk
  rw[ai a1];obtain⟨j,hj⟩:∃ j:Nat,eJ g.edges c.edge.id=j:=⟨_,(eK (by omega)).symm⟩;have hlt:= @oO g.edges c.edge.id;rw[hj]at hlt;simp only[hj,eQ]at*;obtain⟨k,rfl⟩:=tU hu hse (by intro e;rw[e]at hce;simp at hce;omega);simp (maxSteps:=1000000) (disch:=omega)only[↓pa,pb,ah,ak,seval,m7,ar,hb0];refine Jg (i:=j) hI.delE hse hLe.np (fo (aT hk2) (fun q=>by rw[bt];omega) fun q hq=>dG _ hq) hce (by omega) (by omega) (fun r ns3 htk hn3 hso3 hck3 hmm3 hr3 htp=>?_);obtain⟨cr,tr,rfl,hcr,-⟩:=bu hr3;obtain⟨k',rfl⟩:=vX htp;have hap:∀ q∈aB (.list g.nodes.length cs t),q.1∉(aB (.list g.edges.length ds (.own k 68))).map (·.1):=by
   intro q hq h;obtain⟨q2,h2,e⟩:=cX.1 h;have h1:=hk2.1 q.1;have h3:=fJ.2 ⟨q,hq,rfl⟩;have h4:=fJ.2 ⟨q2,h2,e⟩;simp only[bt]at h1;omega
  have hkN:= @kN _ (.list g.nodes.length cs t) hsn hap;simp only[↓pa,pb,ah,seval,bK,bG,fb,m7,ar,hb0,htk,hkN];have hl1:(g.edges.eraseIdx j).length=g.edges.length-1:=kq (by omega);have hT:=yn (A:=aB (.list g.nodes.length cs t)) (C:=[]) (by rw[aD];exact aT hk2) (aW _) hck3 hmm3;rw[aD]at hT;have hst:aQ cr=(g.edges.eraseIdx j).flatMap ec:=by rw[hcr,hLe.st,jU ec 5 cN,jV ec 5 cN,jh,bA]
  rw[<-hl1]at hso3 hn3 hT ⊢;exact hH (x:=(⟨g.nodes,g.edges.eraseIdx j⟩,0)) rfl (uo (g:=⟨g.nodes,g.edges.eraseIdx j⟩) hLn ⟨by rw[<-ch,hst,bC ec 5 cN],hst,hn3⟩ hsn hso3 ht (.inr ⟨_,rfl⟩)) (by rw[aw,aw,aw,aD];exact hT)
 rw[ai k4];simp only[↓pa,pb,seval];refine af (fun k5=>?_) (fun k5=>?_)
 ·rw[am k5];simp only[↓pa,pb,ah,seval,cC,ar,hb0,hN];refine af (fun a1=>?_) (fun a1=>?_)
  ·rw[am a1];simp only[↓pa,pb,seval,fb,hb0];exact hH (x:=(g,5)) rfl hg hk
  rw[ai a1];obtain⟨j,hj⟩:∃ j:Nat,cU g.nodes c.node.id=j:=⟨_,(eK (by omega)).symm⟩;have hlt:= @jS g.nodes c.node.id;rw[hj]at hlt;simp only[hj,eQ]at*;have hlt:j<g.nodes.length:=by omega
  rw[l9 hlt];obtain⟨k,rfl⟩:=tU ht hsn (by intro e;rw[e]at hcn;simp at hcn;omega);obtain⟨pre,p,post,rfl,hpl,hps⟩:=yw cP hLn hlt (off:=1) (by decide);simp only[↓pa,↓ax,pb,ah,ap,seval,cC,ar,hb0];refine dx (Ck K c.node.labels hb.ll) (fun r ns2 hF2 hr=>?_);obtain⟨cr,tr,rfl,-,-⟩:=bu hr;simp (maxSteps:=1000000) (disch:=omega)only[↓pa,↓ax,pb,ah,ap,seval,bK,hkp3];refine ul (X:=[]) (Y:=aB (.list g.edges.length ds u)) hpl.symm (by omega) hsn hLn.np (by rw[hF2.tk,aU];exact cK (aT hk2) (aW _) ns2) ⟨hF2.so,hF2.np⟩ (fun hso' hnp' hk'=>?_);have hbN:=fun cs'=> @ib g.nodes.length k 72 72 (j*3+1) pre post cs' p (.list c.node.labels.length cr tr) hpl.symm;have hbE:=fun off cs vs=> @FM k 72 g.nodes.length off g.edges.length cs vs ds u hse (fun q hq e=>by
   have h1:=hk2.1 k;rw[bt,aB,bt]at h1;have h2:=fJ.2 ⟨q,hq,e⟩;simp only[ck,if_true]at h1;omega)
  simp only[↓pa,↓ax,pb,ap,aq,ad,aa,seval,bK,fb,BX,hb0,hbN,hbE];have hst:aQ (pre++PV.list c.node.labels.length cr tr::post)=(g.nodes.set j {g.nodes[j]with labels:=c.node.labels}).flatMap nc:=by
   rw[vY (c:=p),hLn.st,hpl,hr];exact qo nc 3 cP (by decide) hlt rfl
  have hgo:lK ⟨g.nodes.set j {g.nodes[j]with labels:=c.node.labels},g.edges⟩ [.list g.nodes.length (pre++PV.list c.node.labels.length cr tr::post) (.own k 72),.list g.edges.length ds u]:=by
   have e:g.nodes.length=(g.nodes.set j {g.nodes[j]with labels:=c.node.labels}).length:=by rw[iN]
   rw[e]at hso' ⊢;exact uo (g:=⟨g.nodes.set j {g.nodes[j]with labels:=c.node.labels},g.edges⟩) ⟨by rw[<-ch,hst,bC nc 3 cP],hst,hnp'⟩ hLe hso' hse ht hu
  exact hH (x:=(⟨g.nodes.set j {g.nodes[j]with labels:=c.node.labels},g.edges⟩,0)) rfl hgo (by rw[aw,aw,aw,aD];exact hk')
 rw[ai k5];simp only[↓pa,pb,seval];have k6:c.kind=6:=by
  by_cases k6:c.kind=6
  ·exact k6
  ·simp[kw,k1,k2,k3,k4,k5,k6]at hf
 refine af (fun k6b=>?_) (fun k6b=>?_);rotate_left
 ·exact absurd k6 k6b
 obtain⟨v,hv⟩:∃ v,fV c.value=some v:=by
  cases h:fV c.value with
  |none=>simp[kw,k6,h]at hf
  |some v=>exact⟨v,rfl⟩
 have hv8:v.kind=8\/v.kind=9:=by
  unfold kw at hf;rw[ai k1,ai k2,ai k3,ai k4,ai k5,am k6,hv,aj]at hf;simpa using hf.1
 simp only[↓pa,pb,ah,seval,m7,hcl,hct];refine DS K hv hv8 (c:=c) (cells:=[.list g.nodes.length cs t,.list g.edges.length ds u]) rfl hg (aT hk) ho (fun c2 ns2 htk hgo htk2=>?_);simp only[↓pa,pb,seval,fb,htk];refine hH (x:=jK wP g c) rfl hgo ?_;rw[htk2];have:=nL (A:=[]) (B:=aw [.list g.nodes.length cs t,.list g.edges.length ds u]) (C:=[]) (ns:=ns2) (st:=cA (bV ns [[.list g.nodes.length cs t,.list g.edges.length ds u]]) 3 (cc c)) (by rw[aU,aD];exact aT hk) (aW _);rw[aU,aD]at this;exact aT this
structure DP (x:yX) (r:List PV):Prop where
 sh:∃ p q,r=[I x.code,I x.at_,p,q]/\lK x.graph [p,q]
def yU{f:Nat->Option Nat}{x:yX}{r:List PV}(h:DP x r)(hf:∀ q∈aw r,(f q.1).isSome=true):DP x (bm f false r):=by
 obtain⟨p,q,rfl,hg⟩:=h.sh;have:=tE (f:=f) hg fun q' hq=>hf q' (by simpa [aw,aB]using hq);exact⟨_,_,rfl,this⟩
def Ax:lK g0 [.list 0 [] .nil,.list 0 [] .nil]:=⟨rfl,rfl,rfl,[],[],.nil,.nil,rfl,.inl rfl,.inl rfl⟩
def qb(x:cj×Nat×Int):yX:=if x.2.2≠0 then⟨x.2.2,x.2.1,g0⟩else⟨0,0,x.1⟩
def FW(K:bO cf){g:cj}(h1:g.nodes.length<=1000000)(h2:g.edges.length<=1000000)(hn:∀ x∈g.nodes,x.labels.length<=2000000/\x.fields.length<=2000000)(he:∀ x∈g.edges,x.fields.length<=2000000)
  (kk:∀ c ns,aw c=cB st.nx ns->lK g c->A (mk (.agg c) (st.more ns))):dj (az cf 114 [.agg [NX g.nodes,EX g.edges]] [] st) mk A:=by
 obtain⟨c,ns,hc,h3,h4⟩:=Oc (st:=st) K g h1 h2 hn he;exact⟨_,_,hc,kk c ns h3 h4⟩
def Cx(K:bO cf)(hI:sy cf){g:cj}{c:Ch}{cells:List PV}(hs:st.objs s=some cells)(hg:lK g cells)(hk:a8 st (aw cells))(ho:mW g)(hb:lH c)
  (kk:∀ c2 ns,dn [.ptr s 0,.agg (cc c)] [0] st=(aw cells).map (·.1)->lK (lJ wP g c).1 c2->aw c2=cB st.nx ns->A (mk (I (lJ wP g c).2) (cA (fA ((aw cells).map (·.1)) ns st) s c2))):
  dj (az cf 115 [.ptr s 0,.agg (cc c)] [0] st) mk A:=by
 obtain⟨c2,ns,hc,h2,h3,h4⟩:=K3 K hI g c hs hg hk ho hb;exact⟨_,_,hc,kk c2 ns h2 h3 h4⟩
def Ie{B:List (Nat×Nat)}{ns:List Nat}{c2:List PV}{c3:List PV}{s':Nat}(h:a8 st B)(hf:st.fl<=st.nx)(ht:aw c2=cB st.nx ns):a8 (cA (fA (B.map (·.1)) ns st) s' c3) (aw c2):=by
 have:=nL (A:=[]) (B:=B) (C:=[]) (ns:=ns) (st:=st) (by rw[aU,aD];exact h) hf;rw[aU,aD,<-ht]at this;exact aT this
def vS{x:yX}{p q:PV}(hg:lK x.graph [p,q])(hk:a8 st (aw [p,q])):ft [.agg [I x.code,I x.at_,p,q]]=true/\np (.agg [I x.code,I x.at_,p,q])=true/\aY (.agg [I x.code,I x.at_,p,q])=true/\a8 st (aB (.agg [I x.code,I x.at_,p,q]))/\∃ r,PV.agg [I x.code,I x.at_,p,q]= .agg r/\DP x r:=by
 have h1:np (.agg [I x.code,I x.at_,p,q])=true:=hg.np;have h2:aY (.agg [I x.code,I x.at_,p,q])=true:=hg.so;refine⟨by simp only[ft,h1,bv,cH];rfl,h1,h2,?_,_,rfl,p,q,rfl,hg⟩;have:aB (.agg [I x.code,I x.at_,p,q])=aw [p,q]:=by simp[aB,aw]
 rw[this];exact hk
def MQ(K:bO cf)(hI:sy cf)(g:cj)(l:List Ch)(ho:mW g)(hl:l.length<=2000000)(hb:∀ c∈l,lH c):
  ∃ r ns,az cf 78 [.agg (gc g),HX l] [] st=some (.agg r,st.more ns)/\aw r=cB st.nx ns/\DP (qb (hZ wP 0 g l)) r/\aX r=true/\bq r=true:=by
 have hw:Wp cf (l.length+2) F78.body (eM [.agg (gc g),HX l],bV [] []) (nO F78.res fun p s=>np p=true/\aY p=true/\a8 s (aB p)/\∃ r,p= .agg r/\DP (qb (hZ wP 0 g l)) r):=by
  have hm:=bC cc 12 iC l;have hkl:=fun J=> @gU J _ (fS l);have hkn:∀ J,bY J (.list 0 [] .nil)= .list 0 [] .nil:=fun J=>rfl;simp only[F78,↓qU,seval];simp only[↓pa,pb,ah,seval,gc];refine FW K (by have:=ho.nl;omega) (by have:=ho.el;omega) (fun n hn=>by have:=ho.ns n hn;omega) (fun e he=>by have:=ho.es e he;omega) (fun c ns ht hgo=>?_);obtain⟨cs,ds,t,u,rfl,-,-⟩:=hgo.sh;simp only[↓pa,pb,ah,seval];refine a7 (fun q fr st=>∃ (i:Nat) (G:cj) (p1 p2:PV),q=l.length-i/\i<=l.length/\fr 4= .ptr 4 0/\fr 5= .ptr 5 0/\fr 11=HX l/\fr 12=I l.length/\fr 13=I i/\st.objs 4=some [I 0,I 0,.list 0 [] .nil,.list 0 [] .nil]/\st.objs 5=some [p1,p2]/\lK G [p1,p2]/\a8 st (aw [p1,p2])/\st.fl<=st.nx/\mW G/\hZ wP 0 g l=hZ wP i G (l.drop i)) l.length (by omega)
   ⟨0,g,_,_,by simp,by omega,by simp only[↓pa,pb,seval],by simp only[↓pa,seval],(by simp only[↓pa,seval]<;>rfl),(by simp only[↓pa,seval]<;>rfl),(by simp only[↓pa,seval]<;>rfl),by simp only[pb,seval,di],(by simp only[pb,seval]<;>rfl),hgo,?_,?_,ho,rfl⟩ ?_
  ·rw[ht];have h0:=cK (st:=cA (cA (bV [] []) 2 [NX g.nodes,EX g.edges]) 4 [.int .i64 0,.int .i64 0,.list 0 [] .nil,.list 0 [] .nil]) eN (aW _) ns;rw[aU]at h0;exact aT (aT h0)
  ·refine dJ ?_ (aW _);show(St.more _ ns).fl<=0;rw[St.more_fl];exact aP 0
  rintro q fr st ⟨i,G,p1,p2,rfl,hi,f4,f5,f11,f12,f13,o4,o5,hg,hk,hfl,hoG,hQ⟩;simp only[↓pa,pb,ak,seval,f12,f13];refine af (fun k1=>?_) (fun k1=>?_)
  ·have hlt:i<l.length:=k1;rw[Dv hlt]at hQ;have hcl:(cc l[i]).length=12:=rfl;have hct:List.take 12 (cc l[i])=cc l[i]:=rfl;simp (maxSteps:=1000000) (disch:=omega)only[↓pa,pb,ah,seval,f5,f11,f13,m7,Hc hlt,hcl,hct,Qy hcl,ar];refine Cx K hI (cells:=[p1,p2]) (by simp only[pb,seval,o5]) hg (aT (aT hk)) hoG (hb _ (cp hlt)) (fun c2 ns2 htk hgo2 ht2=>?_);obtain⟨cs2,ds2,t2,u2,rfl,-,-⟩:=hgo2.sh;simp only[↓pa,pb,seval,al,htk];refine af (fun h0=>?_) (fun h0=>?_)
   ·rw[ai (by simp[h0])]at hQ;simp (maxSteps:=1000000) (disch:=omega)only[↓pa,pb,ak,seval,f4,f5,f11,f12,f13,o4,m7,hkl,hkn];have hko:=tW l[i] hoG;rw[<-Fs l[i] hoG]at hko;refine⟨l.length- (i+1),by omega,i+1,_,_,_,rfl,by omega,rfl,rfl,hgo2,?_,?_,hko,hQ⟩
    ·exact Ie (aT (aT hk)) hfl ht2
    ·show st.fl<=(St.more _ ns2).nx;rw[St.more_nx];exact dJ hfl (Nat.le_add_right _ _)
   ·rw[am h0]at hQ;simp only[↓pa,↓au,pb,ah,seval,gh,f4,o4,m7,hkn];have e:qb (hZ wP 0 g l)=⟨(lJ wP G l[i]).2,(i:Int),g0⟩:=by rw[hQ,qb,am h0]
    rw[e];exact vS (x:=⟨(lJ wP G l[i]).2,(i:Int),g0⟩) Ax eN
  ·have hie:l.drop i=[]:=ei (by omega);rw[hie,hZ]at hQ;simp only[↓pa,↓au,pb,ah,seval,gh,f4,f5,o4,o5,k1];have e:qb (hZ wP 0 g l)=⟨0,0,G⟩:=by rw[hQ,qb,ai (by simp)]
   rw[e];exact vS (x:=⟨0,0,G⟩) hg (aT hk)
 obtain⟨r,ns,r0,hc,hF,⟨c,rfl,hQ⟩,g',h,rfl,hh,hg⟩:=vP (st:=st) (f:=78) (F:=F78) K.tab rfl rfl rfl (lb rfl) (a9z:=[.agg (gc g),HX l]) (by simp[dE,fS]) (l.length+2) hw;have hh:∀ q∈aw c,(h q.1).isSome=true:=hh;exact⟨_,ns,hc,hF.tk,yU (yU hQ hh) fun _ _=>hg _,hF.np,hF.so⟩
def F1(K:bO cf)(hI:sy cf){g:cj}{l:List Ch}(ho:mW g)(hl:l.length<=2000000)(hb:∀ c∈l,lH c)
  (kk:∀ p q ns,aw [I (qb (hZ wP 0 g l)).code,I (qb (hZ wP 0 g l)).at_,p,q]=cB st.nx ns->lK (qb (hZ wP 0 g l)).graph [p,q]->A (mk (.agg [I (qb (hZ wP 0 g l)).code,I (qb (hZ wP 0 g l)).at_,p,q]) (st.more ns))):dj (az cf 78 [.agg [NX g.nodes,EX g.edges],HX l] [] st) mk A:=by
 obtain⟨r,ns,hc,h3,h4,-,-⟩:=MQ (st:=st) K hI g l ho hl hb;obtain⟨p,q,rfl,hg⟩:=h4.sh;exact⟨_,_,hc,kk p q ns h3 hg⟩
def Pv(K:bO cf)(hI:sy cf)(g:cj)(l:List Ch)(hl:l.length<=2000000)(hb:∀ c∈l,lH c):
  ∃ r ns,az cf 32 [.agg (gc g),HX l] [] st=some (.agg r,st.more ns)/\aw r=cB st.nx ns/\DP (iL wP g l) r/\aX r=true/\bq r=true:=by
 have hw:Wp cf 1 F32.body (eM [.agg (gc g),HX l],bV [] []) (nO F32.res fun p s=>np p=true/\aY p=true/\a8 s (aB p)/\∃ r,p= .agg r/\DP (iL wP g l) r):=by
  have hgo:∀ st,az cf 46 [.agg [NX g.nodes,EX g.edges]] [] st=some (.bool (eD g),st):=fun st=>KZ K g;simp only[F32,↓qU,seval];simp only[↓pa,pb,ah,seval,gc];refine af (fun k1=>?_) (fun k1=>?_)
  ·have e:iL wP g l=⟨2,0,g0⟩:=am (by omega);simp only[↓pa,↓au,pb,ah,seval,gh];rw[e];exact vS (x:=⟨2,0,g0⟩) Ax eN
  have k2:¬1000<l.length:=by omega
  cases hg:eD g
  ·have e:iL wP g l=⟨1,0,g0⟩:=by unfold iL;rw[ai k2,am hg]
   simp only[↓pa,↓au,pb,ah,seval,gh,hgo,hg];rw[e];exact vS (x:=⟨1,0,g0⟩) Ax eN
  have e:iL wP g l=qb (hZ wP 0 g l):=by unfold iL;rw[ai k2,ai (by rw[hg];simp)];rfl
  simp only[↓pa,pb,ah,seval,hgo,hg];refine F1 K hI (B1 hg) hl hb (fun p q ns ht hgc=>?_);have hgc':=hgc;obtain⟨cs,ds,t,u,e2,-,-⟩:=hgc.sh;simp only[List.cons.injEq,and_true]at e2;obtain⟨rfl,rfl⟩:=e2;simp only[↓pa,pb,ah,seval,gh,di];rw[e];refine vS hgc' ?_;have h0:=cK (st:=cA (cA (bV [] []) 2 [NX g.nodes,EX g.edges]) 4 [.int .i64 0,.int .i64 0,.list 0 [] .nil,.list 0 [] .nil]) eN (aW _) ns;rw[aU,<-ht]at h0;exact aT h0
 obtain⟨r,ns,r0,hc,hF,⟨c,rfl,hQ⟩,g',h,rfl,hh,hg⟩:=vP (st:=st) (f:=32) (F:=F32) K.tab rfl rfl rfl (lb rfl) (a9z:=[.agg (gc g),HX l]) (by simp[dE,fS]) 1 hw;have hh:∀ q∈aw c,(h q.1).isSome=true:=hh;exact⟨_,ns,hc,hF.tk,yU (yU hQ hh) fun _ _=>hg _,hF.np,hF.so⟩
def lc(c:Ch):Nat:=fE c.node+jk c.edge+c.name.length+c.value.length+c.text.length
structure vT (c:Ch):Prop where
 nl:c.node.labels.length<=gg/\∀ t∈c.node.labels,t.length<=gg
 nf:c.node.fields.length<=gg/\∀ f∈c.node.fields,f.1.length<=gg/\f.2.length<=gg
 et:c.edge.type.length<=gg
 ef:c.edge.fields.length<=gg/\∀ f∈c.edge.fields,f.1.length<=gg/\f.2.length<=gg
 na:c.name.length<=gg
 va:c.value.length<=gg
 te:c.text.length<=gg
def Pt(K:bO cf)(c:Ch)(h:vT c)(left:Nat)(hle:left<=2000000):az cf 75 [.agg (cc c),I left] [] st=some (I (eE left (lc c)),st):=by
 refine df K.tab (F:=F75) (t:=4) rfl rfl rfl (lb rfl) (by simp[gd (gz c),bh]) (d6 _ _) 1 ?_;have h1:c.name.length<=9223372036854775807:=h.na;have h2:c.value.length<=9223372036854775807:=h.va;have h3:c.text.length<=9223372036854775807:=h.te;have hn:=fun st=>KO (st:=st) K c.node h.nl h.nf left hle;have he:=fun(left:Nat) (hl:left<=2000000) st=>KQ (st:=st) K c.edge h.et h.ef left hl;simp only[F75,↓qU,seval];simp only[↓pa,pb,ah,seval,cc];have hn':∀ st,az cf 79 [.agg [I c.node.id,TX c.node.labels,FX c.node.fields],I left] [] st=some (I (eE left (fE c.node)),st):=hn;simp only[↓pa,pb,seval,hn'];by_cases hd:fE c.node<=left
 ·have hdd:eE left (fE c.node)=((left-fE c.node:Nat):Int):=by rw[eE,am hd]
  have hneg:¬ (((left-fE c.node:Nat):Int)<0):=by omega
  have he':∀ st,az cf 80 [.agg [I c.edge.id,S c.edge.type,I c.edge.src,I c.edge.dst,FX c.edge.fields],I (left-fE c.node:Nat)] [] st=some (I (eE (left-fE c.node) (jk c.edge)),st):=fun st=>he (left-fE c.node) (by omega) st;simp only[↓pa,pb,ah,seval,hdd,hneg,he'];by_cases hd2:jk c.edge<=left-fE c.node
  ·have hdd2:eE (left-fE c.node) (jk c.edge)=((left-fE c.node-jk c.edge:Nat):Int):=by rw[eE,am hd2]
   have hneg2:¬ (((left-fE c.node-jk c.edge:Nat):Int)<0):=by omega
   simp (maxSteps:=1000000) (disch:=omega)only[↓pa,pb,ah,seval,hdd2,hneg2];generalize hm:left-fE c.node-jk c.edge=m at*;refine af (fun h4=>?_) (fun h4=>?_)
   ·simp only[↓pa,pb,seval,h4];rw[eE,ai (by unfold lc;omega)]
   simp (maxSteps:=1000000) (disch:=omega)only[↓pa,pb,ah,seval,h4];refine af (fun h5=>?_) (fun h5=>?_)
   ·simp only[↓pa,pb,seval,h5];rw[eE,ai (by unfold lc;omega)]
   simp (maxSteps:=1000000) (disch:=omega)only[↓pa,pb,ah,seval,h5];refine af (fun h6=>?_) (fun h6=>?_)
   ·simp only[↓pa,pb,seval,h6];rw[eE,ai (by unfold lc;omega)]
   simp only[↓pa,pb,seval,h6];rw[eE,am (by unfold lc;omega)];congr 1;unfold lc;omega
  ·have hdd2:eE (left-fE c.node) (jk c.edge)= -1:=by rw[eE,ai hd2]
   simp only[↓pa,pb,seval,hdd2];rw[eE,ai (by unfold lc;omega)]
 ·have hdd:eE left (fE c.node)= -1:=by rw[eE,ai hd]
  simp only[↓pa,pb,seval,hdd];rw[eE,ai (by unfold lc;omega)]
def Od(K:bO cf)(l:List Ch)(hl:l.length<=gg)(h:∀ c∈l,vT c)(left:Nat)(hle:left<=2000000):az cf 29 [HX l,I left] [] st=some (I (eE left (fQ lc l)),st):=
 D7 K (f:=29) (F:=F29) rfl ⟨rfl,rfl,rfl,(lb rfl)⟩ cc iC gz lc l hl left hle fun a ha left st hl=>Pt K a (h a ha) left hl
def Mu{c:Ch}(h:lc c<=1048576):lH c:=by
 have h1:fE c.node<=1048576:=by unfold lc at h;omega
 have h2:jk c.edge<=1048576:=by unfold lc at h;omega
 unfold fE nq oB at h1;unfold jk oB at h2;have h4:= @jF _ List.length c.node.labels;have h5:= @jF _ nu c.node.fields;have h6:= @jF _ nu c.edge.fields;exact⟨by omega,by omega,by omega⟩
def Pq(K:bO cf)(c:Ch)(h:lH c):∃ r ns,az cf 77 [.agg (cc c)] [] st=some (r,st.more ns)/\dC st.nx ns r/\aO r= .agg (cc c):=by
 refine oT K.tab (F:=F77) (Q:=fun r=>r= .agg (cc c)) rfl rfl rfl (lb rfl) (by simp[gd (gz c)]) 1 ?_;simp only[F77,↓qU,seval];simp only[↓pa,pb,ah,seval,cc];refine dx (Nk K c.node h.ll h.nf) (fun r ns hF hr=>?_);obtain⟨ds,rfl,hd⟩:=fi hr;obtain⟨a1,a2,a3,rfl⟩:∃ a b c,ds=[a,b,c]:=by
  have hl:ds.length=3:=by rw[<-ch,hd];rfl
  match ds,hl with
  | [a,b,c],_=>exact⟨a,b,c,rfl⟩
 simp only[↓pa,pb,ah,seval,di];refine dx (Nl K c.edge h.ef) (fun r2 ns2 hF2 hr2=>?_);obtain⟨ds2,rfl,hd2⟩:=fi hr2;obtain⟨b1,b2,b3,b4,b5,rfl⟩:∃ a b c d e,ds2=[a,b,c,d,e]:=by
  have hl:ds2.length=5:=by rw[<-ch,hd2];rfl
  match ds2,hl with
  | [a,b,c,d,e],_=>exact⟨a,b,c,d,e,rfl⟩
 simp only[↓pa,pb,ah,seval,di];have n1:aX [a1,a2,a3]=true:=hF.np;have n2:aX [b1,b2,b3,b4,b5]=true:=hF2.np;have s1:bq [a1,a2,a3]=true:=by simpa [aY]using hF.so
 have s2:bq [b1,b2,b3,b4,b5]=true:=by simpa [aY]using hF2.so
 refine⟨rfl,?_,?_,?_,?_⟩
 ·simp only[aX,dS,off,np,aj,bv,cH]at n1 n2 ⊢;simp only[n1,n2,lw]
  all_goals rfl
 ·simp only[bq,aY,aj,bv,cH]at s1 s2 ⊢;simp only[s1,s2,lw]
 ·have a:=hF.tk;rw[show aB (.agg [a1,a2,a3])=aw [a1,a2,a3] by simp[aB]]at a;have b:=hF2.tk;rw[show aB (.agg [b1,b2,b3,b4,b5])=aw [b1,b2,b3,b4,b5] by simp[aB]]at b;have e:aB (.agg [I c.kind,a1,a2,a3,b1,b2,b3,b4,b5,S c.value,S c.name,S c.text])=aw [a1,a2,a3]++aw [b1,b2,b3,b4,b5]:=by simp[aB,aw]
  rw[e,a,b]
  repeat first|exact eN|(refine cK (l:=[]) ?_ (aW _) _)|(refine cK ?_ (by simp only[cA,St.more_fl,bV];exact aW _) _)|refine aT ?_
 ·simp only[xt,dX,bg,cJ]at hd hd2 ⊢;simp only[nc,ec,List.cons.injEq]at hd hd2;simp only[hd,hd2,aH]
def yP(K:bO cf)(l:List Ch)(hl:l.length<=2000000)(h:∀ c∈l,lH c):∃ r ns,az cf 31 [HX l] [] st=some (r,st.more ns)/\dC st.nx ns r/\aO r=HX l:=
 D5 K (f:=31) (F:=F31) rfl ⟨rfl,rfl,rfl,rfl,(lb rfl)⟩ rfl (by decide) (by decide) cc iC gz l hl fun a ha st=>Pq K a (h a ha)
section
variable {f:Nat} {F:bw} {cs:List PV}
end
mutual
theorem MT(J:List Nat)(l:List (Nat×Nat×PV))(hu:∀ q∈l,J.contains q.1=true):∀ p:PV,tf (J.contains ·) p=true->mU J l p=p
 | .list n cs t,h=>by
  simp only[tf,aj]at h;have ih:=qW J l hu cs h.2;have:sQ l n t=none:=by
   cases hs:sQ l n t with
   |none=>rfl
   |some p=>
    obtain⟨k,e,rfl,hm⟩:=v6 hs;have h1:=h.1;simp only[aF.free,aF.of,hu _ hm]at h1;cases h1
  simp only[mU,ih,this];rw[am h.1]
 | .iptr cs o t,h=>by
  simp only[tf,aj]at h;have ih:=qW J l hu cs h.2;simp only[mU,ih];rw[am h.1]
 | .agg cs,h=>by simp only[tf]at h;simp only[mU,qW J l hu cs h]
 | .tup cs,h=>by simp only[tf]at h;simp only[mU,qW J l hu cs h]
 | .fn g cs,h=>by simp only[tf]at h;simp only[mU,qW J l hu cs h]
 | .any,_| .hole,_| .int _ _,_| .bool _,_| .str _,_| .nilp,_| .nili,_| .err,_| .ptr _ _,_| .osl _ _ _ _,_| .mp _,_=>rfl
theorem qW(J:List Nat)(l:List (Nat×Nat×PV))(hu:∀ q∈l,J.contains q.1=true):∀ ps:List PV,dN (J.contains ·) ps=true->nJ J l ps=ps
 | [],_=>rfl
 |p::ps,h=>by
  simp only[dN,aj]at h;simp only[nJ,MT J l hu p h.1,qW J l hu ps h.2]
end
end Go.PM
namespace Go.PM
open Go Go.Proofs
def CB:Tryz.prog.underlying 30=some (.slice 68):=by kernel_rfl
def Ko:(Tryz.prog.info? 68).map (·.size)=some 5:=by kernel_rfl
set_option maxRecDepth 100000 in
def E3:BF 189 30:=by
 intro base n c vc va w w' r hnc hc hn hrun;go_enter Tryz.func189,Tryz.ntmps189;cases base with
 |none=>
  have h0:=hn rfl;subst h0
  go_wp2_with (at_builtin;refine Lib.wpList_append_run _ rfl _ _ _ _ rfl _ _ rfl rfl _ _ (hrun _) ?_)
  go_ret;exact⟨rfl,rfl⟩
 |some a=>
  obtain⟨ab,ao,asp⟩:=a
  go_wp2_with (at_builtin;refine Lib.wpList_append_run _ rfl _ _ _ _ rfl _ _ rfl rfl _ _ (hrun _) ?_)
  all_goals (go_ret;exact⟨rfl,rfl⟩)
set_option maxRecDepth 100000 in
def Ki:Cy 189 202 5:=by
 intro b n c i vb voff vc us vs w hi hroom hc63 hvb hul hvl hus hsp hfz hvs h1u h1v hov;have hdl:(us.drop (i*5)).length=n*5-i*5:=by rw[bl,hul]
 have hz2:¬ ((i:Int)=(n:Int)):=by omega
 have hw1:IntKind.i64.wrap ((i:Int)+1)=(i:Int)+1:=by rw[jJ];omega
 have hb1:(0:Int)<=(i:Int)+1:=by omega
 have hin:i<=n:=by omega
 have htn:((i:Int)+1).toNat=i+1:=by omega
 have hb2:¬ (c=i+1):=by omega
 have hb3:(i:Int)<=(n:Int)+1:=by omega
 have hb4:¬ (c=i):=by omega
 have hm1:Nat.min (n+1-i) (n-i)=n-i:=Nat.min_eq_right (by omega);have hm2:Nat.min 1 (n+1-i)=1:=hY (by omega);have hmin:Nat.min (n+1-i) (n-i) *5=n*5-i*5:=by rw[hm1];omega
 have hcp1:∀ ty dc sc,(Builtin.copy_ #[30,30] ty #[.slice (some ⟨b,i*5+5,none⟩) (n-i) dc,.slice (some ⟨b,i*5,none⟩) (n+1-i) sc]).run Tryz.prog w.drew= .ok (goInt (Nat.min (n+1-i) (n-i))) (w.drew.setCells b (i*5+5) (us.drop (i*5))):=fun ty dc sc=>
  m4 w.drew 30 30 ty 68 b (i*5+5) (n-i) dc ⟨b,i*5,none⟩ (n+1-i) sc 5 (us.drop (i*5)) CB Ko (by rw[hdl,hmin])
   (fun j v hj=>by rw[Addr.add_lit];exact hus _ v (by rwa [ex]at hj))
   (fun j hj=>hsp _ (by omega)) (fun j hj=>hfz _) (fun v hv=>h1u v (dv hv))
 obtain⟨W1,hW1⟩:∃ W1,W1=w.drew.setCells b (i*5+5) (us.drop (i*5)):=⟨_,rfl⟩;have hsp1:∀ k,k<n*5+5->(W1.cell? ⟨b,k,none⟩).isSome=true:=fun k hk=>by
  rw[hW1];exact lP b (us.drop (i*5)) (i*5+5) w.drew (fun j hj=>hsp _ (by omega)) k (hsp k hk)
 have hcp2:∀ (W:World),(∀ x,W.cell? x=W1.cell? x)->(∀ x,W.frozen? x=W1.frozen? x)->∀ ty dc,(Builtin.copy_ #[30,30] ty #[.slice (some ⟨b,i*5,none⟩) (n+1-i) dc,.slice (some ⟨vb,voff,none⟩) 1 vc]).run Tryz.prog W= .ok (goInt (Nat.min 1 (n+1-i))) (W.setCells b (i*5) vs):=fun W hWc hWf ty dc=>
  m4 W 30 30 ty 68 b (i*5) (n+1-i) dc ⟨vb,voff,none⟩ 1 vc 5 vs CB Ko (by rw[hvl,hm2])
   (fun j v hj=>by
    rw[Addr.add_lit,hWc,hW1,World.cell?_setCells_out b _ _ _ _ (fun h _=>absurd h hvb)];exact hvs j v hj)
   (fun j hj=>by rw[hWc];exact hsp1 _ (by omega)) (fun j hj=>by rw[hWf,hW1,World.frozen?_setCells];exact hfz _) h1v
 rw[<-hW1]at hcp1;have h13:(i+1) *5=i*5+5:=by omega
 clear hmin hm1 hm2 hul hvl hus hvs h1u h1v hsp hdl;go_enter Tryz.func189,Tryz.ntmps189
 go_wp2_with (simp only[hov])
 go_region_law (refine ph rfl _ _ 30 30 rfl _ _ (by simp[Act.eval,Act.put]) (by simp[Act.eval,Act.put]) (hcp1 _ _ _) ?_)
 go_wp2_with (at_builtin;refine jE _ rfl _ _ 30 30 rfl _ _ rfl rfl (hcp2 _ (fun _=>rfl) (fun _=>rfl) _ _) ?_)
 go_ret
 first|exact⟨rfl,rfl⟩|exact⟨rfl,by rw[hW1]⟩
set_option maxRecDepth 100000 in
def Kk:Cz 189 68 5 64:=by
 intro b n c i vb voff vc us vs zc w hi hnc hroom hbig hvb hul hvl hus hvs h1u h1v i0 z hi0 hz0 hzs hzb hzc;have hz2:¬ ((i:Int)=(n:Int)):=by omega
 have hz3:(c:Int)<(n:Int)+1:=by omega
 have hbw:b<w.heap.size:=block_lt_of_cell (hus 0 _ (aK (by omega)));have hkk:(n:Int)+1- (i:Int)=((n+1-i:Nat):Int):=by omega
 have hik:i+(n+1-i)=n+1:=by omega
 have hold:(Builtin.firstCells i0.size i (.slice (some ⟨b,0,none⟩) i c)).run Tryz.prog w.drew= .ok (us.take (i*5)).toArray w.drew:=by
  rw[hzs];exact run_firstCells_some w.drew 5 i ⟨b,0,none⟩ i c (us.take (i*5)) (by rw[aL];omega) (fun j v hj=>by
   rw[Addr.add_lit];rw[pd]at hj;split at hj
   ·rw[ar];exact hus j v hj
   ·cases hj)
 have hrz:∀ ty,(Builtin.append_ #[30,3] ty #[.slice (some ⟨b,0,none⟩) i c,.int .i64 ((n:Int)+1- (i:Int))]).run Tryz.prog w=
   .ok (.slice (some ⟨w.heap.size,0,none⟩) (n+1) (grownCap w (n+1) c 68)) (w.drew.alloc (.cells ((us.take (i*5)).toArray++Builtin.zeroCells z.cells (n+1-i)++Builtin.zeroCells z.cells (grownCap w (n+1) c 68- (n+1))) 68)):=fun ty=>by
  have h:=Lib.run_append_grow_zeros w 30 3 ty 68 i0 _ .i64 .i64 CB (by kernel_rfl) hi0 hz0 (some ⟨b,0,none⟩) i c (us.take (i*5)) hold (n+1-i) (by omega) (by omega) (by omega) (by omega) (by rw[hzb];omega) (by rw[hzb,hik];exact growslice_fits hroom (by omega));rw[hik]at h;rw[hkk];exact h
 obtain⟨G,hG⟩:∃ G,G=grownCap w (n+1) c 68:=⟨_,rfl⟩;obtain⟨ROW,hROW⟩:∃ ROW:Array Value,ROW=(us.take (i*5)).toArray++Builtin.zeroCells z.cells (n+1-i)++Builtin.zeroCells z.cells (G- (n+1)):=⟨_,rfl⟩;rw[<-hG]at hrz ⊢;rw[<-hROW]at hrz ⊢;have hRl:n*5+5<=ROW.size:=by
  rw[hROW];simp only[Array.size_append,size_zeroCells,hzc,ky,aL,hul];omega
 obtain⟨W1,hW1⟩:∃ W1,W1=w.drew.alloc (.cells ROW 68):=⟨_,rfl⟩;rw[<-hW1]at hrz;have hN:∀ j,j<n*5+5->(W1.cell? ⟨w.heap.size,j,none⟩).isSome=true:=fun j hj=>by
  rw[hW1,World.cell?_alloc_at (w:=w.drew) ROW _ w.heap.size j rfl,jg (by omega)];rfl
 have hNf:∀ j,W1.frozen? ⟨w.heap.size,j,none⟩=false:=fun j=>by rw[hW1];exact World.frozen?_alloc_at (w:=w.drew) ROW _ w.heap.size j rfl
 have hOb:∀ j v,w.cell? ⟨b,j,none⟩=some v->W1.cell? ⟨b,j,none⟩=some v:=fun j v h=>by rw[hW1,World.cell?_alloc_past (w:=w.drew) _ b j hbw];exact h
 have hOv:∀ j v,w.cell? ⟨vb,j,none⟩=some v->W1.cell? ⟨vb,j,none⟩=some v:=fun j v h=>by rw[hW1,World.cell?_alloc_past (w:=w.drew) _ vb j hvb];exact h
 have hm2:Nat.min 1 (n+1-i)=1:=hY (by omega);have hm1:Nat.min (n-i) (n-i)=n-i:=Nat.min_self _;have hcpA:∀ (W:World),(∀ x,W.cell? x=W1.cell? x)->(∀ x,W.frozen? x=W1.frozen? x)->∀ ty dc,(Builtin.copy_ #[30,30] ty #[.slice (some ⟨w.heap.size,i*5,none⟩) (n+1-i) dc,.slice (some ⟨vb,voff,none⟩) 1 vc]).run Tryz.prog W= .ok (goInt (Nat.min 1 (n+1-i))) (W.setCells w.heap.size (i*5) vs):=fun W hWc hWf ty dc=>
  m4 W 30 30 ty 68 w.heap.size (i*5) (n+1-i) dc ⟨vb,voff,none⟩ 1 vc 5 vs CB Ko (by rw[hvl,hm2])
   (fun j v hj=>by rw[Addr.add_lit,hWc];exact hOv _ v (hvs j v hj))
   (fun j hj=>by rw[hWc];exact hN _ (by omega)) (fun j hj=>by rw[hWf];exact hNf _) h1v
 have hGn:n+1<=G:=by rw[hG];exact grownCap_ge w _ _ _
 have hG63:G<=9223372036854775807:=by
  have:=grownCap_le_maxLen w (n+1) c 68 (by unfold maxLen;omega);rw[<-hG]at this;unfold maxLen at this;omega
 have hGi:¬ (G=i):=by omega
 have hGim:¬ (G=i+1):=by omega
 have hci:¬ (c=i):=by omega
 have hbN:b≠w.heap.size:=by omega
 have hdl:(us.drop (i*5)).length=n*5-i*5:=by rw[bl,hul]
 have hcpB:∀ (W:World),(∀ x,W.cell? x=(W1.setCells w.heap.size (i*5) vs).cell? x)->(∀ x,W.frozen? x=(W1.setCells w.heap.size (i*5) vs).frozen? x)->∀ ty dc sc,(Builtin.copy_ #[30,30] ty #[.slice (some ⟨w.heap.size,i*5+5,none⟩) (n-i) dc,.slice (some ⟨b,i*5,none⟩) (n-i) sc]).run Tryz.prog W= .ok (goInt (Nat.min (n-i) (n-i))) (W.setCells w.heap.size (i*5+5) (us.drop (i*5))):=fun W hWc hWf ty dc sc=>
  m4 W 30 30 ty 68 w.heap.size (i*5+5) (n-i) dc ⟨b,i*5,none⟩ (n-i) sc 5 (us.drop (i*5)) CB Ko (by rw[hdl,hm1];omega)
   (fun j v hj=>by
    rw[Addr.add_lit,hWc,World.cell?_setCells_out _ _ _ _ _ (fun h _=>absurd h hbN)];exact hOb _ v (hus _ v (by rwa [ex]at hj)))
   (fun j hj=>by rw[hWc];exact lP w.heap.size vs (i*5) W1 (fun t ht=>hN _ (by omega)) _ (hN _ (by omega)))
   (fun j hj=>by rw[hWf,World.frozen?_setCells];exact hNf _) (fun v hv=>h1u v (dv hv))
 subst hW1;have hE1:∀ x,((w.alloc (.cells ROW 68)).drew).cell? x=(w.drew.alloc (.cells ROW 68)).cell? x:=fun x=>rfl;have hE2:∀ x,((w.alloc (.cells ROW 68)).drew).frozen? x=(w.drew.alloc (.cells ROW 68)).frozen? x:=fun x=>rfl;have hF1:∀ x,(((w.alloc (.cells ROW 68)).drew.setCells w.heap.size (i*5) vs).drew).cell? x=((w.drew.alloc (.cells ROW 68)).setCells w.heap.size (i*5) vs).cell? x:=fun x=>rfl;have hF2:∀ x,(((w.alloc (.cells ROW 68)).drew.setCells w.heap.size (i*5) vs).drew).frozen? x=((w.drew.alloc (.cells ROW 68)).setCells w.heap.size (i*5) vs).frozen? x:=fun x=>rfl;have hw1:IntKind.i64.wrap ((i:Int)+1)=(i:Int)+1:=by rw[jJ];omega
 have hb1:(0:Int)<=(i:Int)+1:=by omega
 have hin:i<=n:=by omega
 have htn:((i:Int)+1).toNat=i+1:=by omega
 have hb3:(i:Int)<=(n:Int):=by omega
 have h13:(i+1) *5=i*5+5:=by omega
 clear hkk hik hold hROW hG hRl hm1 hm2 hul hvl hus hvs h1u h1v hN hNf hOb hOv hdl hzs hzb hzc hz0 hi0;go_enter Tryz.func189,Tryz.ntmps189
 go_wp2_with (first
  |(at_builtin;refine Lib.wpList_append_run _ rfl _ _ _ _ rfl _ _ rfl rfl _ _ (hrz _) ?_)
  |(at_builtin;refine jE _ rfl _ _ 30 30 rfl _ _ rfl rfl (hcpA _ hE1 hE2 _ _) ?_)
  |(at_builtin;refine jE _ rfl _ _ 30 30 rfl _ _ rfl rfl (hcpB _ (fun _=>rfl) (fun _=>rfl) _ _ _) ?_))
 go_region_law (refine ph rfl _ _ 30 30 rfl (.slice (some ⟨w.heap.size,i*5+5,none⟩) (n-i) (G- (i+1))) (.slice (some ⟨b,i*5,none⟩) (n-i) (c-i)) (by simp[Act.eval,Act.put]) (by simp[Act.eval,Act.put]) (hcpB _ hF1 hF2 3 (G- (i+1)) (c-i)) ?_)
 go_wp2;go_ret;exact⟨rfl,rfl⟩
end Go.PM
namespace Go.PM
open Go Go.Proofs Go.RowKit
def w8{P:Program}(w:World)(t e ty:TypeId){i0:TypeInfo}{z:Value}(ht:P.underlying t=some (.slice e))(hi:P.info? e=some i0)(hz:i0.zero=some z)(b o c:Nat)(h0:0<z.cells.size)
  (hc:∀ j,j<z.cells.size->(w.cell? ⟨b,o+j,none⟩).isSome=true) (hf:∀ j,j<z.cells.size->w.frozen? ⟨b,o+j,none⟩=false) (h1:∀ v∈z.cells.toList,v.oneCell'=true):
  (Builtin.clear_ #[t] ty #[.slice (some ⟨b,o,none⟩) 1 c]).run P w= .ok (.tuple #[]) (w.setCells b o z.cells.toList):=by
 have hzc:(Builtin.zeroCells z.cells 1).toList=z.cells.toList:=by
  apply List.ext_getElem
  ·simp[Builtin.zeroCells]
  ·intro i h1 h2;have h3:i<z.cells.size:=by simpa using h2
   simp[Builtin.zeroCells,Nat.mod_eq_of_lt h3,h3]
 have hst:=run_storeCells_cells (P:=P) b o z.cells.toList 0 w (by simpa using hc) (by simpa using hf) h1;simp only[aI]at hst;have hv:(zeroValue e).run P w= .ok z w:=by simp[zeroValue,typeInfo,hi,hz]
 simp[Builtin.clear_,bz w ht,hv,hzc,hst]
def Gb(f el m:Nat):Prop:=∀ (b n c i:Nat) (us zs:List Value) (w:World) (hi:i<n) (hnc:n<=c) (hc63:c<=9223372036854775807) (hul:us.length=n*m) (hus:∀ (j:Nat) v,us[j]? =some v->w.cell? ⟨b,j,none⟩=some v) (hfz:∀ j,w.frozen? ⟨b,j,none⟩=false) (h1u:∀ v∈us,v.oneCell'=true)
  {i0:TypeInfo} {z:Value} (hi0:Tryz.prog.info? el=some i0) (hz0:i0.zero=some z) (hzs:i0.size=m) (hzl:z.cells.size=m) (hzz:z.cells.toList=zs) (h1z:∀ v∈zs,v.oneCell'=true),
 Calls Tryz.prog f #[.slice (some ⟨b,0,none⟩) n c,.int .i64 i,.int .i64 ((i:Int)+1)] w fun e w'=>e= .returned (.slice (some ⟨b,0,none⟩) (n-1) c)/\w'=(w.drew.setCells b (i*m) (us.drop ((i+1) *m))).setCells b ((n-1) *m) zs
set_option maxRecDepth 1000000 in
def KD:Gb 160 72 3:=by
 intro b n c i us zs w hi hnc hc63 hul hus hfz h1u i0 z hi0 hz0 hzs hzl hzz h1z;obtain⟨news,hnews⟩:∃ news,news=us.drop ((i+1) *3):=⟨_,rfl⟩;have hlen:news.length=(n- (i+1)) *3:=by rw[hnews,bl,hul];omega
 have hsp:∀ j,j<n*3->(w.cell? ⟨b,j,none⟩).isSome=true:=fun j hj=>by rw[hus j _ (aK (by omega))];rfl
 obtain⟨A,hA,hsrc⟩:∃ A:Addr,(if c=i+1 then some (⟨b,0,none⟩:Addr)else some ⟨b,(i+1) *3,none⟩)=some A/\Hid (∀ t u,news[t]? =some u->w.drew.cell? (A.add t)=some u):=by
  by_cases h:c=i+1
  ·refine⟨⟨b,0,none⟩,by simp[h],fun t u hu=>?_⟩;have h0:news.length=0:=by rw[hlen];omega
   rw[gI.1 h0]at hu;simp at hu
  ·refine⟨⟨b,(i+1) *3,none⟩,by simp[h],fun t u hu=>?_⟩;rw[hnews,ex]at hu;rw[Addr.add_lit];exact hus _ _ hu
 have s1:Hid (news.length=(n- (i+1)) *3):=hlen;have s2:Hid (∀ u∈news,u.oneCell'=true):=fun u hu=>h1u u (by rw[hnews]at hu;exact dv hu);have s3:Hid (∀ t,t<news.length->(w.drew.cell? ⟨b,0+i*3+t,none⟩).isSome=true/\w.drew.frozen? ⟨b,0+i*3+t,none⟩=false):=fun t ht=>⟨hsp _ (by omega),hfz _⟩;obtain⟨W1,hW1⟩:∃ W1,W1=w.drew.setCells b (0+i*3) news:=⟨_,rfl⟩;have hc1:∀ j,j<n*3->(W1.cell? ⟨b,j,none⟩).isSome=true:=fun j hj=>by
  rw[hW1];exact lP b news (0+i*3) w.drew (fun t ht=>hsp _ (by omega)) j (hsp j hj)
 have hf1:∀ j,W1.frozen? ⟨b,j,none⟩=false:=fun j=>by rw[hW1,World.frozen?_setCells];exact hfz j
 have e1:i+(n- (i+1))=n-1:=by omega
 have e2:n- (n-1)=1:=by omega
 have hcl:∀ ty,(Builtin.clear_ #[29] ty #[.slice (some ⟨b,(n-1) *3,none⟩) 1 (c- (n-1))]).run Tryz.prog W1= .ok (.tuple #[]) (W1.setCells b ((n-1) *3) zs):=
  fun ty=>by rw[<-hzz];exact w8 W1 29 72 ty CD hi0 hz0 b _ _ (by omega) (fun j hj=>hc1 _ (by omega)) (fun j _=>hf1 _) (by rw[hzz];exact h1z)
 have hW:Hid (W1=w.drew.setCells b (0+i*3) news):=hW1;have hW':Hid (W1=w.drew.setCells b (i*3) (us.drop ((i+1) *3))):=by rw[ar,hnews]at hW1;exact hW1
 have hic:i<=c:=by omega
 have hjc:i+1<=c:=by omega
 have hij:¬ ((i:Int)=(i:Int)+1):=by omega
 have htn:((i:Int)+1).toNat=i+1:=by omega
 have hnn:n-1<=n:=by omega
 have hb1:(0:Int)<=(i:Int)+1:=by omega
 have hb2:(i:Int)+1<=(n:Int):=by omega
 clear hus hfz h1u hnews hlen hsp hW1 hc1 hf1 h1z hul hzl hz0 hzz;go_enter Tryz.func160,Tryz.ntmps160
 go_wp2_with fail
 go_region_law (refine step_append_room rfl (.tmp 22) (.tmp 25) 29 rfl 72 i0 3 CD hi0 hzs b 0 i c (by simp[Act.eval,Act.put]) A (n- (i+1)) (c- (i+1)) news (by simp[Act.eval,Act.put]) s1.out hsrc.out s2.out (by omega) s3.out ?_;rw[<-hW.out])
 go_wp2;go_ret;exact⟨rfl,by rw[<-hW'.out]⟩
set_option maxRecDepth 1000000 in
def KE:Gb 163 68 5:=by
 intro b n c i us zs w hi hnc hc63 hul hus hfz h1u i0 z hi0 hz0 hzs hzl hzz h1z;obtain⟨news,hnews⟩:∃ news,news=us.drop ((i+1) *5):=⟨_,rfl⟩;have hlen:news.length=(n- (i+1)) *5:=by rw[hnews,bl,hul];omega
 have hsp:∀ j,j<n*5->(w.cell? ⟨b,j,none⟩).isSome=true:=fun j hj=>by rw[hus j _ (aK (by omega))];rfl
 obtain⟨A,hA,hsrc⟩:∃ A:Addr,(if c=i+1 then some (⟨b,0,none⟩:Addr)else some ⟨b,(i+1) *5,none⟩)=some A/\Hid (∀ t u,news[t]? =some u->w.drew.cell? (A.add t)=some u):=by
  by_cases h:c=i+1
  ·refine⟨⟨b,0,none⟩,by simp[h],fun t u hu=>?_⟩;have h0:news.length=0:=by rw[hlen];omega
   rw[gI.1 h0]at hu;simp at hu
  ·refine⟨⟨b,(i+1) *5,none⟩,by simp[h],fun t u hu=>?_⟩;rw[hnews,ex]at hu;rw[Addr.add_lit];exact hus _ _ hu
 have s1:Hid (news.length=(n- (i+1)) *5):=hlen;have s2:Hid (∀ u∈news,u.oneCell'=true):=fun u hu=>h1u u (by rw[hnews]at hu;exact dv hu);have s3:Hid (∀ t,t<news.length->(w.drew.cell? ⟨b,0+i*5+t,none⟩).isSome=true/\w.drew.frozen? ⟨b,0+i*5+t,none⟩=false):=fun t ht=>⟨hsp _ (by omega),hfz _⟩;obtain⟨W1,hW1⟩:∃ W1,W1=w.drew.setCells b (0+i*5) news:=⟨_,rfl⟩;have hc1:∀ j,j<n*5->(W1.cell? ⟨b,j,none⟩).isSome=true:=fun j hj=>by
  rw[hW1];exact lP b news (0+i*5) w.drew (fun t ht=>hsp _ (by omega)) j (hsp j hj)
 have hf1:∀ j,W1.frozen? ⟨b,j,none⟩=false:=fun j=>by rw[hW1,World.frozen?_setCells];exact hfz j
 have e1:i+(n- (i+1))=n-1:=by omega
 have e2:n- (n-1)=1:=by omega
 have hcl:∀ ty,(Builtin.clear_ #[30] ty #[.slice (some ⟨b,(n-1) *5,none⟩) 1 (c- (n-1))]).run Tryz.prog W1= .ok (.tuple #[]) (W1.setCells b ((n-1) *5) zs):=
  fun ty=>by rw[<-hzz];exact w8 W1 30 68 ty CB hi0 hz0 b _ _ (by omega) (fun j hj=>hc1 _ (by omega)) (fun j _=>hf1 _) (by rw[hzz];exact h1z)
 have hW:Hid (W1=w.drew.setCells b (0+i*5) news):=hW1;have hW':Hid (W1=w.drew.setCells b (i*5) (us.drop ((i+1) *5))):=by rw[ar,hnews]at hW1;exact hW1
 have hic:i<=c:=by omega
 have hjc:i+1<=c:=by omega
 have hij:¬ ((i:Int)=(i:Int)+1):=by omega
 have htn:((i:Int)+1).toNat=i+1:=by omega
 have hnn:n-1<=n:=by omega
 have hb1:(0:Int)<=(i:Int)+1:=by omega
 have hb2:(i:Int)+1<=(n:Int):=by omega
 clear hus hfz h1u hnews hlen hsp hW1 hc1 hf1 h1z hul hzl hz0 hzz;go_enter Tryz.func163,Tryz.ntmps163
 go_wp2_with fail
 go_region_law (refine step_append_room rfl (.tmp 22) (.tmp 25) 30 rfl 68 i0 5 CB hi0 hzs b 0 i c (by simp[Act.eval,Act.put]) A (n- (i+1)) (c- (i+1)) news (by simp[Act.eval,Act.put]) s1.out hsrc.out s2.out (by omega) s3.out ?_;rw[<-hW.out])
 go_wp2;go_ret;exact⟨rfl,by rw[<-hW'.out]⟩
end Go.PM
namespace Go.PM
variable {P:Program} {B:Nat->Nat->Option Value}
def Gh.shrink(G:Gh)(k h:Nat)(r:qv):Gh:={G with com:=fun b o=>if b=r.b/\h*r.sz<=o then none else G.com b o,tk:=fun t=>if t=k then some (.room (qv.mk r.b r.cap r.sz r.e h))else G.tk t}
section
variable {G:Gh} {st:St} {w:World}
def JJ(hI:bM P B G st w){k h:Nat}{r:qv}(hr:G.tk k=some (.room r))(hfl:st.fl<=k):Rn some ([k].contains ·) false G (G.shrink k h r):=by
 have hpv:G.pv r.b=some k:=(hI.priv k r hr).1 hfl;have hne:∀ b,(∀ k',G.pv b=some k'->[k].contains k'=false)->b≠r.b:=by
  rintro b hK rfl;have:=hK k hpv;simp at this
 refine⟨fun b o v h hK=>?_,fun _ _ h=>h,fun j j' hj hK hlt=>?_,fun b j o v h hK hp=> .inl ⟨j,hp,rfl⟩,fun b o v _ _ h=> .inl h⟩
 ·show(if b=r.b/\_ then none else G.com b o)=some v;rw[ai fun h=>hne b hK h.1];exact h
 ·cases hj;have hjk:j≠k:=by
   rintro rfl;simp at hK
  refine⟨hlt,fun x' hx=>⟨x',?_,aP _,fun _=>rfl⟩⟩;simp only[Gh.shrink,ai hjk]at hx;exact hx
def bM.shrink(hI:bM P B G st w){k h:Nat}{r:qv}(hr:G.tk k=some (.room r))(hfl:st.fl<=k)(hh:h<=r.m)(ho:∀ s,st.objs s=none)(hm:∀ s,st.maps s=none):
  bM P B (G.shrink k h r) (st.count k h) w/\cQ G w (G.shrink k h r) w:=by
 obtain⟨hsh,hcm,hmc,hsz,hno,hxr⟩:=hI.room k r hr;have hklt:=(hI.cnt k _ hr).1;have hpv:G.pv r.b=some k:=(hI.priv k r hr).1 hfl;have hcomAt:∀ {b o v},(G.shrink k h r).com b o=some v->G.com b o=some v:=by
  intro b o v h;simp only[Gh.shrink]at h;split at h
  ·cases h
  ·exact h
 have hroom:∀ {t q},(G.shrink k h r).tk t=some (.room q)->(t=k/\q={r with m:=h})\/(t≠k/\G.tk t=some (.room q)/\q.b≠r.b):=by
  intro t q h;simp only[Gh.shrink]at h;split at h
  ·rename_i ht;cases h;exact .inl ⟨ht,rfl⟩
  ·rename_i ht;exact .inr ⟨ht,h,fun e=>ht (hI.apart t k q r h hr e)⟩
 have hob:∀ s b,G.ob s=some b->b≠r.b:=by
  intro s b hb e;have:=(hI.obs s b hb).2.2;rw[e,hsh]at this;cases this
 refine⟨⟨fun b o v h=>hI.com b o v (hcomAt h),hI.sh,hI.nx,fun t x hx=>?_,fun t ht=>?_,fun t q hq=>?_,fun t u q q' h1 h2 hb=>?_,fun t q hq=>?_,fun s cs h=>(by have h:st.objs s=some cs:=h;rw[ho s]at h;cases h),fun s b h=>?_,hI.obj,hI.nob,fun s cs h=>(by have h:st.objs s=some cs:=h;rw[ho s]at h;cases h),hI.pvl,hI.xpl,fun b o v h=>?_,hI.oes,fun s es h=>(by have h:st.maps s=some es:=h;rw[hm s]at h;cases h),hI.mbs,hI.mbi,hI.nomb,hI.obx,fun t m h=>?_⟩,
  ⟨⟨fun b o v h hp=>?_,fun _ _ h=>h,rfl⟩,aP _,fun _ _ _ _ _=>rfl,fun s b h=> .inl ⟨s,h⟩,fun t q hq=>?_,fun b o v h=> .inl (hcomAt h),fun _ _ h=> .inl h,fun b j h=> .inl ⟨j,h⟩,fun s b h=> .inl ⟨s,h⟩,⟨rfl,rfl⟩⟩⟩
 ·simp only[Gh.shrink]at hx;split at hx
  ·rename_i e;cases hx;subst e;exact⟨hklt,by simp[St.count,ot.cnt]⟩
  ·rename_i htk;obtain⟨h1,h2⟩:=hI.cnt t x hx;exact⟨h1,by simp[St.count,htk,h2]⟩
 ·by_cases e:t=k
  ·exact⟨.room {r with m:=h},by simp only[Gh.shrink,am e]⟩
  ·obtain⟨x,hx⟩:=hI.live t ht;exact⟨x,by simp only[Gh.shrink,ai e];exact hx⟩
 ·rcases hroom hq with⟨rfl,rfl⟩|⟨h1,h3,h4⟩
  ·exact⟨hsh,hcm,by show h<=r.cap;omega,hsz,fun o ho=>by simp only[Gh.shrink];rw[am ⟨trivial,ho⟩],hxr⟩
  ·obtain⟨g1,g2,g3,g4,g5,g6⟩:=hI.room t q h3;exact⟨g1,g2,g3,g4,fun o ho=>by simp only[Gh.shrink];rw[ai fun e=>h4 e.1];exact g5 o ho,g6⟩
 ·rcases hroom h1 with⟨rfl,rfl⟩|⟨a1,a3,a4⟩<;>rcases hroom h2 with⟨rfl,rfl⟩|⟨b1,b3,b4⟩
  ·rfl
  ·exact absurd hb.symm b4
  ·exact absurd hb a4
  ·exact hI.apart t u q q' a3 b3 hb
 ·rcases hroom hq with⟨rfl,rfl⟩|⟨h1,h3,h4⟩
  ·exact hI.priv t r hr
  ·exact hI.priv t q h3
 ·obtain⟨h1,h2,h3⟩:=hI.obs s b h;refine⟨h1,fun o=>?_,h3⟩;simp only[Gh.shrink];rw[ai fun e=>hob s b h e.1];exact h2 o
 ·obtain⟨h1,h2,h3⟩:=hI.base b o v h;have hb:b≠r.b:=by rintro rfl;rw[hpv]at h2;cases h2
  simp only[Gh.shrink];exact⟨by rw[ai fun e=>hb e.1];exact h1,h2,h3⟩
 ·simp only[Gh.shrink]at h;split at h
  ·cases h
  ·exact hI.ful t m h
 ·have hb:b≠r.b:=by rintro rfl;rw[hpv]at hp;cases hp
  simp only[Gh.shrink];exact⟨by rw[ai fun e=>hb e.1];exact h,hp⟩
 ·rcases hroom hq with⟨rfl,rfl⟩|⟨h1,h3,h4⟩
  ·exact .inl ⟨t,r,hr,rfl⟩
  ·exact .inl ⟨t,q,h3,rfl⟩
def N7{n i e sz:Nat}{ns:List Nat}{cs zs:List PV}{us vz rest:List Value}{b1 cap1:Nat}{w1 w2:World}{G1:Gh}
  (hR:R G1 (.list n cs (.own 0 e)) (.slice (some ⟨b1,0,none⟩) n cap1)) (hI:bM P B G1 (bV (n::ns) []) w1) (hz:Rs G1 zs vz) (hzn:aX zs=true) (hzt:dN ([0].contains ·) zs=true)
  (hcs:cs.length=n*sz) (hzl:zs.length=sz) (hul:us.length=n*sz) (hi:i<n) (hrow:w1.heap[b1]? =some (.cells (us++rest).toArray e (0,0)))
  (ht1:dN ([0].contains ·) cs=true) (hn1:aX cs=true)
  (hw2:w2.heap=(w1.setRow b1 (us.take (i*sz)++us.drop ((i+1) *sz)++vz++rest).toArray).heap) (he2:w2.os=w1.os/\w2.output=w1.output):
  ∃ G2,R G2 (.list (n-1) (cs.take (i*sz)++cs.drop ((i+1) *sz)) (.own 0 e)) (.slice (some ⟨b1,0,none⟩) (n-1) cap1)/\bM P B G2 (bV ((n-1)::ns) []) w2/\cQ G1 w1 G2 w2/\G2.bx=G1.bx:=by
 cases hR with
 |list _ _ _ _ _ cap us1 hn hl hc hr h1 htr hp hx=>
 obtain⟨x,hx0⟩:=hI.live 0 (by simp[bV]);have hcnt:=(hI.cnt 0 x hx0).2;have hxn:x.cnt=n:=by rw[<-hcnt];simp[bV]
 have htr0:=htr;obtain⟨hlt0,htr⟩:=htr;obtain⟨h3,h4⟩:=htr x hx0;have h4:=h4 hxn.symm;cases x with
 |full m=>have:=hI.ful 0 m hx0;simp only[ot.cnt]at hxn;omega
 |room r=>
 obtain⟨hrb,_,hrc,hre,hrl⟩:=h4;have hrm:r.m=n:=hxn;have hus1:us1.length=n*sz:=by rw[<-hl,hcs]
 have hsz:us1.length=r.m*r.sz:=by rw[hrl,hrm]
 have hszr:r.sz=sz:=by
  rw[hrl]at hus1;exact Nat.eq_of_mul_eq_mul_left (by omega) hus1
 have hcel:∀ j (v:Value),us1[j]? =some v->(us++rest)[j]? =some v:=fun j v hj=>by
  have:=hI.com _ _ _ (hc j v hj);simpa [World.cell?,hrow]using this
 have heq:us1=us:=by
  apply iH;intro j;by_cases hj:j<us1.length
  ·have:=hcel j us1[j] (aK hj);rw[bW (by omega)]at this;rw[this];exact aK hj
  ·rw[cE (by omega),cE (by omega)]
 subst heq;have hRs:Rs G1 cs us1:=⟨hl,hr,h1⟩;have hisz:(i+1) *sz<=n*sz:=du _ hi;have hi1:(i+1) *sz=i*sz+sz:=fM i sz;have hn1':(n-1) *sz=n*sz-sz:=by rw[Nat.sub_mul,p5]
 have hds':Rs G1 (cs.take (i*sz)++cs.drop ((i+1) *sz)++zs) (us1.take (i*sz)++us1.drop ((i+1) *sz)++vz):=((hRs.take _).append (hRs.drop _)).append hz;have hvz:vz.length=sz:=by rw[<-hz.1,hzl]
 have hlen':(us1.take (i*sz)++us1.drop ((i+1) *sz)++vz).length=us1.length:=by simp only[ae,aL,bl];omega
 have hlenc:(cs.take (i*sz)++cs.drop ((i+1) *sz)++zs).length=cs.length:=by simp only[ae,aL,bl];omega
 have hsub:∀ p∈cs.take (i*sz)++cs.drop ((i+1) *sz),p∈cs:=fun p hp=>by
  simp only[aG]at hp;rcases hp with h|h
  ·exact eU h
  ·exact dv h
 have htA:dN ([0].contains ·) (cs.take (i*sz)++cs.drop ((i+1) *sz))=true:=BM ht1 hsub;have hnA:aX (cs.take (i*sz)++cs.drop ((i+1) *sz))=true:=tv hn1 hsub;subst hrb;have hfl:(bV (n::ns) []).fl<=0:=aP _;have hpk:=hI.poke (k:=0) (e:=e) (off:=0) hx0 (by omega) hre hfl hRs hds' (by rw[hsz]) (fun j u hj=>by have:=hc j u hj;rwa [ar]at this) (by rw[hlen'];omega) ht1 (BN htA hzt) hn1 (iz hnA hzn) (by rw[hre];exact hrow);obtain⟨hI2,hS2,hst2,_⟩:=hpk;rw[Jx]at hI2;have hwr:(us1++rest).toArray.toList.take 0++(us1.take (i*sz)++us1.drop ((i+1) *sz)++vz)++(us1++rest).toArray.toList.drop (0+(us1.take (i*sz)++us1.drop ((i+1) *sz)++vz).length)=us1.take (i*sz)++us1.drop ((i+1) *sz)++vz++rest:=by
  rw[hlen',ar];simp
 rw[hwr]at hI2 hS2;have hI3:=hI2.drawn hw2;have hS3:=hS2.heap hw2 he2;have hlist:=hst2 _ _ (R.list n cs (.own 0 e) r.b 0 cap1 us1 hn hl hc hr h1 htr0 hp hx);rw[gn]at hlist;simp only[ir,aF.isOwn,hrm,beq_self_eq_true,ay,if_true]at hlist;rw[jm hlenc]at hlist;generalize hG:G1.poke r.b 0 (us1.take (i*sz)++us1.drop ((i+1) *sz)++vz)=G2 at*;have hbx:G2.bx=G1.bx:=by rw[<-hG];rfl
 have hr2:G2.tk 0=some (.room r):=by rw[<-hG];exact hx0
 have hpv2:G2.pv=G1.pv:=by rw[<-hG];rfl
 obtain⟨hI4,hS4⟩:=hI3.shrink (k:=0) (h:=n-1) hr2 (aP _) (by omega) (fun s=>by simp[bV]) (fun s=>by simp[bV]);have hrn:=JJ (k:=0) (h:=n-1) hI3 hr2 (aP _);have e1:(bV (n::ns) []).count 0 (n-1)=bV ((n-1)::ns) []:=CI n (n-1) ns;rw[e1]at hI4;refine⟨_,?_,hI4,hS3.trans hS4,hbx⟩;generalize hq:cs.take (i*sz)++cs.drop ((i+1) *sz)++zs=L at hlist;rw[hq]at hlenc;cases hlist with
 |list _ _ _ _ _ _ us2 hn' hl' hc' hr' h1' htr' hp' hx'=>
 have hA:(cs.take (i*sz)++cs.drop ((i+1) *sz)).length=(n-1) *sz:=by simp only[ae,aL,bl];omega
 have hl2:us2.length=n*sz:=by rw[<-hl',hlenc,hcs]
 have hRs2:Rs G2 (cs.take (i*sz)++cs.drop ((i+1) *sz)) (us2.take ((n-1) *sz)):=by
  have:Rs G2 L us2:=⟨hl',hr',h1'⟩;rw[<-hq]at this;have:=this.take ((n-1) *sz);rwa [<-hA,kY,hA]at this
 refine .list (n-1) _ _ r.b 0 cap1 (us2.take ((n-1) *sz)) (by omega) hRs2.1 (fun j u hj=>?_) (fun j p u hpj hu=>?_) hRs2.2.2 ⟨by show 0<G2.nx;rw[hI3.nx];simp[bV],fun x hx=>?_⟩ (fun k _ hk=>?_) (fun _ _=>?_)
 ·rw[pd]at hj;split at hj
  ·rename_i hlt;have:=hc' j u hj;simp only[Gh.shrink,hszr];rw[ai (by omega)];exact this
  ·cases hj
 ·have h5:=(hRs2.2.1 j p u hpj hu).rn hrn rfl;rwa [bY,am (lO htA hpj)]at h5
 ·simp only[Gh.shrink,if_true]at hx;cases hx;exact⟨aP _,fun _=>⟨rfl,rfl,hrc,hre,by rw[aL,hl2,hszr];omega⟩⟩
 ·have hk:G2.pv r.b=some k:=hk;rw[(hI3.priv 0 r hr2).1 (aP _)]at hk;cases hk;rfl
 ·show G2.xp r.b=false;exact(hI3.room 0 r hr2).2.2.2.2.2
end
end Go.PM
namespace Go.PM
open Go Go.Proofs
variable {B:Nat->Nat->Option Value}
def oC(b:Nat):∀ (vs:List Value) (o:Nat) (w:World),(w.setCells b o vs).os=w.os/\(w.setCells b o vs).output=w.output
 | [],_,_=>⟨rfl,rfl⟩
 |v::vs,o,w=>oC b vs (o+1) (w.setCell ⟨b,o,none⟩ v)
def DL(w:World)(x:Array Value)(e:Nat):(w.alloc (.cells x e (0,0))).heap[w.heap.size]? =some (.cells x e (0,0)):=by
 unfold World.alloc;exact Array.getElem?_push_size
def yl(w:World)(x y:Array Value)(e:Nat):((w.alloc (.cells x e (0,0))).setRow w.heap.size y).heap=(w.alloc (.cells y e (0,0))).heap:=by
 simp only[World.setRow,World.alloc];apply pf;intro i;simp only[kj,Array.getElem?_push];by_cases hi:w.heap.size=i
 ·subst hi;simp
 ·rw[ai hi,ai (fun h=>hi h.symm),ai (fun h=>hi h.symm)]
def Mv{w:World}{b k:Nat}{u:Value}(h:w.cell? ⟨b,k,none⟩=some u):∃ c e f,w.heap[b]? =some (.cells c e f)/\c[k]? =some u:=by
 unfold World.cell? at h;split at h
 ·rename_i c e f hc;exact⟨c,e,f,hc,by simpa using h⟩
 ·cases h
def Rw:gw Tryz.prog 72=some [.int .i64 0,.list 0 [] .nil,.list 0 [] .nil]:=by kernel_rfl
def RD:(Tryz.prog.info? 72).map (·.bytes)=some 56:=by kernel_rfl
def Ea(f:Nat)(G:Gh)(w:World)(x y:Value)(i:Nat)(p:PV)(ns:List Nat):Prop:=Calls Tryz.prog f #[x,.int .i64 (i:Int),y] w fun e w'=>∃ v G',e= .returned v/\R G' p v/\bM Tryz.prog B G' (bV ns []) w'/\cQ G w G' w'/\G'.bx=G.bx
def Ny(ns:List Nat)(n:Nat):(bV ns []).more [n]=bV (ns++[n]) []:=by
 have h1:(ns++[n]).length=ns.length+1:=by simp
 have h2:(fun t=>if t<ns.length then ns.getD t 0 else [n].getD (t-ns.length) 0)=fun t=>(ns++[n]).getD t 0:=by
  funext t;simp only[gP,List.getElem?_append];split<;>rfl
 unfold St.more bV;simp only[h1,<-h2];rfl
def cQ.drew{G:Gh}{w:World}:cQ G w G w.drew:=
 ⟨sZ.refl G,aP _,fun _ _ _ _ _=>rfl,fun s b h=> .inl ⟨s,h⟩,fun t r h=> .inl ⟨t,r,h,rfl⟩,fun _ _ _ h=> .inl h,fun _ _ h=> .inl h,fun _ k h=> .inl ⟨k,h⟩,fun s b h=> .inl ⟨s,h⟩,⟨rfl,rfl⟩⟩
structure Li (t e m by_:Nat) (zs:List PV):Prop where
 p:0<m
 b:by_<=64
 u:Tryz.prog.underlying t=some (.slice e)
 i:(Tryz.prog.info? e).map (·.size)=some m
 y:(Tryz.prog.info? e).map (·.bytes)=some by_
 z:gw Tryz.prog e=some zs
 l:zs.length=m
 q:dN ([0].contains ·) zs=true
def M4(h t:Nat):Prop:=∀ (a:Array Value) (w:World),(callFunc h a).run Tryz.prog w=((Extern.SlicesOverlaps.overlaps #[t,t] #[4] a).run Tryz.prog w).andThen fun v w'=> .ok (.value v) w'
def QA:M4 174 29:=fun a w=>run_callFunc_extern Tryz.func174 (by kernel_rfl) (by kernel_rfl) (by kernel_rfl) (by kernel_rfl) a w
def Qz:M4 202 30:=fun a w=>run_callFunc_extern Tryz.func202 (by kernel_rfl) (by kernel_rfl) (by kernel_rfl) (by kernel_rfl) a w
def E2{f tt el m by_:Nat}{z0:List PV}(L:Li tt el m by_ z0)(hE:BF f tt){G:Gh}{w:World}{ds:List PV}{ns:List Nat}{e':Nat}{x y:Value}(hI:bM Tryz.prog B G (bV ns []) w)(hx:R G (.list 0 [] .nil) x)(hy:R G (.list 1 ds (.full e')) y)(hd:ds.length=m):Ea (B:=B) f G w x y 0 (.list 1 ds (.own ns.length el)) (ns++[1]):=by
 have hm0:=L.p;have hie:=L.i;have hbe:=L.y;cases hq:Tryz.prog.info? el with
 |none=>rw[hq]at hie;cases hie
 |some i0=>
 rw[hq]at hie hbe;have hs:i0.size=m:=Option.some.inj hie;have hb:i0.bytes=by_:=Option.some.inj hbe;obtain⟨v,w',G',hrun,hR,hI',_,hS,hbx⟩:=yA (ty:=tt) (t:=tt) (e:=el) (i:=i0) (n:=0) (m:=1) (cs:=[]) (ds:=ds) hI L.u hq L.z (by rw[hs];exact L.l) hx hy (by rfl) trivial (by simp) (by rw[hd,hs,p5]) (by rw[hb];have:=L.b;have hbb:dL=140737488355328:=rfl;omega) (by decide) (by omega) (fun _ h=>by cases h);cases hx with
 |list _ _ _ _ _ _ _ _ _ _ _ _ ht=>exact absurd ht (by simp[wT])
 |listN=>
 cases hy with
 |list _ _ _ yb yo yc vs hm hl hc hr h1 ht hp hx'=>
 refine(hE none 0 0 yc ⟨yb,yo,none⟩ w w' v (aP _) (by omega) (fun _=>rfl) (fun ty=>hrun)).mono fun e w1 h=>?_;obtain⟨rfl,rfl⟩:=h;refine⟨v,G',rfl,?_,?_,hS,hbx⟩
 ·have e:ii (bV ns []) .nil=ns.length:=rfl;rw[e]at hR;simpa using hR
 ·have e:lG (bV ns []) (0+1) .nil=bV (ns++[1]) []:=Ny ns 1;rw[e]at hI';exact hI'
def E1{f h tt el m by_:Nat}{z0:List PV}(L:Li tt el m by_ z0)(hE:BF f tt)(hO:Cy f h m)(hW:Cz f el m by_)(hV:M4 h tt){G:Gh}{w:World}{n i:Nat}{ns:List Nat}{cs ds:List PV}{e':Nat}{x y:Value}(hI:bM Tryz.prog B G (bV (n::ns) []) w)(hx:R G (.list n cs (.own 0 el)) x)(hy:R G (.list 1 ds (.full e')) y)
  (hc:cs.length=n*m) (hd:ds.length=m) (hi:i<=n) (hn:n<=10000000) (hn1:aX cs=true) (hn2:aX ds=true) (ht1:dN ([0].contains ·) cs=true) (ht2:dN ([0].contains ·) ds=true):
  Ea (B:=B) f G w x y i (.list (n+1) (cs.take (i*m)++ds++cs.drop (i*m)) (.own 0 el)) ((n+1)::ns):=by
 have hm0:=L.p;have hb64:=L.b;have A0:i*m<=n*m:=du _ hi;have A2:(n+1) *m=n*m+m:=fM n m;have A6:(n+1) *by_<=10000001*64:=Nat.mul_le_mul (by omega) hb64;have hie:=L.i;have hbe:=L.y;cases hq:Tryz.prog.info? el with
 |none=>rw[hq]at hie;cases hie
 |some i0=>
 rw[hq]at hie hbe;have hs:i0.size=m:=Option.some.inj hie;have hb:i0.bytes=by_:=Option.some.inj hbe;have hcan:iQ (bV (n::ns) []) n (.own 0 el)=true:=by simp[iQ,bV]
 have hbb:dL=140737488355328:=rfl;obtain⟨v,w1,G1,hrun,hR1,hI1,_,hS1,hbx1⟩:=yA (ty:=tt) (t:=tt) (e:=el) (i:=i0) (n:=n) (m:=1) (cs:=cs) (ds:=ds) hI L.u hq L.z (by rw[hs];exact L.l) hx hy hcan rfl (by rw[hs,hc]) (by rw[hd,hs,p5]) (by rw[hb,hbb];omega) (by rw[hbb];omega) (by omega) (fun _ h=>by cases h);have e1:ii (bV (n::ns) []) (.own 0 el)=0:=rfl;have e2:lG (bV (n::ns) []) (n+1) (.own 0 el)=bV ((n+1)::ns) []:=CI n (n+1) ns;rw[e1]at hR1;rw[e2]at hI1;cases hy with
 |list _ _ _ yb yo yc vs hm hyl hyc hyr hy1 hyt hyp hyx=>
 have hvl:vs.length=m:=by rw[<-hyl,hd]
 have hnews:∀ (j:Nat) (u:Value),vs[j]? =some u->w.cell? ((⟨yb,yo,none⟩:Addr).add j)=some u:=fun j u hj=>by rw[Addr.add_lit];exact hI.com _ _ _ (hyc j u hj)
 have hnews':∀ (j:Nat) (u:Value),vs[j]? =some u->w.cell? ⟨yb,yo+j,none⟩=some u:=fun j u hj=>hI.com _ _ _ (hyc j u hj);have hvne:vs≠ []:=by rintro rfl;simp at hvl;omega
 by_cases hin:i=n
 ·subst hin;have h1:cs.take (i*m)=cs:=aM (by omega);have h2:cs.drop (i*m)=[]:=gX (by omega);rw[h1,h2,aD];cases hx with
  |listN=>
   refine(hE none 0 0 yc ⟨yb,yo,none⟩ w w1 v (aP _) (by omega) (fun _=>rfl) (fun ty=>hrun)).mono fun e w1 h=>?_;obtain⟨rfl,rfl⟩:=h;exact⟨v,G1,rfl,hR1,hI1,hS1,hbx1⟩
  |list _ _ _ xb xo xc us hnc hxl hxc hxr hx1 hxt hxp hxx=>
   obtain⟨x0,hx0⟩:=hI.live 0 (by simp[bV]);have hcnt:=(hI.cnt 0 x0 hx0).2;have hcap:xc<=9223372036854775807:=by
    have hxn:x0.cnt=i:=by rw[<-hcnt];simp[bV]
    have:=(hxt.2 x0 hx0).2 hxn.symm;cases x0 with
    |full m=>have:=this.1;omega
    |room r=>
     obtain⟨_,_,hrc,_⟩:=this;have:=(hI.room 0 r hx0).2.1;rw[hrc]at this;exact this
   refine(hE (some ⟨xb,xo,none⟩) i xc yc ⟨yb,yo,none⟩ w w1 v hnc hcap (fun h=>by cases h) (fun ty=>hrun)).mono fun e w1 h=>?_;obtain⟨rfl,rfl⟩:=h;exact⟨v,G1,rfl,hR1,hI1,hS1,hbx1⟩
 have hlt:i<n:=by omega
 have A1:=du m hlt;rw[fM]at A1;cases hx with
 |listN=>omega
 |list _ _ _ xb xo xc us hnc hxl hxc hxr hx1 hxt hxp hxx=>
 obtain⟨x0,hx0⟩:=hI.live 0 (by simp[bV]);have hcnt:=(hI.cnt 0 x0 hx0).2;have hxn:x0.cnt=n:=by rw[<-hcnt];simp[bV]
 have h4:=(hxt.2 x0 hx0).2 hxn.symm;cases x0 with
 |full m=>have:=hI.ful 0 m hx0;simp only[ot.cnt]at hxn;omega
 |room r=>
 obtain⟨rfl,rfl,hrc,hre,hrl⟩:=h4;obtain⟨hsh,hcm,hmc,hsz,hno,hxr⟩:=hI.room 0 r hx0;have hpv:G.pv r.b=some 0:=(hI.priv 0 r hx0).1 (aP _);have hul:us.length=n*m:=by rw[<-hxl,hc]
 have hus:∀ (j:Nat) (u:Value),us[j]? =some u->w.cell? ⟨r.b,j,none⟩=some u:=fun j u hj=>by have:=hI.com _ _ _ (hxc j u hj);rwa [ar]at this
 have hszr:r.sz=m:=by
  have:gO Tryz.prog el=some m:=by unfold gO;rw[hq];simp[hs]
  rw[hre,this]at hsz;exact(Option.some.inj hsz).symm
 obtain⟨cur,hcur,hcs⟩:=hI.sh _ _ _ hsh;rw[hrc,hszr]at hcs;rw[hre]at hcur;have hvb:yb≠r.b:=by
  rintro rfl;have:=hyp 0 hvne hpv;cases this
 have hxcap:xc<=9223372036854775807:=by rw[hrc]at hcm;exact hcm
 have hyw:yb<w.heap.size:=block_lt_of_cell (hnews' 0 _ (aK (by omega)));have hlen1:(us.drop (i*m)).length=n*m-i*m:=by rw[bl,hul]
 have hx0l:cur.toList.length=xc*m:=by simpa using hcs
 have htk:cur.toList.take (n*m)=us:=by
  apply iH;intro j;by_cases hj:j<n*m
  ·have:=hus j us[j] (aK (by omega));simp only[World.cell?,hcur,mi,cz,if_false]at this;rw[dQ hj,ki,this,aK (by omega)]
  ·rw[cE (by rw[aL];omega),cE (by omega)]
 have A3:=du m hnc;by_cases hroom:n+1<=xc
 ·have A4:=du m hroom;rw[A2]at A4;have hsp:∀ j,j<n*m+m->(w.cell? ⟨r.b,j,none⟩).isSome=true:=fun j hj=>by
   simp only[World.cell?,hcur,mi,cz,if_false];rw[jg (by omega)];rfl
  have hfz:∀ j,w.frozen? ⟨r.b,j,none⟩=false:=fun j=>by simp[World.frozen?,hcur]
  have hsrc:Src Tryz.prog i0.size tt (.slice (some ⟨yb,yo,none⟩) 1 yc) 1 vs w:=Src.ofSlice w L.u ⟨yb,yo,none⟩ 1 yc vs (by rw[hvl,hs,p5]) hnews hy1;have hr2:=run_append_room_src w tt tt tt el i0 L.u hq r.b 0 n xc _ 1 vs hsrc hroom (fun j hj=>by rw[hs];exact hsp _ (by omega)) (fun j _=>hfz _);rw[hrun]at hr2;obtain⟨rfl,rfl⟩:=Result.ok.inj hr2;rw[hs,ar]at hI1 hS1;have hcur':w.heap[r.b]? =some (.cells cur.toList.toArray el (0,0)):=by simpa using hcur
  have hw1:=jQ r.b vs (n*m) w cur.toList hcur' (by omega);rw[htk,hvl]at hw1;rw[hw1]at hI1 hS1;have hrow:=setRow_heap w r.b _ (us++vs++cur.toList.drop (n*m+m)).toArray el (0,0) hcur;obtain⟨k,hk⟩:∃ k,xc*m=k+1:=⟨xc*m-1,by omega⟩;have hov:∀ o lb cb,(callFunc h #[.slice (some ⟨yb,yo,none⟩) 1 yc,.slice (some ⟨r.b,o,none⟩) lb cb]).run Tryz.prog w= .ok (.value (.bool false)) w:=fun o lb cb=>by
   obtain⟨ra,ta,fa,ha,ha0⟩:=Mv (hnews' 0 _ (aK (by omega)));rw[hV,
    AG w tt 4 el L.u m L.i ⟨yb,yo,none⟩ ⟨r.b,o,none⟩ 1 yc lb cb hvb ha hcur (fun h=>by
     rw[Array.getElem?_eq_none (by omega)]at ha0;cases ha0) (by omega)]
   rfl
  refine(hO r.b n xc i yb yo yc us vs w hlt hroom hxcap hvb hul hvl hus hsp hfz hnews' hx1 hy1 hov).mono fun e w2 h=>?_;obtain⟨rfl,rfl⟩:=h;have hy2:=jQ r.b (us.drop (i*m)) (i*m+m) w.drew cur.toList hcur' (by omega);have hrow2:=setRow_heap w.drew r.b _ (cur.toList.take (i*m+m)++us.drop (i*m)++cur.toList.drop (i*m+m+(us.drop (i*m)).length)).toArray el (0,0) hcur;have hl2:(cur.toList.take (i*m+m)++us.drop (i*m)++cur.toList.drop (i*m+m+(us.drop (i*m)).length)).length=xc*m:=by
   simp only[ae,aL,bl,hul,hx0l];omega
  have hy3:=jQ r.b vs (i*m) _ _ hrow2 (by rw[hl2];omega);have hfin:(cur.toList.take (i*m+m)++us.drop (i*m)++cur.toList.drop (i*m+m+(us.drop (i*m)).length)).take (i*m)++vs++(cur.toList.take (i*m+m)++us.drop (i*m)++cur.toList.drop (i*m+m+(us.drop (i*m)).length)).drop (i*m+vs.length)=us.take (i*m)++vs++us.drop (i*m)++cur.toList.drop (n*m+m):=by
   have ha:(cur.toList.take (i*m+m)).length=i*m+m:=by rw[aL];omega
   rw[hvl,hlen1,show i*m+m+(n*m-i*m)=n*m+m by omega,bn (cur.toList.take (i*m+m)),mC (by omega),List.take_take,hY (by omega),List.drop_left' ha,<-htk,List.take_take,hY (by omega)];simp only[bn]
  rw[hfin]at hy3;obtain⟨G2,hR2,hI2,hS2,hbx2⟩:=Ht (w2:=(w.drew.setCells r.b (i*m+m) (us.drop (i*m))).setCells r.b (i*m) vs) (us:=us) (vs:=vs) (rest:=cur.toList.drop (n*m+m)) hR1 hI1 hc hd hul hvl hi hrow ht1 ht2 hn1 hn2 (by
   rw[hy2,hy3,nR,nR];rfl) (by rw[hy2,hy3];exact⟨rfl,rfl⟩)
  exact⟨_,G2,rfl,hR2,hI2,hS1.trans hS2,hbx2.trans hbx1⟩
 ·
  obtain⟨i0',z,hi',hzz,hRz,_⟩:=qe (P:=Tryz.prog) (G:=G) L.z;rw[hq]at hi';cases hi';have hzc:z.cells.size=m:=by have:=hRz.1;rw[L.l]at this;simpa using this.symm
  have hsrc:Src Tryz.prog i0.size tt (.slice (some ⟨yb,yo,none⟩) 1 yc) 1 vs w:=Src.ofSlice w L.u ⟨yb,yo,none⟩ 1 yc vs (by rw[hvl,hs,p5]) hnews hy1;have hold:(Builtin.firstCells i0.size n (.slice (some ⟨r.b,0,none⟩) n xc)).run Tryz.prog w.drew= .ok us.toArray w.drew:=
   run_firstCells_some w.drew i0.size n ⟨r.b,0,none⟩ n xc us (by rw[hul,hs]) (fun j v hj=>by rw[Addr.add_lit,ar];exact hus j v hj)
  have hr2:=run_append_grow_src w tt tt tt el i0 z L.u hq hzz (some ⟨r.b,0,none⟩) n xc us hold _ 1 vs hsrc (by omega) (by omega) (by rw[hb];exact growslice_fits (by omega) (by omega));rw[hrun]at hr2;obtain⟨rfl,rfl⟩:=Result.ok.inj hr2;have hrow:(w.drew.alloc (.cells ((us++vs).toArray++Builtin.zeroCells z.cells (grownCap w (n+1) xc el- (n+1))) el)).heap[w.heap.size]? =some (.cells (us++vs++(Builtin.zeroCells z.cells (grownCap w (n+1) xc el- (n+1))).toList).toArray el (0,0)):=by
   refine(DL w.drew ((us++vs).toArray++Builtin.zeroCells z.cells (grownCap w (n+1) xc el- (n+1))) el).trans ?_;generalize Builtin.zeroCells z.cells (grownCap w (n+1) xc el- (n+1))=Z;refine bX (fun q=>some (Obj.cells q el (0,0))) ?_;apply Array.ext';simp
  refine(hW r.b n xc i yb yo yc us vs [] w hlt hnc (by omega) hn hyw hul hvl hus hnews' hx1 hy1 hq hzz hs hb hzc).mono fun e w2 h=>?_;obtain⟨rfl,rfl⟩:=h;generalize grownCap w (n+1) xc el=cap at*;generalize hZ1:Builtin.zeroCells z.cells (n+1-i)=Z1;have A7:(n+1-i) *m=n*m+m-i*m:=by rw[Nat.sub_mul,A2]
  have hZl:Z1.toList.length=n*m+m-i*m:=by rw[<-hZ1];simp only[fh,size_zeroCells,hzc];omega
  generalize Builtin.zeroCells z.cells (cap- (n+1))=Z2 at hrow hR1 hI1 hS1 ⊢;have htl:(us.take (i*m)).length=i*m:=by rw[aL];omega
  have hA:=DL w.drew ((us.take (i*m)).toArray++Z1++Z2) el;have hA1:((us.take (i*m)).toArray++Z1++Z2)=(us.take (i*m)++Z1.toList++Z2.toList).toArray:=by apply Array.ext';simp
  rw[hA1]at hA;have hy2:=jQ w.heap.size vs (i*m) (w.drew.alloc (.cells (us.take (i*m)++Z1.toList++Z2.toList).toArray el (0,0))) _ hA (by simp only[ae];omega);have hrow2:=setRow_heap (w.drew.alloc (.cells (us.take (i*m)++Z1.toList++Z2.toList).toArray el (0,0))) w.heap.size _ ((us.take (i*m)++Z1.toList++Z2.toList).take (i*m)++vs++(us.take (i*m)++Z1.toList++Z2.toList).drop (i*m+vs.length)).toArray el (0,0) hA;have hfirst:(us.take (i*m)++Z1.toList++Z2.toList).take (i*m)++vs++(us.take (i*m)++Z1.toList++Z2.toList).drop (i*m+vs.length)=us.take (i*m)++vs++(Z1.toList.drop m++Z2.toList):=by
   rw[hvl,bn (us.take (i*m))];have h1:(us.take (i*m)++(Z1.toList++Z2.toList)).take (i*m)=us.take (i*m):=by
    have:=kY (l₁:=us.take (i*m)) (l₂:=Z1.toList++Z2.toList);rwa [htl]at this
   rw[h1];refine bX (us.take (i*m)++vs++ ·) ?_;rw[<-jI];have h2:(us.take (i*m)++(Z1.toList++Z2.toList)).drop (i*m)=Z1.toList++Z2.toList:=by
    have:=jf (l₁:=us.take (i*m)) (l₂:=Z1.toList++Z2.toList);rwa [htl]at this
   rw[h2,mD (by omega)]
  rw[hfirst]at hy2 hrow2;have hy3:=jQ w.heap.size (us.drop (i*m)) (i*m+m) ((w.drew.alloc (.cells (us.take (i*m)++Z1.toList++Z2.toList).toArray el (0,0))).setRow w.heap.size (us.take (i*m)++vs++(Z1.toList.drop m++Z2.toList)).toArray) _ hrow2 (by simp only[ae,bl];omega);have hfin:(us.take (i*m)++vs++(Z1.toList.drop m++Z2.toList)).take (i*m+m)++us.drop (i*m)++(us.take (i*m)++vs++(Z1.toList.drop m++Z2.toList)).drop (i*m+m+(us.drop (i*m)).length)=us.take (i*m)++vs++us.drop (i*m)++Z2.toList:=by
   have h0:(us.take (i*m)++vs).length=i*m+m:=by rw[ae,htl,hvl]
   have h1:(us.take (i*m)++vs++(Z1.toList.drop m++Z2.toList)).take (i*m+m)=us.take (i*m)++vs:=by
    have:=kY (l₁:=us.take (i*m)++vs) (l₂:=Z1.toList.drop m++Z2.toList);rwa [h0]at this
   have h2:(us.take (i*m)++vs++(Z1.toList.drop m++Z2.toList)).drop (i*m+m)=Z1.toList.drop m++Z2.toList:=by
    have:=jf (l₁:=us.take (i*m)++vs) (l₂:=Z1.toList.drop m++Z2.toList);rwa [h0]at this
   rw[h1,<-jI,h2,hlen1,show n*m-i*m=(Z1.toList.drop m).length by rw[bl,hZl];omega,jf]
  rw[hfin]at hy3;obtain⟨G2,hR2,hI2,hS2,hbx2⟩:=Ht (us:=us) (vs:=vs) (rest:=Z2.toList) (w2:=(((w.alloc (.cells ((us.take (i*m)).toArray++Z1++Z2) el)).drew.setCells w.heap.size (i*m) vs).drew).setCells w.heap.size (i*m+m) (us.drop (i*m))) hR1 hI1 hc hd hul hvl hi hrow ht1 ht2 hn1 hn2 (by
   rw[hA1];have q1:((w.alloc (.cells (us.take (i*m)++Z1.toList++Z2.toList).toArray el)).drew.setCells w.heap.size (i*m) vs).drew.setCells w.heap.size (i*m+m) (us.drop (i*m))=(((w.drew.alloc (.cells (us.take (i*m)++Z1.toList++Z2.toList).toArray el (0,0))).setCells w.heap.size (i*m) vs).setCells w.heap.size (i*m+m) (us.drop (i*m))).drew:=by
    have dc:∀ (b:Nat) (vs:List Value) (o:Nat) (w:World),(w.drew).setCells b o vs=(w.setCells b o vs).drew:=fun b vs=>by
     induction vs with
     |nil=>intro o w;rfl
     |cons v vs ih=>intro o w;rw[World.setCells,World.setCells,<-ih];rfl
    rw[dc];rfl
   rw[q1,hy2,hy3,nR];show((w.drew.alloc _).setRow w.drew.heap.size _).heap=((w.drew.alloc _).setRow w.drew.heap.size _).heap;rw[yl,yl]) (by
   obtain⟨a1,a2⟩:=oC w.heap.size (us.drop (i*m)) (i*m+m) ((w.alloc (.cells ((us.take (i*m)).toArray++Z1++Z2) el)).drew.setCells w.heap.size (i*m) vs).drew;obtain⟨b1,b2⟩:=oC w.heap.size vs (i*m) (w.alloc (.cells ((us.take (i*m)).toArray++Z1++Z2) el)).drew;exact⟨a1.trans b1,a2.trans b2⟩)
  exact⟨_,G2,rfl,hR2,hI2,hS1.trans hS2,hbx2.trans hbx1⟩
def Fn{f tt el m by_:Nat}{z0:List PV}(L:Li tt el m by_ z0)(hD:Gb f el m){G:Gh}{w:World}{n i:Nat}{ns:List Nat}{cs:List PV}{x:Value}(hI:bM Tryz.prog B G (bV (n::ns) []) w)(hx:R G (.list n cs (.own 0 el)) x)
  (hc:cs.length=n*m) (hi:i<n) (hn1:aX cs=true) (ht1:dN ([0].contains ·) cs=true):
  Calls Tryz.prog f #[x,.int .i64 (i:Int),.int .i64 ((i:Int)+1)] w fun e w'=>∃ v G',e= .returned v/\R G' (.list (n-1) (cs.take (i*m)++cs.drop ((i+1) *m)) (.own 0 el)) v/\bM Tryz.prog B G' (bV ((n-1)::ns) []) w'/\cQ G w G' w'/\G'.bx=G.bx:=by
 have hm0:=L.p;have A1:=du m hi;have A3:(i+1) *m=i*m+m:=fM i m;have A4:(n-1) *m=n*m-m:=Nat.sub_one_mul n m;rw[A3]at A1;have hie:=L.i;obtain⟨i0,z,hq,hzz,hRz,hzn⟩:=qe (P:=Tryz.prog) (G:=G) L.z;rw[hq]at hie;have hs:i0.size=m:=Option.some.inj hie;have hzl:z.cells.size=m:=by have:=hRz.1;rw[L.l]at this;simpa using this.symm
 generalize hzc:z.cells.toList=zs at*;have hR0:=hx;cases hx with
 |listN=>omega
 |list _ _ _ xb xo xc us hnc hxl hxc hxr hx1 hxt hxp hxx=>
 obtain⟨x0,hx0⟩:=hI.live 0 (by simp[bV]);have hcnt:=(hI.cnt 0 x0 hx0).2;have hxn:x0.cnt=n:=by rw[<-hcnt];simp[bV]
 have h4:=(hxt.2 x0 hx0).2 hxn.symm;cases x0 with
 |full m=>have:=hI.ful 0 m hx0;simp only[ot.cnt]at hxn;omega
 |room r=>
 obtain⟨rfl,rfl,hrc,hre,hrl⟩:=h4;obtain⟨hsh,hcm,hmc,hsz,hno,hxr⟩:=hI.room 0 r hx0;have hul:us.length=n*m:=by rw[<-hxl,hc]
 have hus:∀ (j:Nat) (u:Value),us[j]? =some u->w.cell? ⟨r.b,j,none⟩=some u:=fun j u hj=>by have:=hI.com _ _ _ (hxc j u hj);rwa [ar]at this
 have hszr:r.sz=m:=by
  have:gO Tryz.prog el=some m:=by unfold gO;rw[hq];simp[hs]
  rw[hre,this]at hsz;exact(Option.some.inj hsz).symm
 obtain⟨cur,hcur,hcs⟩:=hI.sh _ _ _ hsh;rw[hrc,hszr]at hcs;rw[hre]at hcur;have hxcap:xc<=9223372036854775807:=by rw[hrc]at hcm;exact hcm
 have hx0l:cur.toList.length=xc*m:=by simpa using hcs
 have htk:cur.toList.take (n*m)=us:=by
  apply iH;intro j;by_cases hj:j<n*m
  ·have:=hus j us[j] (aK (by omega));simp only[World.cell?,hcur,mi,cz,if_false]at this;rw[dQ hj,ki,this,aK (by omega)]
  ·rw[cE (by rw[aL];omega),cE (by omega)]
 have hcl:cur.toList=us++cur.toList.drop (n*m):=by rw[<-htk,dy]
 generalize cur.toList.drop (n*m)=rest at hcl;have hcur':w.drew.heap[r.b]? =some (.cells (us++rest).toArray el (0,0)):=by
  show w.heap[r.b]? =_;rw[<-hcl];simpa using hcur
 refine(hD r.b n xc i us zs w hi hnc hxcap hul hus (fun j=>by simp[World.frozen?,hcur]) hx1 hq hzz hs hzl hzc hRz.2.2).mono fun e w' h=>?_;obtain⟨rfl,rfl⟩:=h;have hvz:zs.length=m:=by rw[<-hzc];simpa using hzl
 have hul1:(us++rest).length=n*m+rest.length:=by rw[ae,hul]
 have hdl:(us.drop ((i+1) *m)).length=n*m- (i*m+m):=by rw[bl,hul];omega
 have hw1:=jQ r.b (us.drop ((i+1) *m)) (i*m) w.drew _ hcur' (by rw[hdl,hul1];omega);have hrow1:=setRow_heap w.drew r.b _ ((us++rest).take (i*m)++us.drop ((i+1) *m)++(us++rest).drop (i*m+(us.drop ((i+1) *m)).length)).toArray el (0,0) hcur';have hl1:((us++rest).take (i*m)++us.drop ((i+1) *m)++(us++rest).drop (i*m+(us.drop ((i+1) *m)).length)).length=n*m+rest.length:=by
  simp only[ae,aL,bl,hul];omega
 have hw2:=jQ r.b zs ((n-1) *m) _ _ hrow1 (by rw[hl1,hvz];omega);have hfin:((us++rest).take (i*m)++us.drop ((i+1) *m)++(us++rest).drop (i*m+(us.drop ((i+1) *m)).length)).take ((n-1) *m)++zs++((us++rest).take (i*m)++us.drop ((i+1) *m)++(us++rest).drop (i*m+(us.drop ((i+1) *m)).length)).drop ((n-1) *m+zs.length)=us.take (i*m)++us.drop ((i+1) *m)++zs++rest:=by
  have h0:(us++rest).take (i*m)=us.take (i*m):=mC (by omega);have h1:(us.take (i*m)++us.drop ((i+1) *m)).length=(n-1) *m:=by rw[ae,hdl,aL,hul];omega
  rw[h0,<-h1,kY,<-jI,jf,jI,hvz,hdl,show i*m+(n*m- (i*m+m))+m=us.length by omega,jf]
 rw[hfin]at hw2;exact⟨_,(N7 (zs:=z0) (w2:=(w.drew.setCells r.b (i*m) (us.drop ((i+1) *m))).setCells r.b ((n-1) *m) zs) hR0 (hI.drawn (w':=w.drew) rfl) hRz hzn L.q hc L.l hul hi hcur' ht1 hn1 (by rw[hw1,hw2,nR]) (by
   obtain⟨a1,a2⟩:=oC r.b zs ((n-1) *m) (w.drew.setCells r.b (i*m) (us.drop ((i+1) *m)));obtain⟨b1,b2⟩:=oC r.b (us.drop ((i+1) *m)) (i*m) w.drew;exact⟨a1.trans b1,a2.trans b2⟩)).elim fun G2 h=>⟨G2,rfl,h.1,h.2.1,cQ.drew.trans h.2.2.1,h.2.2.2⟩⟩
def Rx:gw Tryz.prog 68=some [.int .i64 0,.str ⟨#[]⟩,.int .i64 0,.int .i64 0,.list 0 [] .nil]:=by kernel_rfl
def RE:(Tryz.prog.info? 68).map (·.bytes)=some 64:=by kernel_rfl
def Ph:Li 29 72 3 56 [.int .i64 0,.list 0 [] .nil,.list 0 [] .nil]:=⟨by decide,by decide,CD,Kn,RD,Rw,rfl,rfl⟩
def Pi:Li 30 68 5 64 [.int .i64 0,.str ⟨#[]⟩,.int .i64 0,.int .i64 0,.list 0 [] .nil]:=⟨by decide,by decide,CB,Ko,RE,Rx,rfl,rfl⟩
end Go.PM
namespace Go.PM
open Go Go.Proofs Go.Lib Go.Sort
def yC(m e:Nat):List PV->List Nat->List (List PV)->Option (PV×List Nat×List (List PV))
 | [.list n cs tk,.int .i64 i,.list 1 ds (.full _)],ns,[]=>
  if ds.length=m/\aX ds=true then match tk,n,cs,ns with
   | .nil,0,[],ns=>if i=0 then some (.list 1 ds (.own ns.length e),ns++[1],[])else none
   | .own 0 e0,n,cs,n0::ns=>if e0=e/\n0=n/\0<=i/\i<=n/\cs.length=n*m/\aX cs=true/\dN ([0].contains ·) cs=true/\dN ([0].contains ·) ds=true/\n<=10000000 then
     some (.list (n+1) (cs.take (i.toNat*m)++ds++cs.drop (i.toNat*m)) (.own 0 e),(n+1)::ns,[])else none
   |_,_,_,_=>none
  else none
 |_,_,_=>none
def AL(m e:Nat):List PV->List Nat->List (List PV)->Option (PV×List Nat×List (List PV))
 | [.list n cs (.own 0 e0),.int .i64 i,.int .i64 j],n0::ns,[]=>
  if e0=e/\n0=n/\0<=i/\i<n/\j=i+1/\cs.length=n*m/\aX cs=true/\dN ([0].contains ·) cs=true then
   some (.list (n-1) (cs.take (i.toNat*m)++cs.drop ((i.toNat+1) *m)) (.own 0 e),(n-1)::ns,[])else none
 |_,_,_=>none
def vC:aJ:=fun f xs ns cs=>match f with
 |128=>yC 3 72 xs ns cs
 |189=>yC 5 68 xs ns cs
 |160=>AL 3 72 xs ns cs
 |163=>AL 5 68 xs ns cs
 |f=>CS f xs ns cs
def Ky:mg Tryz.prog 128:=⟨Tryz.f128,Tryz.func128,of_decide_eq_true (by kernel_rfl),by kernel_rfl⟩
def Ku:mg Tryz.prog 189:=⟨Tryz.f189,Tryz.func189,of_decide_eq_true (by kernel_rfl),by kernel_rfl⟩
def Kw:mg Tryz.prog 160:=⟨Tryz.f160,Tryz.func160,of_decide_eq_true (by kernel_rfl),by kernel_rfl⟩
def Kv:mg Tryz.prog 163:=⟨Tryz.f163,Tryz.func163,of_decide_eq_true (by kernel_rfl),by kernel_rfl⟩
def Qf(B:Nat->Nat->Option Value)(f:Nat)(g:List PV->List Nat->List (List PV)->Option (PV×List Nat×List (List PV))):Prop:=∀ xs ns cs r rs cs',g xs ns cs=some (r,rs,cs')->
 cs'.length=cs.length/\np r=true/\(∀ c∈cs',aX c=true)/\
 ∀ G w (vs:List Value),bM Tryz.prog B G (bV ns cs) w->xs.length=vs.length->(∀ (j:Nat) p v,xs[j]? =some p->vs[j]? =some v->R G p v/\cO p=true)->
  Calls Tryz.prog f vs.toArray w fun e w'=>∃ v G',rG f vs v e/\R G' r v/\bM Tryz.prog B G' (bV rs cs') w'/\cQ G w G' w'/\G'.ob=G.ob/\∀ k,k<cs.length->G'.oe k=G.oe k
section
variable {B:Nat->Nat->Option Value}
def Kj{f m e:Nat}(hf:f<1000000)
  (h1:∀ {G:Gh} {w:World} {ds:List PV} {ns:List Nat} {e':Nat} {x y:Value},bM Tryz.prog B G (bV ns []) w->R G (.list 0 [] .nil) x->R G (.list 1 ds (.full e')) y->ds.length=m->Ea (B:=B) f G w x y 0 (.list 1 ds (.own ns.length e)) (ns++[1]))
  (h2:∀ {G:Gh} {w:World} {n i:Nat} {ns:List Nat} {cs ds:List PV} {e':Nat} {x y:Value},bM Tryz.prog B G (bV (n::ns) []) w->R G (.list n cs (.own 0 e)) x->R G (.list 1 ds (.full e')) y->cs.length=n*m->ds.length=m->i<=n->n<=10000000->aX cs=true->aX ds=true->dN ([0].contains ·) cs=true->dN ([0].contains ·) ds=true->
   Ea (B:=B) f G w x y i (.list (n+1) (cs.take (i*m)++ds++cs.drop (i*m)) (.own 0 e)) ((n+1)::ns)):Qf B f (yC m e):=by
 intro xs ns cs r rs cs' h;unfold yC at h;split at h
 ·rename_i n c tk i ds e' ns0;split at h
  ·rename_i hd;split at h
   ·split at h
    ·rename_i hi;subst hi;cases h;refine⟨rfl,hd.2,fun c hc=>(by cases hc),fun G w vs hI hl hR=>?_⟩;obtain⟨v0,v1,v2,rfl⟩:=ID hl;have a0:=(hR 0 _ _ rfl rfl).1;have a1:=(hR 1 _ _ rfl rfl).1;have a2:=(hR 2 _ _ rfl rfl).1;cases a1;exact(h1 hI a0 a2 hd.1).mono fun e w' h=>by
      obtain⟨v,G',rfl,b1,b2,b3,b4⟩:=h;exact⟨v,G',(oZ hf).2 rfl,b1,b2,b3,funext fun s=>mH (congrFun b4 s),fun k hk=>absurd hk (ju _)⟩
    ·cases h
   ·split at h
    ·rename_i hc;obtain⟨rfl,rfl,c1,c2,c3,c4,c5,c6,c7⟩:=hc;cases h;refine⟨rfl,?_,fun c hc=>(by cases hc),fun G w vs hI hl hR=>?_⟩
     ·show aX _=true;refine iz (iz (tv c4 fun p hp=>eU hp) hd.2) (tv c4 fun p hp=>dv hp)
     obtain⟨v0,v1,v2,rfl⟩:=ID hl;have a0:=(hR 0 _ _ rfl rfl).1;have a1:=(hR 1 _ _ rfl rfl).1;have a2:=(hR 2 _ _ rfl rfl).1;cases a1;obtain⟨k,rfl⟩:=Int.eq_ofNat_of_zero_le c1;exact(h2 hI a0 a2 c3 hd.1 (i:=k) (by omega) c7 c4 hd.2 c5 c6).mono fun e w' h=>by
      obtain⟨v,G',rfl,b1,b2,b3,b4⟩:=h;exact⟨v,G',(oZ hf).2 rfl,b1,b2,b3,funext fun s=>mH (congrFun b4 s),fun k hk=>absurd hk (ju _)⟩
    ·cases h
   ·cases h
  ·cases h
 ·cases h
def KC{f m e:Nat}(hf:f<1000000)
  (h1:∀ {G:Gh} {w:World} {n i:Nat} {ns:List Nat} {cs:List PV} {x:Value},bM Tryz.prog B G (bV (n::ns) []) w->R G (.list n cs (.own 0 e)) x->cs.length=n*m->i<n->aX cs=true->dN ([0].contains ·) cs=true->
   Calls Tryz.prog f #[x,.int .i64 (i:Int),.int .i64 ((i:Int)+1)] w fun e1 w'=>∃ v G',e1= .returned v/\R G' (.list (n-1) (cs.take (i*m)++cs.drop ((i+1) *m)) (.own 0 e)) v/\bM Tryz.prog B G' (bV ((n-1)::ns) []) w'/\cQ G w G' w'/\G'.bx=G.bx):Qf B f (AL m e):=by
 intro xs ns cs r rs cs' h;unfold AL at h;split at h
 ·split at h
  ·rename_i hc;obtain⟨rfl,rfl,c1,c2,rfl,c3,c4,c5⟩:=hc;cases h;refine⟨rfl,?_,fun c hc=>(by cases hc),fun G w vs hI hl hR=>?_⟩
   ·show aX _=true;exact iz (tv c4 fun p hp=>eU hp) (tv c4 fun p hp=>dv hp)
   obtain⟨v0,v1,v2,rfl⟩:=ID hl;have a0:=(hR 0 _ _ rfl rfl).1;have a1:=(hR 1 _ _ rfl rfl).1;have a2:=(hR 2 _ _ rfl rfl).1;cases a1;cases a2;obtain⟨k,rfl⟩:=Int.eq_ofNat_of_zero_le c1;exact(h1 hI a0 c3 (i:=k) (by omega) c4 c5).mono fun e w' h=>by
    obtain⟨v,G',rfl,b1,b2,b3,b4⟩:=h;exact⟨v,G',(oZ hf).2 rfl,b1,b2,b3,funext fun s=>mH (congrFun b4 s),fun k hk=>absurd hk (ju _)⟩
  ·cases h
 ·cases h
end
def OS(tS tR:TypeId)(pS pR:Value):jD Tryz.prog (ke (.iface tS pS) (.iface tR pR)) vC:=by
 intro f xs ns cs r rs cs' h;unfold vC at h;split at h
 ·rw[pq (by decide)];exact⟨Ky,Kj (by decide) (fun a b c d=>E2 Ph Hu a b c d) (fun a b c d e f g h i j k=>E1 Ph Hu Mf Mg QA a b c d e f g h i j k) _ _ _ _ _ _ h⟩
 ·rw[pq (by decide)];exact⟨Ku,Kj (by decide) (fun a b c d=>E2 Pi E3 a b c d) (fun a b c d e f g h i j k=>E1 Pi E3 Ki Kk Qz a b c d e f g h i j k) _ _ _ _ _ _ h⟩
 ·rw[pq (by decide)];exact⟨Kw,KC (by decide) (fun a b c d e f=>Fn Ph KD a b c d e f) _ _ _ _ _ _ h⟩
 ·rw[pq (by decide)];exact⟨Kv,KC (by decide) (fun a b c d e f=>Fn Pi KE a b c d e f) _ _ _ _ _ _ h⟩
 ·exact OT tS tR pS pR _ _ _ _ _ _ _ h
end Go.PM
namespace Go.PM
open Go Go.Proofs Go.Lib
noncomputable def HK:aJ:=uY T vC
def Pm(tS tR:TypeId)(pS pR:Value):jD Tryz.prog (ke (.iface tS pS) (.iface tR pR)) HK:=My T vC (by kernel_rfl) Nw (OS tS tR pS pR)
def Rd:jj HK:=fun f F hF N xs ns cs r h=>Mz T vC hF (by
 unfold vC;split
 ·cases hF
 ·cases hF
 ·cases hF
 ·cases hF
 unfold CS;split
 ·rename_i hf;subst hf;cases hF
 ·split
  ·rename_i hf;subst hf;cases hF
  ·rfl) N h
def Rq:bO HK where
 tab:=Rd
 parse l hl:=uh T vC (by
  show CS 239 _ _ _=_;unfold CS;rw[am rfl];show(if(10:Int)=10/\(64:Int)=64/\ByteArray.size ⟨l.toArray⟩<=2000000 then _ else _)=_;rw[am ⟨rfl,rfl,by simpa [ByteArray.size]using hl⟩]
  show some (xI l.toArray.toList,_,_)=_;unfold xI;simp only[];cases parseIntB 64 l<;>rfl)
 fmt n h1 h2:=uh T vC (by
  show CS 135 _ _ _=_;unfold CS;rw[ai (by decide),am rfl];show(if(10:Int)=10/\_/\_ then _ else _)=_;rw[am ⟨rfl,h1,h2⟩])
def O9{a m e:Nat}(h:∀ xs ns cs,vC a xs ns cs=yC m e xs ns cs):Eb HK a m e where
 nil ds ns e' h1 h2:=uh T vC (by
  rw[h];simp only[yC,h1,h2,lw,if_true])
 own n i cs ds ns e' h1 h2 h3 h4 h5 h6 h7 h8:=uh T vC (by
  rw[h];show(if ds.length=m/\aX ds=true then(if e=e/\n=n/\(0:Int)<=(i:Int)/\(i:Int)<=n/\cs.length=n*m/\aX cs=true/\dN ([0].contains ·) cs=true/\dN ([0].contains ·) ds=true/\n<=10000000 then _ else none)else none)=_;rw[am ⟨h2,h4⟩,am ⟨rfl,rfl,by omega,by omega,h1,h3,h5,h6,h8⟩];rfl)
def Pj{b m e:Nat}(h:∀ xs ns cs,vC b xs ns cs=AL m e xs ns cs):BI HK b m e where
 own n i cs ns h1 h2 h3 h4 _:=uh T vC (by
  rw[h];show(if e=e/\n=n/\(0:Int)<=(i:Int)/\(i:Int)<n/\((i+1:Nat):Int)=(i:Int)+1/\cs.length=n*m/\aX cs=true/\dN ([0].contains ·) cs=true then _ else none)=_;rw[am ⟨rfl,rfl,by omega,by omega,by omega,h1,h2,h3⟩];rfl)
def Rj:sy HK:=⟨O9 fun _ _ _=>rfl,O9 fun _ _ _=>rfl,Pj fun _ _ _=>rfl,Pj fun _ _ _=>rfl⟩
end Go.PM
namespace Go.PM
open Go Go.Proofs Go.ChangeShapes Go.Deep
section
variable {H:Type} {enc:TypeId×Value->H} {w:World} {base:Nat} {held:Bool}
def Ru:Tryz.prog.cellsOf 104=3:=by kernel_rfl
def Rt:Tryz.prog.cellsOf 106=5:=by kernel_rfl
def OP{cs:List Value}(h:cs.length=12):∃ a b c d e f g h i j k l,cs=[a,b,c,d,e,f,g,h,i,j,k,l]:=by
 match cs,h with
 | [a,b,c,d,e,f,g,h,i,j,k,l],_=>exact⟨a,b,c,d,e,f,g,h,i,j,k,l,rfl⟩
def JN{fuel:Nat}{cs:List Value}{x:DataW H×List MemPlace}(h:DataW.trod enc Tryz.prog w base (fun _=>true) held fuel 108 cs=some x)(hl:cs.length=12):∃ y:Ch,Rs (lm w) (cc y) cs/\vT y:=by
 obtain⟨n,hf⟩:=sE (L:=[(2,0),(104,1),(106,4),(9,9),(9,10),(9,11)]) (by kernel_rfl) (by decide) h;obtain⟨a,b,c,d,e,f,g,h6,i,j,k,l,rfl⟩:=OP hl;obtain⟨y0,h0⟩:=hf 0 _ rfl;obtain⟨y1,h1⟩:=hf 1 _ rfl;obtain⟨y2,h2⟩:=hf 2 _ rfl;obtain⟨y3,h3⟩:=hf 3 _ rfl;obtain⟨y4,h4⟩:=hf 4 _ rfl;obtain⟨y5,h5⟩:=hf 5 _ rfl;rw[c2]at h0;rw[Ru]at h1;rw[Rt]at h2;rw[c9]at h3 h4 h5;have h0:DataW.trod enc Tryz.prog w base (fun _=>true) held n 2 [a]=some y0:=h0;have h1:DataW.trod enc Tryz.prog w base (fun _=>true) held n 104 [b,c,d]=some y1:=h1;have h2:DataW.trod enc Tryz.prog w base (fun _=>true) held n 106 [e,f,g,h6,i]=some y2:=h2;have h3:DataW.trod enc Tryz.prog w base (fun _=>true) held n 9 [j]=some y3:=h3;have h4:DataW.trod enc Tryz.prog w base (fun _=>true) held n 9 [k]=some y4:=h4;have h5:DataW.trod enc Tryz.prog w base (fun _=>true) held n 9 [l]=some y5:=h5;obtain⟨kd,r0⟩:=xB (by kernel_rfl) h0;obtain⟨nd,r1,l1,m1⟩:=G5 h1 rfl;obtain⟨eg,r2,l2,m2⟩:=G6 h2 rfl;obtain⟨s3,r3,l3⟩:=tO h3;obtain⟨s4,r4,l4⟩:=tO h4;obtain⟨s5,r5,l5⟩:=tO h5;exact⟨{kind:=kd,node:=nd,edge:=eg,value:=s3,name:=s4,text:=s5},(((((r0.append r1).append r2).append r3).append r4).append r5),⟨l1,m1,l2,m2,l4,l3,l5⟩⟩
def Ir{fuel:Nat}{cs:List Value}{x:DataW H×List MemPlace}(h:DataW.trod enc Tryz.prog w base (fun _=>true) held fuel 53 cs=some x):∃ (l:List Ch) (v:Value),cs=[v]/\R (lm w) (HX l) v/\l.length<=gg/\∀ c∈l,vT c:=by
 obtain⟨l,v,rfl,h1,h2,h3,h4⟩:=tP (α:=Ch) (e:=108) (sz:=12) (by kernel_rfl) (by kernel_rfl) (by decide) cc vT iC (fun fuel cs x h hl=>JN h hl) h;exact⟨l,v,rfl,h1,h3,h4⟩
end
def Qj:Tryz.prog.underlying 53=some (.slice 108):=by kernel_rfl
set_option maxRecDepth 100000 in
def OE{w:World}{base:Nat}{v u:Value}(h:v.okWide Tryz.prog w .any base 53)(hc:v.cells.toList=[u]):v=u:=by
 cases v with
 |agg cs=>
  unfold Value.okWide Cell.okWide Cell.ok at h;simp only[Qj]at h
 |_=>simpa [Value.cells]using hc
end Go.PM
namespace Go.PM
def Bh{x:Nd}:∀ {l:List Nd},s6 l->(∀ y∈l,y.id≠x.id)->s6 (i6 x l)
 | [],_,_=>gH _ _
 |z::l,h,hn=>by
  obtain⟨h1,h2⟩:=bI.1 h;rw[i6];split
  ·rename_i hlt;exact bI.2 ⟨fun y hy=>by rcases aZ.1 hy with rfl|hy;exact hlt;exact lA hlt (h1 y hy),h⟩
  ·rename_i hlt;refine bI.2 ⟨fun y hy=>?_,Bh h2 fun y hy=>hn y (ce _ hy)⟩;rcases wj hy with rfl|hy
   ·have:=hn z List.mem_cons_self;omega
   ·exact h1 y hy
def zt{x:Eg}:∀ {l:List Eg},rv l->(∀ y∈l,y.id≠x.id)->rv (gJ x l)
 | [],_,_=>gH _ _
 |z::l,h,hn=>by
  obtain⟨h1,h2⟩:=bI.1 h;rw[gJ];split
  ·rename_i hlt;exact bI.2 ⟨fun y hy=>by rcases aZ.1 hy with rfl|hy;exact hlt;exact lA hlt (h1 y hy),h⟩
  ·rename_i hlt;refine bI.2 ⟨fun y hy=>?_,zt h2 fun y hy=>hn y (ce _ hy)⟩;rcases uM hy with rfl|hy
   ·have:=hn z List.mem_cons_self;omega
   ·exact h1 y hy
def wf{α:Type}{k:α->Int}:∀ {l:List α} {i:Nat} {x:α},l.Pairwise (fun a b=>k a<k b)->(∀ h:i<l.length,k x=k l[i])->(l.set i x).Pairwise fun a b=>k a<k b
 | [],_,_,h,_=>h
 |y::l,0,x,h,hk=>by
  obtain⟨h1,h2⟩:=bI.1 h;have:=hk (by simp);exact bI.2 ⟨fun z hz=>by have:=h1 z hz;simp at*;omega,h2⟩
 |y::l,i+1,x,h,hk=>by
  obtain⟨h1,h2⟩:=bI.1 h;refine bI.2 ⟨fun z hz=>?_,wf h2 fun h=>hk (by simpa using h)⟩;rcases dK hz with hz|rfl
  ·exact h1 z hz
  ·by_cases hi:i<l.length
   ·rw[hk (by simpa using hi)];exact h1 _ (cp hi)
   ·rw[List.set_eq_of_length_le (by omega)]at hz;exact h1 _ hz
def G8{l:List Fd}(h:uq l)(n v:List UInt8):uq (iX l n v):=by
 refine⟨pM.2 (zJ (vJ h.ord) n v),fun f hf=>?_⟩;unfold iX at hf;split at hf
 ·exact h.val f (iM.1 hf).1
 ·rename_i hv;rw[xM,aG,dM]at hf;rcases hf with hf|rfl
  ·exact h.val f (iM.1 hf).1
  ·exact hv
def E7{g:cj}(c:Ch)(h:oi g):oi (lJ wS g c).1:=by
 unfold lJ;refine dR (fun _=>h) fun hf=>?_;have hf:kw c=true:=by simpa using hf
 unfold kw at hf;refine dR (fun hk=>?_) fun hk1=>?_
 ·rw[am hk]at hf;refine dR (fun _=>h) fun hx=>dR (fun _=>h) fun h2=>?_;rw[pQ,aj,aj]at hf;refine⟨?_,h.el,fun n hn=>?_,h.es,Bh h.nr (AS hx),h.er⟩
  ·show(i6 _ _).length<=200;rw[z6];have:=h.nl;omega
  ·rcases wj hn with rfl|hn
   ·exact⟨pu hf.2.2,rm hf.2.1,qR hf.2.2,D3 hf.1⟩
   ·exact h.ns n hn
 rw[ai hk1]at hf;refine dR (fun hk=>?_) fun hk2=>?_
 ·refine dR (fun _=>h) fun _=>dR (fun _=>h) fun h2=>?_;exact⟨dJ (lN _ _) h.nl,h.el,fun n hn=>h.ns n (lz hn),h.es,h.nr.sublist (List.eraseIdx_sublist _ _),h.er⟩
 rw[ai hk2]at hf;refine dR (fun hk=>?_) fun hk3=>?_
 ·rw[am hk]at hf;refine dR (fun _=>h) fun hx=>dR (fun _=>h) fun _=>dR (fun _=>h) fun h2=>?_;rw[oN,aj,aj,aj,aj]at hf;refine⟨h.nl,?_,h.ns,fun e he=>?_,h.nr,zt h.er (Bs hx)⟩
  ·show(gJ _ _).length<=400;rw[xX];have:=h.el;omega
  ·rcases uM he with rfl|he
   ·exact⟨pu hf.2.2.2.2,qR hf.2.2.2.2,D3 hf.1⟩
   ·exact h.es e he
 rw[ai hk3]at hf;refine dR (fun hk=>?_) fun hk4=>?_
 ·refine dR (fun _=>h) fun _=>?_;exact⟨h.nl,dJ (lN _ _) h.el,h.ns,fun e he=>h.es e (lz he),h.nr,h.er.sublist (List.eraseIdx_sublist _ _)⟩
 rw[ai hk4]at hf;refine dR (fun hk=>?_) fun hk5=>?_
 ·rw[am hk,aj]at hf;refine dR (fun _=>h) fun h0=>?_;have hlt:= @jS g.nodes c.node.id;have hi:(cU g.nodes c.node.id).toNat<g.nodes.length:=by omega
  refine⟨by simpa using h.nl,h.el,fun n hn=>?_,h.es,wf (k:=Nd.id) h.nr fun _=>by rw[l9 hi],h.er⟩;rcases dK hn with hn|rfl
  ·exact h.ns n hn
  ·have:=h.ns _ (vD hi);exact⟨this.fl,rm hf.2,this.fd,this.id⟩
 unfold jK;split
 ·rename_i v _;refine dR (fun _=>?_) fun _=>?_
  ·unfold ux;split
   ·exact h
   ·have hlt:= @oO g.edges v.num;have hi:(eJ g.edges v.num).toNat<g.edges.length:=by omega
    refine dR (fun _=>h) fun hl=>?_;refine⟨h.nl,by simpa using h.el,h.ns,fun e he=>?_,h.nr,wf (k:=Eg.id) h.er fun _=>by rw[oP hi]⟩;rcases dK he with he|rfl
    ·exact h.es e he
    ·have:=h.es _ (Cb hi);exact⟨by simpa using hl,G8 this.fd _ _,this.id⟩
  ·unfold uw;split
   ·exact h
   ·have hlt:= @jS g.nodes v.num;have hi:(cU g.nodes v.num).toNat<g.nodes.length:=by omega
    refine dR (fun _=>h) fun hl=>?_;refine⟨by simpa using h.nl,h.el,fun n hn=>?_,h.es,wf (k:=Nd.id) h.nr fun _=>by rw[l9 hi],h.er⟩;rcases dK hn with hn|rfl
    ·exact h.ns n hn
    ·have:=h.ns _ (vD hi);exact⟨by simpa using hl,this.ll,G8 this.fd _ _,this.id⟩
 ·exact h
def Dk:∀ (l:List Ch) (i:Nat) {g:cj},oi g->oi (hZ wS i g l).1
 | [],_,_,h=>h
 |c::l,i,g,h=>by
  rw[hZ];split
  ·exact E7 c h
  ·exact Dk l (i+1) (E7 c h)
end Go.PM
namespace Go.PM
open Go.Lib
variable {cf:aJ} {st:St} {mk:PV->St->Fr×St} {A:Fr×St->Prop} {s:Nat}
def se(g:cj)(l:List Ch):List Ch:=if(iL wS g l).code=0 then pz (iL wS g l).graph g else []
def rU{g:cj}{l:List Ch}(h:(iL wS g l).code=0):oi (iL wS g l).graph/\oi g:=by
 unfold iL at h ⊢;split at h
 ·cases h
 rename_i h1;rw[ai h1];split at h
 ·cases h
 rename_i h2;rw[ai h2];have hg:oi g:=Nh (by simpa using h2);split at h
 ·rename_i h3;exact absurd h h3
 ·rename_i h3;rw[ai h3];exact⟨Dk l 0 hg,hg⟩
def Gd(g:cj)(l:List Ch):oY (se g l)/\(se g l).length<=97400:=by
 unfold se;split
 ·rename_i h;exact⟨IY (rU h).1 (rU h).2,Mq (rU h).1 (rU h).2⟩
 ·exact⟨iT,aW _⟩
def Oa(K:bO cf)(g:cj)(l:List Ch)(hl:l.length<=2000000)(hb:∀ c∈l,lH c):∃ r,r=HX (se g l)/\∃ fl,az cf 36 [.agg (gc g),HX l] [] st=some (r,db st fl):=by
 refine lu K.tab (F:=F36) (Q:=fun r=>r=HX (se g l)) rfl rfl rfl (lb rfl) (by simp[dE,fS]) 1 ?_;have hr:∀ st,∃ r,r= .agg (JI (iL wS g l))/\∃ fl,az cf 30 [.agg [NX g.nodes,EX g.edges],HX l] [] st=some (r,db st fl):=fun st=>Pu (st:=st) K g l hl hb;have hok:= @rU g l;have e:se g l=if(iL wS g l).code=0 then pz (iL wS g l).graph g else []:=rfl;generalize iL wS g l=R at*;simp only[F36,↓qU,seval];simp only[↓pa,pb,ah,seval,gc];refine jd (hr _) (fun fl=>?_);by_cases hc:R.code=0;rotate_left
 ·rw[ai hc]at e;simp only[↓pa,↓au,pb,ah,aH,seval,al,JI,hc,cG,da];rw[e];rfl
 rw[am hc]at e;have hd:∀ st,∃ r,r=HX (pz R.graph g)/\∃ fl,az cf 54 [.agg [NX R.graph.nodes,EX R.graph.edges],.agg [NX g.nodes,EX g.edges]] [] st=some (r,db st fl):=fun st=>KV (st:=st) K R.graph g (hok hc).1 (hok hc).2;have hpl:=fS (pz R.graph g);simp only[↓pa,pb,ah,seval,al,JI,hc];refine jd (hd _) (fun fl=>?_);simp only[↓pa,pb,aH,seval,hpl.1];rw[(fP cc gz _).2.1,e]
def Ob(K:bO cf)(hI:sy cf)(g:cj)(l:List Ch)(hl:l.length<=2000000)(hb:∀ c∈l,lH c):∃ r ns,az cf 37 [.agg (gc g),HX l] [] st=some (r,st.more ns)/\dC st.nx ns r/\aO r=HX (se g l):=by
 refine oT K.tab (F:=F37) (Q:=fun r=>r=HX (se g l)) rfl rfl rfl (lb rfl) (by simp[dE,fS]) 1 ?_;have hr:∀ st,∃ r ns,az cf 32 [.agg [NX g.nodes,EX g.edges],HX l] [] st=some (.agg r,st.more ns)/\aw r=cB st.nx ns/\DP (iL wP g l) r/\aX r=true/\bq r=true:=fun st=>Pv (st:=st) K hI g l hl hb;have hok:= @rU g l;have e:se g l=if(iL wS g l).code=0 then pz (iL wS g l).graph g else []:=rfl;rw[I2 (g:=g) l]at hr;generalize iL wS g l=R at*;have hkp:=eY (dD (ps:=[.agg (gc g),HX l]) (by simp[dE,fS])).1;rw[gc]at hkp;simp only[F37,↓qU,seval];simp only[↓pa,pb,ah,seval,gc];obtain⟨r,ns0,hc32,-,hR,-,-⟩:=hr (cA (bV [] []) 2 [NX g.nodes,EX g.edges]);refine⟨_,_,hc32,?_⟩;obtain⟨p,q,rfl,hg⟩:=hR.sh;have hgst:=hg.st;have hgnp:=hg.np;by_cases hc:R.code=0;rotate_left
 ·rw[ai hc]at e;simp only[↓pa,pb,ah,seval,al,di,hc];exact⟨rfl,rfl,rfl,eN,by rw[e];rfl⟩
 rw[am hc]at e;have hd:∀ st,∃ r ns,az cf 55 [.agg [p,q],.agg [NX g.nodes,EX g.edges]] [] st=some (r,st.more ns)/\dC st.nx ns r/\aO r=HX (Bu R.graph g):=fun st=>by
  rw[show [NX g.nodes,EX g.edges]=gc g from rfl,tA (bs:=[.agg (gc R.graph),.agg (gc g)]) (by simp only[bg,cJ,xt,hgst,(uc g).2.1]) (MZ hgnp (uc g).1) (by simp[dE])];exact PR (st:=st) K R.graph g (hok hc).1 (hok hc).2
 simp only[↓pa,pb,ah,seval,al,di,hc];refine dx (hd _) (fun r ns hF hr=>?_);simp only[↓pa,seval,di];refine⟨?_,hF.np,hF.so,?_,?_⟩
 ·obtain⟨ds,u,rfl,-,-⟩:=bu hr;rfl
 ·rw[hF.tk];have h0:∀ st:St,st.fl<=st.nx->a8 (st.more ns) (cB st.nx ns):=fun st h=>by simpa using cK (st:=st) eN h ns
  exact h0 _ (by show(St.more _ _).fl<=_;rw[St.more_fl];exact aW _)
 ·show aO r=_;rw[hr,e,KA (hok hc).1 (hok hc).2]
def HD:∀ (l:List Ch) (k:Nat),fF (l.map i8) k<=k+l.length*20+4* (l.map lc).sum
 | [],k=>by simp[fF]
 |c::l,k=>by
  have ih:=HD l (mE k (i8 c));have h2:mE k (i8 c)=k+2+c.node.labels.length+2*c.node.fields.length+4+2*c.edge.fields.length+3:=rfl;have h4:= @jF _ List.length c.node.labels;have h5:= @jF _ nu c.node.fields;have h6:= @jF _ nu c.edge.fields;have h7:lc c=fQ List.length c.node.labels+fQ nu c.node.fields+(c.edge.type.length+fQ nu c.edge.fields)+c.name.length+c.value.length+c.text.length:=rfl;rw[bg,fF,aA,bg,List.sum_cons,gW];omega
def EG{cs ds:List PV}{n:Nat}{t:aF}(h:aX cs=true)(h2:aX ds=true):([.agg cs,.list n ds t]:List PV).all bF=true:=by
 simp only[cT,dd,bF,aH,h,h2,ay]
def Nu{cs ds:List PV}(h:aX cs=true)(h2:aX ds=true):([.agg cs,.agg ds]:List PV).all bF=true:=by
 simp only[cT,dd,bF,aH,h,h2,ay]
def PG(K:bO cf)(hI:sy cf)(g:cj)(l:List Ch)(hG:Jl g)(hl:l.length<=gg)(hL:∀ c∈l,vT c):az cf 7 [.agg (gc g),HX l] [] st=some (.bool true,st):=by
 refine df K.tab (F:=F7) (t:=4) rfl rfl rfl (lb rfl) (by simp[dE,fS]) (ct _) 1 ?_;have hszA:=fun st=>Pr (st:=st) K g hG 1048576 (by omega);have e48:((1048576:Nat):Int)=1048576:=rfl;rw[e48]at hszA;have hgp:=uc g;have hgl:=Pc g;have hgt:List.take 2 (gc g)=gc g:=rfl;have hp:=fS l;simp only[F7,↓qU,seval];simp (maxSteps:=1000000) (disch:=omega)only[↓pa,↓au,↓ax,pb,ah,ap,aq,ak,ad,aa,seval,al,hgl,hgt,hszA];by_cases hs:mN g<=1048576;rotate_left
 ·have hd:eE 1048576 (mN g)= -1:=by rw[eE,ai hs]
  simp (maxSteps:=1000000) (disch:=omega)only[↓pa,↓au,↓ax,pb,ah,ap,aq,ak,ad,aa,seval,al,hd]
 have hd:eE 1048576 (mN g)=((1048576-mN g:Nat):Int):=by rw[eE,am hs]
 have hszB:=fun st=>Od (st:=st) K l hl hL (1048576-mN g) (by omega);simp (maxSteps:=1000000) (disch:=omega)only[↓pa,↓au,↓ax,pb,ah,ap,aq,ak,ad,aa,seval,al,hd,qk,hgl,hgt,hszB];by_cases hs2:fQ lc l<=1048576-mN g;rotate_left
 ·have hd2:eE (1048576-mN g) (fQ lc l)= -1:=by rw[eE,ai hs2]
  simp (maxSteps:=1000000) (disch:=omega)only[↓pa,↓au,↓ax,pb,ah,ap,aq,ak,ad,aa,seval,al,hd2]
 have hd2:eE (1048576-mN g) (fQ lc l)=((1048576-mN g-fQ lc l:Nat):Int):=by rw[eE,am hs2]
 have hFa:=N1 hs;have hll:l.length<=2000000:=by have:= @jF _ lc l;omega
 have hCf:∀ c∈l,lH c:=fun c hc=>Mu (by have:=BQ (m:=lc) hc;omega);obtain⟨hsm,hlw⟩:=Gd g l;have hUS:=fun st=>Oa (st:=st) K g l hll hCf;have hUP:=fun st=>Ob (st:=st) K hI g l hll hCf;generalize se g l=D at*;have hDfit:∀ c∈D,lH c:=fun c hc=>by
  obtain⟨h1,h2,h3⟩:=hsm c hc;exact⟨by omega,by omega,by omega⟩
 simp (maxSteps:=1000000) (disch:=omega)only[↓pa,↓au,↓ax,pb,ah,ap,aq,ak,ad,aa,seval,al,hd2,qk,hgl,hgt];refine dx (D6 K g hFa) (fun r ns hFr hr=>?_);obtain⟨c1,rfl,hc1⟩:=fi hr;simp (maxSteps:=1000000) (disch:=omega)only[↓pa,↓au,↓ax,pb,ah,ap,aq,ak,ad,aa,seval,al,di,hgl,hgt];refine dx (yP K l hll hCf) (fun r' ns' hFr' hr'=>?_);obtain⟨c2,t2,rfl,hc2,-⟩:=bu hr';simp (maxSteps:=1000000) (disch:=omega)only[↓pa,↓au,↓ax,pb,ah,ap,aq,ak,ad,aa,seval,al,di,hgl,hgt];refine wX (p:=HX D) ?_ ?_ (fun fl hfl=>?_)
 ·rw[tA (bs:=[.agg (gc g),HX l]) (by simp only[bg,cJ,aH,hc1,hc2]) (EG hFr.np hFr'.np) (by simp[dE,fS])];exact hUS _
 ·simp only[St.more_fl,St.more_nx];exact aW _
 simp (maxSteps:=1000000) (disch:=omega)only[↓pa,↓au,↓ax,pb,ah,ap,aq,ak,ad,aa,seval,al,di,hgl,hgt];generalize hS0:db (((cA (bV [] []) 2 (gc g)).more ns).more ns') fl=S0 at*;have o2:S0.objs 2=some (gc g):=by rw[<-hS0];simp (maxSteps:=1000000) (disch:=omega)only[↓pa,↓au,↓ax,pb,ah,ap,aq,ak,ad,aa,seval,al,di]
 have hf0:S0.fl<=S0.nx:=by rw[<-hS0];exact hfl
 clear hS0 hFr hFr' hr hr' hfl;refine dx (D6 K g hFa) (fun r2 ns2 hFr2 hr2=>?_);obtain⟨c7,rfl,hst7⟩:=fi hr2;have hl7:c7.length=2:=by rw[<-ch,hst7];rfl
 obtain⟨x7,y7,rfl⟩:∃ x y,c7=[x,y]:=by
  match c7,hl7 with
  | [x,y],_=>exact⟨x,y,rfl⟩
 have hT1:=cK (st:=S0) eN hf0 ns2;have htk7:aw [x7,y7]=cB S0.nx ns2:=by have:=hFr2.tk;simpa [aB]using this
 rw[aU,<-htk7]at hT1;have hso7:bq [x7,y7]=true:=by simpa [aY]using hFr2.so
 have hnp7:aX [x7,y7]=true:=hFr2.np;simp (maxSteps:=1000000) (disch:=omega)only[↓pa,↓au,↓ax,pb,ah,ap,aq,ak,ad,aa,seval,al,di,hgl,hgt,o2];generalize hS1:cA (cA (S0.more ns2) 7 [PV.list 0 [] aF.nil,PV.list 0 [] aF.nil]) 7 [x7,y7]=S1 at*;have p2:S1.objs 2=some (gc g):=by rw[<-hS1];simp (maxSteps:=1000000) (disch:=omega)only[↓pa,↓au,↓ax,pb,ah,ap,aq,ak,ad,aa,seval,al,di,o2]
 have p7:S1.objs 7=some [x7,y7]:=by rw[<-hS1];simp (maxSteps:=1000000) (disch:=omega)only[↓pa,↓au,↓ax,pb,ah,ap,aq,ak,ad,aa,seval,al,di]
 have hT1:a8 S1 (aw [x7,y7]):=by rw[<-hS1];exact aT (aT hT1)
 have hf1:S1.fl<=S1.nx:=by rw[<-hS1];show(S0.more ns2).fl<=(S0.more ns2).nx;rw[St.more_fl,St.more_nx];omega
 clear hS1 hFr2 hr2 htk7 o2 hf0;refine dx (yP K l hll hCf) (fun r2 ns2 hFr2 hr2=>?_);obtain⟨c8,t8,rfl,hst8,-⟩:=bu hr2;have hT2:=cK (st:=S1) hT1 hf1 ns2;rw[<-hFr2.tk]at hT2;have hso8:=hFr2.so;have hnp8:aX c8=true:=hFr2.np;have o2:(S1.more ns2).objs 2=some (gc g):=by rw[St.more_objs];exact p2
 have o7:(S1.more ns2).objs 7=some [x7,y7]:=by rw[St.more_objs];exact p7
 have hf2:(S1.more ns2).fl<=(S1.more ns2).nx:=by rw[St.more_fl,St.more_nx];omega
 generalize S1.more ns2=S2 at*;clear hFr2 hr2 p2 p7 hf1 hT1;have h37:∀ {st:St} {cs ds:List PV} {t:aF},aQ cs=gc g->aQ ds=l.flatMap cc->aX cs=true->aX ds=true->∃ r ns,az cf 37 [.agg cs,.list l.length ds t] [] st=some (r,st.more ns)/\dC st.nx ns r/\aO r=HX D:=fun{st cs ds t} h1 h2 h3 h4=>by
  rw[tA (bs:=[.agg (gc g),HX l]) (by simp only[bg,cJ,aH,h1,h2]) (EG h3 h4) (by simp[dE,fS])];exact hUP _
 simp (maxSteps:=1000000) (disch:=omega)only[↓pa,↓au,↓ax,pb,ah,ap,aq,ak,ad,aa,seval,al,di,hgl,hgt,o2,o7];refine dx (h37 hst7 hst8 hnp7 hnp8) (fun r9 ns3 hFr9 hr9=>?_);obtain⟨c9,t9,rfl,hst9,-⟩:=bu hr9;have hT3:=cK hT2 hf2 ns3;rw[<-hFr9.tk]at hT3;have hso9:=hFr9.so;have hnp9:aX c9=true:=hFr9.np;have p2:(S2.more ns3).objs 2=some (gc g):=by rw[St.more_objs];exact o2
 have p7:(S2.more ns3).objs 7=some [x7,y7]:=by rw[St.more_objs];exact o7
 have hf3:(S2.more ns3).fl<=(S2.more ns3).nx:=by rw[St.more_fl,St.more_nx];omega
 generalize S2.more ns3=S3 at*;clear hFr9 hT2 hf2 o2 o7;have h19:∀ {l:List Ch} {st:St} {cs ds:List PV} {tk tu:aF},l.length<=2000000->(∀ c∈l,lH c)->aQ cs=l.flatMap cc->aQ ds=l.flatMap cc->aX cs=true->aX ds=true->az cf 19 [.list l.length cs tk,.list l.length ds tu] [] st=some (.bool true,st):=fun{l st cs ds tk tu} hb1 hb2 h1 h2 h3 h4=>by
  rw[tA (bs:=[HX l,HX l]) (by simp only[bg,cJ,aH,h1,h2]) (by simp only[cT,dd,bF,aH,h3,h4,ay]) (by simp[fS])];exact PL K l hb1 hb2
 have hDp:aX (D.flatMap cc)=true:=(fS D).1;have hDs:aQ (D.flatMap cc)=D.flatMap cc:=(fP cc gz D).2.1;have h19a:∀ st,az cf 19 [.list D.length c9 t9,HX D] [] st=some (.bool true,st):=fun st=>h19 (by omega) hDfit hst9 hDs hnp9 hDp;simp (maxSteps:=1000000) (disch:=omega)only[↓pa,↓au,↓ax,pb,ah,ap,aq,ak,ad,aa,seval,al,di,hgl,hgt,p2,p7,h19a];refine dx (D6 K g hFa) (fun r3 ns4 hFr3 hr3=>?_);obtain⟨c33,rfl,hc33⟩:=fi hr3;have hnp33:aX c33=true:=hFr3.np;have h13a:∀ st:St,az cf 13 [.agg [x7,y7],.agg c33] [] st=some (.bool true,st):=fun st=>by
  rw[tA (bs:=[.agg (gc g),.agg (gc g)]) (by simp only[bg,cJ,xt,hst7,hc33]) (Nu hnp7 hnp33) (by simp[dE])];exact PJ K g hFa
 have hT4:a8 (S3.more ns4) (aw [x7,y7]++aB (.list l.length c8 t8)++aB (.list D.length c9 t9)):=fo (cK hT3 hf3 ns4) (fun j=>by simp only[bt];omega) (fun q hq=>by rw[aG];exact .inl hq);have o2:(S3.more ns4).objs 2=some (gc g):=by rw[St.more_objs];exact p2
 have o7:(S3.more ns4).objs 7=some [x7,y7]:=by rw[St.more_objs];exact p7
 have hf4:(S3.more ns4).fl<=(S3.more ns4).nx:=by rw[St.more_fl,St.more_nx];omega
 generalize S3.more ns4=S4 at*;clear hFr3 hr3 hT3 hf3 p2 p7;simp (maxSteps:=1000000) (disch:=omega)only[↓pa,↓au,↓ax,pb,ah,ap,aq,ak,ad,aa,seval,al,di,hgl,hgt,o2,o7,h13a,pm hgp.1,pm hnp7];refine dx (yP K l hll hCf) (fun r3 ns4 hFr3 hr3=>?_);obtain⟨c34,t34,rfl,hc34,-⟩:=bu hr3;have hnp34:aX c34=true:=hFr3.np;have h19b:∀ st:St,az cf 19 [.list l.length c8 t8,.list l.length c34 t34] [] st=some (.bool true,st):=fun st=>h19 hll hCf hst8 hc34 hnp8 hnp34;have hT5:a8 (S4.more ns4) (aw [x7,y7]++aB (.list l.length c8 t8)++aB (.list D.length c9 t9)):=fo (cK hT4 hf4 ns4) (fun j=>by simp only[bt];omega) (fun q hq=>by rw[aG];exact .inl hq);have p2:(S4.more ns4).objs 2=some (gc g):=by rw[St.more_objs];exact o2
 have p7:(S4.more ns4).objs 7=some [x7,y7]:=by rw[St.more_objs];exact o7
 have hf5:(S4.more ns4).fl<=(S4.more ns4).nx:=by rw[St.more_fl,St.more_nx];omega
 generalize S4.more ns4=S5 at*;clear hFr3 hr3 hT4 hf4 o2 o7;simp (maxSteps:=1000000) (disch:=omega)only[↓pa,↓au,↓ax,pb,ah,ap,aq,ak,ad,aa,seval,al,di,hgl,hgt,p2,p7,h19b];have hz1:=Fk g 1;have hb1:ey (g.edges.map kK) (ep (g.nodes.map kJ) 1)<=1000000000000:=by omega
 have hm:=Oo (st:=S5) K 1 g hb1 hst7 hso7 hnp7 (fo hT5 (fun j=>by simp only[bt];omega) (fun q hq=>by simp[hq]));have e1:((1:Nat):Int)=1:=rfl;rw[e1]at hm;generalize ey (g.edges.map kK) (ep (g.nodes.map kJ) 1)=k2 at*;have hap:∀ q∈aB (.list l.length c8 t8)++aB (.list D.length c9 t9),q.1∉(aw [x7,y7]).map (·.1):=fun q hq=>rF (X:=[]) (B:=aw [x7,y7]) (Y:=aB (.list l.length c8 t8)++aB (.list D.length c9 t9)) (by simpa [bn]using hT5) q (by simpa using hq);have hk8:bY ((aw [x7,y7]).map (·.1)) (.list l.length c8 t8)= .list l.length c8 t8:=kN hso8 fun q hq=>hap q (by simp[hq]);have hk9:bY ((aw [x7,y7]).map (·.1)) (.list D.length c9 t9)= .list D.length c9 t9:=kN hso9 fun q hq=>hap q (by simp[hq]);have hkp:= @gU ((aw [x7,y7]).map (·.1)) _ hp;have hkd:= @gU ((aw [x7,y7]).map (·.1)) _ (fS D);have hT6:=nL (st:=S5) (A:=[]) (B:=aw [x7,y7]) (C:=aB (.list l.length c8 t8)++aB (.list D.length c9 t9)) (ns:=[]) (by simpa [bn]using hT5) hf5;refine⟨_,_,hm.1,?_⟩;have o2:(fA ((aw [x7,y7]).map (·.1)) [] S5).objs 2=some (gc g):=by rw[zR,p2];exact bX some (xN hgp)
 have hf6:(fA ((aw [x7,y7]).map (·.1)) [] S5).fl<=(fA ((aw [x7,y7]).map (·.1)) [] S5).nx:=hf5;have hT6:a8 (fA ((aw [x7,y7]).map (·.1)) [] S5) (aB (.list l.length c8 t8)++aB (.list D.length c9 t9)):=by simpa [cB]using hT6
 have hm2:=hm.2;generalize hJ7:(aw [x7,y7]).map (·.1)=J7 at*;generalize fA J7 [] S5=S6 at*;clear hT5 hm hf5 p2 p7 hap;have hkA:∀ {J:List Nat} {fr:Fr} {t:Nat},uN J fr t=bY J (fr t):=rfl;have hkF:∀ {f:Nat} {a9z:List CX} {d:Option Nat} {st:St} {fr:Fr},de cf (.call f a9z [0]) d st fr=uN (dn (a9z.map (·.ev fr)) [0] st) fr:=rfl;simp (maxSteps:=1000000) (disch:=omega)only[↓pa,↓au,↓ax,pb,ah,ap,aq,ak,ad,aa,seval,al,di,hgl,hgt,hkA,hkF,qQ,qO,pk,hm2,hk8,hk9,hkp,hkd,o2,bK];have hz2:=HD l k2;have hz3:fQ lc l=l.length+(l.map lc).sum:=rfl;have hL8:fK cc 12 l c8:=sb iC hst8 hnp8;have hmu:=FF (st:=S6) K k2 l (by omega) hso8 hL8 (fo hT6 (fun j=>by simp only[bt];omega) (fun q hq=>by simp[hq]));generalize fF (l.map i8) k2=k3 at*;refine um hmu (fun p8 ns5 hu hF5 hv htk=>?_);have hap:∀ q∈aB (.list D.length c9 t9),q.1∉(aB (.list l.length c8 t8)).map (·.1):=fun q hq=>rF (X:=[]) (B:=aB (.list l.length c8 t8)) (Y:=aB (.list D.length c9 t9)) (by simpa using hT6) q (by simpa using hq);have hkpu:= @wu l.length c8 [I k2] t8 (I k3) p8 (fA ((aB (.list l.length c8 t8)).map (·.1)) ns5 S6) S6 htk _ hp;have hkpd:= @wu l.length c8 [I k2] t8 (I k3) p8 (fA ((aB (.list l.length c8 t8)).map (·.1)) ns5 S6) S6 htk _ (fS D);have hkp9:kU (some (I k3,p8,fA ((aB (.list l.length c8 t8)).map (·.1)) ns5 S6)) [.list l.length c8 t8,I k2] S6 (.list D.length c9 t9)= .list D.length c9 t9:=by
  by_cases ho:∃ k e,t8= .own k e
  ·obtain⟨k,e,rfl⟩:=ho;rw[Ba,htk];exact FL (u:=⟨(aB (.list l.length c8 (.own k e))).map (·.1),k,l.length,jb l.length p8⟩) (by simp[aB]) hso9 hap
  ·rw[Bb fun k e h=>ho ⟨k,e,h⟩,htk];exact kN hso9 hap
 have hT7:=nL (st:=S6) (A:=[]) (B:=aB (.list l.length c8 t8)) (C:=aB (.list D.length c9 t9)) (ns:=ns5) (by simpa using hT6) hf6;have hT7:a8 (fA ((aB (.list l.length c8 t8)).map (·.1)) ns5 S6) ([]++aB (.list D.length c9 t9)++[]):=fo hT7 (fun j=>by simp only[bt,ck];omega) (fun q hq=>by simp at hq;simp[hq]);have p2:(fA ((aB (.list l.length c8 t8)).map (·.1)) ns5 S6).objs 2=some (gc g):=by rw[zR,o2];exact bX some (xN hgp)
 have hf7:(fA ((aB (.list l.length c8 t8)).map (·.1)) ns5 S6).fl<=(fA ((aB (.list l.length c8 t8)).map (·.1)) ns5 S6).nx:=by show S6.fl<=(S6.more ns5).nx;rw[St.more_nx];omega
 generalize fA ((aB (.list l.length c8 t8)).map (·.1)) ns5 S6=S7 at*;clear hT6 hf6 o2 hap;simp (maxSteps:=1000000) (disch:=omega)only[↓pa,↓au,↓ax,pb,ah,ap,aq,ak,ad,aa,seval,al,di,hgl,hgt,hkA,hkF,qQ,qO,pk,hm2,hk8,hk9,hkp,hkd,p2,bK,hu,hkpu,hkpd,hkp9,qk,h19a];have hbe:=Bq (l:=D) 1 hsm;have hb3:fF (D.map i8) 1<=1000000000000:=by omega
 have hL9:fK cc 12 D c9:=sb iC hst9 hnp9;have hmv:=FF (st:=S7) K 1 D hb3 hso9 hL9 (by simpa using hT7);rw[e1]at hmv;refine um hmv (fun p ns6 hu9 hF6 hv9 htk9=>?_);obtain⟨q9,z1,z2,z3,z4,z5⟩:=Kh (r:=I (fF (D.map i8) 1:Nat)) (s:=fA ((aB (.list D.length c9 t9)).map (·.1)) ns6 S7) (sz:=12) hso9 hnp9 hL9.len (by decide) htk9 hF6 (fun e=>by
  have h0:D.length=0:=by have:=hL9.len;rw[e]at this;simp at this;omega
  have h1:D=[]:=cq h0;rw[hv9,h1];rfl) hT7 hf7
 rw[hv9]at z4;obtain⟨d9,u9,rfl,hst9',-⟩:=bu z4;have hkpu9:= @wu D.length c9 [I 1] t9 (I (fF (D.map i8) 1:Nat)) p (fA ((aB (.list D.length c9 t9)).map (·.1)) ns6 S7) S7 htk9 _ hp;have hkpd9:= @wu D.length c9 [I 1] t9 (I (fF (D.map i8) 1:Nat)) p (fA ((aB (.list D.length c9 t9)).map (·.1)) ns6 S7) S7 htk9 _ (fS D);have o2:(fA ((aB (.list D.length c9 t9)).map (·.1)) ns6 S7).objs 2=some (gc g):=by
  rw[zR,p2];exact bX some (xN hgp)
 have hlg:(D.map i8).length=D.length:=bJ _;have h21:∀ st:St,az cf 21 [.list D.length d9 u9,I 1] [] st=some (I (fF (D.map i8) 1:Nat),st):=fun st=>by
  have hpl:dq (.list D.length ((pT (D.map i8) 1).flatMap cc) .no):=gk (fP cc gz _);rw[tA (bs:=[.list D.length ((pT (D.map i8) 1).flatMap cc) .no,I 1]) (by simp only[bg,cJ,aH,hst9']) (by have:aX d9=true:=z3;simp only[cT,dd,bF,aH,this,ay]) (by simp[hpl,bh])];have:=ML (st:=st) K 1 (D.map i8) hb3;rw[hlg,e1]at this;exact this
 simp (maxSteps:=1000000) (disch:=omega)only[↓pa,↓au,↓ax,pb,ah,ap,aq,ak,ad,aa,seval,al,di,hgl,hgt,hkA,hkF,qQ,qO,pk,hm2,hk8,hk9,hkp,hkd,o2,bK,hu,hkpu,hkpd,hkp9,hu9,z1,hkpu9,hkpd9,qk,h21];generalize fA ((aB (.list D.length c9 t9)).map (·.1)) ns6 S7=S8 at*;refine dx (D6 K g hFa) (fun r4 ns7 hFr4 hr4=>?_);obtain⟨c35,rfl,hc35⟩:=fi hr4;simp (maxSteps:=1000000) (disch:=omega)only[↓pa,↓au,↓ax,pb,ah,ap,aq,ak,ad,aa,seval,al,di,hgl,hgt,hkA,hkF,qQ,qO,pk,hm2,hk8,hk9,hkp,hkd,bK,hu,hkpu,hkpd,hkp9,hu9,z1,hkpu9,hkpd9,qk,h21];refine dx (yP K l hll hCf) (fun r5 ns8 hFr5 hr5=>?_);obtain⟨c36,t36,rfl,hc36,-⟩:=bu hr5;have hnp36:aX c36=true:=hFr5.np;simp (maxSteps:=1000000) (disch:=omega)only[↓pa,↓au,↓ax,pb,ah,ap,aq,ak,ad,aa,seval,al,di,hgl,hgt,hkA,hkF,qQ,qO,pk,hm2,hk8,hk9,hkp,hkd,bK,hu,hkpu,hkpd,hkp9,hu9,z1,hkpu9,hkpd9,qk,h21];refine dx (h37 hc35 hc36 hFr4.np hnp36) (fun r10 ns9 hFr10 hr10=>?_);obtain⟨c10,t10,rfl,hst10,-⟩:=bu hr10;have hnp10:aX c10=true:=hFr10.np;have h19c:∀ st,az cf 19 [.list D.length c10 t10,HX D] [] st=some (.bool true,st):=fun st=>h19 (by omega) hDfit hst10 hDs hnp10 hDp;simp (maxSteps:=1000000) (disch:=omega)only[↓pa,↓au,↓ax,pb,ah,ap,aq,ak,ad,aa,seval,al,di,hgl,hgt,hkA,hkF,qQ,qO,pk,hm2,hk8,hk9,hkp,hkd,bK,hu,hkpu,hkpd,hkp9,hu9,z1,hkpu9,hkpd9,qk,h21,h19c]
end Go.PM
