/- A part of the proof. Conditions: none. -/
import Derived.Test.YtdpamjikmlbmhaaGreatDoorPD
import Derived.Lib.ItoaMem
import Derived.Lib.ParseIntB
import Derived.Lib.ItoaLen
import Derived.Lib.ParseIntBTie
import Derived.Laws.BitsLemmas
set_option linter.all false
set_option maxHeartbeats 9999999
open Nat (reduceEqDiff reduceAdd reduceLeDiff reduceLT reduceMul)
namespace Go.PM
def vJ(sz:Nat)(a:PV)(vs:Option (List PV))(st:St):Option (PV×St):=match a,vs with
 | .ptr s off,some vs=>match st.objs s with
  |some cs=>if vs.length=sz/\off+sz<=cs.length then some (.hole,bP st s (bD cs off vs))else none
  |none=>none
 | .iptr cs off (.el k e n),some vs=>
  if vs.length=sz/\off+sz<=cs.length/\0<n/\st.cnt k=n/\k<st.nx/\st.fl<=k/\dw ([k].contains ·) cs=true/\dw ([k].contains ·) vs=true then
   some (.hole,{st with objs:=pU (gT cs off k e n vs) st.objs,maps:=rz (gT cs off k e n vs) st.maps})
  else none
 |_,_=>none
def Dx(u:jX)(st:St):St:={st with objs:=pU u st.objs,maps:=rz u st.maps}
def OE(u:jX)(fr:Fr):Fr:=fun t=>fJ u (fr t)
def Ac{sz off k e n:Nat}{cs vs:List PV}{st:St}(h1:vs.length=sz)(h2:off+sz<=cs.length)(h3:0<n)(h4:st.cnt k=n)(h5:k<st.nx)(h6:st.fl<=k)(h7:dw ([k].contains ·) cs=true)(h8:dw ([k].contains ·) vs=true):
  vJ sz (.iptr cs off (.el k e n)) (some vs) st=some (.hole,Dx (gT cs off k e n vs) st):=by
 simp only[vJ];rw[ak ⟨h1,h2,h3,h4,h5,h6,h7,h8⟩];rfl
def uR(o:Option (PV×PV×St))(as:List PV)(st:St):Option (PV×St):=match o with
 |some (r,p',st')=>if oH as=true then some (r,IV p' as st st')else none
 |none=>none
def Nx{J:List Nat}{k n e:Nat}{p:PV}{cs:List PV}:fJ ⟨J,k,n,p⟩ (.list n cs (.own k e))=p:=by simp[fJ,aB.isOwn]
def zO{cs cs' vs:List PV}{off k e e' n:Nat}:fJ (gT cs off k e n vs) (.list n cs' (.own k e'))= .list n (bD cs off vs) (.own k e):=by simp[fJ,aB.isOwn,gT]
def Mm{u:jX}{n:Nat}{cs:List PV}{k e:Nat}(h:k≠u.k)(hJ:u.J.contains k=false):fJ u (.list n cs (.own k e))= .list n (ik u cs) (.own k e):=by
 have h1:(aB.own k e).isOwn u.k=false:=by simp[aB.isOwn,h]
 have h2:(aB.own k e).free (u.J.contains ·)=true:=by simp only[aB.free,aB.of,hJ,Bool.not_false]
 rw[fJ,h1,g8,ad (by simp),ak h2]
def free_none{K:Nat->Bool}{t:aB}(h:t.of=none):t.free K=true:=by simp[aB.free,h]
mutual
theorem xh(u:jX)(hu:u.J.contains u.k=true):∀ p:PV,tf (u.J.contains ·) p=true->fJ u p=p
 | .list n cs t,h=>by
  simp only[tf,ae]at h;have ih:=oM u hu cs h.2;simp only[fJ,ih];have:t.isOwn u.k=false:=by
   cases t with
   |own j e=>
    simp only[aB.isOwn,beq_eq_false_iff_ne,du];rintro rfl;have:=h.1;simp only[aB.free,aB.of,hu]at this;cases this
   |_=>rfl
  rw[this,ad (by simp),ak h.1]
 | .iptr cs o t,h=>by
  simp only[tf,ae]at h;have ih:=oM u hu cs h.2;simp only[fJ,ih];rw[ak h.1]
 | .agg cs,h=>by simp only[tf]at h;simp only[fJ,oM u hu cs h]
 | .tup cs,h=>by simp only[tf]at h;simp only[fJ,oM u hu cs h]
 | .fn g cs,h=>by simp only[tf]at h;simp only[fJ,oM u hu cs h]
 | .any,_| .hole,_| .int _ _,_| .bool _,_| .str _,_| .nilp,_| .nili,_| .err,_| .ptr _ _,_| .osl _ _ _ _,_| .mp _,_=>rfl
theorem oM(u:jX)(hu:u.J.contains u.k=true):∀ ps:List PV,dw (u.J.contains ·) ps=true->ik u ps=ps
 | [],_=>rfl
 |p::ps,h=>by
  simp only[dw,ae]at h;simp only[ik,xh u hu p h.1,oM u hu ps h.2]
end
def KI{u:jX}(hu:u.J.contains u.k=true){p:PV}(h:aJ p=true)(hk:∀ q∈ar p,q.1∉u.J):fJ u p=p:=
 xh u hu p (sb _ p h fun q hq=>by simpa using hk q hq)
def tv{u:jX}(hu:u.J.contains u.k=true){ps:List PV}(h:aY ps=true)(hk:∀ q∈al ps,q.1∉u.J):ik u ps=ps:=
 oM u hu ps (kS _ ps h fun q hq=>by simpa using hk q hq)
def KJ{u:jX}(hu:u.J.contains u.k=true){p:PV}(h:cT p):fJ u p=p:=by
 have:=pZ (u.J.contains ·) p;rw[h.2.1]at this;exact xh u hu p this
def vi(u:jX):∀ a b:List PV,ik u (a++b)=ik u a++ik u b
 | [],_=>rfl
 |x::a,b=>by simp only[a8,ik,vi u a b]
def dY{st:St}{l l':List (Nat×Nat)}(h:aL st l)(h1:∀ k,ck k l'<=ck k l)(h2:∀ q∈l',q∈l):aL st l':=
 ⟨fun k=>dQ (h1 k) (h.1 k),fun q hq=>h.2 q (h2 q hq)⟩
def l7{st:St}{X B Y:List (Nat×Nat)}(h:aL st (X++B++Y)):∀ q∈X++Y,q.1∉B.map (·.1):=by
 intro q hq hb;obtain⟨x,hx,he⟩:=cA.1 hb;have h1:=h.1 q.1;rw[bh,bh]at h1;have h2:=fT.2 ⟨x,hx,he⟩;have h3:0<ck q.1 X\/0<ck q.1 Y:=(ay.1 hq).imp (fun hq=>fT.2 ⟨q,hq,rfl⟩) (fun hq=>fT.2 ⟨q,hq,rfl⟩);omega
def zV(t:Nat)(Q:Int->PV->Prop)(e:Ex)(y:Fr×St):Prop:=kE e/\∃ k,y.1 t=I k/\kj (y.1 0)=true/\np (y.1 0)=true/\aJ (y.1 0)=true/\aL y.2 (ar (y.1 0))/\Q k (aC (y.1 0))
def NH(Q:Int->PV->Prop)(r p:PV)(st:St):Prop:=∃ k,r=I k/\kj p=true/\np p=true/\aJ p=true/\aL st (ar p)/\Q k (aC p)
def I5{t:Nat}{Q:Int->PV->Prop}{fr:Fr}{st:St}:zV t Q .ret (fr,st)↔NH Q (fr t) (fr 0) st:=
 ⟨fun h=>h.2,fun h=>⟨nn.2 trivial,h⟩⟩
section
variable {cf:aA} {f:Nat} {F:bp} {st:St} {n:Nat} {cs:List PV} {tk:aB}
def Cp{as:List PV}{t:Nat}(hown:F.own=true)(hres:F.res=[.tmp t,.tmp 0])(N:Nat){ns:List Nat}{Q:Int->PV->Prop}(hnt:as.length<=F.nt)(h:Wp cf N F.body (eu as,bn ns []) (zV t Q)):
  ∃ k p ns',fO cf N F as ns []=some (.tup [I k,p],ns',[])/\cR 0 ns' p/\(∀ nx,cR nx ns' (ren (fun k=>some (nx+k)) false p))/\Q k (aC p):=by
 obtain⟨e,⟨fr,s1⟩,hev,he,k,hk,hr,hp,hso,htk,hQ⟩:=h;have hf:gN F 0 fr s1=some (.tup [I k,ren (aT ((ar (fr 0)).map (·.1))) false (fr 0)],(ar (fr 0)).map (·.2),[]):=by
  have h0:dl s1 (List.range 0)=some []:=rfl;have hps:ff fr s1 F.res=some [I k,fr 0]:=by rw[hres];simp only[ff,mR];rw[show fr t=I k from hk]
  have hm:=mQ F.nk s1 [I k,fr 0] (by
   intro p hp;simp at hp;rcases hp with rfl|rfl
   ·rfl
   ·exact hr)
  have hnp:np (.tup [I k,fr 0])=true:=by
   show aI [I k,fr 0]=true;have hp:np (fr 0)=true:=hp;simp only[az,hp,ap]
  have htt:ar (.tup [I k,fr 0])=ar (fr 0):=by simp only[ar,al,aN,aD]
  have:=uA (r0:= .tup [I k,fr 0]) (st1:=s1) (by rw[htt];exact htk);rw[htt]at this;simp only[gN,hps,h0,hm,fw,hnp,cU,ap,if_true,hown,this];rfl
 refine⟨k,_,_,?_,(ld hso hp htk.1 0).2,fun nx=>(ld hso hp htk.1 nx).1,by rw[gt];exact hQ⟩;unfold fO;rw[ak ⟨hnt,aM _⟩,hev];cases e with
 |go=>exact hf
 |ret=>exact hf
 |exit i=>exact he.elim
def wz(K:iF cf)(hT:T (kF f)=some F){t:Nat}(hres:F.res=[.tmp t,.tmp 0])(hown:F.own=true)(hs:aJ (.list n cs tk)=true)(hn:aI cs=true)(hk:aL st (ar (.list n cs tk)))
  (hnt:2<=F.nt) (N:Nat) {k k':Int} {v:PV}
  (h:∀ cs0 tk0 ns,aF cs0=aF cs->cs0.length=cs.length->aI cs0=true->aJ (.list n cs0 tk0)=true->aL (bn ns []) (ar (.list n cs0 tk0))->Wp cf N F.body (eu [.list n cs0 tk0,I k],bn ns []) (zV t fun j p=>j=k'/\p=v)):
  ∃ p ns,uP cf f [.list n cs tk,I k] st=some (I k',p,dI ((ar (.list n cs tk)).map (·.1)) ns st)/\cR st.nx ns p/\aC p=v/\cD [.list n cs tk,I k] [0] st=(ar (.list n cs tk)).map (·.1):=by
 have hn':np (.list n cs tk)=true:=hn;have hF0:=(ld hs hn' hk.1 0).2;rw[gK]at hF0;have hp:aI (aZ (aT ((ar (.list n cs tk)).map (·.1))) false cs)=true:=by rw[aI,fA];exact hn
 have hTB:aL (bn ((ar (.list n cs tk)).map (·.2)) []) (ar (.list n (aZ (aT ((ar (.list n cs tk)).map (·.1))) false cs) (tk.ren (aT ((ar (.list n cs tk)).map (·.1))) false))):=by
  rw[hF0.tk];exact⟨fun j=>nM j _,fun q hq=>by have:=jC hq;exact⟨by simpa [bn]using this.2.1,by simpa [bn]using this.2.2,aM _⟩⟩
 obtain⟨j,p,ns,hrun,hFr,hF,hQ1,hQ2⟩:=Cp hown hres N (as:=[.list n (aZ (aT ((ar (.list n cs tk)).map (·.1))) false cs) (tk.ren (aT ((ar (.list n cs tk)).map (·.1))) false),I k]) hnt (h _ _ _ (eG _ _) (fW _ _ _) hp hF0.so hTB);have hcf:=K (kF f) F hT N _ _ _ _ hrun;rw[<-gK]at hcf;subst hQ1;have hst:aJ (.tup [I j,p])=true:=by simp only[aJ,aY,hFr.so,ap]
 obtain⟨h1,h2⟩:=Ko (rest:=[I k]) hn' hk rfl rfl hcf hst;refine⟨ren (fun k=>some (st.nx+k)) false p,ns,?_,hF st.nx,by rw[gt];exact hQ2,h2⟩;unfold uP;rw[h1];rfl
def qL{v q:PV}{k':Int}{J:List Nat}{mk:PV->St->Fr×St}{A:Fr×St->Prop}{n:Nat}{cs:List PV}{tk:aB}{X:Prop}
  (h:∃ p ns,uP cf f [.list n cs tk,q] st=some (I k',p,dI J ns st)/\cR st.nx ns p/\aC p=v/\X) (k:∀ p ns,uP cf f [.list n cs tk,q] st=some (I k',p,dI J ns st)->cR st.nx ns p->aC p=v->X->A (mk (I k') (dI J ns st))):cP (uR (uP cf f [.list n cs tk,q] st) [.list n cs tk,q] st) mk A:=by
 obtain⟨p,ns,hu,hF,hs,hX⟩:=h;refine⟨I k',dI J ns st,by rw[hu];rfl,k p ns hu hF hs hX⟩
end
def zt{n:Nat}{cs rest:List PV}{k e:Nat}{r p:PV}{s st:St}{q:PV}:kU (some (r,p,s)) (.list n cs (.own k e)::rest) st q=fJ ⟨cD (.list n cs (.own k e)::rest) [0] st,k,n,eP n p⟩ q:=rfl
def zu{n:Nat}{cs rest:List PV}{tk:aB}{o:Option (PV×PV×St)}{st:St}{q:PV}(h:∀ k e,tk≠ .own k e):kU o (.list n cs tk::rest) st q=bV (cD (.list n cs tk::rest) [0] st) q:=by
 cases tk with
 |own k e=>exact absurd rfl (h k e)
 |_=>cases o<;>rfl
def uT{q:PV}:bV [] q=q:=by
 unfold bV;have:tf (([]:List Nat).contains ·) q=true:=by
  have:=mP q;have e:(fun x=>([]:List Nat).contains x)=fun _=>false:=by funext x;rfl
  rw[e];exact this
 rw[ak this]
def vM{n:Nat}{cs:List PV}{tk:aB}(hs:aJ (.list n cs tk)=true)(h:∀ k e,tk≠ .own k e):cs=[]:=by
 simp only[aJ,ae]at hs;cases tk with
 |own k e=>exact absurd rfl (h k e)
 |sub k=>simp at hs
 |el k e n=>simp at hs
 |_=>simpa using hs.1
def ur{n:Nat}{cs:List PV}{tk:aB}(hs:aJ (.list n cs tk)=true)(h:∀ k e,tk≠ .own k e):ar (.list n cs tk)=[]:=by
 have:=vM hs h;subst this;cases tk with
 |own k e=>exact absurd rfl (h k e)
 |_=>rfl
section
variable {n sz:Nat} {cs rest:List PV} {tk:aB} {r p':PV} {s st:St} {ns:List Nat}
def H5(hs:aJ (.list n cs tk)=true)(hn:aI cs=true)(hl:cs.length=n*sz)(h0:0<sz)(ht:cD (.list n cs tk::rest) [0] st=(ar (.list n cs tk)).map (·.1))(hF:cR st.nx ns p')(hz:cs=[]->aC p'= .list 0 [] .no){X Y:List (Nat×Nat)}(hk:aL st (X++ar (.list n cs tk)++Y))(hf:st.fl<=st.nx):
  ∃ q,kU (some (r,p',s)) (.list n cs tk::rest) st (.list n cs tk)=q/\aJ q=true/\np q=true/\aC q=aC p'/\aL (dI ((ar (.list n cs tk)).map (·.1)) ns st) (X++ar q++Y):=by
 have hm:=kr (ns:=ns) hk hf;rw[<-hF.tk]at hm;have hn0:cs=[]↔n=0:=by
  constructor
  ·rintro rfl;simp only[aO]at hl;rcases iB n with h|h
   ·exact h
   ·have:=Nat.mul_pos h h0;omega
  ·rintro rfl;exact bF (by rw[hl,Nat.zero_mul])
 have drop:aL (dI ((ar (.list n cs tk)).map (·.1)) ns st) (X++[]++Y):=dY hm (fun k=>by rw[bh,bh,bh,bh];simp only[ck];omega) (fun q hq=>by simp at hq ⊢;rcases hq with h|h<;>simp[h])
 by_cases ho:∃ k e,tk= .own k e
 ·obtain⟨k,e,rfl⟩:=ho;rw[zt,Nx];refine⟨_,rfl,?_⟩;unfold eP;by_cases h:n=0
  ·rw[ak h];exact⟨rfl,rfl,(hz (hn0.2 h)).symm,drop⟩
  ·rw[ad h];exact⟨hF.so,hF.np,rfl,hm⟩
 ·have ho':∀ k e,tk≠ .own k e:=fun k e h=>ho ⟨k,e,h⟩;have hc:=vM hs ho';have htk:=ur hs ho';rw[zu ho',ht,htk,bM,uT];refine⟨_,rfl,hs,hn,?_,?_⟩
  ·rw[hz hc,eF,hc,hn0.1 hc];rfl
  ·rw[htk]at drop ⊢;exact drop
def N2(hs:aJ (.list n cs tk)=true)(hn:aI cs=true)(hl:cs.length=n*sz)(h0:0<sz)(ht:cD (.list n cs tk::rest) [0] st=(ar (.list n cs tk)).map (·.1))(hF:cR st.nx ns p')(hz:cs=[]->aC p'= .list 0 [] .no){X Y:List (Nat×Nat)}{N K E:Nat}{pre post:List PV}
  (hso:aJ (.list N (pre++ .list n cs tk::post) (.own K E))=true) (hk:aL st (X++ar (.list N (pre++ .list n cs tk::post) (.own K E))++Y)) (hf:st.fl<=st.nx):
  ∃ q,kU (some (r,p',s)) (.list n cs tk::rest) st (.list N (pre++ .list n cs tk::post) (.own K E))= .list N (pre++q::post) (.own K E)/\aJ (.list N (pre++q::post) (.own K E))=true/\aJ q=true/\np q=true/\aC q=aC p'/\aL (dI ((ar (.list n cs tk)).map (·.1)) ns st) (X++ar (.list N (pre++q::post) (.own K E))++Y):=by
 have hsplit:X++ar (.list N (pre++ .list n cs tk::post) (.own K E))++Y=(X++((K,N)::al pre))++ar (.list n cs tk)++(al post++Y):=by
  rw[ar,dN,al];simp only[bl,a8,aN]
 have hk2:=hk;rw[hsplit]at hk2;obtain⟨q,h1,h2,h3,h4,h5⟩:=H5 (r:=r) (s:=s) hs hn hl h0 ht hF hz hk2 hf;simp only[aJ,ey,aY,dj,ae]at hso;have hap:=l7 hk2;refine⟨q,?_,?_,h2,h3,h4,?_⟩
 ·by_cases ho:∃ k e,tk= .own k e
  ·obtain⟨k,e,rfl⟩:=ho;rw[zt]at h1 ⊢;rw[ht]at h1 ⊢;have hJ:((ar (.list n cs (.own k e))).map (·.1)).contains k=true:=by simp[ar]
   have hK:K∉(ar (.list n cs (.own k e))).map (·.1):=hap (K,N) (by simp);have hKk:K≠k:=by rintro rfl;exact hK (by simp[ar])
   rw[Mm (u:=⟨(ar (.list n cs (.own k e))).map (·.1),k,n,eP n p'⟩) hKk (by simpa using hK),vi,tv (u:=⟨(ar (.list n cs (.own k e))).map (·.1),k,n,eP n p'⟩) hJ hso.1 (fun x hx=>hap x (by simp[hx]))];simp only[ik];rw[tv (u:=⟨(ar (.list n cs (.own k e))).map (·.1),k,n,eP n p'⟩) hJ hso.2.2 (fun x hx=>hap x (by simp[hx])),h1]
  ·have ho':∀ k e,tk≠ .own k e:=fun k e h=>ho ⟨k,e,h⟩;have htk:=ur hs ho';rw[zu ho',ht,htk,bM,uT]at h1 ⊢;rw[h1]
 ·simp only[aJ,ey,aY,hso.1,h2,hso.2.2,ap]
 ·have:X++ar (.list N (pre++q::post) (.own K E))++Y=(X++((K,N)::al pre))++ar q++(al post++Y):=by
   rw[ar,dN,al];simp only[bl,a8,aN]
  rw[this];exact h5
end
section
variable {cf:aA} {f:Nat} {st:St} {mk:PV->St->Fr×St} {A:Fr×St->Prop}
def nQ{n sz N K E:Nat}{cs vs pre post:List PV}{tk:aB}{q:PV}{k':Int}{X Y:List (Nat×Nat)}
  (h:∃ p ns,uP cf f [.list n cs tk,q] st=some (I k',p,dI ((ar (.list n cs tk)).map (·.1)) ns st)/\cR st.nx ns p/\aC p= .list n vs .no/\cD [.list n cs tk,q] [0] st=(ar (.list n cs tk)).map (·.1))
  (hl:cs.length=n*sz) (h0:0<sz) (hz:n=0->vs=[]) (hso:aJ (.list N (pre++ .list n cs tk::post) (.own K E))=true) (hnp:aI (pre++ .list n cs tk::post)=true) (hk:aL st (X++ar (.list N (pre++ .list n cs tk::post) (.own K E))++Y)) (hf:st.fl=0)
  (k:∀ p ns c,uP cf f [.list n cs tk,q] st=some (I k',p,dI ((ar (.list n cs tk)).map (·.1)) ns st)->kU (some (I k',p,dI ((ar (.list n cs tk)).map (·.1)) ns st)) [.list n cs tk,q] st (.list N (pre++ .list n cs tk::post) (.own K E))= .list N (pre++c::post) (.own K E)->
   aJ (.list N (pre++c::post) (.own K E))=true->aI (pre++c::post)=true->aC c= .list n vs .no->aL (dI ((ar (.list n cs tk)).map (·.1)) ns st) (X++ar (.list N (pre++c::post) (.own K E))++Y)->A (mk (I k') (dI ((ar (.list n cs tk)).map (·.1)) ns st))):cP (uR (uP cf f [.list n cs tk,q] st) [.list n cs tk,q] st) mk A:=by
 have hs1:aJ (.list n cs tk)=true:=by
  simp only[aJ,ey,aY,ae]at hso;simpa [aJ]using hso.2.2.1
 have hn1:aI cs=true:=by
  have:np (.list n cs tk)=true:=fm hnp (by simp);exact this
 refine qL h fun p ns hu hF hv ht=>?_;have hz':cs=[]->aC p= .list 0 [] .no:=by
  intro e;have hn0:n=0:=by
   subst e;simp only[aO]at hl;rcases iB n with h|h
   ·exact h
   ·have:=Nat.mul_pos h h0;omega
  rw[hv,hz hn0,hn0]
 obtain⟨c,k1,k2,k3,k4,k5,k6⟩:=N2 (r:=I k') (s:=dI ((ar (.list n cs tk)).map (·.1)) ns st) (sz:=sz) hs1 hn1 hl h0 ht hF hz' hso hk (by omega);refine k p ns c hu k1 k2 ?_ (by rw[k5,hv]) k6;refine lS fun x hx=>?_;rcases ay.1 hx with h|h
 ·exact fm hnp (by simp[h])
 ·rcases aX.1 h with rfl|h
  ·exact k4
  ·exact fm hnp (by simp[h])
end
def MQ{o:Option (PV×PV×St)}{as:List PV}{st:St}{k:IntKind}{n:Int}:kU o as st (.int k n)= .int k n:=by
 unfold kU;split<;>rfl
def LM{o:Option (PV×PV×St)}{as:List PV}{st:St}{b:Bool}:kU o as st (.bool b)= .bool b:=by
 unfold kU;split<;>rfl
def MP{o:Option (PV×PV×St)}{as:List PV}{st:St}{s k:Nat}:kU o as st (.ptr s k)= .ptr s k:=by
 unfold kU;split<;>rfl
def JZ{n:Nat}{cs rest:List PV}{tk:aB}{r p':PV}{s st:St}(ht:cD (.list n cs tk::rest) [0] st=(ar (.list n cs tk)).map (·.1)){q:PV}(h:cT q):kU (some (r,p',s)) (.list n cs tk::rest) st q=q:=by
 by_cases ho:∃ k e,tk= .own k e
 ·obtain⟨k,e,rfl⟩:=ho;rw[zt,ht];exact KJ (u:=⟨(ar (.list n cs (.own k e))).map (·.1),k,n,eP n p'⟩) (by simp[ar]) h
 ·rw[zu fun k e h=>ho ⟨k,e,h⟩];exact jU h
section
variable {st:St} {mk:PV->St->Fr×St} {A:Fr×St->Prop}
def eY{n K E off:Nat}{pre post:List PV}{c v:PV}{X Y:List (Nat×Nat)}(hoff:off=pre.length)(hn:0<n)(hs:aJ (.list n (pre++c::post) (.own K E))=true)(hnp:aI (pre++c::post)=true)(hk:aL st (X++ar (.list n (pre++c::post) (.own K E))++Y))(hv:aJ v=true/\ar v=[]/\np v=true)
  (k:aJ (.list n (pre++v::post) (.own K E))=true->aI (pre++v::post)=true->aL (Dx (gT (pre++c::post) off K E n [v]) st) (X++ar (.list n (pre++v::post) (.own K E))++Y)->A (mk .hole (Dx (gT (pre++c::post) off K E n [v]) st))):
  cP (vJ 1 (.iptr (pre++c::post) off (.el K E n)) (some [v]) st) mk A:=by
 have hK:=hk.2 (K,n) (by simp[ar]);have hsc:aY (pre++c::post)=true:=by simpa [aJ]using hs
 have hnotin:∀ q∈al (pre++c::post),q.1≠K:=by
  intro q hq he;have h1:=hk.1 K;rw[bh,bh,ar,bh]at h1;have h2:=fT.2 ⟨q,hq,he⟩;simp only[ck,if_true]at h1;omega
 refine⟨_,_,Ac rfl (by simp[hoff]) hn hK.2.1 hK.1 hK.2.2 (kS _ _ hsc fun q hq=>by simpa using hnotin q hq) (by have:=sb ([K].contains ·) v hv.1 (by rw[hv.2.1];simp);simp only[dw,this,ap]),k ?_ ?_ ?_⟩
 ·simp only[ey,aY,ae]at hsc;simp only[aJ,ey,aY,hsc.1,hv.1,hsc.2.2,ap]
 ·have e1:aI pre=true:=lS fun q hq=>fm hnp (by simp[hq]);have e2:aI (v::post)=true:=lS fun q hq=>by
   rcases aX.1 hq with rfl|h
   ·exact hv.2.2
   ·exact fm hnp (by simp[h])
  exact io e1 e2
 ·have:aL st (X++ar (.list n (pre++v::post) (.own K E))++Y):=dY hk (fun q=>by simp only[ar,dN,al,hv.2.1,bh,ck];omega) (fun q hq=>by
   simp only[ar,dN,al,hv.2.1,ay,aX,eK,or_false,aN]at hq ⊢;rcases hq with(h|h|h|h)|h<;>simp[h])
  exact this
def gD{n K E E' off:Nat}{pre post cs':List PV}{c v:PV}(hoff:off=pre.length):fJ (gT (pre++c::post) off K E n [v]) (.list n cs' (.own K E'))= .list n (pre++v::post) (.own K E):=by
 rw[zO,hoff];congr 1;simp[bD]
end
def dz:
  (∀ {cf:aA} {fr:Fr} {st:St} {d:Option Nat} {sz:Nat} {a x:CX},aw cf fr st d (.stx sz a x)=vJ sz (a.ev fr) (cellsOf (x.ev fr)) st)/\
  (∀ {cf:aA} {fr:Fr} {st:St} {d:Option Nat} {f:Nat} {as:List CX},aw cf fr st d (.callU f as)=uR (uP cf f (as.map (·.ev fr)) st) (as.map (·.ev fr)) st)/\
  (∀ {cf:aA} {fr:Fr} {st:St} {d:Option Nat} {sz:Nat} {a x:CX},cJ cf (.stx sz a x) d st fr=uS (a.ev fr) (cellsOf (x.ev fr)) fr)/\
  (∀ {cf:aA} {fr:Fr} {st:St} {d:Option Nat} {f:Nat} {as:List CX},cJ cf (.callU f as) d st fr=Gl (uP cf f (as.map (·.ev fr)) st) (as.map (·.ev fr)) st fr)/\
  (∀ {cs vs:List PV} {off k e n:Nat} {fr:Fr},uS (.iptr cs off (.el k e n)) (some vs) fr=OE (gT cs off k e n vs) fr)/\(∀ {s off:Nat} {vs:Option (List PV)} {fr:Fr},uS (.ptr s off) vs fr=fr)/\
  (∀ {u:jX} {fr:Fr} {t:Nat},OE u fr t=fJ u (fr t))/\(∀ {o:Option (PV×PV×St)} {as:List PV} {st:St} {fr:Fr} {t:Nat},Gl o as st fr t=kU o as st (fr t))/\
  (∀ {u:jX} {k:IntKind} {n:Int},fJ u (.int k n)= .int k n)/\(∀ {u:jX} {b:Bool},fJ u (.bool b)= .bool b)/\(∀ {u:jX} {s:ByteArray},fJ u (.str s)= .str s)/\(∀ {u:jX} {s o:Nat},fJ u (.ptr s o)= .ptr s o)/\
  (∀ {n k e:Nat},(aB.own k e).elt n= .el k e n)/\(∀ {u:jX} {st:St} {s:Nat},(Dx u st).objs s=(st.objs s).map fun c=>ik u c)/\
  (∀ {cf:aA} {fr:Fr} {x y:CX} {sz:Nat},bc fr (.stx sz x y)=[])/\(∀ {o:Option (PV×PV×St)} {as:List PV} {st:St} {k:IntKind} {n:Int},kU o as st (.int k n)= .int k n)/\(∀ {o:Option (PV×PV×St)} {as:List PV} {st:St} {b:Bool},kU o as st (.bool b)= .bool b)/\(∀ {o:Option (PV×PV×St)} {as:List PV} {st:St} {s k:Nat},kU o as st (.ptr s k)= .ptr s k)/\(∀ {t:Nat} {Q:Int->PV->Prop} {fr:Fr} {st:St},zV t Q .ret (fr,st)↔NH Q (fr t) (fr 0) st):=by
 refine⟨?_,?_,?_,?_,rfl,?_,rfl,rfl,rfl,rfl,rfl,rfl,rfl,rfl,rfl,MQ,LM,MP,I5⟩
 ·intros;rfl
 ·intros;rfl
 ·intro cf fr st d sz a x;cases d<;>rfl
 ·intro cf fr st d f as;cases d<;>rfl
 ·intros;rfl
end Go.PM
namespace Go.PM
variable {cf:aA} {st:St}
def zy(c:Int):Bool:=decide (97<=c) && decide (c<=122)||decide (65<=c) && decide (c<=90)
def eW(c:Int):Bool:=decide (48<=c) && decide (c<=57)
def g9(c:Int):Bool:=zy c||eW c||decide (c=95)
def dH(l:List UInt8):Bool:=decide (1<=l.length) && decide (l.length<=20) && zy (cI l 0) && l.all fun c=>g9 (c.toNat:Int)
def km(n:Int):Bool:=decide (1<=n) && decide (n<=1000000000000)
def DE(l:List UInt8)(i:Nat)(hi:i<l.length)(f:UInt8->Bool):(l.take (i+1)).all f=((l.take i).all f && f l[i]):=by
 rw[aW hi,List.all_append];simp
def pT(l:List UInt8)(i:Nat)(hi:i<l.length):cI l i=(l[i].toNat:Int):=by simp[cI,hi]
def IS{l:List UInt8}{i:Nat}(hi:i<l.length)(h:g9 (cI l i)=false)(f:UInt8->Bool)(hf:f=fun c=>g9 (c.toNat:Int)):l.all f=false:=by
 rw[pT l i hi]at h;subst hf;rw[List.all_eq_false];exact⟨l[i],ct hi,by simpa using h⟩
def yD(K:iF cf)(c:Int):av cf 172 [U c] [] st=some (.bool (zy c),st):=by
 refine cQ K (F:=F172) (t:=2) rfl rfl rfl (lb rfl) (by simp[aQ]) (ce _) 1 ?_;unfold F172 qr qm qc qx qy qo zy
 repeat' (first|(refine aa (fun _=>?_) (fun _=>?_))|(simp only[↓pa,pb,↓reduceIte,reduceEqDiff,reduceCtorEq, *]))
def wB(K:iF cf)(c:Int):av cf 168 [U c] [] st=some (.bool (zy c),st):=by
 refine cQ K (F:=F168) (t:=2) rfl rfl rfl (lb rfl) (by simp[aQ]) (ce _) 1 ?_;unfold F168 qr qm qc qx qy qo zy
 repeat' (first|(refine aa (fun _=>?_) (fun _=>?_))|(simp only[↓pa,pb,↓reduceIte,reduceEqDiff,reduceCtorEq, *]))
def qG(K:iF cf)(c:Int):av cf 173 [U c] [] st=some (.bool (eW c),st):=by
 refine cQ K (F:=F173) (t:=2) rfl rfl rfl (lb rfl) (by simp[aQ]) (ce _) 1 ?_;unfold F173 qr qm qc qy qo eW
 repeat' (first|(refine aa (fun _=>?_) (fun _=>?_))|(simp only[↓pa,pb,↓reduceIte,reduceEqDiff,reduceCtorEq, *]))
def nv(K:iF cf)(c:Int):av cf 169 [U c] [] st=some (.bool (eW c),st):=by
 refine cQ K (F:=F169) (t:=2) rfl rfl rfl (lb rfl) (by simp[aQ]) (ce _) 1 ?_;unfold F169 qr qm qc qy qo eW
 repeat' (first|(refine aa (fun _=>?_) (fun _=>?_))|(simp only[↓pa,pb,↓reduceIte,reduceEqDiff,reduceCtorEq, *]))
def ry(K:iF cf)(n:Int):av cf 124 [I n] [] st=some (.bool (km n),st):=by
 refine cQ K (F:=F124) (t:=2) rfl rfl rfl (lb rfl) (by simp[aQ]) (ce _) 1 ?_;unfold F124 qr qm qc qk qy km
 repeat' (first|(refine aa (fun _=>?_) (fun _=>?_))|(simp only[↓pa,pb,↓reduceIte,reduceEqDiff,reduceCtorEq, *]))
def po(K:iF cf)(n:Int):av cf 118 [I n] [] st=some (.bool (km n),st):=by
 refine cQ K (F:=F118) (t:=2) rfl rfl rfl (lb rfl) (by simp[aQ]) (ce _) 1 ?_;unfold F118 qr qm qc qk qy km
 repeat' (first|(refine aa (fun _=>?_) (fun _=>?_))|(simp only[↓pa,pb,↓reduceIte,reduceEqDiff,reduceCtorEq, *]))
def pP(K:iF cf)(l:List UInt8):av cf 127 [S l] [] st=some (.bool (dH l),st):=by
 refine cQ K (F:=F127) (t:=2) rfl rfl rfl (lb rfl) (by simp[bZ]) (ce _) (l.length+1) ?_;unfold F127 qg qr qd qm qi qc qb qk qt qx qy qo;simp only[↓pa,pb,↓reduceIte,reduceCtorEq];refine aa (fun h1=>?_) (fun h1=>?_)
 ·simp only[↓pa,pb,↓reduceIte,reduceEqDiff,h1];have:¬1<=l.length:=by omega
  simp[dH,this]
 simp only[↓pa,pb,↓reduceIte,reduceEqDiff,reduceCtorEq,h1];refine aa (fun h2=>?_) (fun h2=>?_)
 ·simp only[↓pa,pb,↓reduceIte,reduceEqDiff,h2];have:¬l.length<=20:=by omega
  simp[dH,this]
 simp (disch:=omega)only[↓pa,pb,↓reduceIte,reduceEqDiff,reduceCtorEq,h2,yD K];refine aa (fun h3=>?_) (fun h3=>?_);rotate_left
 ·simp only[↓pa,pb,↓reduceIte,h3];simp[dH,h3]
 simp only[↓pa,pb,↓reduceIte,reduceCtorEq,h3];refine be (fun k fr st=>∃ i:Nat,k=l.length-i/\i<=l.length/\fr 0=S l/\fr 19=I l.length/\fr 20=I i/\(l.take i).all (fun c=>g9 (c.toNat:Int))=true) l.length (by omega) ⟨0,by simp,by simp,by simp only[↓pa,↓reduceIte,reduceCtorEq],by simp only[↓pa,↓reduceIte,reduceEqDiff],by simp only[↓pa,↓reduceIte];rfl,by simp⟩ ?_;rintro k fr st ⟨i,rfl,hi,f0,f19,f20,hall⟩;simp only[↓pa,pb,↓reduceIte,f19,f20];refine aa (fun h4=>?_) (fun h4=>?_);rotate_left
 ·simp only[↓pa,pb,↓reduceIte];have hil:i=l.length:=by omega
  subst hil;rw[kz]at hall;have h1':1<=l.length:=by omega
  have h2':l.length<=20:=by omega
  simp[dH,h1',h2',h3,hall]
 have hlt:i<l.length:=by omega
 have next:g9 (cI l i)=true->∃ j,j<l.length-i/\∃ m:Nat,j=l.length-m/\m<=l.length/\True/\True/\I (↑i+1)=I m/\(l.take m).all (fun c=>g9 (c.toNat:Int))=true:=fun h=>
  ⟨l.length- (i+1),by omega,i+1,rfl,by omega,trivial,trivial,by simp,by rw[DE l i hlt,hall,<-pT l i hlt,h];rfl⟩
 simp (disch:=omega)only[↓pa,pb,↓reduceIte,reduceEqDiff,reduceCtorEq,f0,f20,yD K];refine aa (fun h5=>?_) (fun h5=>?_)
 ·simp (disch:=omega)only[↓pa,pb,↓reduceIte,reduceEqDiff,reduceCtorEq,f0,f19,f20,h5];simpa using next (by simp[g9,h5])
 ·simp (disch:=omega)only[↓pa,pb,↓reduceIte,reduceEqDiff,reduceCtorEq,f0,h5,qG K];refine aa (fun h6=>?_) (fun h6=>?_)
  ·simp (disch:=omega)only[↓pa,pb,↓reduceIte,reduceEqDiff,reduceCtorEq,f0,f19,f20,h6];simpa using next (by simp[g9,h6])
  ·simp (disch:=omega)only[↓pa,pb,↓reduceIte,reduceEqDiff,reduceCtorEq,f0,h6];refine aa (fun h7=>?_) (fun h7=>?_)
   ·simp (disch:=omega)only[↓pa,pb,↓reduceIte,reduceEqDiff,reduceCtorEq,f0,f19,f20,h7];simpa using next (by simp[g9,h7])
   ·simp only[↓pa,pb,↓reduceIte];have:g9 (cI l i)=false:=by simp[g9,h5,h6,h7]
    simp[dH,IS hlt this _ rfl]
def lZ(n:Nat)(ok:Nat->Bool):Bool:=(List.range n).all ok
def li{n:Nat}{ok:Nat->Bool}(h:∀ j,j<n->ok j=true):lZ n ok=true:=by
 simp only[lZ,bX,l8];exact h
def gf{n i:Nat}{ok:Nat->Bool}(h:i<n)(k:ok i=false):lZ n ok=false:=by
 simp only[lZ,List.all_eq_false,l8];exact⟨i,h,by simp[k]⟩
def oO{n:Nat}{ok:Nat->Bool}:lZ n ok=true↔∀ j,j<n->ok j=true:=by
 simp only[lZ,bX,l8]
def ge{i:Nat}{ok:Nat->Bool}(h:∀ j,j<i->ok j=true)(k:ok i=true):∀ j,j<i+1->ok j=true:=fun j hj=>by
 by_cases e:j=i
 ·rw[e];exact k
 ·exact h j (by omega)
@[reducible] def TX (l:List (List UInt8)):PV:= .list l.length (l.map S) .no
def kc(l:List (List UInt8))(i:Nat):List UInt8:=l.getD i []
def ki{l:List (List UInt8)}{i:Nat}(h:i<l.length):bI (l.map S) i 1 false=some (S (kc l i)):=by
 refine HG ?_;simp[kc,h]
def ia(l:List (List UInt8)):cT (TX l):=by
 refine fE ?_
 induction l with
 |nil=>exact dL
 |cons x l ih=>exact bu (bZ _) ih
def kC(l:List (List UInt8))(i:Nat):Bool:=decide (i=0)||eq (kc l (i-1)) (kc l i)
def jj(l:List (List UInt8)):Bool:=lZ l.length (kC l)
def iM(m:Int)(l:List (List UInt8)):Bool:=decide ((l.length:Int)<=m) && lZ l.length fun i=>dH (kc l i) && kC l i
def CO(m:Int)(l:List (List UInt8)):iM m l=(decide ((l.length:Int)<=m) && (jj l && lZ l.length fun i=>dH (kc l i))):=by
 unfold iM jj;congr 1;rw[m5];simp only[ae,oO];exact⟨fun h=>⟨fun j hj=>(h j hj).2,fun j hj=>(h j hj).1⟩,fun h j hj=>⟨h.2 j hj,h.1 j hj⟩⟩
def D5(l:List UInt8)(h1:1<=l.length)(h3:zy (cI l 0)=true):(l.take 1).all (fun c=>g9 (c.toNat:Int))=true:=by
 match l,h1 with
 |c::l,_=>
  have:zy (c.toNat:Int)=true:=h3;simp[g9,this]
def nO(K:iF cf)(l:List UInt8):av cf 121 [S l] [] st=some (.bool (dH l),st):=by
 refine cQ K (F:=F121) (t:=2) rfl rfl rfl (lb rfl) (by simp[bZ]) (ce _) (l.length+1) ?_;unfold F121 qg qr qd qm qi qc qb qk qt qx qy qo;simp only[↓pa,pb,↓reduceIte,reduceCtorEq];refine aa (fun h1=>?_) (fun h1=>?_)
 ·simp only[↓pa,pb,↓reduceIte,reduceEqDiff,h1];have:¬1<=l.length:=by omega
  simp[dH,this]
 simp only[↓pa,pb,↓reduceIte,reduceEqDiff,reduceCtorEq,h1];refine aa (fun h2=>?_) (fun h2=>?_)
 ·simp only[↓pa,pb,↓reduceIte,reduceEqDiff,h2];have:¬l.length<=20:=by omega
  simp[dH,this]
 simp (disch:=omega)only[↓pa,pb,↓reduceIte,reduceEqDiff,reduceCtorEq,h2,wB K];refine aa (fun h3=>?_) (fun h3=>?_);rotate_left
 ·simp only[↓pa,pb,↓reduceIte,h3];simp[dH,h3]
 simp only[↓pa,pb,h3];refine be (fun k fr st=>∃ i:Nat,k=l.length-i/\i<=l.length/\fr 0=S l/\fr 3=I i/\(l.take i).all (fun c=>g9 (c.toNat:Int))=true) (l.length-1) (by omega) ⟨1,by simp,by omega,by simp only[↓pa,↓reduceIte,reduceCtorEq],by simp only[↓pa,↓reduceIte];rfl,D5 l (by omega) h3⟩ ?_;rintro k fr st ⟨i,rfl,hi,f0,f3,hall⟩;simp only[↓pa,pb,↓reduceIte,reduceEqDiff,reduceCtorEq,f0,f3];refine aa (fun h4=>?_) (fun h4=>?_);rotate_left
 ·simp only[↓pa,pb,↓reduceIte];have hil:i=l.length:=by omega
  subst hil;rw[kz]at hall;have h1':1<=l.length:=by omega
  have h2':l.length<=20:=by omega
  simp[dH,h1',h2',h3,hall]
 have hlt:i<l.length:=by omega
 have next:g9 (cI l i)=true->∃ j,j<l.length-i/\∃ m:Nat,j=l.length-m/\m<=l.length/\True/\I (↑i+1)=I m/\(l.take m).all (fun c=>g9 (c.toNat:Int))=true:=fun h=>
  ⟨l.length- (i+1),by omega,i+1,rfl,by omega,trivial,by simp,by rw[DE l i hlt,hall,<-pT l i hlt,h];rfl⟩
 simp (disch:=omega)only[↓pa,pb,↓reduceIte,reduceEqDiff,reduceCtorEq,f0,f3,wB K];refine aa (fun h5=>?_) (fun h5=>?_)
 ·simp (disch:=omega)only[↓pa,pb,↓reduceIte,reduceEqDiff,reduceCtorEq,f0,f3,h5];simpa using next (by simp[g9,h5])
 ·simp (disch:=omega)only[↓pa,pb,↓reduceIte,reduceEqDiff,reduceCtorEq,f0,f3,h5,nv K];refine aa (fun h6=>?_) (fun h6=>?_)
  ·simp (disch:=omega)only[↓pa,pb,↓reduceIte,reduceEqDiff,reduceCtorEq,f0,f3,h6];simpa using next (by simp[g9,h6])
  ·simp (disch:=omega)only[↓pa,pb,↓reduceIte,reduceEqDiff,reduceCtorEq,f0,f3,h6];refine aa (fun h7=>?_) (fun h7=>?_)
   ·simp (disch:=omega)only[↓pa,pb,↓reduceIte,reduceEqDiff,reduceCtorEq,f0,f3,h7];simpa using next (by simp[g9,h7])
   ·simp only[↓pa,pb,↓reduceIte];have:g9 (cI l i)=false:=by simp[g9,h5,h6,h7]
    simp[dH,IS hlt this _ rfl]
def Dl(K:iF cf)(l:List (List UInt8))(hl:(l.length:Int)<=2000000):av cf 166 [TX l] [] st=some (.bool (jj l),st):=by
 refine cQ K (F:=F166) (t:=2) rfl rfl rfl (lb rfl) (by simp[ia]) (ce _) (l.length+1) ?_;have hm:(l.map S).length=l.length:=b8 _;unfold F166 qr qd qm qi qc qb qk ql qa qn;simp only[↓pa];refine be (fun k fr st=>∃ i:Nat,k=l.length-i/\1<=i/\(i<=l.length\/i=1)/\fr 0=TX l/\fr 3=I i/\∀ j,j<i->kC l j=true) (l.length-1) (by omega) ⟨1,by simp,by omega,by omega,by simp only[↓pa,↓reduceIte,reduceCtorEq],by simp only[↓pa,↓reduceIte];rfl,fun j hj=>?_⟩ ?_
 ·obtain rfl:j=0:=by omega
  rfl
 rintro k fr st ⟨i,rfl,hi1,hi,f0,f3,hall⟩;simp only[↓pa,pb,↓reduceIte,reduceEqDiff,reduceCtorEq,f0,f3];refine aa (fun h4=>?_) (fun h4=>?_);rotate_left
 ·simp only[↓pa,pb,↓reduceIte];rw[jj,li fun j hj=>hall j (by omega)]
 have hlt:i<l.length:=by omega
 have hp:((i:Int) -1).toNat=i-1:=by omega
 simp (disch:=omega)only[↓pa,pb,↓reduceIte,reduceEqDiff,reduceCtorEq,f0,f3,hp,gp,ki (show i<l.length from hlt),ki (show i-1<l.length by omega)];have e:kC l i=eq (kc l (i-1)) (kc l i):=by simp[kC,show i≠0 by omega]
 refine aa (fun h5=>?_) (fun h5=>?_)
 ·simp (disch:=omega)only[↓pa,pb,↓reduceIte,reduceEqDiff,reduceCtorEq,f0,f3,h5];exact⟨l.length- (i+1),by omega,i+1,rfl,by omega,by omega,by simp,ge hall (by rw[e];exact h5)⟩
 ·simp only[↓pa,pb,↓reduceIte,h5];rw[jj,gf hlt (by rw[e];simpa using h5)]
def BD(K:iF cf)(l:List (List UInt8)):av cf 119 [TX l] [] st=some (.bool (iM 10 l),st):=by
 refine cQ K (F:=F119) (t:=2) rfl rfl rfl (lb rfl) (by simp[ia]) (ce _) (l.length+1) ?_;rw[CO];have hm:(l.map S).length=l.length:=b8 _;unfold F119 qg qr qd qm qi qc qb qk ql qt qa qx qn qo;simp only[↓pa,pb,↓reduceIte,reduceCtorEq];refine aa (fun h1=>?_) (fun h1=>?_)
 ·simp only[↓pa,pb,↓reduceIte,reduceEqDiff,h1];have:¬ ((l.length:Int)<=10):=by omega
  simp only[this,decide_false,g8]
 have h1':(l.length:Int)<=10:=by omega
 simp only[↓pa,pb,↓reduceIte,reduceEqDiff,reduceCtorEq,h1,Dl K l (by omega)];refine aa (fun h2=>?_) (fun h2=>?_);rotate_left
 ·simp only[↓pa,pb,↓reduceIte,h2]
 simp only[↓pa,pb,h2];refine be (fun k fr st=>∃ i:Nat,k=l.length-i/\i<=l.length/\fr 0=TX l/\fr 3=I i/\∀ j,j<i->dH (kc l j)=true) l.length (by omega) ⟨0,by simp,by omega,by simp only[↓pa,↓reduceIte,reduceCtorEq],by simp only[↓pa,↓reduceIte];rfl,fun j hj=>by omega⟩ ?_;rintro k fr st ⟨i,rfl,hi,f0,f3,hall⟩;simp only[↓pa,pb,↓reduceIte,reduceEqDiff,reduceCtorEq,f0,f3];refine aa (fun h4=>?_) (fun h4=>?_);rotate_left
 ·simp only[↓pa,pb,↓reduceIte];have ha:lZ l.length (fun i=>dH (kc l i))=true:=li fun j hj=>hall j (by omega);simp[h1',ha]
 have hlt:i<l.length:=by omega
 simp (disch:=omega)only[↓pa,pb,↓reduceIte,reduceEqDiff,reduceCtorEq,f0,f3,gp,ki hlt,nO K];refine aa (fun h5=>?_) (fun h5=>?_)
 ·simp (disch:=omega)only[↓pa,pb,↓reduceIte,reduceEqDiff,reduceCtorEq,f0,f3,h5];exact⟨l.length- (i+1),by omega,i+1,rfl,by omega,by simp,ge hall h5⟩
 ·simp only[↓pa,pb,↓reduceIte,h5];rw[gf hlt (by simpa using h5)];simp
def Dr(K:iF cf)(l:List (List UInt8))(m:Int)(hm:m<=2000000):av cf 125 [TX l,I m] [] st=some (.bool (iM m l),st):=by
 refine cQ K (F:=F125) (t:=4) rfl rfl rfl (lb rfl) (by simp[ia,aQ]) (ce _) (l.length+1) ?_;have hm:(l.map S).length=l.length:=b8 _;unfold F125 qg qr qd qm qi qc qb qk ql qt qa qx qn qo;simp only[↓pa,pb,↓reduceIte,reduceEqDiff,reduceCtorEq];refine aa (fun h1=>?_) (fun h1=>?_)
 ·simp only[↓pa,pb,↓reduceIte,h1];have:¬ ((l.length:Int)<=m):=by omega
  simp[iM,this]
 have h1':(l.length:Int)<=m:=by omega
 simp only[↓pa,pb,↓reduceIte,reduceCtorEq,h1];refine be (fun k fr st=>∃ i:Nat,k=l.length-i/\i<=l.length/\fr 0=TX l/\fr 11=TX l/\fr 12=I l.length/\fr 13=I i/\∀ j,j<i->(dH (kc l j) && kC l j)=true) l.length (by omega) ⟨0,by simp,by omega,by simp only[↓pa,↓reduceIte,reduceCtorEq],by simp only[↓pa,↓reduceIte,reduceEqDiff],by simp only[↓pa,↓reduceIte,reduceEqDiff],by simp only[↓pa,↓reduceIte];rfl,fun j hj=>by omega⟩ ?_;rintro k fr st ⟨i,rfl,hi,f0,f11,f12,f13,hall⟩;simp only[↓pa,pb,↓reduceIte,f12,f13];refine aa (fun h4=>?_) (fun h4=>?_);rotate_left
 ·simp only[↓pa,pb,↓reduceIte];have ha:lZ l.length (fun i=>dH (kc l i) && kC l i)=true:=li fun j hj=>hall j (by omega);simp[iM,h1',ha]
 have hlt:i<l.length:=by omega
 have bad:(dH (kc l i) && kC l i)=false->iM m l=false:=fun h=>by rw[iM,gf hlt h];simp
 have next:(dH (kc l i) && kC l i)=true->∃ j,j<l.length-i/\∃ m:Nat,j=l.length-m/\m<=l.length/\True/\True/\True/\I (↑i+1)=I m/\∀ j,j<m->(dH (kc l j) && kC l j)=true:=fun h=>
  ⟨l.length- (i+1),by omega,i+1,rfl,by omega,trivial,trivial,trivial,by simp,ge hall h⟩
 simp (disch:=omega)only[↓pa,pb,↓reduceIte,reduceEqDiff,f11,f13,gp,ki hlt,pP K];refine aa (fun h5=>?_) (fun h5=>?_);rotate_left
 ·simp only[↓pa,pb,↓reduceIte,reduceEqDiff,h5];rw[bad (by simp[h5])]
 simp only[↓pa,pb,↓reduceIte,reduceEqDiff,h5];refine aa (fun h6=>?_) (fun h6=>?_);rotate_left
 ·simp (disch:=omega)only[↓pa,pb,↓reduceIte,reduceEqDiff,reduceCtorEq,f0,f11,f12,f13,h6];have:i=0:=by omega
  simpa using next (by rw[h5,kC];simp[this])
 have hp:((i:Int) -1).toNat=i-1:=by omega
 have e:kC l i=eq (kc l (i-1)) (kc l i):=by simp[kC,show i≠0 by omega]
 simp (disch:=omega)only[↓pa,pb,↓reduceIte,reduceEqDiff,reduceCtorEq,f0,h6,hp,gp,ki (show i-1<l.length by omega)];refine aa (fun h7=>?_) (fun h7=>?_)
 ·simp (disch:=omega)only[↓pa,pb,↓reduceIte,reduceEqDiff,reduceCtorEq,f0,f11,f12,f13,h7];simpa using next (by rw[e];simp[h5,h7])
 ·simp only[↓pa,pb,↓reduceIte,h7];rw[bad (by rw[e];simp[h5,h7])]
end Go.PM
namespace Go.PM
inductive V where
 |mk (kind n m:Int) (s:List UInt8) (ns:List (List UInt8)) (vs:List V)
def V.kind:V->Int| .mk k _ _ _ _ _=>k
def V.num:V->Int| .mk _ n _ _ _ _=>n
def V.items:V->List V| .mk _ _ _ _ _ vs=>vs
mutual
def V.ca:V->List PV
 | .mk k n m s ns vs=>[I k,I n,I m,S s,.list ns.length (ns.map S) .no,.list vs.length (V.cas vs) .no]
def V.cas:List V->List PV
 | []=>[]
 |v::vs=>v.ca++V.cas vs
end
mutual
def V.cb:V->List PV
 | .mk k n m s ns vs=>[I k,I n,I m,S s,.list vs.length (V.cbs vs) .no,.list ns.length (ns.map S) .no]
def V.cbs:List V->List PV
 | []=>[]
 |v::vs=>v.cb++V.cbs vs
end
def skip(p:Int->Bool)(t:List UInt8)(i:Nat):Nat:=i+((t.drop i).takeWhile fun c=>p (c.toNat:Int)).length
def dF(t:List UInt8)(i j:Nat):List UInt8:=(t.take j).drop i
def tk(t:List UInt8)(i:Nat)(s:List UInt8):Bool:=decide ((t.drop i).take s.length=s)
def gG(s:List UInt8):Option Int:=match Go.Lib.parseIntB 64 s with
 | .ok n=>if Go.Lib.itoa n=s then some n else none
 |_=>none
def fF(t:List UInt8)(i:Nat):Option (Int×Nat):=
 (gG (dF t i (skip eW t (if cI t i=45 then i+1 else i)))).map fun n=>(n,skip eW t (if cI t i=45 then i+1 else i))
def sX(t:List UInt8)(i:Nat):Option (Int×Nat):=match fF t i with
 |some (n,j)=>if 1<=n/\n<=1000000000000 then some (n,j)else none
 |none=>none
def ir(t:List UInt8):Nat->Nat->List UInt8->Option (List UInt8×Nat)
 |0,_,_=>none
 |k+1,i,acc=>
  if i<t.length then
   if cI t i=34 then some (acc,i+1)
   else if cI t i=92 then
    if cI t (i+1)=34\/cI t (i+1)=92 then ir t k (i+2) (acc++[t.getD (i+1) 0])
    else if cI t (i+1)=110 then ir t k (i+2) (acc++[10])else none
   else if cI t i<32 then none
   else ir t k (i+1) (acc++[t.getD i 0])
  else none
def qq(t:List UInt8)(i:Nat):Option (List UInt8×Nat):=ir t (t.length+1-i) i []
def qS(t:List UInt8)(i:Nat):Option (List UInt8×Nat):=
 if dH (dF t i (skip g9 t i))then some (dF t i (skip g9 t i),skip g9 t i)else none
def jo(t:List UInt8):Nat->Nat->Int->Option Int
 |0,_,v=>some v
 |k+1,i,v=>if i<t.length/\eW (cI t i)=true then jo t k (i+1) (v*10+(cI t i-48))else none
def uO(y:Int):Bool:=decide (y.tmod 4=0) && (decide (y.tmod 100≠0)||decide (y.tmod 400=0))
def ov(y m:Int):Int:=if m=2 then(if uO y then 29 else 28)else if m=4\/m=6\/m=9\/m=11 then 30 else 31
def pG(y:Int):Nat->Int
 |0=>0
 |k+1=>pG y k+ov y (k+1)
def Ax(y m d:Int):Int:=(y-1) *365+(y-1).tdiv 4- (y-1).tdiv 100+(y-1).tdiv 400+pG y (m.toNat-1)+d-1
def Cc(y m d:Int):Option Int:=if 1<=y/\1<=m/\m<=12/\1<=d/\d<=ov y m then some (Ax y m d)else none
def gH(t:List UInt8)(i:Nat):Option (Int×Nat):=
 match jo t 4 i 0,jo t 2 (i+5) 0,jo t 2 (i+8) 0 with
 |some y,some m,some d=>if cI t (i+4)=45/\cI t (i+7)=45 then(Cc y m d).map fun n=>(n,i+10)else none
 |_,_,_=>none
def pY(x:Int):Bool:=decide (x< -1000000)||decide (1000000<x)
def gL(t:List UInt8)(i:Nat):Option (V×Nat):=match fF t i with
 |some (a,j)=>if cI t j=32 then match fF t (j+1)with
  |some (b,k)=>if cI t k=41/\pY a=false/\pY b=false then some (.mk 5 a b [] [] [],k+1)else none
  |none=>none
  else none
 |none=>none
def eD(t:List UInt8)(kind:Int)(i:Nat):Option (V×Nat):=(sX t i).map fun q=>(.mk kind q.1 0 [] [] [],q.2)
def mJ(t:List UInt8):Nat->Bool->Nat->List V->Option (V×Nat)
 |0,_,_,_=>none
 |k+1,node,i,acc=>
  if cI t i=(if node then 110 else 101)then match eD t (if node then 8 else 9) (i+1)with
   |some (v,j)=>
    if node=true/\cI t j=62 then some (.mk 10 0 0 [] [] (acc++[v]),j+1)
    else if cI t j=32 then mJ t k (!node) (j+1) (acc++[v])
    else none
   |none=>none
  else none
def qR(t:List UInt8)(i:Nat):Option (V×Nat):=mJ t (t.length+1-i) true i []
def lU(t:List UInt8)(rd:Nat->Option (V×Nat)):Nat->Nat->List V->Option (V×Nat)
 |0,_,_=>none
 |k+1,i,acc=>match rd i with
  |some (v,j)=>
   if cI t j=93 then some (.mk 6 0 0 [] [] (acc++[v]),j+1)
   else if cI t j=44 then lU t rd k (j+1) (acc++[v])
   else none
  |none=>none
def lI(t:List UInt8)(rd:Nat->Option (V×Nat))(i:Nat):Option (V×Nat):=
 if cI t i=93 then some (.mk 6 0 0 [] [] [],i+1)else lU t rd (t.length+1-i) i []
def mr(t:List UInt8)(rd:Nat->Option (V×Nat)):Nat->Nat->List (List UInt8)->List V->Option (V×Nat)
 |0,_,_,_=>none
 |k+1,i,ns,acc=>match qS t i with
  |some (s,j)=>if cI t j=58 then match rd (j+1)with
   |some (v,j)=>
    if cI t j=125 then(if jj (ns++[s])then some (.mk 7 0 0 [] (ns++[s]) (acc++[v]),j+1)else none)
    else if cI t j=44 then mr t rd k (j+1) (ns++[s]) (acc++[v])
    else none
   |none=>none
   else none
  |none=>none
def jL(t:List UInt8)(rd:Nat->Option (V×Nat))(i:Nat):Option (V×Nat):=
 if cI t i=125 then some (.mk 7 0 0 [] [] [],i+1)else mr t rd (t.length+1-i) i [] []
def mW(t:List UInt8)(rd:Option (Nat->Option (V×Nat)))(i:Nat):Option (V×Nat):=
 if cI t i=34 then(qq t (i+1)).map fun q=>(.mk 3 0 0 q.1 [] [],q.2)
 else if cI t i=64 then(gH t (i+1)).map fun q=>(.mk 4 q.1 0 [] [] [],q.2)
 else if cI t i=45\/eW (cI t i)=true then(fF t i).map fun q=>(.mk 2 q.1 0 [] [] [],q.2)
 else if cI t i=40 then gL t (i+1)
 else if cI t i=91 then match rd with
  |some rd=>lI t rd (i+1)
  |none=>none
 else if cI t i=123 then match rd with
  |some rd=>jL t rd (i+1)
  |none=>none
 else if cI t i=60 then qR t (i+1)
 else if tk t i [110,117,108,108]then some (.mk 0 0 0 [] [] [],i+4)
 else if tk t i [116,114,117,101]then some (.mk 1 1 0 [] [] [],i+4)
 else if tk t i [102,97,108,115,101]then some (.mk 1 0 0 [] [] [],i+5)
 else if cI t i=110 then eD t 8 (i+1)
 else if cI t i=101 then eD t 9 (i+1)
 else none
def eC(t:List UInt8):Nat->Nat->Option (V×Nat)
 |0=>mW t none
 |b+1=>mW t (some (eC t b))
def fu(t:List UInt8):Option V:=if t.length<=2000 then match eC t 5 0 with
 |some (v,j)=>if j=t.length then some v else none
 |none=>none
 else none
def ui{t:List UInt8}{i:Nat}(h:t.length<=i):cI t i=0:=by simp[cI,bB h]
def dt{t:List UInt8}{i:Nat}(h:cI t i≠0):i<t.length:=by
 by_cases k:i<t.length
 ·exact k
 ·exact absurd (ui (by omega)) h
def kT{p:Int->Bool}{t:List UInt8}{i:Nat}(h:i<t.length)(k:p (cI t i)=true):skip p t i=skip p t (i+1):=by
 unfold skip;rw[a6 h,List.takeWhile_cons];rw[pT t i h]at k;rw[ak k,au];omega
def oY{p:Int->Bool}{t:List UInt8}{i:Nat}(h:i<t.length->p (cI t i)=false):skip p t i=i:=by
 unfold skip;by_cases hi:i<t.length
 ·rw[a6 hi,List.takeWhile_cons];have k:=h hi;rw[pT t i hi]at k;rw[ad (by simp[k])];rfl
 ·rw[fG (by omega)];rfl
def lR(p:Int->Bool)(t:List UInt8)(i:Nat):i<=skip p t i:=by unfold skip;omega
def oZ{p:Int->Bool}{t:List UInt8}{i:Nat}(h:i<=t.length):skip p t i<=t.length:=by
 unfold skip;have:=(List.takeWhile_sublist (fun c:UInt8=>p (c.toNat:Int)) (l:=t.drop i)).length_le;rw[aU]at this;omega
def EQ{t:List UInt8}{i:Nat}{n:Int}{j:Nat}(hi:i<=t.length)(h:fF t i=some (n,j)):i<=j/\j<=t.length:=by
 unfold fF at h;simp only[am,cn]at h;obtain⟨_,_,_,rfl⟩:=h;split
 ·rename_i hc;have hlt:=dt (show cI t i≠0 by rw[hc];decide);have:=lR eW t (i+1);exact⟨by omega,oZ (by omega)⟩
 ·exact⟨lR _ _ _,oZ hi⟩
def MH{t:List UInt8}{i:Nat}{n:Int}{j:Nat}(hi:i<=t.length)(h:sX t i=some (n,j)):i<=j/\j<=t.length:=by
 unfold sX at h;split at h
 ·rename_i n' j' hp;split at h
  ·cases h;exact EQ hi hp
  ·cases h
 ·cases h
def V.ca_len(v:V):v.ca.length=6:=by cases v;rfl
def V.cb_len(v:V):v.cb.length=6:=by cases v;rfl
def V.cas_len:∀ vs:List V,(V.cas vs).length=vs.length*6
 | []=>rfl
 |v::vs=>by rw[V.cas,af,V.ca_len,V.cas_len vs,au];omega
def V.cbs_len:∀ vs:List V,(V.cbs vs).length=vs.length*6
 | []=>rfl
 |v::vs=>by rw[V.cbs,af,V.cb_len,V.cbs_len vs,au];omega
def V.cas_app:∀ vs ws:List V,V.cas (vs++ws)=V.cas vs++V.cas ws
 | [],_=>rfl
 |v::vs,ws=>by rw[a8,V.cas,V.cas,V.cas_app vs ws,bl]
def V.cbs_app:∀ vs ws:List V,V.cbs (vs++ws)=V.cbs vs++V.cbs ws
 | [],_=>rfl
 |v::vs,ws=>by rw[a8,V.cbs,V.cbs,V.cbs_app vs ws,bl]
def V.cas_snoc(vs:List V)(v:V):V.cas vs++v.ca=V.cas (vs++[v]):=by rw[V.cas_app,V.cas,V.cas,aD]
def V.cbs_snoc(vs:List V)(v:V):V.cbs vs++v.cb=V.cbs (vs++[v]):=by rw[V.cbs_app,V.cbs,V.cbs,aD]
def pE(ns:List (List UInt8)):cK (ns.map S):=by
 induction ns with
 |nil=>exact dL
 |cons x l ih=>exact bu (bZ _) ih
mutual
theorem V.ca_plain:∀ v:V,cK v.ca
 | .mk k n m s ns vs=>by
  rw[V.ca];exact bu (aQ _ _) (bu (aQ _ _) (bu (aQ _ _) (bu (bZ _) (bu (fE (pE ns)) (bu (fE (V.cas_plain vs)) dL)))))
theorem V.cas_plain:∀ vs:List V,cK (V.cas vs)
 | []=>dL
 |v::vs=>by rw[V.cas];exact jY (V.ca_plain v) (V.cas_plain vs)
end
mutual
theorem V.cb_plain:∀ v:V,cK v.cb
 | .mk k n m s ns vs=>by
  rw[V.cb];exact bu (aQ _ _) (bu (aQ _ _) (bu (aQ _ _) (bu (bZ _) (bu (fE (V.cbs_plain vs)) (bu (fE (pE ns)) dL)))))
theorem V.cbs_plain:∀ vs:List V,cK (V.cbs vs)
 | []=>dL
 |v::vs=>by rw[V.cbs];exact jY (V.cb_plain v) (V.cbs_plain vs)
end
def fg:
  (∀ {v:V},aI v.ca=true)/\(∀ {v:V},aF v.ca=v.ca)/\(∀ {v:V},aI v.cb=true)/\(∀ {v:V},aF v.cb=v.cb)/\
  (∀ {vs:List V},aI (V.cas vs)=true)/\(∀ {vs:List V},aF (V.cas vs)=V.cas vs)/\(∀ {vs:List V},aI (V.cbs vs)=true)/\(∀ {vs:List V},aF (V.cbs vs)=V.cbs vs)/\
  (∀ {ns:List (List UInt8)},aI (ns.map S)=true)/\(∀ {ns:List (List UInt8)},aF (ns.map S)=ns.map S)/\
  (∀ {v:V},v.ca.take 6=v.ca)/\(∀ {v:V},v.cb.take 6=v.cb)/\(∀ {v:V},v.ca.length=6)/\(∀ {v:V},v.cb.length=6)/\
  (∀ {v:V} {cs:List PV},cs.length=6->bD cs 0 v.ca=v.ca)/\(∀ {v:V} {cs:List PV},cs.length=6->bD cs 0 v.cb=v.cb):=by
 refine⟨fun{v}=>v.ca_plain.1,fun{v}=>v.ca_plain.2.1,fun{v}=>v.cb_plain.1,fun{v}=>v.cb_plain.2.1,fun{vs}=>(V.cas_plain vs).1,fun{vs}=>(V.cas_plain vs).2.1,fun{vs}=>(V.cbs_plain vs).1,fun{vs}=>(V.cbs_plain vs).2.1,fun{ns}=>(pE ns).1,fun{ns}=>(pE ns).2.1,fun{v}=>?_,fun{v}=>?_,fun{v}=>v.ca_len,fun{v}=>v.cb_len,fun{v cs} h=>?_,fun{v cs} h=>?_⟩
 ·exact bA (by rw[V.ca_len];omega)
 ·exact bA (by rw[V.cb_len];omega)
 ·exact iK (by rw[V.ca_len,h])
 ·exact iK (by rw[V.cb_len,h])
end Go.PM
namespace Go.PM
variable {cf:aA} {st:St} {mk:PV->St->Fr×St} {A:Fr×St->Prop} {s:Nat}
def aV:(∀ {i:Nat},((i:Int)+1)=((i+1:Nat):Int))/\(∀ {i j:Nat},((i:Int)+(j:Int))=((i+j:Nat):Int))/\(∀ {i j:Nat},((i:Int)<(j:Int))=(i<j))/\(∀ {i j:Nat},((i:Int)<=(j:Int))=(i<=j))/\(∀ {i j:Nat},((i:Int)=(j:Int))=(i=j)):=by
 exact⟨by intros;simp,by intros;simp,by intros;simp,by intros;simp,by intros;apply propext;omega⟩
def vN{c:List PV}(h:st.objs s=some c):bP st s c=st:=by
 unfold bP;congr 1;funext k;split
 ·rename_i e;rw[e,h]
 ·rfl
def fP(t:List UInt8)(i:Int):cK [S t,I i]:=bu (bZ _) (bu (aQ _ _) dL)
def yI(t:List UInt8)(i:Int):qY [S t,I i]:=iP (qI _) (iP (dD _ _) pq)
def gm(t:List UInt8)(i:Int)(b:Bool):cK [S t,I i,.bool b]:=bu (bZ _) (bu (aQ _ _) (bu (tM _) dL))
def BN(t:List UInt8)(i:Int)(b:Bool):qY [S t,I i,.bool b]:=iP (qI _) (iP (dD _ _) (iP (ce _) pq))
def Nb(K:iF cf){t:List UInt8}{i:Nat}(hs:st.objs s=some [S t,I i]):av cf 218 [.ptr s 0] [] st=some (U (cI t i),st):=by
 have:av cf 218 [.ptr s 0] [] st=some (U (cI t i),bP st s [S t,I i]):=by
  refine zK K (F:=F218) (t:=2) rfl rfl rfl (lb rfl) (lb rfl) (by simp) (dD _ _) hs (fP t i) (yI t i) 1 ?_;unfold F218 qr qd qm qc qb ql qf qo;simp only[↓pa,pb,ai,aV,↓reduceIte,reduceEqDiff,reduceAdd,reduceCtorEq];refine aa (fun h=>?_) (fun h=>?_)
  ·simp (disch:=omega)only[↓pa,pb,ai,↓reduceIte,reduceEqDiff,reduceAdd,reduceCtorEq,h]
  ·simp only[↓pa,pb,↓reduceIte,h];rw[ui (by omega)]
 rw[this,vN hs]
def rS(K:iF cf){t:List UInt8}{i:Nat}(hs:st.objs s=some [S t,I i]):cP (av cf 218 [.ptr s 0] [] st) mk A↔A (mk (U (cI t i)) st):=by rw[Nb K hs,eH]
def I8{t x:List UInt8}{i:Nat}(hi:i<=t.length)(h:t.length-i<x.length):tk t i x=false:=by
 simp only[tk,decide_eq_false_iff_not];intro e;have:=bq List.length e;rw[aG,aU]at this;omega
def Nk(K:iF cf)(a x:List UInt8):av cf 248 [S a,S x] [] st=some (.bool (decide (a.take x.length=x)),st):=by
 refine cQ K (F:=F248) (t:=4) rfl rfl rfl (lb rfl) (by simp[bZ]) (ce _) 1 ?_;unfold F248 qr qm qc qb qy qo;simp only[↓pa,pb,aV,↓reduceIte,reduceEqDiff,reduceCtorEq];refine aa (fun h=>?_) (fun h=>?_)
 ·simp (disch:=omega)only[↓pa,pb,↓reduceIte,reduceEqDiff,reduceCtorEq,h]
 ·simp only[↓pa,pb,↓reduceIte,reduceEqDiff,h];have:¬a.take x.length=x:=fun e=>by
   have:=bq List.length e;rw[aG]at this;omega
  simp only[this,decide_false]
def Lb(K:iF cf)(a x:List UInt8):av cf 241 [S a,S x] [] st=some (.bool (decide (a.take x.length=x)),st):=by
 refine cQ K (F:=F241) (t:=4) rfl rfl rfl (lb rfl) (by simp[bZ]) (ce _) 1 ?_;unfold F241 qr qm qc qu;simp only[↓pa,pb,↓reduceIte,reduceEqDiff,reduceCtorEq,Nk K]
def Du(K:iF cf)(a x:List UInt8):av cf 231 [S a,S x] [] st=some (.bool (decide (a.take x.length=x)),st):=by
 refine cQ K (F:=F231) (t:=4) rfl rfl rfl (lb rfl) (by simp[bZ]) (ce _) 1 ?_;unfold F231 qr qm qc qb qy qo;simp only[↓pa,pb,aV,↓reduceIte,reduceEqDiff,reduceCtorEq];refine aa (fun h=>?_) (fun h=>?_)
 ·simp (disch:=omega)only[↓pa,pb,↓reduceIte,reduceEqDiff,reduceCtorEq,h]
 ·simp only[↓pa,pb,↓reduceIte,reduceEqDiff,h];have:¬a.take x.length=x:=fun e=>by
   have:=bq List.length e;rw[aG]at this;omega
  simp only[this,decide_false]
def BX{t x:List UInt8}{i:Nat}:decide ((t.drop i).take x.length=x)=tk t i x:=rfl
def Nq(K:iF cf){t x:List UInt8}{i:Nat}(hs:st.objs s=some [S t,I i])(hi:i<=t.length)(hl:t.length<=2000000)(hx:x.length<=2000000)(h:tk t i x=true):av cf 226 [.ptr s 0,S x] [] st=some (.bool true,bP st s [S t,I (i+x.length:Nat)]):=by
 refine zK K (F:=F226) (t:=4) rfl rfl rfl (lb rfl) (lb rfl) (by simp[bZ]) (ce _) hs (fP t i) (yI t _) 1 ?_;unfold F226 qr qd qm qc qb ql qf qu qs qo;simp (disch:=omega)only[↓pa,pb,ai,aV,↓reduceIte,reduceEqDiff,reduceAdd,reduceLeDiff,reduceCtorEq,Lb K,BX,h]
def Nr(K:iF cf){t x:List UInt8}{i:Nat}(hs:st.objs s=some [S t,I i])(hi:i<=t.length)(hl:t.length<=2000000)(h:¬tk t i x=true):av cf 226 [.ptr s 0,S x] [] st=some (.bool false,st):=by
 have:av cf 226 [.ptr s 0,S x] [] st=some (.bool false,bP st s [S t,I i]):=by
  refine zK K (F:=F226) (t:=4) rfl rfl rfl (lb rfl) (lb rfl) (by simp[bZ]) (ce _) hs (fP t i) (yI t _) 1 ?_;unfold F226 qr qd qm qc qb ql qf qu qs qo;simp (disch:=omega)only[↓pa,pb,ai,↓reduceIte,reduceEqDiff,reduceAdd,reduceCtorEq,Lb K,BX,h]
 rw[this,vN hs]
def vQ(K:iF cf){t x:List UInt8}{i:Nat}(hs:st.objs s=some [S t,I i])(hi:i<=t.length)(hl:t.length<=2000000)(hx:x.length<=2000000):
  cP (av cf 226 [.ptr s 0,S x] [] st) mk A↔lk (tk t i x=true) (ek A (mk (.bool true) (bP st s [S t,I (i+x.length:Nat)]))) (ek A (mk (.bool false) st)):=by
 by_cases h:tk t i x=true
 ·rw[Nq K hs hi hl hx h,eH];simp only[h,ek,lk];simp
 ·rw[Nr K hs hi hl h,eH];simp only[ek,lk,h];simp
def Kt(K:iF cf){t x:List UInt8}{i:Nat}(hs:st.objs s=some [S t,I i,.bool false])(hi:i<=t.length)(hl:t.length<=2000000)(hx:x.length<=2000000)(h:tk t i x=true):av cf 210 [.ptr s 0,S x] [] st=some (.bool true,bP st s [S t,I (i+x.length:Nat),.bool false]):=by
 refine zK K (F:=F210) (t:=4) rfl rfl rfl (lb rfl) (lb rfl) (by simp[bZ]) (ce _) hs (gm t i _) (BN t _ _) 1 ?_;unfold F210 qr qd qm qc qb ql qf qy qs qo;simp (disch:=omega)only[↓pa,pb,ai,aV,↓reduceIte,reduceEqDiff,reduceAdd,reduceLeDiff,reduceCtorEq,Du K,BX,h]
def Dk(K:iF cf){t x:List UInt8}{i:Nat}{b:Bool}(hs:st.objs s=some [S t,I i,.bool b])(hi:i<=t.length)(hl:t.length<=2000000)(h:¬ (b=false/\tk t i x=true)):av cf 210 [.ptr s 0,S x] [] st=some (.bool false,st):=by
 have:av cf 210 [.ptr s 0,S x] [] st=some (.bool false,bP st s [S t,I i,.bool b]):=by
  refine zK K (F:=F210) (t:=4) rfl rfl rfl (lb rfl) (lb rfl) (by simp[bZ]) (ce _) hs (gm t i _) (BN t _ _) 1 ?_;unfold F210 qr qd qm qc qb ql qf qy qs qo;cases b with
  |true=>simp only[↓pa,pb,ai,↓reduceIte,reduceEqDiff,reduceAdd,reduceCtorEq]
  |false=>
   have h':¬tk t i x=true:=fun k=>h ⟨rfl,k⟩;simp (disch:=omega)only[↓pa,pb,ai,↓reduceIte,reduceEqDiff,reduceAdd,reduceCtorEq,Du K,BX,h']
 rw[this,vN hs]
def qp(K:iF cf){t x:List UInt8}{i:Nat}(hs:st.objs s=some [S t,I i,.bool false])(hi:i<=t.length)(hl:t.length<=2000000)(hx:x.length<=2000000):
  cP (av cf 210 [.ptr s 0,S x] [] st) mk A↔lk (tk t i x=true) (ek A (mk (.bool true) (bP st s [S t,I (i+x.length:Nat),.bool false]))) (ek A (mk (.bool false) st)):=by
 by_cases h:tk t i x=true
 ·rw[Kt K hs hi hl hx h,eH];simp only[h,ek,lk];simp
 ·rw[Dk K hs hi hl (by simp[h]),eH];simp only[ek,lk,h];simp
def md(K:iF cf){t x:List UInt8}{i:Nat}(hs:st.objs s=some [S t,I i,.bool true])(hi:i<=t.length)(hl:t.length<=2000000):
  cP (av cf 210 [.ptr s 0,S x] [] st) mk A↔A (mk (.bool false) st):=by
 rw[Dk K hs hi hl (by simp),eH]
def vI{t:List UInt8}{i:Nat}{c:UInt8}(hc:c≠0):tk t i [c]=decide (cI t i=(c.toNat:Int)):=by
 unfold tk cI;rw[m5];simp only[decide_eq_true_eq,au,aO];by_cases hi:i<t.length
 ·have e:(t.drop i).take (0+1)=[t[i]]:=by rw[a6 hi];rfl
  have g:t.getD i 0=t[i]:=by simp[hi]
  rw[e,g];constructor
  ·intro h;rw[List.singleton_inj.1 h]
  ·intro h;rw[UInt8.toNat_inj.1 (Int.ofNat_inj.1 h)]
 ·rw[fG (by omega)];simp[bB (show t.length<=i by omega)];intro h;apply hc;apply UInt8.toNat_inj.1;simp;omega
end Go.PM
namespace Go.PM
open Go.Lib
variable {cf:aA} {st:St} {mk:PV->St->Fr×St} {A:Fr×St->Prop} {s:Nat}
structure bJ (cf:aA):Prop where
 tab:iF cf
 parse:∀ l:List UInt8,l.length<=2000000->cf 239 [S l,I 10,I 64] [] []=some (match parseIntB 64 l with
  | .ok n=> .tup [I n,.nili]
  | .range=> .tup [I (intSat 64 l),.err]
  |_=> .tup [I 0,.err],[],[])
 fmt:∀ n:Int,-9223372036854775808<=n->n<=9223372036854775807->cf 135 [I n,I 10] [] []=some (S (itoa n),[],[])
def Lc(K:bJ cf){n:Int}(h1: -9223372036854775808<=n)(h2:n<=9223372036854775807):av cf 135 [I n,I 10] [] st=some (S (itoa n),st):=
 rv (by simp[aQ]) (qI _) (K.fmt n h1 h2)
def Bz(K:bJ cf){l:List UInt8}(hl:l.length<=2000000){n:Int}(h:parseIntB 64 l= .ok n):av cf 239 [S l,I 10,I 64] [] st=some (.tup [I n,.nili],st):=
 rv (by simp[aQ,bZ]) (yJ (iP (dD _ _) (iP IW pq))) (by rw[K.parse l hl,h])
def BA(K:bJ cf){l:List UInt8}(hl:l.length<=2000000)(h:∀ n,parseIntB 64 l≠ .ok n):∃ n,av cf 239 [S l,I 10,I 64] [] st=some (.tup [I n,.err],st):=by
 cases e:parseIntB 64 l with
 |ok n=>exact absurd e (h n)
 |range=>exact⟨intSat 64 l,rv (by simp[aQ,bZ]) (yJ (iP (dD _ _) (iP Dz pq))) (by rw[K.parse l hl,e])⟩
 |_=>exact⟨0,rv (by simp[aQ,bZ]) (yJ (iP (dD _ _) (iP Dz pq))) (by rw[K.parse l hl,e])⟩
def mU{α:Type}(t:List UInt8)(enc:α->PV)(o:Option (α×Nat))(dm:PV->Prop)(r:PV)(c:List PV):Prop:=match o with
 |some (a,j)=>r= .tup [enc a,.bool true]/\c=[S t,I j]/\j<=t.length
 |none=>∃ p,∃ j:Nat,dm p/\r= .tup [p,.bool false]/\c=[S t,I j]/\j<=t.length
def oS{α:Type}(t:List UInt8)(enc:α->PV)(o:Option (α×Nat))(dm:PV->Prop)(r:PV)(c:List PV):Prop:=match o with
 |some (a,j)=>r=enc a/\c=[S t,I j,.bool false]/\j<=t.length
 |none=>∃ j:Nat,dm r/\c=[S t,I j,.bool true]/\j<=t.length
def hY{α:Type}{t:List UInt8}{enc:α->PV}{q:Option (α×Nat)}{dm:PV->Prop}{o:Option (PV×St)}(h:∃ r c',mU t enc q dm r c'/\∃ fl,o=some (r,cZ (bP st s c') fl))
  (k1:∀ a j fl,q=some (a,j)->j<=t.length->A (mk (.tup [enc a,.bool true]) (cZ (bP st s [S t,I j]) fl)))
  (k2:∀ p j fl,q=none->dm p->j<=t.length->A (mk (.tup [p,.bool false]) (cZ (bP st s [S t,I (j:Nat)]) fl))):cP o mk A:=by
 obtain⟨r,c',ho,fl,rfl⟩:=h;rw[eH]
 match q,ho,k1,k2 with
 |some (a,j),⟨e1,e2,e3⟩,k1,_=>rw[e1,e2];exact k1 a j fl rfl e3
 |none,⟨p,j,hd,e1,e2,e3⟩,_,k2=>rw[e1,e2];exact k2 p j fl rfl hd e3
def iQ{α:Type}{t:List UInt8}{enc:α->PV}{q:Option (α×Nat)}{dm:PV->Prop}{o:Option (PV×St)}(h:∃ r c',oS t enc q dm r c'/\∃ fl,o=some (r,cZ (bP st s c') fl))
  (k1:∀ a j fl,q=some (a,j)->j<=t.length->A (mk (enc a) (cZ (bP st s [S t,I j,.bool false]) fl)))
  (k2:∀ p j fl,q=none->dm p->j<=t.length->A (mk p (cZ (bP st s [S t,I (j:Nat),.bool true]) fl))):cP o mk A:=by
 obtain⟨r,c',ho,fl,rfl⟩:=h;rw[eH]
 match q,ho,k1,k2 with
 |some (a,j),⟨e1,e2,e3⟩,k1,_=>rw[e1,e2];exact k1 a j fl rfl e3
 |none,⟨j,hd,e2,e3⟩,_,k2=>rw[e2];exact k2 r j fl rfl hd e3
def bv{α:Type}{t:List UInt8}{enc:α->PV}{p:PV}{j:Nat}{dm:PV->Prop}{r:PV}{c:List PV}{q:Option (α×Nat)}(hq:q=none)(hd:dm p)(h1:r= .tup [p,.bool false])(h2:c=[S t,I j])(h3:j<=t.length):mU t enc q dm r c:=by
 subst hq;exact⟨p,j,hd,h1,h2,h3⟩
def dO{α:Type}{t:List UInt8}{enc:α->PV}{a:α}{j:Nat}{dm:PV->Prop}{r:PV}{c:List PV}{q:Option (α×Nat)}(hq:q=some (a,j))(h1:r= .tup [enc a,.bool true])(h2:c=[S t,I j])(h3:j<=t.length):mU t enc q dm r c:=by
 subst hq;exact⟨h1,h2,h3⟩
def d7{α:Type}{t:List UInt8}{enc:α->PV}{a:α}{j:Nat}{dm:PV->Prop}{r:PV}{c:List PV}{q:Option (α×Nat)}(hq:q=some (a,j))(h1:r=enc a)(h2:c=[S t,I j,.bool false])(h3:j<=t.length):oS t enc q dm r c:=by
 subst hq;exact⟨h1,h2,h3⟩
def a7{α:Type}{t:List UInt8}{enc:α->PV}{j:Nat}{dm:PV->Prop}{r:PV}{c:List PV}{q:Option (α×Nat)}(hq:q=none)(hd:dm r)(h2:c=[S t,I j,.bool true])(h3:j<=t.length):oS t enc q dm r c:=by
 subst hq;exact⟨j,hd,h2,h3⟩
def ni(p:PV):Prop:=∃ n,p=I n
def uC{l:List UInt8}{n:Int}(h:parseIntB 64 l= .ok n):gG l=if itoa n=l then some n else none:=by simp[gG,h]
def xZ{l:List UInt8}(h:∀ n,parseIntB 64 l≠ .ok n):gG l=none:=by
 unfold gG;split
 ·rename_i n e;exact absurd e (h n)
 ·rfl
def wN{t:List UInt8}{i j:Nat}(hj:j<=t.length):(dF t i j).length=j-i:=by simp[dF,hj]
def kg{t:List UInt8}{i j:Nat}:(t.take j).drop i=dF t i j:=rfl
def LZ(K:bJ cf){t:List UInt8}{i:Nat}(hs:st.objs s=some [S t,I i])(hi:i<=t.length)(hl:t.length<=2000000):
  ∃ r c',mU t I (fF t i) ni r c'/\∃ fl,av cf 221 [.ptr s 0] [] st=some (r,cZ (bP st s c') fl):=by
 refine gA K.tab (F:=F221) rfl rfl rfl (lb rfl) (lb rfl) (by simp) hs (fP t i) (t.length+1) ?_;unfold F221 qr qd qm qi qc qb qk ql qf qt qx qy qs qo;simp only[↓pa,pb,ai,↓reduceIte,reduceAdd,reduceCtorEq];refine(rS K.tab (t:=t) (i:=i) (by simp only[pb])).2 ?_;simp only[↓pa,pb,↓reduceIte];have hJ:fF t i=(gG (dF t i (skip eW t (if cI t i=45 then i+1 else i)))).map fun n=>(n,skip eW t (if cI t i=45 then i+1 else i)):=rfl;have hle:skip eW t (if cI t i=45 then i+1 else i)<=t.length:=by
  split
  ·rename_i h;exact oZ (by have:=dt (show cI t i≠0 by rw[h];decide);omega)
  ·exact oZ hi
 have hge:i<=skip eW t (if cI t i=45 then i+1 else i):=by
  have:=lR eW t (if cI t i=45 then i+1 else i);split at this<;>split<;>omega
 revert hJ hle hge;generalize hj0:(if cI t i=45 then i+1 else i)=j0;generalize hjJ:skip eW t j0=J;intro hJ hle hge;refine aa (fun h=>?_) (fun h=>?_)
 all_goals
  simp (disch:=omega)only[↓pa,pb,ai,aV,↓reduceIte,reduceEqDiff,reduceAdd,reduceLeDiff,reduceCtorEq,h];refine be (fun k fr st=>∃ j:Nat,k=t.length-j/\j<=t.length/\fr 0= .ptr 0 0/\fr 4=I i/\st.objs 0=some [S t,I j]/\skip eW t j=J) (t.length-j0) (by omega) ⟨j0,rfl,?_,by simp only[↓pa,↓reduceIte,reduceCtorEq],by simp only[↓pa,↓reduceIte,reduceEqDiff],?_,hjJ⟩ ?_
  ·have:=lR eW t j0;omega
  ·subst hj0;simp only[pb,↓reduceIte,h]
  rintro k fr st ⟨j,rfl,hj,f0,f4,o0,hsk⟩;simp only[↓pa,pb,ai,aV,↓reduceIte,reduceEqDiff,reduceAdd,reduceCtorEq,f0,o0];refine aa (fun h1=>?_) (fun h1=>?_)
  ·simp (disch:=omega)only[↓pa,pb,ai,↓reduceIte,reduceEqDiff,reduceAdd,reduceCtorEq,f0,o0,qG K.tab,h1];refine aa (fun h2=>?_) (fun h2=>?_)
   ·simp (disch:=omega)only[↓pa,pb,ai,aV,↓reduceIte,reduceEqDiff,reduceAdd,reduceLeDiff,reduceCtorEq,f0,f4,o0,h2];refine⟨t.length- (j+1),by omega,j+1,rfl,by omega,rfl,?_⟩;rw[<-kT h1 h2,hsk]
   ·have hjj:J=j:=by rw[<-hsk];exact oY fun _=>by simpa using h2
    subst hjj;simp (disch:=omega)only[↓pa,pb,ai,↓reduceIte,reduceEqDiff,reduceAdd,reduceCtorEq,f0,f4,o0,h2,kg];have hsl:(dF t i J).length<=2000000:=by rw[wN hle];omega
    by_cases hp:∃ n,parseIntB 64 (dF t i J)= .ok n
    ·obtain⟨n,hp⟩:=hp;have hb:=parseIntB_bounds hp;have hb1: -9223372036854775808<=n:=hb.1;have hb2:n<=9223372036854775807:=by have:=hb.2;omega
     simp only[↓pa,pb,aj,ah,↓reduceIte,reduceEqDiff,du,Bz K hsl hp,Lc K hb1 hb2];rw[uC hp]at hJ;refine aa (fun he=>?_) (fun he=>?_)
     ·simp only[↓pa,pb,az,↓reduceIte,reduceEqDiff,o0];rw[ak (by simpa using he)]at hJ;exact dO hJ rfl rfl hle
     ·simp only[↓pa,pb,az,↓reduceIte,reduceEqDiff,o0];rw[ad (by simpa using he)]at hJ;exact bv hJ ⟨_,rfl⟩ rfl rfl hle
    ·have hp:∀ n,parseIntB 64 (dF t i J)≠ .ok n:=fun n h=>hp ⟨n,h⟩;obtain⟨n,hn⟩:=BA (st:=st) K hsl hp;simp only[↓pa,pb,az,aj,ah,↓reduceIte,reduceEqDiff,o0,hn];rw[xZ hp]at hJ;exact bv hJ ⟨_,rfl⟩ rfl rfl hle
  ·have hjj:J=j:=by rw[<-hsk];exact oY fun h=>absurd h h1
   subst hjj;simp (disch:=omega)only[↓pa,pb,ai,↓reduceIte,reduceEqDiff,reduceAdd,reduceCtorEq,f0,f4,o0,h1,kg];have hsl:(dF t i J).length<=2000000:=by rw[wN hle];omega
   by_cases hp:∃ n,parseIntB 64 (dF t i J)= .ok n
   ·obtain⟨n,hp⟩:=hp;have hb:=parseIntB_bounds hp;have hb1: -9223372036854775808<=n:=hb.1;have hb2:n<=9223372036854775807:=by have:=hb.2;omega
    simp only[↓pa,pb,aj,ah,↓reduceIte,reduceEqDiff,du,Bz K hsl hp,Lc K hb1 hb2];rw[uC hp]at hJ;refine aa (fun he=>?_) (fun he=>?_)
    ·simp only[↓pa,pb,az,↓reduceIte,reduceEqDiff,o0];rw[ak (by simpa using he)]at hJ;exact dO hJ rfl rfl hle
    ·simp only[↓pa,pb,az,↓reduceIte,reduceEqDiff,o0];rw[ad (by simpa using he)]at hJ;exact bv hJ ⟨_,rfl⟩ rfl rfl hle
   ·have hp:∀ n,parseIntB 64 (dF t i J)≠ .ok n:=fun n h=>hp ⟨n,h⟩;obtain⟨n,hn⟩:=BA (st:=st) K hsl hp;simp only[↓pa,pb,az,aj,ah,↓reduceIte,reduceEqDiff,o0,hn];rw[xZ hp]at hJ;exact bv hJ ⟨_,rfl⟩ rfl rfl hle
end Go.PM
namespace Go.PM
open Go.Lib
def lP(a:Nat)(l:List UInt8):Nat:=l.foldl (fun a c=>a*10+(c.toNat-48)) a
def xS(a:Nat):lP a []=a:=by unfold lP;rw[List.foldl_nil]
def vG(a:Nat)(c:UInt8)(l:List UInt8):lP a (c::l)=lP (a*10+(c.toNat-48)) l:=by unfold lP;rw[lm]
def AJ(a:Nat)(l:List UInt8)(c:UInt8):lP a (l++[c])=lP a l*10+(c.toNat-48):=by simp[lP]
def Lk(l:List UInt8):∀ a,a<=lP a l:=by
 induction l with
 |nil=>exact fun a=>aE _
 |cons c l ih=>intro a;rw[vG];have:=ih (a*10+(c.toNat-48));omega
def wj(c:UInt8):Bool:=eW (c.toNat:Int)
def rU{n:Int}:eW n=true↔48<=n/\n<=57:=by simp[eW]
def qC{c:UInt8}:wj c=true↔48<=c.toNat/\c.toNat<=57:=by simp[wj,eW];omega
def tn{d:Nat}(h:d<10):(UInt8.ofNat (48+d)).toNat=48+d:=by
 rw[UInt8.toNat_ofNat_of_lt' (by simp[UInt8.size];omega)]
def nN(u:Nat):decDigits u≠ []/\(∀ c∈decDigits u,wj c=true)/\lP 0 (decDigits u)=u:=by
 induction u using Nat.strongRecOn with
 |_ u ih=>
  by_cases h:u<10
  ·rw[decDigits,dif_pos h];refine⟨by simp,?_,?_⟩
   ·intro c hc;rw[dZ.1 hc,qC,tn h];omega
   ·rw[vG,xS,tn h];omega
  ·obtain⟨h1,h2,h3⟩:=ih (u / 10) (by omega);rw[decDigits,dif_neg h];refine⟨by simp,?_,?_⟩
   ·intro c hc;rcases ay.1 hc with hc|hc
    ·exact h2 c hc
    ·rw[dZ.1 hc,qC,tn (by omega)];omega
   ·rw[AJ,h3,tn (by omega)];omega
def rB(M:Nat)(hM:M<=18446744073709551615):∀ (l:List UInt8) (a:Nat),(∀ c∈l,wj c=true)->lP a l<=M->parseUintM M a l= .ok (lP a l)
 | [],a,_,_=>rfl
 |c::l,a,h,hv=>by
  have hc:=qC.1 (h c (by simp));rw[vG]at hv;have hge:=Lk l (a*10+(c.toNat-48));rw[parseUintM,ak hc,ad (by omega),ad (by omega),rB M hM l _ (fun d hd=>h d (by simp[hd])) hv];rfl
def Gc{n:Int}(h1: -9223372036854775808<=n)(h2:n<=9223372036854775807):parseIntB 64 (itoa n)= .ok n:=by
 have key:∀ u:Nat,u<=18446744073709551615->parseUintB 64 (decDigits u)= .ok u:=fun u hu=>by
  obtain⟨d1,d2,d3⟩:=nN u;rw[parseUintB,ad d1];have:=rB (2 ^ 64-1) (by decide) (decDigits u) 0 d2 (by rw[d3];simpa using hu);rw[d3]at this;exact this
 unfold itoa;split
 ·rename_i hn;have hu:=key n.natAbs (by omega);unfold parseIntB;have e:(45:UInt8).toNat=45:=rfl;simp only[e,or_true,if_true,hu,not_true,false_and,if_false,true_and];rw[ad (by simp;omega)];congr 1;omega
 ·rename_i hn;have hu:=key n.toNat (by omega);obtain⟨d1,d2,d3⟩:=nN n.toNat
  match hd:decDigits n.toNat,d1 with
  |c::r,_=>
   have hc:=qC.1 (d2 c (by simp[hd]));rw[hd]at hu;unfold parseIntB;have e1:¬c.toNat=43:=by omega
   have e2:¬c.toNat=45:=by omega
   simp only[e1,e2,or_self,if_false,not_false_eq_true,true_and,false_and];rw[hu];simp only;rw[ad (by simp;omega),show((n.toNat:Nat):Int)=n by omega]
def rH{n:Int}(h1: -9223372036854775808<=n)(h2:n<=9223372036854775807):gG (itoa n)=some n:=by
 rw[uC (Gc h1 h2),ak rfl]
def me{l:List UInt8}{n:Int}(h:gG l=some n):itoa n=l/\ -9223372036854775808<=n/\n<=9223372036854775807:=by
 by_cases hp:∃ m,parseIntB 64 l= .ok m
 ·obtain⟨m,hp⟩:=hp;rw[uC hp]at h;split at h
  ·rename_i e;cases h;have hb:=parseIntB_bounds hp;exact⟨e,hb.1,by have:=hb.2;omega⟩
  ·cases h
 ·rw[xZ fun m hm=>hp ⟨m,hm⟩]at h;cases h
def zh(k:Nat):∀ u,u<10 ^ (k+1)->nDigits u<=k+1:=by
 induction k with
 |zero=>intro u h;rw[nDigits_small (by simpa using h)];omega
 |succ k ih=>
  intro u h;by_cases hu:u<10
  ·rw[nDigits_small hu];omega
  ·rw[nDigits_big hu];have:=ih (u / 10) (by rw[Nat.pow_succ]at h;omega);omega
def uW{n:Int}(h1: -9223372036854775808<=n)(h2:n<=9223372036854775807):(itoa n).length<=20:=by
 unfold itoa;split
 ·rw[au,decDigits_length];have:=zh 18 n.natAbs (by simp;omega);omega
 ·rw[decDigits_length];have:=zh 18 n.toNat (by simp;omega);omega
def w4(n:Int):itoa n≠ []:=by
 unfold itoa;split
 ·simp
 ·exact(nN _).1
def Bb{n:Int}{c:UInt8}{r:List UInt8}(h:itoa n=c::r):(n<0/\c=45/\r=decDigits n.natAbs)\/(0<=n/\wj c=true):=by
 unfold itoa at h;split at h
 ·rename_i hn;cases h;exact .inl ⟨hn,rfl,rfl⟩
 ·rename_i hn;exact .inr ⟨by omega,(nN n.toNat).2.1 c (by rw[h];simp)⟩
def Ao{n:Int}(h1:n<0)(h2: -10<n):itoa n=45::itoa (-n):=by
 unfold itoa;rw[ak h1,ad (by omega)];congr 1;have:n.natAbs=(-n).toNat:=by omega
 rw[this]
def CR{n:Int}(h:n<= -10):itoa n=itoa (n.tdiv 10)++[UInt8.ofNat (48-n.tmod 10).toNat]:=by
 obtain⟨u,rfl⟩:∃ u:Nat,n= -(u:Int):=⟨n.natAbs,by omega⟩;have e1:(-(u:Int)).tdiv 10= -((u / 10:Nat):Int):=by rw[Int.neg_tdiv];rfl
 have e2:(-(u:Int)).tmod 10= -((u % 10:Nat):Int):=by rw[Int.neg_tmod];rfl
 rw[e1,e2];unfold itoa;rw[ak (by omega),ak (by omega),Int.natAbs_neg,Int.natAbs_neg,Int.natAbs_natCast,Int.natAbs_natCast]
 conv=>lhs;rw[decDigits,dif_neg (by omega)]
 rw[a8];have:(48- -((u % 10:Nat):Int)).toNat=48+u % 10:=by omega
 rw[this]
def Gp{n:Int}(h1:0<=n)(h2:n<10):itoa n=[UInt8.ofNat (48+n).toNat]:=by
 unfold itoa;rw[ad (by omega),decDigits,dif_pos (by omega)];congr 2;omega
def J0{n:Int}(h:10<=n):itoa n=itoa (n.tdiv 10)++[UInt8.ofNat (48+n.tmod 10).toNat]:=by
 obtain⟨u,rfl⟩:∃ u:Nat,n=(u:Int):=⟨n.toNat,by omega⟩;have e1:((u:Int)).tdiv 10=((u / 10:Nat):Int):=rfl;have e2:((u:Int)).tmod 10=((u % 10:Nat):Int):=rfl;rw[e1,e2];unfold itoa;rw[ad (by omega),ad (by omega),ez,ez]
 conv=>lhs;rw[decDigits,dif_neg (by omega)]
 congr 3
def xX{t:List UInt8}{i j:Nat}(h:i<j)(hj:j<=t.length):∃ c:UInt8,cI t i=(c.toNat:Int)/\dF t i j=c::dF t (i+1) j:=by
 have hi:i<t.length:=by omega
 refine⟨t[i],pT t i hi,?_⟩;unfold dF;rw[a6 (by rw[aG];omega),List.getElem_take]
def qj(t:List UInt8)(i:Nat):dF t i i=[]:=by
 unfold dF;exact fG (by rw[aG];omega)
def Jh{t:List UInt8}{i j:Nat}(h:i<=j)(hj:j<t.length):dF t i (j+1)=dF t i j++[t[j]]:=by
 unfold dF;rw[aW hj,iZ (by rw[aG];omega)]
def HC{t:List UInt8}{i:Nat}(hi:i<=t.length)(h:¬eW (cI t i)=true):sX t i=none:=by
 unfold sX;split
 ·rename_i n j hp;rw[ad];intro hn;have hle:=EQ hi hp;unfold fF at hp;simp only[am,cn]at hp;obtain⟨m,hm,rfl,rfl⟩:=hp;obtain⟨e,-,-⟩:=me hm;revert e hle;generalize hJ:skip eW t (if cI t i=45 then i+1 else i)=J;intro hle e;by_cases hlt:i<J
  ·obtain⟨c,hc,hs⟩:=xX hlt hle.2;rw[hs]at e;rcases Bb e with⟨hneg,-,-⟩|⟨-,hd⟩
   ·omega
   ·exact h (by rw[hc];exact hd)
  ·have:J=i:=by omega
   rw[this,qj]at e;exact w4 m e
 ·rfl
def K2{x d:Int}:IntKind.i64.wrap (IntKind.i64.wrap (IntKind.i64.wrap x*10)+d)=IntKind.i64.wrap (x*10+d):=by
 simp only[jf];omega
def NJ{x:Int}:IntKind.i64.wrap (-(IntKind.i64.wrap x))=IntKind.i64.wrap (-x):=by
 simp only[jf];omega
def um(x:Int): -9223372036854775808<=IntKind.i64.wrap x/\IntKind.i64.wrap x<=9223372036854775807:=by
 simp only[jf];omega
def rO{k:IntKind}{a b:Int}(h:b≠0):dS .quo (.int k a) (.int k b)=some (.int k (k.wrap (a.tdiv b))):=by simp[dS,fN,binOp,Op.intDiv,h,dG,ib]
def qZ{k:IntKind}{a b:Int}(h:b≠0):dS .rem (.int k a) (.int k b)=some (.int k (a.tmod b)):=by simp[dS,fN,binOp,Op.intDiv,h,dG,ib]
def vl{x:Int}{t:aB}{st:St}:GV (.list 1 [U x] t) st=some (S [UInt8.ofNat x.toNat],st):=rfl
def MA(n:Int):(0<=n->0<=n.tdiv 10/\n.tdiv 10*10<=n/\n<n.tdiv 10*10+10)/\(n<=0->n.tdiv 10<=0/\n<=n.tdiv 10*10/\n.tdiv 10*10-10<n)/\n=n.tdiv 10*10+n.tmod 10:=by
 have:=Int.mul_tdiv_add_tmod n 10;rcases Int.le_total 0 n with h|h
 ·have h1:=Int.tmod_nonneg 10 h;have h2:=Int.tmod_lt_of_pos n (show(0:Int)<10 by decide);have h3:=Int.tdiv_nonneg h (show(0:Int)<=10 by decide);omega
 ·obtain⟨u,rfl⟩:∃ u:Nat,n= -(u:Int):=⟨n.natAbs,by omega⟩;have e1:(-(u:Int)).tdiv 10= -((u / 10:Nat):Int):=by rw[Int.neg_tdiv];rfl
  have e2:(-(u:Int)).tmod 10= -((u % 10:Nat):Int):=by rw[Int.neg_tmod];rfl
  rw[e1,e2];omega
end Go.PM
namespace Go.PM
open Go.Lib
variable {cf:aA} {st:St} {mk:PV->St->Fr×St} {A:Fr×St->Prop} {s:Nat}
def Lf(K:bJ cf):∀ (k:Nat) (n:Int),2*n.natAbs+(if n<0 then 1 else 0)<k-> -9223372036854775808<=n->n<=9223372036854775807->∀ st,av cf 98 [I n] [] st=some (S (itoa n),st)
 |0,_,h,_,_=>by omega
 |k+1,n,hk,h1,h2=>by
  intro st;have ih:=Lf K k;refine cQ K.tab (F:=F98) (t:=2) rfl rfl rfl (lb rfl) (by simp[aQ]) (qI _) 1 ?_;unfold F98 qr qd qm qc qb qk qt qo;obtain⟨q1,q2,q3⟩:=MA n;simp only[↓pa,pb,↓reduceIte,reduceCtorEq];refine aa (fun h3=>?_) (fun h3=>?_)
  ·have ih1: -10<n->∀ st,av cf 98 [I (-n)] [] st=some (S (itoa (-n)),st):=fun h=>ih (-n) (by rw[ak h3]at hk;rw[ad (by omega)];omega) (by omega) (by omega);have q2:=q2 (by omega);have ih2:n<= -10->∀ st,av cf 98 [I (n.tdiv 10)] [] st=some (S (itoa (n.tdiv 10)),st):=fun h=>ih (n.tdiv 10) (by rw[ak h3]at hk;split<;>omega) (by omega) (by omega)
   simp only[↓pa,pb,↓reduceIte,reduceCtorEq,h3];refine aa (fun h4=>?_) (fun h4=>?_)
   ·have e1:=uW (n:= -n) (by omega) (by omega);have e2:([45]:List UInt8).length=1:=rfl;simp (disch:=omega)only[↓pa,pb,↓reduceIte,reduceCtorEq,h4,ih1 h4];rw[Ao h3 h4];rfl
   ·have hb:n<= -10:=by omega
    have e1:=uW (n:=n.tdiv 10) (by omega) (by omega);have e2:([UInt8.ofNat (48-n.tmod 10).toNat]:List UInt8).length=1:=rfl;simp (disch:=omega)only[↓pa,↓bT,pb,ai,↓reduceIte,reduceEqDiff,reduceAdd,reduceLeDiff,reduceLT,reduceCtorEq,h4,rO (show(10:Int)≠0 by decide),qZ (show(10:Int)≠0 by decide),ih2 hb,vl];rw[CR (n:=n) hb]
  ·simp only[↓pa,pb,↓reduceIte,reduceCtorEq,h3];refine aa (fun h4=>?_) (fun h4=>?_)
   ·simp (disch:=omega)only[↓pa,↓bT,pb,ai,↓reduceIte,reduceAdd,reduceLeDiff,reduceLT,reduceCtorEq,h4,vl];rw[Gp (n:=n) (by omega) h4]
   ·have q1:=q1 (by omega);have e1:=uW (n:=n.tdiv 10) (by omega) (by omega);have e2:([UInt8.ofNat (48+n.tmod 10).toNat]:List UInt8).length=1:=rfl;have ih3:=ih (n.tdiv 10) (by split at hk<;>split<;>omega) (by omega) (by omega)
    simp (disch:=omega)only[↓pa,↓bT,pb,ai,↓reduceIte,reduceEqDiff,reduceAdd,reduceLeDiff,reduceLT,reduceCtorEq,h4,rO (show(10:Int)≠0 by decide),qZ (show(10:Int)≠0 by decide),ih3,vl];rw[J0 (n:=n) (by omega)]
def zL(K:bJ cf){n:Int}(h1: -9223372036854775808<=n)(h2:n<=9223372036854775807):av cf 98 [I n] [] st=some (S (itoa n),st):=Lf K _ n (Nat.lt_succ_self _) h1 h2 st
def DF{t:List UInt8}{j0 j:Nat}(h0:j0<=j)(h:j<t.length)(hd:eW (cI t j)=true):((lP 0 (dF t j0 (j+1)):Nat):Int)=(lP 0 (dF t j0 j):Nat) *10+(cI t j-48):=by
 have hc:=rU.1 hd;rw[pT t j h]at hc ⊢;rw[Jh h0 h,AJ];omega
def eO(p:PV):Prop:=∃ cs:List PV,p= .agg cs/\cs.length=6/\aI cs=true/\aF cs=cs
def Ci{t:List UInt8}{i J:Nat}{a:Int}(hi:i<=J)(hJ:J<=t.length)(hj:i≠J->(cI t i=45->i+1<=J/\a=IntKind.i64.wrap (-(lP 0 (dF t (i+1) J):Nat)))/\(cI t i≠45->a=IntKind.i64.wrap (lP 0 (dF t i J):Nat))):
  ∀ n,gG (dF t i J)=some n->i≠J/\J-i<=20/\a=n:=by
 intro n hn;obtain⟨e,r1,r2⟩:=me hn;have hne:i≠J:=fun h=>by
  rw[<-h,qj]at e;exact w4 n e
 have hlen:=uW r1 r2;rw[e,wN hJ]at hlen;refine⟨hne,hlen,?_⟩;obtain⟨c,hc,hs⟩:=xX (show i<J by omega) hJ;obtain⟨hA,hB⟩:=hj hne;rcases Bb (e.trans hs)with⟨hneg,rfl,hr⟩|⟨hpos,hd⟩
 ·obtain⟨-,ha⟩:=hA hc;rw[ha,hr,(nN _).2.2,wrap_i64 (by omega) (by omega)];omega
 ·have hcc:=qC.1 hd;rw[hB (by omega),<-e];unfold itoa;rw[ad (by omega),(nN _).2.2,wrap_i64 (by omega) (by omega)];omega
def Kv(K:bJ cf){t:List UInt8}{i:Nat}{b:Bool}(hs:st.objs s=some [S t,I i,.bool b])(hi:i<=t.length)(hl:t.length<=2000000):
  ∃ r c',oS t I (if b then none else fF t i) ni r c'/\∃ fl,av cf 213 [.ptr s 0] [] st=some (r,cZ (bP st s c') fl):=by
 refine gA K.tab (F:=F213) rfl rfl rfl (lb rfl) (lb rfl) (by simp) hs (gm t i b) (t.length+1) ?_;unfold F213 qr qd qm qi qb qk ql qf qx qy qs qo qe;by_cases h45:cI t i=45
 ·have hlt:=dt (show cI t i≠0 by rw[h45];decide);have hJ:fF t i=(gG (dF t i (skip eW t (i+1)))).map fun n=>(n,skip eW t (i+1)):=by rw[fF,ak h45]
  have hle:skip eW t (i+1)<=t.length:=oZ (by omega);have hge:i+1<=skip eW t (i+1):=lR _ _ _;revert hJ hle hge;generalize hjJ:skip eW t (i+1)=J;intro hJ hle hge;have hiJ:i<J:=by omega
  simp (disch:=omega)only[↓pa,pb,ai,aV,↓reduceIte,reduceEqDiff,reduceAdd,reduceLeDiff,reduceCtorEq,h45,hlt];refine be (fun k fr st=>∃ j:Nat,k=t.length-j/\i+1<=j/\j<=t.length/\fr 0= .ptr 0 0/\fr 3=I i/\fr 4=I (IntKind.i64.wrap (lP 0 (dF t (i+1) j):Nat))/\st.objs 0=some [S t,I j,.bool b]/\skip eW t j=J) (t.length- (i+1)) (by omega) ⟨i+1,rfl,by omega,by omega,by simp only[↓pa,↓reduceIte,reduceCtorEq],by simp only[↓pa,↓reduceIte,reduceEqDiff],by rw[qj,xS];simp (disch:=omega)only[↓pa,pb,↓reduceIte];rfl,by simp only[pb,↓reduceIte],hjJ⟩ ?_;rintro k fr st ⟨j,rfl,hj0j,hj,f0,f3,f4,o0,hsk⟩;simp (disch:=omega)only[↓pa,pb,ai,aV,↓reduceIte,reduceEqDiff,reduceAdd,reduceCtorEq,f0,o0];by_cases hd:j<t.length/\eW (cI t j)=true
  ·obtain⟨h1,h2⟩:=hd;have hd':=rU.1 h2;simp (disch:=omega)only[↓pa,pb,ai,aV,↓reduceIte,reduceEqDiff,reduceAdd,reduceLeDiff,reduceCtorEq,f0,f3,f4,o0,nv K.tab,h1,h2];refine⟨t.length- (j+1),by omega,j+1,rfl,by omega,by omega,?_,rfl,?_⟩
   ·rw[K2,DF hj0j h1 h2]
   ·rw[<-kT h1 h2,hsk]
  have hjj:J=j:=by
   rw[<-hsk];exact oY fun h=>by
    cases hx:eW (cI t j)
    ·rfl
    ·exact absurd ⟨h,hx⟩ hd
  subst hjj;have hq:∀ n,gG (dF t i J)=some n->i≠J/\J-i<=20/\IntKind.i64.wrap (-(IntKind.i64.wrap (lP 0 (dF t (i+1) J):Nat)))=n:=Ci (by omega) hle fun _=>⟨fun _=>⟨by omega,NJ⟩,fun h=>absurd h45 h⟩;refine aa (fun h1=>?_) (fun h1=>?_)
  ·simp (disch:=omega)only[↓pa,pb,ai,↓reduceIte,reduceEqDiff,reduceAdd,reduceCtorEq,f0,o0,h1,nv K.tab];refine aa (fun h2=>?_) (fun h2=>?_)
   ·exact absurd ⟨h1,h2⟩ hd
   simp (disch:=omega)only[↓pa,↓dx,pb,ai,cB,aV,↓reduceIte,reduceEqDiff,reduceAdd,reduceCtorEq,f0,f3,f4,o0,h45,hiJ];have hne:¬i=J:=by omega
   have hno:∀ a,(∀ n,gG (dF t i J)=some n->i≠J/\J-i<=20/\a=n)->(J-i<=20->itoa a≠dF t i J)->fF t i=none:=fun a h1 h2=>by
    rw[hJ];cases hr:gG (dF t i J)with
    |none=>rfl
    |some n=>
     obtain⟨k1,k2,k3⟩:=h1 n hr;exact absurd (by rw[k3];exact(me hr).1) (h2 k2)
   simp (disch:=omega)only[↓pa,↓dx,pb,ai,cB,↓reduceIte,reduceEqDiff,reduceAdd,reduceCtorEq,f0,f3,o0,hne];refine aa (fun h20=>?_) (fun h20=>?_)
   ·have hnone:fF t i=none:=hno _ hq fun h=>by omega
    have hx:=h20;simp (disch:=omega)only[↓pa,↓dx,pb,ai,cB,fD,az,aj,ah,↓reduceIte,reduceEqDiff,reduceAdd,reduceLeDiff,reduceCtorEq,f0,o0,hx];refine a7 (dm:=ni) ?_ ⟨_,rfl⟩ rfl hle;rw[hnone];cases b<;>rfl
   ·have hr:=um;simp (disch:=omega)only[↓pa,↓dx,pb,ai,cB,fD,aj,ah,↓reduceIte,reduceEqDiff,reduceAdd,du,reduceCtorEq,f0,f3,o0,h20,zL K (hr _).1 (hr _).2,kg];refine aa (fun he=>?_) (fun he=>?_)
    ·have hJ':=bq gG he;rw[rH (hr _).1 (hr _).2]at hJ';rw[<-hJ']at hJ;simp (disch:=omega)only[↓pa,pb,az,↓reduceIte,reduceEqDiff,o0,he];cases b
     ·exact d7 hJ rfl rfl hle
     ·exact a7 (dm:=ni) rfl ⟨_,rfl⟩ rfl hle
    ·have hnone:fF t i=none:=hno _ hq fun _=>he;have hx:=he;simp (disch:=omega)only[↓pa,pb,ai,az,↓reduceIte,reduceEqDiff,reduceAdd,reduceLeDiff,reduceCtorEq,f0,o0,hx];refine a7 (dm:=ni) ?_ ⟨_,rfl⟩ rfl hle;rw[hnone];cases b<;>rfl
  ·simp (disch:=omega)only[↓pa,↓dx,pb,ai,cB,aV,↓reduceIte,reduceEqDiff,reduceAdd,reduceCtorEq,f0,f3,f4,o0,h1,h45,hiJ];have hne:¬i=J:=by omega
   have hno:∀ a,(∀ n,gG (dF t i J)=some n->i≠J/\J-i<=20/\a=n)->(J-i<=20->itoa a≠dF t i J)->fF t i=none:=fun a h1 h2=>by
    rw[hJ];cases hr:gG (dF t i J)with
    |none=>rfl
    |some n=>
     obtain⟨k1,k2,k3⟩:=h1 n hr;exact absurd (by rw[k3];exact(me hr).1) (h2 k2)
   simp (disch:=omega)only[↓pa,↓dx,pb,ai,cB,↓reduceIte,reduceEqDiff,reduceAdd,reduceCtorEq,f0,f3,o0,hne];refine aa (fun h20=>?_) (fun h20=>?_)
   ·have hnone:fF t i=none:=hno _ hq fun h=>by omega
    have hx:=h20;simp (disch:=omega)only[↓pa,↓dx,pb,ai,cB,fD,az,aj,ah,↓reduceIte,reduceEqDiff,reduceAdd,reduceLeDiff,reduceCtorEq,f0,o0,hx];refine a7 (dm:=ni) ?_ ⟨_,rfl⟩ rfl hle;rw[hnone];cases b<;>rfl
   ·have hr:=um;simp (disch:=omega)only[↓pa,↓dx,pb,ai,cB,fD,aj,ah,↓reduceIte,reduceEqDiff,reduceAdd,du,reduceCtorEq,f0,f3,o0,h20,zL K (hr _).1 (hr _).2,kg];refine aa (fun he=>?_) (fun he=>?_)
    ·have hJ':=bq gG he;rw[rH (hr _).1 (hr _).2]at hJ';rw[<-hJ']at hJ;simp (disch:=omega)only[↓pa,pb,az,↓reduceIte,reduceEqDiff,o0,he];cases b
     ·exact d7 hJ rfl rfl hle
     ·exact a7 (dm:=ni) rfl ⟨_,rfl⟩ rfl hle
    ·have hnone:fF t i=none:=hno _ hq fun _=>he;have hx:=he;simp (disch:=omega)only[↓pa,pb,ai,az,↓reduceIte,reduceEqDiff,reduceAdd,reduceLeDiff,reduceCtorEq,f0,o0,hx];refine a7 (dm:=ni) ?_ ⟨_,rfl⟩ rfl hle;rw[hnone];cases b<;>rfl
 ·have hJ:fF t i=(gG (dF t i (skip eW t i))).map fun n=>(n,skip eW t i):=by rw[fF,ad h45]
  have hle:skip eW t i<=t.length:=oZ hi;have hge:i<=skip eW t i:=lR _ _ _;revert hJ hle hge;generalize hjJ:skip eW t i=J;intro hJ hle hge;by_cases hlt:i<t.length
  ·simp (disch:=omega)only[↓pa,pb,ai,aV,↓reduceIte,reduceEqDiff,reduceAdd,reduceCtorEq,h45,hlt];refine be (fun k fr st=>∃ j:Nat,k=t.length-j/\i<=j/\j<=t.length/\fr 0= .ptr 0 0/\fr 3=I i/\fr 4=I (IntKind.i64.wrap (lP 0 (dF t i j):Nat))/\st.objs 0=some [S t,I j,.bool b]/\skip eW t j=J) (t.length-i) (by omega) ⟨i,rfl,by omega,by omega,by simp only[↓pa,↓reduceIte,reduceCtorEq],by simp only[↓pa,↓reduceIte,reduceEqDiff],by rw[qj,xS];simp (disch:=omega)only[↓pa,pb,↓reduceIte];rfl,by simp only[pb],hjJ⟩ ?_;rintro k fr st ⟨j,rfl,hj0j,hj,f0,f3,f4,o0,hsk⟩;simp (disch:=omega)only[↓pa,pb,ai,aV,↓reduceIte,reduceEqDiff,reduceAdd,reduceCtorEq,f0,o0];by_cases hd:j<t.length/\eW (cI t j)=true
   ·obtain⟨h1,h2⟩:=hd;have hd':=rU.1 h2;simp (disch:=omega)only[↓pa,pb,ai,aV,↓reduceIte,reduceEqDiff,reduceAdd,reduceLeDiff,reduceCtorEq,f0,f3,f4,o0,nv K.tab,h1,h2];refine⟨t.length- (j+1),by omega,j+1,rfl,by omega,by omega,?_,rfl,?_⟩
    ·rw[K2,DF hj0j h1 h2]
    ·rw[<-kT h1 h2,hsk]
   have hjj:J=j:=by
    rw[<-hsk];exact oY fun h=>by
     cases hx:eW (cI t j)
     ·rfl
     ·exact absurd ⟨h,hx⟩ hd
   subst hjj;have hq:∀ n,gG (dF t i J)=some n->i≠J/\J-i<=20/\IntKind.i64.wrap (lP 0 (dF t i J):Nat)=n:=Ci (by omega) hle fun _=>⟨fun h=>absurd h h45,fun _=>rfl⟩;by_cases hiJ:i<J
   ·refine aa (fun h1=>?_) (fun h1=>?_)
    ·simp (disch:=omega)only[↓pa,pb,ai,↓reduceIte,reduceEqDiff,reduceAdd,reduceCtorEq,f0,o0,h1,nv K.tab];refine aa (fun h2=>?_) (fun h2=>?_)
     ·exact absurd ⟨h1,h2⟩ hd
     simp (disch:=omega)only[↓pa,↓dx,pb,ai,cB,aV,↓reduceIte,reduceEqDiff,reduceAdd,reduceCtorEq,f0,f3,o0,h45,hiJ];have hne:¬i=J:=by omega
     have hno:∀ a,(∀ n,gG (dF t i J)=some n->i≠J/\J-i<=20/\a=n)->(J-i<=20->itoa a≠dF t i J)->fF t i=none:=fun a h1 h2=>by
      rw[hJ];cases hr:gG (dF t i J)with
      |none=>rfl
      |some n=>
       obtain⟨k1,k2,k3⟩:=h1 n hr;exact absurd (by rw[k3];exact(me hr).1) (h2 k2)
     simp (disch:=omega)only[↓pa,↓dx,pb,ai,cB,↓reduceIte,reduceEqDiff,reduceAdd,reduceCtorEq,f0,f3,o0,hne];refine aa (fun h20=>?_) (fun h20=>?_)
     ·have hnone:fF t i=none:=hno _ hq fun h=>by omega
      have hx:=h20;simp (disch:=omega)only[↓pa,↓dx,pb,ai,cB,fD,az,aj,ah,↓reduceIte,reduceEqDiff,reduceAdd,reduceLeDiff,reduceCtorEq,f0,f4,o0,hx];refine a7 (dm:=ni) ?_ ⟨_,rfl⟩ rfl hle;rw[hnone];cases b<;>rfl
     ·have hr:=um;simp (disch:=omega)only[↓pa,↓dx,pb,ai,cB,fD,aj,ah,↓reduceIte,reduceEqDiff,reduceAdd,du,reduceCtorEq,f0,f3,f4,o0,h20,zL K (hr _).1 (hr _).2,kg];refine aa (fun he=>?_) (fun he=>?_)
      ·have hJ':=bq gG he;rw[rH (hr _).1 (hr _).2]at hJ';rw[<-hJ']at hJ;simp (disch:=omega)only[↓pa,pb,az,↓reduceIte,reduceEqDiff,f4,o0,he];cases b
       ·exact d7 hJ rfl rfl hle
       ·exact a7 (dm:=ni) rfl ⟨_,rfl⟩ rfl hle
      ·have hnone:fF t i=none:=hno _ hq fun _=>he;have hx:=he;simp (disch:=omega)only[↓pa,pb,ai,az,↓reduceIte,reduceEqDiff,reduceAdd,reduceLeDiff,reduceCtorEq,f0,f4,o0,hx];refine a7 (dm:=ni) ?_ ⟨_,rfl⟩ rfl hle;rw[hnone];cases b<;>rfl
    ·simp (disch:=omega)only[↓pa,↓dx,pb,ai,cB,aV,↓reduceIte,reduceEqDiff,reduceAdd,reduceCtorEq,f0,f3,o0,h1,h45,hiJ];have hne:¬i=J:=by omega
     have hno:∀ a,(∀ n,gG (dF t i J)=some n->i≠J/\J-i<=20/\a=n)->(J-i<=20->itoa a≠dF t i J)->fF t i=none:=fun a h1 h2=>by
      rw[hJ];cases hr:gG (dF t i J)with
      |none=>rfl
      |some n=>
       obtain⟨k1,k2,k3⟩:=h1 n hr;exact absurd (by rw[k3];exact(me hr).1) (h2 k2)
     simp (disch:=omega)only[↓pa,↓dx,pb,ai,cB,↓reduceIte,reduceEqDiff,reduceAdd,reduceCtorEq,f0,f3,o0,hne];refine aa (fun h20=>?_) (fun h20=>?_)
     ·have hnone:fF t i=none:=hno _ hq fun h=>by omega
      have hx:=h20;simp (disch:=omega)only[↓pa,↓dx,pb,ai,cB,fD,az,aj,ah,↓reduceIte,reduceEqDiff,reduceAdd,reduceLeDiff,reduceCtorEq,f0,f4,o0,hx];refine a7 (dm:=ni) ?_ ⟨_,rfl⟩ rfl hle;rw[hnone];cases b<;>rfl
     ·have hr:=um;simp (disch:=omega)only[↓pa,↓dx,pb,ai,cB,fD,aj,ah,↓reduceIte,reduceEqDiff,reduceAdd,du,reduceCtorEq,f0,f3,f4,o0,h20,zL K (hr _).1 (hr _).2,kg];refine aa (fun he=>?_) (fun he=>?_)
      ·have hJ':=bq gG he;rw[rH (hr _).1 (hr _).2]at hJ';rw[<-hJ']at hJ;simp (disch:=omega)only[↓pa,pb,az,↓reduceIte,reduceEqDiff,f4,o0,he];cases b
       ·exact d7 hJ rfl rfl hle
       ·exact a7 (dm:=ni) rfl ⟨_,rfl⟩ rfl hle
      ·have hnone:fF t i=none:=hno _ hq fun _=>he;have hx:=he;simp (disch:=omega)only[↓pa,pb,ai,az,↓reduceIte,reduceEqDiff,reduceAdd,reduceLeDiff,reduceCtorEq,f0,f4,o0,hx];refine a7 (dm:=ni) ?_ ⟨_,rfl⟩ rfl hle;rw[hnone];cases b<;>rfl
   ·have hiJ':J=i:=by omega
    have hnone:fF t i=none:=by
     rw[hJ];cases hr:gG (dF t i J)with
     |none=>rfl
     |some n=>exact absurd hiJ'.symm (hq n hr).1
    subst hiJ';simp (disch:=omega)only[↓pa,pb,ai,↓reduceIte,reduceEqDiff,reduceAdd,reduceCtorEq,f0,o0,hlt,nv K.tab];refine aa (fun h2=>?_) (fun h2=>?_)
    ·exact absurd ⟨hlt,h2⟩ hd
    simp (disch:=omega)only[↓pa,↓dx,pb,ai,cB,fD,az,aV,aj,ah,↓reduceIte,reduceEqDiff,reduceAdd,reduceLeDiff,reduceCtorEq,f0,f3,f4,o0,Nat.lt_irrefl,eq_self];refine a7 (dm:=ni) ?_ ⟨_,rfl⟩ rfl hle;rw[hnone];cases b<;>rfl
  ·have hiJ:J=i:=by omega
   have hnone:fF t i=none:=by
    rw[hJ,hiJ,qj];cases hr:gG []with
    |none=>rfl
    |some n=>exact absurd (me hr).1 (w4 n)
   simp only[↓pa,pb,ai,aV,↓reduceIte,reduceEqDiff,reduceAdd,reduceCtorEq,hlt];refine be (fun k fr st=>k=0/\fr 0= .ptr 0 0/\fr 3=I i/\fr 4=I 0/\st.objs 0=some [S t,I i,.bool b]) 0 (by omega) ⟨rfl,by simp only[↓pa,↓reduceIte,reduceCtorEq],by simp only[↓pa,↓reduceIte,reduceEqDiff],by simp only[↓pa,↓reduceIte],by simp only[pb]⟩ ?_;rintro k fr st ⟨rfl,f0,f3,f4,o0⟩;simp only[↓pa,pb,ai,aV,↓reduceIte,reduceEqDiff,reduceAdd,reduceCtorEq,f0,f3,o0,hlt];simp only[↓pa,↓dx,pb,ai,cB,fD,az,aj,ah,↓reduceIte,reduceEqDiff,reduceAdd,reduceLeDiff,reduceCtorEq,f0,f3,f4,o0,Nat.lt_irrefl,eq_self];refine a7 (dm:=ni) ?_ ⟨_,rfl⟩ rfl hi;rw[hnone];cases b<;>rfl
def sg(K:bJ cf){t:List UInt8}{i:Nat}(hs:st.objs s=some [S t,I i])(hi:i<=t.length)(hl:t.length<=2000000)
  (k1:∀ a j fl,fF t i=some (a,j)->j<=t.length->A (mk (.tup [I a,.bool true]) (cZ (bP st s [S t,I (j:Nat)]) fl)))
  (k2:∀ (n:Int) j fl,fF t i=none->j<=t.length->A (mk (.tup [I n,.bool false]) (cZ (bP st s [S t,I (j:Nat)]) fl))):cP (av cf 221 [.ptr s 0] [] st) mk A:=
 hY (LZ K hs hi hl) k1 fun p j fl h1 ⟨n,hn⟩ h3=>hn▸k2 n j fl h1 h3
def m9(K:bJ cf){t:List UInt8}{i:Nat}{b:Bool}(hs:st.objs s=some [S t,I i,.bool b])(hi:i<=t.length)(hl:t.length<=2000000)
  (k1:∀ a j fl,b=false->fF t i=some (a,j)->j<=t.length->A (mk (I a) (cZ (bP st s [S t,I (j:Nat),.bool false]) fl)))
  (k2:∀ (n:Int) j fl,(b=true\/fF t i=none)->j<=t.length->A (mk (I n) (cZ (bP st s [S t,I (j:Nat),.bool true]) fl))):cP (av cf 213 [.ptr s 0] [] st) mk A:=by
 refine iQ (Kv K hs hi hl) ?_ ?_
 ·intro a j fl h1 h2;cases b with
  |true=>cases h1
  |false=>exact k1 a j fl rfl h1 h2
 ·rintro p j fl h1 ⟨n,rfl⟩ h3;refine k2 n j fl ?_ h3;cases b with
  |true=>exact .inl rfl
  |false=>exact .inr h1
def OU(K:bJ cf){t:List UInt8}{i:Nat}(hs:st.objs s=some [S t,I i])(hi:i<=t.length)(hl:t.length<=2000000):
  ∃ r c',mU t I (sX t i) ni r c'/\∃ fl,av cf 242 [.ptr s 0] [] st=some (r,cZ (bP st s c') fl):=by
 refine gA K.tab (F:=F242) rfl rfl rfl (lb rfl) (lb rfl) (by simp) hs (fP t i) 1 ?_;unfold F242 qr qd qm qi qc qt qy qo;simp only[↓pa,pb,↓reduceIte,reduceCtorEq];refine(rS K.tab (t:=t) (i:=i) (by simp only[pb])).2 ?_;simp only[↓pa,pb,↓reduceIte,qG K.tab];refine aa (fun h=>?_) (fun h=>?_);rotate_left
 ·simp only[↓pa,pb,az,↓reduceIte,reduceEqDiff,h];exact bv (HC hi h) ⟨_,rfl⟩ rfl rfl hi
 simp only[↓pa,pb,↓reduceIte,reduceCtorEq,h];refine sg K (t:=t) (i:=i) (by simp only[pb]) hi hl (fun a j fl h1 h2=>?_) (fun n j fl h1 h2=>?_)
 ·simp only[↓pa,pb,aj,ah,↓reduceIte,reduceEqDiff];have hp:sX t i=if 1<=a/\a<=1000000000000 then some (a,j)else none:=by rw[sX,h1]
  refine aa (fun h3=>?_) (fun h3=>?_)
  ·by_cases h4:a<=1000000000000
   ·simp only[↓pa,pb,ai,az,↓reduceIte,reduceEqDiff,h3,h4];rw[ak ⟨h3,h4⟩]at hp;exact dO hp rfl rfl h2
   ·simp only[↓pa,pb,ai,az,↓reduceIte,reduceEqDiff,h3,h4];rw[ad fun h=>h4 h.2]at hp;exact bv hp ⟨_,rfl⟩ rfl rfl h2
  ·simp only[↓pa,pb,ai,az,↓reduceIte,reduceEqDiff,h3];rw[ad fun h=>h3 h.1]at hp;exact bv hp ⟨_,rfl⟩ rfl rfl h2
 ·simp only[↓pa,pb,ai,az,aj,ah,↓reduceIte,reduceEqDiff];exact bv (by rw[sX,h1]) ⟨_,rfl⟩ rfl rfl h2
def K4(K:bJ cf){t:List UInt8}{i:Nat}(hs:st.objs s=some [S t,I i])(hi:i<=t.length)(hl:t.length<=2000000)
  (k1:∀ a j fl,sX t i=some (a,j)->j<=t.length->A (mk (.tup [I a,.bool true]) (cZ (bP st s [S t,I (j:Nat)]) fl)))
  (k2:∀ (n:Int) j fl,sX t i=none->j<=t.length->A (mk (.tup [I n,.bool false]) (cZ (bP st s [S t,I (j:Nat)]) fl))):cP (av cf 242 [.ptr s 0] [] st) mk A:=
 hY (OU K hs hi hl) k1 fun p j fl h1 ⟨n,hn⟩ h3=>hn▸k2 n j fl h1 h3
@[reducible] def VA (v:V):PV:= .agg v.ca
@[reducible] def VB (v:V):PV:= .agg v.cb
def js(t:List UInt8)(i:Nat):Option (V×Nat):=
 if cI t i=101 then eD t 9 (i+1)else if cI t i=110 then eD t 8 (i+1)else none
def AB(K:bJ cf){t:List UInt8}{i:Nat}(hs:st.objs s=some [S t,I i])(hi:i<=t.length)(hl:t.length<=2000000):
  ∃ r c',mU t VA (js t i) eO r c'/\∃ fl,av cf 227 [.ptr s 0] [] st=some (r,cZ (bP st s c') fl):=by
 refine gA K.tab (F:=F227) rfl rfl rfl (lb rfl) (lb rfl) (by simp) hs (fP t i) 1 ?_;unfold F227 qr qd qm qi qc qk ql qf qt qs qo qN;simp only[↓pa,pb,↓reduceIte,reduceCtorEq];refine(rS K.tab (t:=t) (i:=i) (by simp only[pb,↓reduceIte,reduceCtorEq])).2 ?_;simp only[↓pa,pb,↓reduceIte];refine aa (fun h1=>?_) (fun h1=>?_)
 ·have hlt:=dt (show cI t i≠0 by rw[h1];decide);have hp:js t i=eD t 9 (i+1):=by rw[js,ak h1]
  simp (disch:=omega)only[↓pa,pb,ai,aV,↓reduceIte,reduceEqDiff,reduceAdd,reduceLeDiff,reduceCtorEq,h1];refine K4 K (t:=t) (i:=i+1) (by simp only[pb,↓reduceIte]) hlt hl (fun a j fl h1 h2=>?_) (fun n j fl h1 h2=>?_)
  ·simp only[↓pa,↓bT,pb,ai,az,aj,ah,↓reduceIte,reduceEqDiff,reduceAdd,reduceLeDiff,reduceCtorEq];exact dO (a:=V.mk 9 a 0 [] [] []) (by rw[hp,eD,h1];rfl) rfl rfl h2
  ·simp only[↓pa,↓bT,pb,ai,az,aj,ah,↓reduceIte,reduceEqDiff,reduceAdd,reduceLeDiff,reduceCtorEq];exact bv (by rw[hp,eD,h1];rfl) ⟨_,rfl,rfl,by simp only[az,ap],by simp only[az]⟩ rfl rfl h2
 ·simp only[↓pa,pb,↓reduceIte,reduceCtorEq,h1];refine(rS K.tab (t:=t) (i:=i) (by simp only[pb,↓reduceIte,reduceCtorEq])).2 ?_;simp only[↓pa,pb,↓reduceIte,du];refine aa (fun h3=>?_) (fun h3=>?_)
  ·have hlt:=dt (show cI t i≠0 by rw[h3];decide);have hp:js t i=eD t 8 (i+1):=by rw[js,ad h1,ak h3]
   simp (disch:=omega)only[↓pa,pb,ai,aV,↓reduceIte,reduceEqDiff,reduceAdd,reduceLeDiff,reduceCtorEq,h3];refine K4 K (t:=t) (i:=i+1) (by simp only[pb,↓reduceIte]) hlt hl (fun a j fl h1 h2=>?_) (fun n j fl h1 h2=>?_)
   ·simp only[↓pa,↓bT,pb,ai,az,aj,ah,↓reduceIte,reduceEqDiff,reduceAdd,reduceLeDiff,reduceCtorEq];exact dO (a:=V.mk 8 a 0 [] [] []) (by rw[hp,eD,h1];rfl) rfl rfl h2
   ·simp only[↓pa,↓bT,pb,ai,az,aj,ah,↓reduceIte,reduceEqDiff,reduceAdd,reduceLeDiff,reduceCtorEq];exact bv (by rw[hp,eD,h1];rfl) ⟨_,rfl,rfl,by simp only[az,ap],by simp only[az]⟩ rfl rfl h2
  ·have hp:js t i=none:=by rw[js,ad h1,ad h3]
   simp only[↓pa,↓bT,pb,ai,az,↓reduceIte,reduceEqDiff,reduceAdd,reduceLeDiff,reduceCtorEq,h3];exact bv hp ⟨_,rfl,rfl,by simp only[az,ap],by simp only[az]⟩ rfl rfl hi
def yC(K:bJ cf){t:List UInt8}{i:Nat}{b:Bool}{k:Int}(hs:st.objs s=some [S t,I i,.bool b])(hi:i<=t.length)(hl:t.length<=2000000):
  ∃ r c',oS t VB (if b then none else eD t k i) eO r c'/\∃ fl,av cf 214 [.ptr s 0,I k] [] st=some (r,cZ (bP st s c') fl):=by
 refine gA K.tab (F:=F214) rfl rfl rfl (lb rfl) (lb rfl) (by simp[aQ]) hs (gm t i b) 1 ?_;unfold F214 qr qd qm qk qf qt qx qs qo qe qN;simp only[↓pa,pb,↓reduceIte,reduceCtorEq];refine m9 K (t:=t) (i:=i) (b:=b) (by simp only[pb,↓reduceIte,reduceCtorEq]) hi hl (fun a j fl hb h1 h2=>?_) (fun n j fl h1 h2=>?_)
 ·subst hb;have hp:eD t k i=(if 1<=a/\a<=1000000000000 then some (a,j)else none).map fun q=>(V.mk k q.1 0 [] [] [],q.2):=by rw[eD,sX,h1]
  simp only[↓pa,pb,↓reduceIte];refine aa (fun h3=>?_) (fun h3=>?_)
  ·rw[ad fun h=>by omega]at hp;simp only[↓pa,↓bT,pb,ai,az,↓reduceIte,reduceEqDiff,reduceAdd,reduceLeDiff,reduceCtorEq,h3];exact a7 (dm:=eO) (by rw[hp];rfl) ⟨_,rfl,rfl,by simp only[az,ap],by simp only[az]⟩ rfl h2
  ·simp only[↓pa,pb,↓reduceIte,reduceEqDiff,h3];refine aa (fun h4=>?_) (fun h4=>?_)
   ·rw[ad fun h=>by omega]at hp;simp only[↓pa,↓bT,pb,ai,az,↓reduceIte,reduceEqDiff,reduceAdd,reduceLeDiff,reduceCtorEq,h4];exact a7 (dm:=eO) (by rw[hp];rfl) ⟨_,rfl,rfl,by simp only[az,ap],by simp only[az]⟩ rfl h2
   ·rw[ak ⟨by omega,by omega⟩]at hp;simp only[↓pa,↓bT,pb,ai,az,↓reduceIte,reduceEqDiff,reduceAdd,reduceLeDiff,reduceCtorEq,h4];exact d7 (a:=V.mk k a 0 [] [] []) hp rfl rfl h2
 ·have hp:(if b then none else eD t k i)=none:=by
   cases b with
   |true=>rfl
   |false=>rcases h1 with h1|h1;cases h1;simp only[bG,if_false];rw[eD,sX,h1];rfl
  simp only[↓pa,pb,↓reduceIte];refine aa (fun h3=>?_) (fun h3=>?_)
  ·simp only[↓pa,↓bT,pb,ai,az,↓reduceIte,reduceEqDiff,reduceAdd,reduceLeDiff,reduceCtorEq,h3];exact a7 (dm:=eO) hp ⟨_,rfl,rfl,by simp only[az,ap],by simp only[az]⟩ rfl h2
  ·simp only[↓pa,pb,↓reduceIte,reduceEqDiff,h3];refine aa (fun h4=>?_) (fun h4=>?_)
   ·simp only[↓pa,↓bT,pb,ai,az,↓reduceIte,reduceEqDiff,reduceAdd,reduceLeDiff,reduceCtorEq,h4];exact a7 (dm:=eO) hp ⟨_,rfl,rfl,by simp only[az,ap],by simp only[az]⟩ rfl h2
   ·simp only[↓pa,↓bT,pb,ai,az,↓reduceIte,reduceEqDiff,reduceAdd,reduceLeDiff,reduceCtorEq,h4];exact a7 (dm:=eO) hp ⟨_,rfl,rfl,by simp only[az,ap],by simp only[az]⟩ rfl h2
def rt(p:PV):Prop:=∃ l,p=S l
def mg{c:Int}:g9 c=(zy c||eW c||decide (c=95)):=rfl
def sO{t:List UInt8}{j J:Nat}{p:Int->Bool}(hsk:skip p t j=J)(hd:¬ (j<t.length/\p (cI t j)=true)):J=j:=by
 rw[<-hsk];exact oY fun h=>by
  cases hx:p (cI t j)
  ·rfl
  ·exact absurd ⟨h,hx⟩ hd
def L9(K:bJ cf){t:List UInt8}{i:Nat}(hs:st.objs s=some [S t,I i])(hi:i<=t.length)(hl:t.length<=2000000):
  ∃ r c',mU t S (qS t i) rt r c'/\∃ fl,av cf 240 [.ptr s 0] [] st=some (r,cZ (bP st s c') fl):=by
 refine gA K.tab (F:=F240) rfl rfl rfl (lb rfl) (lb rfl) (by simp) hs (fP t i) (t.length+1) ?_;unfold F240 qr qd qm qc qb qk ql qf qt qy qs qo;have hJ:qS t i=if dH (dF t i (skip g9 t i))then some (dF t i (skip g9 t i),skip g9 t i)else none:=rfl;have hle:skip g9 t i<=t.length:=oZ hi;have hge:i<=skip g9 t i:=lR _ _ _;revert hJ hle hge;generalize hjJ:skip g9 t i=J;intro hJ hle hge;simp only[↓pa,pb,ai,↓reduceIte,reduceAdd,reduceCtorEq];refine be (fun k fr st=>∃ j:Nat,k=t.length-j/\i<=j/\j<=t.length/\fr 0= .ptr 0 0/\fr 4=I i/\st.objs 0=some [S t,I j]/\skip g9 t j=J) (t.length-i) (by omega) ⟨i,rfl,by omega,by omega,by simp only[↓pa,↓reduceIte,reduceCtorEq],by simp only[↓pa,↓reduceIte],by simp only[pb],hjJ⟩ ?_;rintro k fr st ⟨j,rfl,hj0,hj,f0,f4,o0,hsk⟩;simp only[↓pa,pb,ai,aV,↓reduceIte,reduceEqDiff,reduceAdd,reduceCtorEq,f0,o0];refine aa (fun h1=>?_) (fun h1=>?_)
 ·simp (disch:=omega)only[↓pa,pb,ai,↓reduceIte,reduceEqDiff,reduceAdd,reduceCtorEq,f0,o0,h1,yD K.tab];refine aa (fun h2=>?_) (fun h2=>?_)
  ·have hd:g9 (cI t j)=true:=by rw[mg,h2];rfl
   simp (disch:=omega)only[↓pa,pb,ai,aV,↓reduceIte,reduceEqDiff,reduceAdd,reduceLeDiff,reduceCtorEq,f0,f4,o0,h2];refine⟨t.length- (j+1),by omega,j+1,rfl,by omega,by omega,rfl,?_⟩;rw[<-kT h1 hd,hsk]
  ·simp (disch:=omega)only[↓pa,pb,ai,↓reduceIte,reduceEqDiff,reduceAdd,reduceCtorEq,f0,o0,h2,qG K.tab];refine aa (fun h3=>?_) (fun h3=>?_)
   ·have hd:g9 (cI t j)=true:=by rw[mg,h3];simp
    simp (disch:=omega)only[↓pa,pb,ai,aV,↓reduceIte,reduceEqDiff,reduceAdd,reduceLeDiff,reduceCtorEq,f0,f4,o0,h3];refine⟨t.length- (j+1),by omega,j+1,rfl,by omega,by omega,rfl,?_⟩;rw[<-kT h1 hd,hsk]
   ·simp (disch:=omega)only[↓pa,pb,ai,↓reduceIte,reduceEqDiff,reduceAdd,reduceCtorEq,f0,o0,h3];refine aa (fun h4=>?_) (fun h4=>?_)
    ·have hd:g9 (cI t j)=true:=by rw[mg,h4];rfl
     simp (disch:=omega)only[↓pa,pb,ai,aV,↓reduceIte,reduceEqDiff,reduceAdd,reduceLeDiff,reduceCtorEq,f0,f4,o0,h4];refine⟨t.length- (j+1),by omega,j+1,rfl,by omega,by omega,rfl,?_⟩;rw[<-kT h1 hd,hsk]
    ·have hjj:=sO hsk fun h=>by rw[mg]at h;simp[h2,h3,h4]at h
     subst hjj;simp (disch:=omega)only[↓pa,↓dx,pb,ai,cB,↓reduceIte,reduceEqDiff,reduceAdd,reduceCtorEq,f0,f4,o0,h4];simp only[↓pa,↓dx,pb,cB,fD,aj,ah,↓reduceIte,reduceEqDiff,kg,pP K.tab];by_cases hn:dH (dF t i J)=true
     ·simp only[↓pa,pb,az,↓reduceIte,reduceEqDiff,o0,hn];exact dO (by rw[hJ,ak hn]) rfl rfl hle
     ·have hn':dH (dF t i J)=false:=by simpa using hn
      simp only[↓pa,pb,az,↓reduceIte,reduceEqDiff,o0,hn'];exact bv (by rw[hJ,ad hn]) ⟨_,rfl⟩ rfl rfl hle
 ·have hjj:=sO hsk fun h=>h1 h.1;subst hjj;simp (maxSteps:=999999) (disch:=omega)only[↓pa,↓dx,pb,ai,cB,↓reduceIte,reduceEqDiff,reduceAdd,reduceCtorEq,f0,f4,o0,h1];simp only[↓pa,↓dx,pb,cB,fD,aj,ah,↓reduceIte,reduceEqDiff,kg,pP K.tab];by_cases hn:dH (dF t i J)=true
  ·simp only[↓pa,pb,az,↓reduceIte,reduceEqDiff,o0,hn];exact dO (by rw[hJ,ak hn]) rfl rfl hle
  ·have hn':dH (dF t i J)=false:=by simpa using hn
   simp only[↓pa,pb,az,↓reduceIte,reduceEqDiff,o0,hn'];exact bv (by rw[hJ,ad hn]) ⟨_,rfl⟩ rfl rfl hle
def Kx(K:bJ cf){t:List UInt8}{i:Nat}{b:Bool}(hs:st.objs s=some [S t,I i,.bool b])(hi:i<=t.length)(hl:t.length<=2000000):
  ∃ r c',oS t S (if b then none else qS t i) rt r c'/\∃ fl,av cf 235 [.ptr s 0] [] st=some (r,cZ (bP st s c') fl):=by
 refine gA K.tab (F:=F235) rfl rfl rfl (lb rfl) (lb rfl) (by simp) hs (gm t i b) (t.length+1) ?_;unfold F235 qr qd qm qc qb qk ql qf qt qy qs qo qe;have hJ:qS t i=if dH (dF t i (skip g9 t i))then some (dF t i (skip g9 t i),skip g9 t i)else none:=rfl;have hle:skip g9 t i<=t.length:=oZ hi;have hge:i<=skip g9 t i:=lR _ _ _;revert hJ hle hge;generalize hjJ:skip g9 t i=J;intro hJ hle hge;simp only[↓pa,pb,ai,↓reduceIte,reduceAdd,reduceCtorEq];refine be (fun k fr st=>∃ j:Nat,k=t.length-j/\i<=j/\j<=t.length/\fr 0= .ptr 0 0/\fr 3=I i/\st.objs 0=some [S t,I j,.bool b]/\skip g9 t j=J) (t.length-i) (by omega) ⟨i,rfl,by omega,by omega,by simp only[↓pa,↓reduceIte,reduceCtorEq],by simp only[↓pa,↓reduceIte],by simp only[pb],hjJ⟩ ?_;rintro k fr st ⟨j,rfl,hj0,hj,f0,f3,o0,hsk⟩;simp only[↓pa,pb,ai,aV,↓reduceIte,reduceEqDiff,reduceAdd,reduceCtorEq,f0,o0];refine aa (fun h1=>?_) (fun h1=>?_)
 ·simp (disch:=omega)only[↓pa,pb,ai,↓reduceIte,reduceEqDiff,reduceAdd,reduceCtorEq,f0,o0,h1,wB K.tab];refine aa (fun h2=>?_) (fun h2=>?_)
  ·have hd:g9 (cI t j)=true:=by rw[mg,h2];rfl
   simp (disch:=omega)only[↓pa,pb,ai,aV,↓reduceIte,reduceEqDiff,reduceAdd,reduceLeDiff,reduceCtorEq,f0,f3,o0,h2];refine⟨t.length- (j+1),by omega,j+1,rfl,by omega,by omega,rfl,?_⟩;rw[<-kT h1 hd,hsk]
  ·simp (disch:=omega)only[↓pa,pb,ai,↓reduceIte,reduceEqDiff,reduceAdd,reduceCtorEq,f0,o0,h2,nv K.tab];refine aa (fun h3=>?_) (fun h3=>?_)
   ·have hd:g9 (cI t j)=true:=by rw[mg,h3];simp
    simp (disch:=omega)only[↓pa,pb,ai,aV,↓reduceIte,reduceEqDiff,reduceAdd,reduceLeDiff,reduceCtorEq,f0,f3,o0,h3];refine⟨t.length- (j+1),by omega,j+1,rfl,by omega,by omega,rfl,?_⟩;rw[<-kT h1 hd,hsk]
   ·simp (disch:=omega)only[↓pa,pb,ai,↓reduceIte,reduceEqDiff,reduceAdd,reduceCtorEq,f0,o0,h3];refine aa (fun h4=>?_) (fun h4=>?_)
    ·have hd:g9 (cI t j)=true:=by rw[mg,h4];rfl
     simp (disch:=omega)only[↓pa,pb,ai,aV,↓reduceIte,reduceEqDiff,reduceAdd,reduceLeDiff,reduceCtorEq,f0,f3,o0,h4];refine⟨t.length- (j+1),by omega,j+1,rfl,by omega,by omega,rfl,?_⟩;rw[<-kT h1 hd,hsk]
    ·have hjj:=sO hsk fun h=>by rw[mg]at h;simp[h2,h3,h4]at h
     subst hjj;simp (disch:=omega)only[↓pa,pb,ai,↓reduceIte,reduceEqDiff,reduceAdd,reduceCtorEq,f0,f3,o0,h4];simp only[↓pa,pb,↓reduceIte,kg,nO K.tab];by_cases hn:dH (dF t i J)=true
     ·simp (disch:=omega)only[↓pa,pb,ai,az,↓reduceIte,reduceEqDiff,reduceAdd,reduceCtorEq,f0,f3,o0,hn,kg];cases b with
      |true=>exact a7 (dm:=rt) rfl ⟨_,rfl⟩ rfl hle
      |false=>exact d7 (dm:=rt) (by rw[hJ,ak hn];rfl) rfl rfl hle
     ·have hn':dH (dF t i J)=false:=by simpa using hn
      simp (disch:=omega)only[↓pa,pb,ai,az,↓reduceIte,reduceEqDiff,reduceAdd,reduceLeDiff,reduceCtorEq,f0,f3,o0,hn',kg];exact a7 (dm:=rt) (by rw[hJ,ad hn];cases b<;>rfl) ⟨_,rfl⟩ rfl hle
 ·have hjj:=sO hsk fun h=>h1 h.1;subst hjj;simp (maxSteps:=999999) (disch:=omega)only[↓pa,pb,ai,↓reduceIte,reduceEqDiff,reduceAdd,reduceCtorEq,f0,f3,o0,h1];simp only[↓pa,pb,↓reduceIte,kg,nO K.tab];by_cases hn:dH (dF t i J)=true
  ·simp (disch:=omega)only[↓pa,pb,ai,az,↓reduceIte,reduceEqDiff,reduceAdd,reduceCtorEq,f0,f3,o0,hn,kg];cases b with
   |true=>exact a7 (dm:=rt) rfl ⟨_,rfl⟩ rfl hle
   |false=>exact d7 (dm:=rt) (by rw[hJ,ak hn];rfl) rfl rfl hle
  ·have hn':dH (dF t i J)=false:=by simpa using hn
   simp (disch:=omega)only[↓pa,pb,ai,az,↓reduceIte,reduceEqDiff,reduceAdd,reduceLeDiff,reduceCtorEq,f0,f3,o0,hn',kg];exact a7 (dm:=rt) (by rw[hJ,ad hn];cases b<;>rfl) ⟨_,rfl⟩ rfl hle
def bj{e sz bytes n m:Nat}{cs ds:List PV}{tk u:aB}(h:Gr e st.nx st.cnt n tk)(h1:cs.length=n*sz)(h2:ds.length=m*sz)(h3:(n+m) *bytes<=140737488355328)(h4:n+m<=140737488355328)(h5:0<sz)
  (k:A (mk (.list (n+m) (cs++ds) (dU e tk st)) (dV tk st (n+m)))):cP (sJ e sz bytes (.list n cs tk) (.list m ds u) st) mk A:=by
 rw[xj h h1 h2 h3 h4 h5,eH];exact k
def zM(l:List UInt8)(t:List UInt8)(i:Nat):vB l++[U (cI t i)]=vB (l++[t.getD i 0]):=yF l _
def AS{t:List UInt8}{n j:Nat}{acc:List UInt8}(hn:t.length-j<n)(h:j<t.length):ir t n j acc=
  if cI t j=34 then some (acc,j+1)
  else if cI t j=92 then
   if cI t (j+1)=34\/cI t (j+1)=92 then ir t (n-1) (j+2) (acc++[t.getD (j+1) 0])
   else if cI t (j+1)=110 then ir t (n-1) (j+2) (acc++[10])else none
  else if cI t j<32 then none
  else ir t (n-1) (j+1) (acc++[t.getD j 0]):=by
 obtain⟨m,rfl⟩:∃ m,n=m+1:=⟨n-1,by omega⟩;rw[ir,ak h];rfl
def yZ{t:List UInt8}{n j:Nat}{acc:List UInt8}(hn:t.length-j<n)(h:¬j<t.length):ir t n j acc=none:=by
 obtain⟨m,rfl⟩:∃ m,n=m+1:=⟨n-1,by omega⟩;rw[ir,ad h]
def AE{n:Nat}{l:List UInt8}(h:n=l.length)(c:UInt8):n+1=(l++[c]).length:=by rw[af,h];rfl
def Ku(K:bJ cf){t:List UInt8}{i:Nat}(hs:st.objs s=some [S t,I i])(hi:i<=t.length)(hl:t.length<=2000000)(h34:cI t i=34):
  ∃ r c',mU t S (qq t (i+1)) rt r c'/\∃ fl,av cf 219 [.ptr s 0] [] st=some (r,cZ (bP st s c') fl):=by
 refine gA K.tab (F:=F219) rfl rfl rfl (lb rfl) (lb rfl) (by simp) hs (fP t i) (t.length+1) ?_;unfold F219 qr qd qm qc qb qk ql qf qt qs qo qN;have hlt:=dt (show cI t i≠0 by rw[h34];decide);have h34':tk t i [34]=true:=by rw[vI (by decide),h34];rfl
 simp only[↓pa,pb,↓reduceIte,reduceCtorEq];refine(vQ K.tab (t:=t) (i:=i) (x:=[34]) (by simp only[pb]) hi hl (by decide)).2 ?_;simp only[↓pa,pb,↓reduceIte,reduceAdd,h34',au,aO];refine be (fun k fr st=>∃ (j n m:Nat) (acc:List UInt8) (tok:aB),k=t.length-j/\j<=t.length/\acc.length<=j/\t.length-j<n/\m=acc.length/\fr 0= .ptr 0 0/\fr 4= .list m (vB acc) tok/\st.objs 0=some [S t,I j]/\Gr 5 st.nx st.cnt m tok/\ir t n j acc=qq t (i+1)) (t.length- (i+1)) (by omega) ⟨i+1,t.length+1- (i+1),0,[],.nil,rfl,by omega,aM _,by omega,rfl,by simp only[↓pa,↓reduceIte,reduceCtorEq],by simp only[↓pa,↓reduceIte];rfl,by simp only[pb,↓reduceIte],rfl,rfl⟩ ?_;rintro k fr st ⟨j,n,m,acc,tok,rfl,hj,hacc,hn,rfl,f0,f4,o0,hG,hQ⟩;simp only[↓pa,pb,ai,aV,↓reduceIte,reduceEqDiff,reduceAdd,reduceCtorEq,f0,o0];refine aa (fun h1=>?_) (fun h1=>?_);rotate_left
 ·rw[yZ hn h1]at hQ;simp only[↓pa,pb,az,↓reduceIte,reduceEqDiff,o0];exact bv hQ.symm ⟨_,rfl⟩ rfl rfl hj
 rw[AS hn h1]at hQ;simp (disch:=omega)only[↓pa,pb,ai,aV,↓reduceIte,reduceEqDiff,reduceAdd,reduceLeDiff,reduceCtorEq,f0,o0];refine aa (fun h2=>?_) (fun h2=>?_)
 ·rw[ak h2]at hQ;simp only[↓pa,↓bT,pb,az,↓reduceIte,reduceEqDiff,f4,h2,DA (l:=acc) rfl];exact dO hQ.symm rfl rfl h1
 rw[ad h2]at hQ;simp only[↓pa,pb,↓reduceIte,reduceEqDiff,h2];refine aa (fun h3=>?_) (fun h3=>?_)
 ·rw[ak h3]at hQ;simp only[↓pa,pb,↓reduceIte,reduceCtorEq,f0,h3];refine(rS K.tab (t:=t) (i:=j+1) (by simp only[pb,↓reduceIte])).2 ?_;simp only[↓pa,pb,↓reduceIte];by_cases h4:cI t (j+1)=34\/cI t (j+1)=92
  ·rw[ak h4]at hQ;have hlt:=dt (show cI t (j+1)≠0 by rcases h4 with h|h<;>rw[h]<;>decide)
   rcases h4 with h4|h4
   all_goals
    simp (disch:=omega)only[↓pa,↓bT,pb,ai,↓reduceIte,reduceEqDiff,reduceAdd,reduceLeDiff,reduceLT,Int.reduceEq,reduceCtorEq,f0,f4,h4];refine bj (n:=acc.length) (m:=1) hG (by rw[nP];omega) rfl (by omega) (by omega) (by decide) ?_;simp (disch:=omega)only[↓pa,pb,ai,aV,↓reduceIte,reduceEqDiff,reduceAdd,reduceLeDiff,reduceCtorEq,f0];rw[<-h4];refine⟨t.length- (j+2),by omega,j+2,n-1,acc.length+1,acc++[t.getD (j+1) 0],_,rfl,by omega,by rw[af];simp;omega,by omega,AE rfl _,by rw[zM],rfl,di hG,hQ⟩
  ·rw[ad h4]at hQ;have h4a:¬cI t (j+1)=34:=fun h=>h4 (.inl h);have h4b:¬cI t (j+1)=92:=fun h=>h4 (.inr h);simp only[↓pa,pb,↓reduceIte,reduceEqDiff,h4a,h4b];refine aa (fun h5=>?_) (fun h5=>?_)
   ·rw[ak h5]at hQ;have hlt:=dt (show cI t (j+1)≠0 by rw[h5];decide);simp only[↓pa,↓bT,pb,ai,↓reduceIte,reduceEqDiff,reduceAdd,reduceLeDiff,reduceLT,f4,h5];refine bj (n:=acc.length) (m:=1) hG (by rw[nP];omega) rfl (by omega) (by omega) (by decide) ?_;simp (disch:=omega)only[↓pa,pb,ai,aV,↓reduceIte,reduceEqDiff,reduceAdd,reduceLeDiff,reduceCtorEq,f0];refine⟨t.length- (j+2),by omega,j+2,n-1,acc.length+1,acc++[10],_,rfl,by omega,by rw[af];simp;omega,by omega,AE rfl _,?_,rfl,di hG,hQ⟩;rw[<-yF];rfl
   ·rw[ad h5]at hQ;simp only[↓pa,pb,az,↓reduceIte,reduceEqDiff,h5];exact bv hQ.symm ⟨_,rfl⟩ rfl rfl h1
 rw[ad h3]at hQ;simp only[↓pa,pb,↓reduceIte,reduceEqDiff,h3];refine aa (fun h4=>?_) (fun h4=>?_)
 ·rw[ak h4]at hQ;simp only[↓pa,pb,az,↓reduceIte,reduceEqDiff,h4];exact bv hQ.symm ⟨_,rfl⟩ rfl rfl h1
 rw[ad h4]at hQ;simp only[↓pa,↓bT,pb,ai,↓reduceIte,reduceEqDiff,reduceAdd,reduceLeDiff,reduceLT,f4,h4];refine bj (n:=acc.length) (m:=1) hG (by rw[nP];omega) rfl (by omega) (by omega) (by decide) ?_;simp only[↓pa,pb,ai,↓reduceIte,reduceCtorEq,f0];exact⟨t.length- (j+1),by omega,j+1,n-1,acc.length+1,acc++[t.getD j 0],_,rfl,by omega,by rw[af];simp;omega,by omega,AE rfl _,by rw[zM],rfl,di hG,hQ⟩
def IG(K:bJ cf){t:List UInt8}{i:Nat}(hs:st.objs s=some [S t,I i,.bool false])(hi:i<=t.length)(hl:t.length<=2000000):
  ∃ r c',oS t S (qq t i) rt r c'/\∃ fl,av cf 211 [.ptr s 0] [] st=some (r,cZ (bP st s c') fl):=by
 refine gA K.tab (F:=F211) rfl rfl rfl (lb rfl) (lb rfl) (by simp) hs (gm t i _) (t.length+1) ?_;unfold F211 qr qd qm qc qb qk ql qf qx qs qo qe;simp only[↓pa,↓bT,pb,ai,↓reduceIte,reduceAdd,reduceLT,dv,dR];refine be (fun k fr st=>∃ (j n m:Nat) (acc:List UInt8) (tok:aB),k=t.length-j/\j<=t.length/\acc.length<=j/\t.length-j<n/\m=acc.length/\fr 0= .ptr 0 0/\fr 3= .list m (vB acc) tok/\st.objs 0=some [S t,I j,.bool false]/\Gr 5 st.nx st.cnt m tok/\ir t n j acc=qq t i) (t.length-i) (by omega) ⟨i,t.length+1-i,0,[],.full 5,rfl,by omega,aM _,by omega,rfl,by simp only[↓pa,↓reduceIte,reduceCtorEq],by simp only[↓pa,↓reduceIte];rfl,by simp only[pb],je,rfl⟩ ?_;rintro k fr st ⟨j,n,m,acc,tok,rfl,hj,hacc,hn,rfl,f0,f3,o0,hG,hQ⟩;simp only[↓pa,pb,ai,aV,↓reduceIte,reduceEqDiff,reduceAdd,reduceCtorEq,f0,o0];refine aa (fun h1=>?_) (fun h1=>?_);rotate_left
 ·rw[yZ hn h1]at hQ;simp only[↓pa,pb,ai,az,↓reduceIte,reduceAdd,reduceLeDiff,reduceCtorEq,f0,o0];exact a7 (dm:=rt) hQ.symm ⟨_,rfl⟩ rfl hj
 rw[AS hn h1]at hQ;simp (disch:=omega)only[↓pa,pb,ai,aV,↓reduceIte,reduceEqDiff,reduceAdd,reduceLeDiff,reduceCtorEq,f0,o0];refine aa (fun h2=>?_) (fun h2=>?_)
 ·rw[ak h2]at hQ;simp only[↓pa,↓bT,pb,az,↓reduceIte,reduceEqDiff,f3,h2,DA (l:=acc) rfl];exact d7 hQ.symm rfl rfl h1
 rw[ad h2]at hQ;simp only[↓pa,pb,↓reduceIte,reduceEqDiff,h2];refine aa (fun h3=>?_) (fun h3=>?_)
 ·rw[ad (by omega),ak h3]at hQ;simp only[↓pa,pb,ai,az,↓reduceIte,reduceAdd,reduceLeDiff,reduceCtorEq,f0,h3];exact a7 (dm:=rt) hQ.symm ⟨_,rfl⟩ rfl h1
 simp only[↓pa,pb,↓reduceIte,reduceEqDiff,h3];refine aa (fun h4=>?_) (fun h4=>?_)
 ·rw[ak h4]at hQ;simp only[↓pa,pb,ai,aV,↓reduceIte,reduceEqDiff,reduceAdd,reduceCtorEq,f0,h4];refine aa (fun h5=>?_) (fun h5=>?_)
  ·have h6:cI t (j+1)=0:=ui (by omega);rw[ad (by omega),ad (by omega)]at hQ;simp only[↓pa,pb,ai,az,↓reduceIte,reduceEqDiff,reduceAdd,reduceLeDiff,reduceCtorEq,f0,h5];exact a7 (dm:=rt) hQ.symm ⟨_,rfl⟩ rfl h1
  have hlt:j+1<t.length:=by omega
  simp (disch:=omega)only[↓pa,pb,ai,↓reduceIte,reduceEqDiff,reduceAdd,du,reduceCtorEq,f0,h5];by_cases h6:cI t (j+1)=34\/cI t (j+1)=92
  ·rw[ak h6]at hQ;rcases h6 with h6|h6
   all_goals
    simp (maxSteps:=999999) (disch:=omega)only[↓pa,↓bT,pb,ai,aV,↓reduceIte,reduceEqDiff,reduceAdd,reduceLeDiff,reduceLT,Int.reduceEq,du,reduceCtorEq,f0,f3,h6];refine bj (n:=acc.length) (m:=1) hG (by rw[nP];omega) rfl (by omega) (by omega) (by decide) ?_;simp only[↓pa,pb,ai,↓reduceIte,reduceCtorEq,f0];rw[<-h6];refine⟨t.length- (j+2),by omega,j+2,n-1,acc.length+1,acc++[t.getD (j+1) 0],_,rfl,by omega,by rw[af];simp;omega,by omega,AE rfl _,by rw[zM],rfl,di hG,hQ⟩
  ·rw[ad h6]at hQ;have h4a:¬cI t (j+1)=34:=fun h=>h6 (.inl h);have h4b:¬cI t (j+1)=92:=fun h=>h6 (.inr h);simp (maxSteps:=999999) (disch:=omega)only[↓pa,pb,ai,↓reduceIte,reduceEqDiff,reduceAdd,du,reduceCtorEq,f0,h4a,h4b];by_cases h7:cI t (j+1)=110
   ·rw[ak h7]at hQ;simp (disch:=omega)only[↓pa,↓bT,pb,ai,aV,↓reduceIte,reduceEqDiff,reduceAdd,reduceLeDiff,reduceLT,reduceCtorEq,f0,f3,h7];refine bj (n:=acc.length) (m:=1) hG (by rw[nP];omega) rfl (by omega) (by omega) (by decide) ?_;simp only[↓pa,pb,ai,↓reduceIte,reduceCtorEq,f0];refine⟨t.length- (j+2),by omega,j+2,n-1,acc.length+1,acc++[10],_,rfl,by omega,by rw[af];simp;omega,by omega,AE rfl _,?_,rfl,di hG,hQ⟩;rw[<-yF];rfl
   ·rw[ad h7]at hQ;simp only[↓pa,pb,ai,az,↓reduceIte,reduceAdd,reduceLeDiff,reduceCtorEq,f0,h7];exact a7 (dm:=rt) hQ.symm ⟨_,rfl⟩ rfl h1
 rw[ad h4,ad (by omega)]at hQ;simp only[↓pa,↓bT,pb,ai,↓reduceIte,reduceEqDiff,reduceAdd,reduceLeDiff,reduceLT,f3,h4];refine bj (n:=acc.length) (m:=1) hG (by rw[nP];omega) rfl (by omega) (by omega) (by decide) ?_;simp only[↓pa,pb,ai,↓reduceIte,reduceCtorEq,f0];exact⟨t.length- (j+1),by omega,j+1,n-1,acc.length+1,acc++[t.getD j 0],_,rfl,by omega,by rw[af];simp;omega,by omega,AE rfl _,by rw[zM],rfl,di hG,hQ⟩
def Ni(K:bJ cf)(y:Int):av cf 245 [I y] [] st=some (.bool (uO y),st):=by
 refine cQ K.tab (F:=F245) (t:=2) rfl rfl rfl (lb rfl) (by simp[aQ]) (ce _) 1 ?_;unfold F245 qr qm qc qk qy uO;have q1:=qZ (k:= .i64) (a:=y) (show(4:Int)≠0 by decide);have q2:=qZ (k:= .i64) (a:=y) (show(100:Int)≠0 by decide);have q3:=qZ (k:= .i64) (a:=y) (show(400:Int)≠0 by decide);by_cases h1:y.tmod 4=0<;>by_cases h2:y.tmod 100=0<;>by_cases h3:y.tmod 400=0<;>simp only[↓pa,pb,↓reduceIte,reduceEqDiff,du,reduceCtorEq,q1,q2,q3,h1,h2,h3]
def Fv(K:bJ cf)(y:Int):av cf 244 [I y] [] st=some (.bool (uO y),st):=by
 refine cQ K.tab (F:=F244) (t:=2) rfl rfl rfl (lb rfl) (by simp[aQ]) (ce _) 1 ?_;unfold F244 qr qm qc qk qy uO;have q1:=qZ (k:= .i64) (a:=y) (show(4:Int)≠0 by decide);have q2:=qZ (k:= .i64) (a:=y) (show(100:Int)≠0 by decide);have q3:=qZ (k:= .i64) (a:=y) (show(400:Int)≠0 by decide);by_cases h1:y.tmod 4=0<;>by_cases h2:y.tmod 100=0<;>by_cases h3:y.tmod 400=0<;>simp only[↓pa,pb,↓reduceIte,reduceEqDiff,du,reduceCtorEq,q1,q2,q3,h1,h2,h3]
def Fq(K:bJ cf)(y m:Int):av cf 237 [I y,I m] [] st=some (I (ov y m),st):=by
 refine cQ K.tab (F:=F237) (t:=4) rfl rfl rfl (lb rfl) (by simp[aQ]) (dD _ _) 1 ?_;unfold F237 qg qr qd qm qi qk qt ov;by_cases h2:m=2
 ·cases hl:uO y<;>simp only[↓pa,pb,↓reduceIte,reduceEqDiff,reduceCtorEq,Ni K,h2,hl]<;>simp
 ·by_cases h4:m=4
  ·simp only[↓pa,pb,↓reduceIte,reduceEqDiff,Int.reduceEq,h4]
  by_cases h6:m=6
  ·simp only[↓pa,pb,↓reduceIte,reduceEqDiff,Int.reduceEq,h6]
  by_cases h9:m=9
  ·simp only[↓pa,pb,↓reduceIte,reduceEqDiff,Int.reduceEq,h9]
  by_cases h11:m=11
  ·simp only[↓pa,pb,↓reduceIte,reduceEqDiff,Int.reduceEq,h11]
  ·simp only[↓pa,pb,↓reduceIte,reduceEqDiff,h2,h4,h6,h9,h11]
def D6{m:Int}(h1:1<=m)(h2:m<=12):m=1\/m=2\/m=3\/m=4\/m=5\/m=6\/m=7\/m=8\/m=9\/m=10\/m=11\/m=12:=by omega
def K5:(List.replicate 12 [I 0]).flatten=[I 0,I 0,I 0,I 0,I 0,I 0,I 0,I 0,I 0,I 0,I 0,I 0]:=rfl
def Iy:((12:Nat):Int)=12:=rfl
def Dq(K:bJ cf)(y:Int){m:Int}(h1:1<=m)(h2:m<=12):av cf 233 [I y,I m] [] st=some (I (ov y m),st):=by
 refine cQ K.tab (F:=F233) (t:=4) rfl rfl rfl (lb rfl) (by simp[aQ]) (dD _ _) 1 ?_;unfold F233 qg qr qm qi qk ql qa qy qo ov;rcases D6 h1 h2 with rfl|rfl|rfl|rfl|rfl|rfl|rfl|rfl|rfl|rfl|rfl|rfl
 all_goals first
  |(simp (disch:=omega)only[↓pa,↓bT,pb,ai,↓reduceIte,reduceEqDiff,reduceAdd,reduceLeDiff,reduceLT,Int.reduceToNat,Int.reduceEq,Int.reduceLT,Int.reduceLE,reduceMul,reduceCtorEq,Fv K,K5,uX,Iy,Int.reduceToNat,Int.reduceSub,reduceMul];done)
  |(cases hl:uO y<;>simp (disch:=omega)only[↓pa,↓bT,pb,ai,↓reduceIte,reduceEqDiff,reduceAdd,reduceLeDiff,reduceLT,Int.reduceToNat,Int.reduceLT,Int.reduceLE,reduceMul,reduceCtorEq,Fv K,K5,hl,uX,Iy,Int.reduceToNat,Int.reduceSub,reduceMul])
def rp(y m:Int):28<=ov y m/\ov y m<=31:=by
 unfold ov
 repeat' split
 all_goals omega
def yd(y:Int):∀ k:Nat,0<=pG y k/\pG y k<=31*k
 |0=>by simp[pG]
 |k+1=>by
  have h1:=yd y k;have h2:=rp y (k+1);rw[pG];omega
def nE{x d:Int}(hx:0<=x)(hd:0<d):0<=x.tdiv d/\x.tdiv d<=x:=⟨Int.tdiv_nonneg hx (by omega),Int.tdiv_le_self d hx⟩
def A3(y:Int){k:Int}(h:1<=k):pG y (k.toNat-1)+ov y k=pG y ((k+1).toNat-1):=by
 obtain⟨n,rfl⟩:∃ n:Nat,k=(n:Int)+1:=⟨(k-1).toNat,by omega⟩;have e1:((n:Int)+1).toNat-1=n:=by omega
 have e2:((n:Int)+1+1).toNat-1=n+1:=by omega
 rw[e1,e2,pG]
def KF(K:bJ cf){y m d:Int}(hy1:1<=y)(hy2:y<=9999)(hm1:1<=m)(hm2:m<=12)(hd1:1<=d)(hd2:d<=31):av cf 238 [I y,I m,I d] [] st=some (I (Ax y m d),st):=by
 refine cQ K.tab (F:=F238) (t:=6) rfl rfl rfl (lb rfl) (by simp[aQ]) (dD _ _) 20 ?_;unfold F238 qr qd qm qi qb qk qu Ax;have q1:=rO (k:= .i64) (a:=y-1) (show(4:Int)≠0 by decide);have q2:=rO (k:= .i64) (a:=y-1) (show(100:Int)≠0 by decide);have q3:=rO (k:= .i64) (a:=y-1) (show(400:Int)≠0 by decide);have r1:=nE (x:=y-1) (d:=4) (by omega) (by decide);have r2:=nE (x:=y-1) (d:=100) (by omega) (by decide);have r3:=nE (x:=y-1) (d:=400) (by omega) (by decide);simp (disch:=omega)only[↓pa,pb,↓reduceIte,reduceEqDiff,reduceCtorEq,q1,q2,q3];revert r1 r2 r3;generalize (y-1).tdiv 4=a1;generalize (y-1).tdiv 100=a2;generalize (y-1).tdiv 400=a3;intro r1 r2 r3;refine be (fun k fr st=>∃ j:Int,k=(m-j).toNat/\1<=j/\j<=m/\fr 0=I y/\fr 1=I m/\fr 2=I d/\fr 9=I j/\fr 8=I ((y-1) *365+a1-a2+a3+pG y (j.toNat-1))) (m-1).toNat (by omega) ⟨1,rfl,by omega,by omega,by simp only[↓pa,↓reduceIte,reduceCtorEq],by simp only[↓pa,↓reduceIte,reduceEqDiff],by simp only[↓pa,↓reduceIte,reduceEqDiff],by simp only[↓pa,↓reduceIte],by simp only[↓pa,↓reduceIte,reduceEqDiff,Int.reduceToNat];simp[pG]⟩ ?_;rintro k fr st ⟨j,rfl,hj1,hj2,f0,f1,f2,f9,f8⟩;have hs:=yd y (j.toNat-1);have hr:=rp y j;simp only[↓pa,pb,↓reduceIte,reduceEqDiff,f1,f9];refine aa (fun h1=>?_) (fun h1=>?_)
 ·simp (disch:=omega)only[↓pa,pb,↓reduceIte,reduceEqDiff,reduceCtorEq,f0,f1,f2,f9,f8,h1,Fq K];refine⟨(m- (j+1)).toNat,by omega,j+1,rfl,by omega,by omega,rfl,?_⟩;rw[<-A3 y hj1];simp only[Int.add_assoc]
 ·obtain rfl:j=m:=by omega
  simp (disch:=omega)only[↓pa,pb,↓reduceIte,reduceEqDiff,f2,f8,h1]
def Ns(K:bJ cf){y:Int}(hy1:1<=y)(hy2:y<=9999):av cf 234 [I y] [] st=some (I ((y-1) *365+(y-1).tdiv 4- (y-1).tdiv 100+(y-1).tdiv 400),st):=by
 refine cQ K.tab (F:=F234) (t:=2) rfl rfl rfl (lb rfl) (by simp[aQ]) (dD _ _) 1 ?_;unfold F234 qr qm qi qb qk;have q1:=rO (k:= .i64) (a:=y-1) (show(4:Int)≠0 by decide);have q2:=rO (k:= .i64) (a:=y-1) (show(100:Int)≠0 by decide);have q3:=rO (k:= .i64) (a:=y-1) (show(400:Int)≠0 by decide);have r1:=nE (x:=y-1) (d:=4) (by omega) (by decide);have r2:=nE (x:=y-1) (d:=100) (by omega) (by decide);have r3:=nE (x:=y-1) (d:=400) (by omega) (by decide);simp (disch:=omega)only[↓pa,pb,↓reduceIte,reduceEqDiff,reduceCtorEq,q1,q2,q3]
def oG:List UInt8->Int->Option Int
 | [],v=>some v
 |c::l,v=>if wj c then oG l (v*10+((c.toNat:Int) -48))else none
def u5{t:List UInt8}:∀ (n i:Nat) (v:Int),i+n<=t.length->jo t n i v=oG (dF t i (i+n)) v
 |0,i,v,h=>by rw[bi,qj];rfl
 |n+1,i,v,h=>by
  obtain⟨c,hc,hs⟩:=xX (t:=t) (i:=i) (j:=i+(n+1)) (by omega) h;have hd:wj c=eW (cI t i):=by rw[hc];rfl
  have ih:=u5 (t:=t) n (i+1) (v*10+(cI t i-48)) (by omega);rw[show i+1+n=i+(n+1) by omega]at ih;rw[jo,hs,oG,hd,<-hc];by_cases hx:eW (cI t i)=true
  ·have hi:i<t.length:=by omega
   rw[ak ⟨hi,hx⟩,ak hx,ih]
  ·rw[ad fun h=>hx h.2,ad hx]
def rM{t:List UInt8}:∀ (n i:Nat) (v:Int),t.length<i+n->i<=t.length->jo t n i v=none
 |0,i,v,h,h2=>by omega
 |n+1,i,v,h,h2=>by
  rw[jo];split
  ·rename_i hx;exact rM n (i+1) _ (by omega) (by omega)
  ·rfl
def CG:∀ (l:List UInt8) (v w b:Int),oG l v=some w->0<=v->v<b->0<=w/\w<b*10 ^ l.length
 | [],v,w,b,h,h0,h1=>by cases h;simpa using⟨h0,h1⟩
 |c::l,v,w,b,h,h0,h1=>by
  rw[oG]at h;split at h
  ·rename_i hc;have hc:=qC.1 hc;have:=CG l _ w (b*10) h (by omega) (by omega);rw[au,Int.pow_succ];rw[show b* (10 ^ l.length*10)=b*10*10 ^ l.length by rw[Int.mul_comm (10 ^ l.length) 10,Int.mul_assoc]];exact this
  ·cases h
def u6{t:List UInt8}:∀ (n i:Nat) (v w b:Int),jo t n i v=some w->0<=v->v<b->0<=w/\w<b*10 ^ n
 |0,i,v,w,b,h,h0,h1=>by cases h;simpa using⟨h0,h1⟩
 |n+1,i,v,w,b,h,h0,h1=>by
  rw[jo]at h;split at h
  ·rename_i hc;have hc:=rU.1 hc.2;have:=u6 n _ _ w (b*10) h (by omega) (by omega);rw[Int.pow_succ];rw[show b* (10 ^ n*10)=b*10*10 ^ n by rw[Int.mul_comm (10 ^ n) 10,Int.mul_assoc]];exact this
  ·cases h
def mT(l:List UInt8):Int:=match oG l 0 with
 |some v=>v
 |none=> -1
def GQ(K:bJ cf){l:List UInt8}(hl:l.length<=4):av cf 236 [S l] [] st=some (I (mT l),st):=by
 refine cQ K.tab (F:=F236) (t:=2) rfl rfl rfl (lb rfl) (by simp[bZ]) (dD _ _) 20 ?_;unfold F236 qg qr qd qm qi qb qk qt qo;simp only[↓pa,pb,↓reduceIte,reduceCtorEq];refine be (fun k fr st=>∃ (j:Nat) (v:Int),k=l.length-j/\j<=l.length/\fr 0=S l/\fr 6=I l.length/\fr 7=I j/\fr 3=I v/\0<=v/\v<10 ^ j/\oG (l.drop j) v=oG l 0) l.length (by omega) ⟨0,0,rfl,by omega,by simp only[↓pa,↓reduceIte,reduceCtorEq],by simp only[↓pa,↓reduceIte,reduceEqDiff],by simp only[↓pa,↓reduceIte];rfl,by simp only[↓pa,↓reduceIte,reduceEqDiff],by decide,by decide,rfl⟩ ?_;rintro k fr st ⟨j,v,rfl,hj,f0,f6,f7,f3,hv0,hv1,hQ⟩;have hp:(10:Int) ^ j<=10 ^ 4:=by
  have:j=0\/j=1\/j=2\/j=3\/j=4:=by omega
  rcases this with rfl|rfl|rfl|rfl|rfl<;>decide
 have hp4:(10:Int) ^ 4=10000:=rfl;simp only[↓pa,pb,aV,↓reduceIte,f6,f7];refine aa (fun h1=>?_) (fun h1=>?_)
 ·rw[a6 h1]at hQ;have hc:=pT l j h1;have hdb:wj l[j]=eW (cI l j):=by rw[hc];rfl
  rw[oG,hdb,<-hc]at hQ;simp (disch:=omega)only[↓pa,pb,↓reduceIte,reduceEqDiff,reduceCtorEq,f0,f7,h1,qG K.tab];refine aa (fun h2=>?_) (fun h2=>?_)
  ·have hd':=rU.1 h2;rw[ak h2]at hQ;simp (disch:=omega)only[↓pa,pb,aV,↓reduceIte,reduceEqDiff,reduceCtorEq,f0,f6,f7,f3,h2];exact⟨l.length- (j+1),by omega,j+1,v*10+(cI l j-48),rfl,by omega,rfl,rfl,by omega,by rw[Int.pow_succ];omega,hQ⟩
  ·rw[ad h2]at hQ;simp only[↓pa,pb,↓reduceIte,h2];rw[mT,<-hQ]
 ·have:j=l.length:=by omega
  subst this;rw[mI]at hQ;simp only[↓pa,pb,↓reduceIte,reduceEqDiff,f3,h1];rw[mT,<-hQ];rfl
def G8{y m d:Int}(h:1<=y/\1<=m/\m<=12/\1<=d/\d<=ov y m):Cc y m d=some (Ax y m d):=ak h
def lO{y m d:Int}(h:¬ (1<=y/\1<=m/\m<=12/\1<=d/\d<=ov y m)):Cc y m d=none:=ad h
def wU{l:List UInt8}(h:oG l 0=none):mT l= -1:=by rw[mT,h]
def s6{l:List UInt8}{v:Int}(h:oG l 0=some v):mT l=v:=by rw[mT,h]
def ya{l:List UInt8}(h:l.length<=4): -1<=mT l/\mT l<=9999:=by
 cases e:oG l 0 with
 |none=>rw[wU e];omega
 |some v=>
  rw[s6 e];have:=CG l 0 v 1 e (by decide) (by decide);have hp:(10:Int) ^ l.length<=10000:=by
   have:l.length=0\/l.length=1\/l.length=2\/l.length=3\/l.length=4:=by omega
   rcases this with h|h|h|h|h<;>rw[h]<;>decide
  omega
def JC{t:List UInt8}{i:Nat}(h:i+10<=t.length):gH t i=if cI t (i+4)=45/\cI t (i+7)=45 then(Cc (mT (dF t i (i+4))) (mT (dF t (i+5) (i+7))) (mT (dF t (i+8) (i+10)))).map fun n=>(n,i+10)else none:=by
 rw[gH,u5 4 i 0 (by omega),u5 2 (i+5) 0 (by omega),u5 2 (i+8) 0 (by omega)];cases e1:oG (dF t i (i+4)) 0 with
 |none=>
  rw[wU e1,lO (by omega)];simp
 |some y=>
  rw[s6 e1];cases e2:oG (dF t (i+5) (i+5+2)) 0 with
  |none=>
   rw[show i+7=i+5+2 by omega,wU e2,lO (by omega)];simp
  |some m=>
   rw[show i+7=i+5+2 by omega,s6 e2];cases e3:oG (dF t (i+8) (i+8+2)) 0 with
   |none=>
    rw[show i+10=i+8+2 by omega,wU e3,lO (by omega)];simp
   |some d=>
    rw[show i+10=i+8+2 by omega,s6 e3]
def D3{t:List UInt8}{i:Nat}(h:t.length<i+10)(hi:i<=t.length):gH t i=none:=by
 rw[gH];by_cases h1:t.length<i+4
 ·rw[rM 4 i 0 h1 hi]
 by_cases h2:t.length<i+5+2
 ·by_cases h3:i+5<=t.length
  ·rw[rM 2 (i+5) 0 h2 h3];cases jo t 4 i 0<;>rfl
  ·have:cI t (i+4)=0:=ui (by omega);split
   ·rw[ad (by omega)]
   ·rfl
 by_cases h3:i+8<=t.length
 ·rw[rM 2 (i+8) 0 (by omega) h3];cases jo t 4 i 0<;>cases jo t 2 (i+5) 0<;>rfl
 ·have:cI t (i+7)=0:=ui (by omega);split
  ·rw[ad (by omega)]
  ·rfl
def xW{t:List UInt8}{i j:Nat}(h:j<=i+4):(dF t i j).length<=4:=by
 unfold dF;rw[aU,aG];omega
def Lt{t:List UInt8}{i j a b:Nat}(h:i+b<=j):((dF t i j).take b).drop a=dF t (i+a) (i+b):=by
 unfold dF;rw[List.take_drop,nR,fU,fB (by omega)]
def Jg{t:List UInt8}{i j b:Nat}(h:i+b<=j):(dF t i j).take b=dF t i (i+b):=by
 have:=Lt (t:=t) (a:=0) h;simpa using this
def Ji{t:List UInt8}{i j a:Nat}:(dF t i j).drop a=dF t (i+a) j:=by
 unfold dF;rw[fU]
def Nt(K:bJ cf){t:List UInt8}{i:Nat}(hs:st.objs s=some [S t,I i])(hi:i<=t.length)(hl:t.length<=2000000)(h64:cI t i=64):
  ∃ r c',mU t I (gH t (i+1)) ni r c'/\∃ fl,av cf 220 [.ptr s 0] [] st=some (r,cZ (bP st s c') fl):=by
 refine gA K.tab (F:=F220) rfl rfl rfl (lb rfl) (lb rfl) (by simp) hs (fP t i) 1 ?_;unfold F220 qr qd qm qi qc qb qk ql qf qx qs qo;have hlt:=dt (show cI t i≠0 by rw[h64];decide);have e5:((i:Int)+5)=((i+5:Nat):Int):=rfl;have e8:((i:Int)+8)=((i+8:Nat):Int):=rfl;have e11:((i:Int)+11)=((i+11:Nat):Int):=rfl;simp (disch:=omega)only[↓pa,pb,ai,↓reduceIte,reduceEqDiff,reduceAdd,reduceCtorEq];refine aa (fun h1=>?_) (fun h1=>?_)
 ·simp only[↓pa,pb,az,↓reduceIte,reduceEqDiff,h1];exact bv (D3 (by omega) (by omega)) ⟨_,rfl⟩ rfl rfl hi
 have hp:gH t (i+1)=if cI t (i+5)=45/\cI t (i+8)=45 then(Cc (mT (dF t (i+1) (i+5))) (mT (dF t (i+6) (i+8))) (mT (dF t (i+9) (i+11)))).map fun n=>(n,i+11)else none:=JC (by omega);simp (disch:=omega)only[↓pa,pb,ai,↓reduceIte,reduceEqDiff,reduceAdd,du,reduceCtorEq,h1,h64,e5];refine aa (fun h2=>?_) (fun h2=>?_);rotate_left
 ·simp only[↓pa,pb,az,↓reduceIte,reduceEqDiff,h2];exact bv (by rw[hp,ad fun h=>h2 h.1]) ⟨_,rfl⟩ rfl rfl hi
 simp (disch:=omega)only[↓pa,pb,ai,↓reduceIte,reduceEqDiff,reduceAdd,du,reduceCtorEq,h2,e8];refine aa (fun h3=>?_) (fun h3=>?_);rotate_left
 ·simp only[↓pa,pb,az,↓reduceIte,reduceEqDiff,h3];exact bv (by rw[hp,ad fun h=>h3 h.2]) ⟨_,rfl⟩ rfl rfl hi
 rw[ak ⟨h2,h3⟩]at hp;have hsl:(dF t (i+1) (i+11)).length=10:=by rw[wN (by omega)];omega
 have l1:=xW (t:=t) (i:=i+1) (j:=i+5) (by omega);have l2:=xW (t:=t) (i:=i+6) (j:=i+8) (by omega);have l3:=xW (t:=t) (i:=i+9) (j:=i+11) (by omega);have c1:=fun st=>GQ (st:=st) K l1;have c2:=fun st=>GQ (st:=st) K l2;have c3:=fun st=>GQ (st:=st) K l3;have r1:=ya l1;have r2:=ya l2;have r3:=ya l3;simp (disch:=omega)only[↓pa,pb,ai,aV,↓reduceIte,reduceEqDiff,reduceAdd,reduceLeDiff,Int.reduceToNat,reduceCtorEq,h3,e11,kg,Jg,Ji,kP,c1,c2,c3];revert r1 r2 r3 hp;generalize mT (dF t (i+1) (i+5))=y;generalize mT (dF t (i+6) (i+8))=m;generalize mT (dF t (i+9) (i+11))=d;intro hp r1 r2 r3;refine aa (fun k1=>?_) (fun k1=>?_)
 ·simp only[↓pa,pb,az,↓reduceIte,reduceEqDiff,k1];exact bv (by rw[hp,lO (by omega)];rfl) ⟨_,rfl⟩ rfl rfl (by omega)
 simp only[↓pa,pb,↓reduceIte,reduceEqDiff,k1];refine aa (fun k2=>?_) (fun k2=>?_)
 ·simp only[↓pa,pb,az,↓reduceIte,reduceEqDiff,k2];exact bv (by rw[hp,lO (by omega)];rfl) ⟨_,rfl⟩ rfl rfl (by omega)
 simp only[↓pa,pb,↓reduceIte,reduceEqDiff,k2];refine aa (fun k3=>?_) (fun k3=>?_)
 ·simp only[↓pa,pb,az,↓reduceIte,reduceEqDiff,k3];exact bv (by rw[hp,lO (by omega)];rfl) ⟨_,rfl⟩ rfl rfl (by omega)
 simp only[↓pa,pb,↓reduceIte,reduceEqDiff,k3];refine aa (fun k4=>?_) (fun k4=>?_)
 ·simp only[↓pa,pb,az,↓reduceIte,reduceEqDiff,k4];exact bv (by rw[hp,lO (by omega)];rfl) ⟨_,rfl⟩ rfl rfl (by omega)
 simp only[↓pa,pb,↓reduceIte,reduceEqDiff,k4,Fq K];refine aa (fun k5=>?_) (fun k5=>?_)
 ·simp only[↓pa,pb,az,↓reduceIte,reduceEqDiff,k5];exact bv (by rw[hp,lO (by omega)];rfl) ⟨_,rfl⟩ rfl rfl (by omega)
 have hr:=rp y m;simp only[↓pa,pb,az,↓reduceIte,reduceEqDiff,k5,KF K (y:=y) (m:=m) (d:=d) (by omega) (by omega) (by omega) (by omega) (by omega) (by omega)];exact dO (by rw[hp,G8 (by omega)];rfl) rfl rfl (by omega)
def fx:PV:= .agg [I (-1),I 0,I 0,S [],.list 0 [] .no,.list 0 [] .no]
def Nl(K:bJ cf){t:List UInt8}{i:Nat}{b:Bool}(hs:st.objs s=some [S t,I i,.bool b]):
  ∃ r c',(r=fx/\c'=[S t,I i,.bool true])/\∃ fl,av cf 209 [.ptr s 0] [] st=some (r,cZ (bP st s c') fl):=by
 refine gA K.tab (F:=F209) (Q:=fun r c'=>r=fx/\c'=[S t,I i,.bool true]) rfl rfl rfl (lb rfl) (lb rfl) (by simp) hs (gm t i b) 1 ?_;unfold F209 qr qm qf qs qo qe qN;simp only[↓pa,↓bT,pb,ai,az,↓reduceIte,reduceEqDiff,reduceAdd,reduceLeDiff,reduceCtorEq];rfl
def d8(K:bJ cf){t:List UInt8}{i:Nat}{b:Bool}(hs:st.objs s=some [S t,I i,.bool b])
  (k:∀ fl,A (mk fx (cZ (bP st s [S t,I i,.bool true]) fl))):cP (av cf 209 [.ptr s 0] [] st) mk A:=by
 refine KU (Nl K hs) ?_;rintro r c' fl ⟨rfl,rfl⟩;exact k fl
def KE(K:bJ cf){t:List UInt8}{i n:Nat}{b:Bool}(hn:n<=4)(hs:st.objs s=some [S t,I i,.bool b])(hi:i<=t.length)(hl:t.length<=2000000):
  ∃ r c',oS t I (if b then none else(jo t n i 0).map fun v=>(v,i+n)) ni r c'/\∃ fl,av cf 232 [.ptr s 0,I n] [] st=some (r,cZ (bP st s c') fl):=by
 refine gA K.tab (F:=F232) rfl rfl rfl (lb rfl) (lb rfl) (by simp[aQ]) hs (gm t i b) 20 ?_;unfold F232 qr qd qm qi qb qk ql qf qx qs qo qe;simp only[↓pa];refine be (fun k fr st=>∃ (q:Nat) (v:Int),k=n-q/\q<=n/\i+q<=t.length/\fr 0= .ptr 0 0/\fr 1=I n/\fr 6=I q/\fr 5=I v/\st.objs 0=some [S t,I (i+q:Nat),.bool b]/\0<=v/\v<10 ^ q/\jo t (n-q) (i+q) v=jo t n i 0) n (by omega) ⟨0,0,rfl,by omega,by omega,by simp only[↓pa,↓reduceIte,reduceCtorEq],by simp only[↓pa,↓reduceIte,reduceEqDiff],by simp only[↓pa,↓reduceIte];rfl,by simp only[↓pa,↓reduceIte,reduceEqDiff],by simp only[pb];rfl,by decide,by decide,rfl⟩ ?_;rintro k fr st ⟨q,v,rfl,hq,hiq,f0,f1,f6,f5,o0,hv0,hv1,hQ⟩;have hp:(10:Int) ^ q<=10 ^ 4:=by
  have:q=0\/q=1\/q=2\/q=3\/q=4:=by omega
  rcases this with rfl|rfl|rfl|rfl|rfl<;>decide
 have hp4:(10:Int) ^ 4=10000:=rfl;simp only[↓pa,pb,aV,↓reduceIte,reduceEqDiff,f1,f6];refine aa (fun h1=>?_) (fun h1=>?_);rotate_left
 ·obtain rfl:q=n:=by omega
  rw[Nat.sub_self]at hQ;simp only[↓pa,pb,az,↓reduceIte,reduceEqDiff,f5,o0,h1];rw[<-hQ];cases b with
  |true=>exact a7 (dm:=ni) rfl ⟨_,rfl⟩ rfl hiq
  |false=>exact d7 (dm:=ni) rfl rfl rfl hiq
 obtain⟨m,hm⟩:∃ m,n-q=m+1:=⟨n-q-1,by omega⟩;rw[hm,jo]at hQ;simp only[↓pa,pb,ai,aV,↓reduceIte,reduceEqDiff,reduceAdd,reduceCtorEq,f0,o0,h1];refine aa (fun h2=>?_) (fun h2=>?_)
 ·rw[ad fun h=>by omega]at hQ;simp only[↓pa,pb,ai,az,↓reduceIte,reduceEqDiff,reduceAdd,reduceLeDiff,reduceCtorEq,f0,o0,h2];refine a7 (dm:=ni) ?_ ⟨_,rfl⟩ rfl hiq;rw[<-hQ];cases b<;>rfl
 simp (disch:=omega)only[↓pa,pb,ai,↓reduceIte,reduceEqDiff,reduceAdd,reduceCtorEq,f0,o0,h2,nv K.tab];have h2':i+q<t.length:=by omega
 refine aa (fun h3=>?_) (fun h3=>?_)
 ·rw[ak ⟨h2',h3⟩]at hQ;have hd':=rU.1 h3;simp (disch:=omega)only[↓pa,pb,ai,aV,↓reduceIte,reduceEqDiff,reduceAdd,reduceLeDiff,reduceCtorEq,f0,f1,f6,f5,o0,h3];exact⟨n- (q+1),by omega,q+1,v*10+(cI t (i+q) -48),rfl,by omega,by omega,rfl,rfl,rfl,by omega,by rw[Int.pow_succ];omega,by rw[show n- (q+1)=m by omega];exact hQ⟩
 ·rw[ad fun h=>h3 h.2]at hQ;simp only[↓pa,pb,ai,az,↓reduceIte,reduceAdd,reduceLeDiff,reduceCtorEq,f0,o0,h3];refine a7 (dm:=ni) ?_ ⟨_,rfl⟩ rfl hiq;rw[<-hQ];cases b<;>rfl
def kX(K:bJ cf){t:List UInt8}{i n:Nat}{b:Bool}(hn:n<=4)(hs:st.objs s=some [S t,I i,.bool b])(hi:i<=t.length)(hl:t.length<=2000000)
  (k1:∀ v fl,b=false->jo t n i 0=some v->i+n<=t.length->A (mk (I v) (cZ (bP st s [S t,I (i+n:Nat),.bool false]) fl)))
  (k2:∀ (v:Int) j fl,(b=true\/jo t n i 0=none)->j<=t.length->A (mk (I v) (cZ (bP st s [S t,I (j:Nat),.bool true]) fl))):cP (av cf 232 [.ptr s 0,I n] [] st) mk A:=by
 refine iQ (KE K hn hs hi hl) ?_ ?_
 ·intro v j fl h1 h2;cases b with
  |true=>cases h1
  |false=>
   simp only[bG,if_false,am,cn]at h1;obtain⟨v',h1,rfl,rfl⟩:=h1;exact k1 v' fl rfl h1 h2
 ·rintro p j fl h1 ⟨v,rfl⟩ h3;refine k2 v j fl ?_ h3;cases b with
  |true=>exact .inl rfl
  |false=>
   simp only[bG,if_false,eZ]at h1;exact .inr h1
def Mk(K:bJ cf){t:List UInt8}{i:Nat}(hs:st.objs s=some [S t,I i,.bool false])(hi:i<=t.length)(hl:t.length<=2000000):
  ∃ r c',oS t VB ((gH t i).map fun q=>(.mk 4 q.1 0 [] [] [],q.2)) eO r c'/\∃ fl,av cf 212 [.ptr s 0] [] st=some (r,cZ (bP st s c') fl):=by
 refine gA K.tab (F:=F212) rfl rfl rfl (lb rfl) (lb rfl) (by simp) hs (gm t i _) 20 ?_;unfold F212 qr qd qm qi qb qk ql qf qt qu qx qs qo qN;simp only[↓pa,pb,↓reduceIte,reduceCtorEq];refine kX K (t:=t) (i:=i) (n:=4) (b:=false) (by decide) (by simp only[pb,↓reduceIte,reduceCtorEq]) hi hl (fun y fl _ hy hiy=>?_) (fun v j fl h hj=>?_);rotate_left
 ·have hy:jo t 4 i 0=none:=by rcases h with h|h;cases h;exact h
  have hno:(gH t i).map (fun q=>(V.mk 4 q.1 0 [] [] [],q.2))=none:=by rw[gH,hy];rfl
  simp only[↓pa,pb,ai,↓reduceIte,reduceEqDiff,reduceAdd,reduceLeDiff,reduceCtorEq];refine kX K (t:=t) (n:=2) (b:=true) (by decide) (by simp only[pb,↓reduceIte]<;>rfl) (by assumption) hl (fun _ _ h=>by cases h) (fun _ _ _ _ _=>?_)
  simp only[↓pa,pb,ai,↓reduceIte,reduceEqDiff,reduceAdd,reduceLeDiff,reduceCtorEq];refine kX K (t:=t) (n:=2) (b:=true) (by decide) (by simp only[pb,↓reduceIte]<;>rfl) (by assumption) hl (fun _ _ h=>by cases h) (fun _ _ _ _ _=>?_)
  simp only[↓pa,pb,ai,↓reduceIte,reduceEqDiff,reduceAdd,reduceCtorEq];refine d8 K (t:=t) (by simp only[pb,ai,↓reduceIte]<;>rfl) fun fl=>?_
  simp only[↓pa,pb,ai,az,↓reduceIte,reduceEqDiff,reduceAdd,reduceLeDiff,reduceCtorEq,fx];exact a7 (dm:=eO) hno ⟨_,rfl,rfl,by simp only[az,ap],by simp only[az]⟩ rfl (by omega)
 simp only[↓pa,pb,ai,↓reduceIte,reduceEqDiff,reduceAdd,reduceCtorEq];refine(qp K.tab (t:=t) (i:=i+4) (x:=[45]) (by simp only[pb,ai,↓reduceIte]) hiy hl (by decide)).2 ?_;rw[vI (by decide)];refine aa (fun h4=>?_) (fun h4=>?_);rotate_left
 ·have hno:(gH t i).map (fun q=>(V.mk 4 q.1 0 [] [] [],q.2))=none:=by
   rw[gH];split
   ·rw[ad fun h=>h4 (decide_eq_true h.1)];rfl
   ·rfl
  simp only[↓pa,pb,ai,↓reduceIte,reduceEqDiff,reduceAdd,reduceLeDiff,reduceCtorEq];refine kX K (t:=t) (n:=2) (b:=true) (by decide) (by simp only[pb,↓reduceIte]<;>rfl) (by assumption) hl (fun _ _ h=>by cases h) (fun _ _ _ _ _=>?_)
  simp only[↓pa,pb,ai,↓reduceIte,reduceEqDiff,reduceAdd,reduceLeDiff,reduceCtorEq];refine kX K (t:=t) (n:=2) (b:=true) (by decide) (by simp only[pb,↓reduceIte]<;>rfl) (by assumption) hl (fun _ _ h=>by cases h) (fun _ _ _ _ _=>?_)
  simp only[↓pa,pb,ai,↓reduceIte,reduceEqDiff,reduceAdd,reduceCtorEq];refine d8 K (t:=t) (by simp only[pb,ai,↓reduceIte]<;>rfl) fun fl=>?_
  simp only[↓pa,pb,ai,az,↓reduceIte,reduceEqDiff,reduceAdd,reduceLeDiff,reduceCtorEq,fx];exact a7 (dm:=eO) hno ⟨_,rfl,rfl,by simp only[az,ap],by simp only[az]⟩ rfl (by omega)
 have h4':cI t (i+4)=45:=of_decide_eq_true h4;have hi4:=dt (show cI t (i+4)≠0 by rw[h4'];decide);simp only[↓pa,pb,ai,↓reduceIte,reduceEqDiff,reduceAdd,reduceLeDiff,reduceCtorEq,au,aO];refine kX K (t:=t) (i:=i+4+1) (n:=2) (b:=false) (by decide) (by simp only[pb,↓reduceIte]) hi4 hl (fun m fl _ hm him=>?_) (fun v j fl h hj=>?_);rotate_left
 ·have hm:jo t 2 (i+5) 0=none:=by rcases h with h|h;cases h;exact h
  have hno:(gH t i).map (fun q=>(V.mk 4 q.1 0 [] [] [],q.2))=none:=by rw[gH,hy,hm];rfl
  simp only[↓pa,pb,ai,↓reduceIte,reduceEqDiff,reduceAdd,reduceLeDiff,reduceCtorEq];refine kX K (t:=t) (n:=2) (b:=true) (by decide) (by simp only[pb,↓reduceIte]<;>rfl) (by assumption) hl (fun _ _ h=>by cases h) (fun _ _ _ _ _=>?_)
  simp only[↓pa,pb,ai,↓reduceIte,reduceEqDiff,reduceAdd,reduceCtorEq];refine d8 K (t:=t) (by simp only[pb,ai,↓reduceIte]<;>rfl) fun fl=>?_
  simp only[↓pa,pb,ai,az,↓reduceIte,reduceEqDiff,reduceAdd,reduceLeDiff,reduceCtorEq,fx];exact a7 (dm:=eO) hno ⟨_,rfl,rfl,by simp only[az,ap],by simp only[az]⟩ rfl (by omega)
 simp only[↓pa,pb,ai,↓reduceIte,reduceEqDiff,reduceAdd,reduceCtorEq];refine(qp K.tab (t:=t) (i:=i+4+1+2) (x:=[45]) (by simp only[pb,ai,↓reduceIte]) him hl (by decide)).2 ?_;rw[vI (by decide)];refine aa (fun h7=>?_) (fun h7=>?_);rotate_left
 ·have hno:(gH t i).map (fun q=>(V.mk 4 q.1 0 [] [] [],q.2))=none:=by
   rw[gH];split
   ·rw[ad fun h=>h7 (decide_eq_true h.2)];rfl
   ·rfl
  simp only[↓pa,pb,ai,↓reduceIte,reduceEqDiff,reduceAdd,reduceLeDiff,reduceCtorEq];refine kX K (t:=t) (n:=2) (b:=true) (by decide) (by simp only[pb,↓reduceIte]<;>rfl) (by assumption) hl (fun _ _ h=>by cases h) (fun _ _ _ _ _=>?_)
  simp only[↓pa,pb,ai,↓reduceIte,reduceEqDiff,reduceAdd,reduceCtorEq];refine d8 K (t:=t) (by simp only[pb,ai,↓reduceIte]<;>rfl) fun fl=>?_
  simp only[↓pa,pb,ai,az,↓reduceIte,reduceEqDiff,reduceAdd,reduceLeDiff,reduceCtorEq,fx];exact a7 (dm:=eO) hno ⟨_,rfl,rfl,by simp only[az,ap],by simp only[az]⟩ rfl (by omega)
 have h7':cI t (i+7)=45:=of_decide_eq_true h7;have hi7:=dt (show cI t (i+7)≠0 by rw[h7'];decide);simp only[↓pa,pb,ai,↓reduceIte,reduceEqDiff,reduceAdd,reduceLeDiff,reduceCtorEq,au,aO];refine kX K (t:=t) (i:=i+4+1+2+1) (n:=2) (b:=false) (by decide) (by simp only[pb,↓reduceIte]) hi7 hl (fun d fl _ hd hid=>?_) (fun v j fl h hj=>?_);rotate_left
 ·have hd:jo t 2 (i+8) 0=none:=by rcases h with h|h;cases h;exact h
  have hno:(gH t i).map (fun q=>(V.mk 4 q.1 0 [] [] [],q.2))=none:=by
   rw[gH,hd];cases jo t 4 i 0<;>cases jo t 2 (i+5) 0<;>rfl
  simp only[↓pa,pb,ai,↓reduceIte,reduceEqDiff,reduceAdd,reduceCtorEq];refine d8 K (t:=t) (by simp only[pb,ai,↓reduceIte]<;>rfl) fun fl=>?_
  simp only[↓pa,pb,ai,az,↓reduceIte,reduceEqDiff,reduceAdd,reduceLeDiff,reduceCtorEq,fx];exact a7 (dm:=eO) hno ⟨_,rfl,rfl,by simp only[az,ap],by simp only[az]⟩ rfl (by omega)
 have hm':jo t 2 (i+5) 0=some m:=hm;have hd':jo t 2 (i+8) 0=some d:=hd;have hp:(gH t i).map (fun q=>(V.mk 4 q.1 0 [] [] [],q.2))=(Cc y m d).map fun n=>(V.mk 4 n 0 [] [] [],i+10):=by
  rw[gH,hy,hm',hd'];simp only;rw[ak ⟨h4',h7'⟩];cases Cc y m d<;>rfl
 have r1:=u6 4 i 0 y 1 hy (by decide) (by decide);have r2:=u6 2 (i+5) 0 m 1 hm' (by decide) (by decide);have r3:=u6 2 (i+8) 0 d 1 hd' (by decide) (by decide);have e4:(1:Int) *10 ^ 4=10000:=rfl;have e2:(1:Int) *10 ^ 2=100:=rfl;rw[e4]at r1;rw[e2]at r2 r3;simp only[↓pa,pb,ai,↓reduceIte,reduceEqDiff,reduceAdd,reduceCtorEq];refine aa (fun k1=>?_) (fun k1=>?_)
 ·have hno:(gH t i).map (fun q=>(V.mk 4 q.1 0 [] [] [],q.2))=none:=by rw[hp,lO (by omega),fX]
  simp only[↓pa,pb,↓reduceIte,reduceEqDiff,reduceCtorEq,k1];refine d8 K (t:=t) (by simp only[pb,ai,↓reduceIte]<;>rfl) fun fl=>?_
  simp only[↓pa,pb,ai,az,↓reduceIte,reduceEqDiff,reduceAdd,reduceLeDiff,reduceCtorEq,fx];exact a7 (dm:=eO) hno ⟨_,rfl,rfl,by simp only[az,ap],by simp only[az]⟩ rfl (by omega)
 simp only[↓pa,pb,↓reduceIte,reduceEqDiff,k1];refine aa (fun k2=>?_) (fun k2=>?_)
 ·have hno:(gH t i).map (fun q=>(V.mk 4 q.1 0 [] [] [],q.2))=none:=by rw[hp,lO (by omega),fX]
  simp only[↓pa,pb,↓reduceIte,reduceEqDiff,reduceCtorEq,k2];refine d8 K (t:=t) (by simp only[pb,ai,↓reduceIte]<;>rfl) fun fl=>?_
  simp only[↓pa,pb,ai,az,↓reduceIte,reduceEqDiff,reduceAdd,reduceLeDiff,reduceCtorEq,fx];exact a7 (dm:=eO) hno ⟨_,rfl,rfl,by simp only[az,ap],by simp only[az]⟩ rfl (by omega)
 simp only[↓pa,pb,↓reduceIte,reduceEqDiff,k2];refine aa (fun k3=>?_) (fun k3=>?_)
 ·have hno:(gH t i).map (fun q=>(V.mk 4 q.1 0 [] [] [],q.2))=none:=by rw[hp,lO (by omega),fX]
  simp only[↓pa,pb,↓reduceIte,reduceEqDiff,reduceCtorEq,k3];refine d8 K (t:=t) (by simp only[pb,ai,↓reduceIte]<;>rfl) fun fl=>?_
  simp only[↓pa,pb,ai,az,↓reduceIte,reduceEqDiff,reduceAdd,reduceLeDiff,reduceCtorEq,fx];exact a7 (dm:=eO) hno ⟨_,rfl,rfl,by simp only[az,ap],by simp only[az]⟩ rfl (by omega)
 simp only[↓pa,pb,↓reduceIte,reduceEqDiff,k3];refine aa (fun k4=>?_) (fun k4=>?_)
 ·have hno:(gH t i).map (fun q=>(V.mk 4 q.1 0 [] [] [],q.2))=none:=by rw[hp,lO (by omega),fX]
  simp only[↓pa,pb,↓reduceIte,reduceEqDiff,reduceCtorEq,k4];refine d8 K (t:=t) (by simp only[pb,ai,↓reduceIte]<;>rfl) fun fl=>?_
  simp only[↓pa,pb,ai,az,↓reduceIte,reduceEqDiff,reduceAdd,reduceLeDiff,reduceCtorEq,fx];exact a7 (dm:=eO) hno ⟨_,rfl,rfl,by simp only[az,ap],by simp only[az]⟩ rfl (by omega)
 have hmm:=fun st=>Dq (st:=st) K y (m:=m) (by omega) (by omega);simp only[↓pa,pb,↓reduceIte,reduceEqDiff,k4,hmm];refine aa (fun k5=>?_) (fun k5=>?_)
 ·have hno:(gH t i).map (fun q=>(V.mk 4 q.1 0 [] [] [],q.2))=none:=by rw[hp,lO (by omega),fX]
  simp only[↓pa,pb,↓reduceIte,reduceCtorEq,k5];refine d8 K (t:=t) (by simp only[pb,ai,↓reduceIte]<;>rfl) fun fl=>?_
  simp only[↓pa,pb,ai,az,↓reduceIte,reduceEqDiff,reduceAdd,reduceLeDiff,reduceCtorEq,fx];exact a7 (dm:=eO) hno ⟨_,rfl,rfl,by simp only[az,ap],by simp only[az]⟩ rfl (by omega)
 have hr:=rp y m;rw[G8 (by omega)]at hp;have hdd:=fun st=>Ns (st:=st) K (y:=y) (by omega) (by omega);have q1:=nE (x:=y-1) (d:=4) (by omega) (by decide);have q2:=nE (x:=y-1) (d:=100) (by omega) (by decide);have q3:=nE (x:=y-1) (d:=400) (by omega) (by decide);have hdn:Ax y m d=(y-1) *365+(y-1).tdiv 4- (y-1).tdiv 100+(y-1).tdiv 400+d-1+pG y (m.toNat-1):=by unfold Ax;omega
 simp (disch:=omega)only[↓pa,pb,↓reduceIte,reduceEqDiff,k5,hdd];revert q1 q2 q3 hdn;generalize (y-1).tdiv 4=a1;generalize (y-1).tdiv 100=a2;generalize (y-1).tdiv 400=a3;intro q1 q2 q3 hdn;refine be (fun k fr st=>∃ j:Int,k=(m-j).toNat/\1<=j/\j<=m/\fr 0= .ptr 0 0/\fr 2= .ptr 2 0/\fr 3=I y/\fr 4=I m/\fr 7=I j/\fr 6=I ((y-1) *365+a1-a2+a3+d-1+pG y (j.toNat-1))/\st.objs 0=some [S t,I (i+10:Nat),.bool false]/\st.objs 2=some [I 0,I 0,I 0,S [],.list 0 [] .nil,.list 0 [] .nil]) (m-1).toNat (by omega) ⟨1,rfl,by omega,by omega,by simp only[↓pa,pb,↓reduceIte,reduceCtorEq],by simp only[↓pa,↓reduceIte,reduceEqDiff],by simp only[↓pa,↓reduceIte,reduceEqDiff],by simp only[↓pa,↓reduceIte,reduceEqDiff],by simp only[↓pa,↓reduceIte],by simp only[↓pa,↓reduceIte,reduceEqDiff,Int.reduceToNat];simp[pG],by simp only[pb,ai,↓reduceIte],by simp only[pb,ai,↓reduceIte,reduceCtorEq]⟩ ?_;rintro k fr st ⟨j,rfl,hj1,hj2,f0,f2,f3,f4,f7,f6,o0,o2⟩;have hs:=yd y (j.toNat-1);have hr:=rp y j;have hms:=fun st=>Dq (st:=st) K y (m:=j) (by omega) (by omega);simp only[↓pa,pb,↓reduceIte,reduceEqDiff,f4,f7];refine aa (fun h1=>?_) (fun h1=>?_)
 ·simp (disch:=omega)only[↓pa,pb,↓reduceIte,reduceEqDiff,reduceCtorEq,f0,f2,f3,f4,f7,f6,o0,o2,h1,hms];refine⟨(m- (j+1)).toNat,by omega,j+1,rfl,by omega,by omega,rfl,?_⟩;rw[<-A3 y hj1];simp only[Int.add_assoc]
 ·obtain rfl:j=m:=by omega
  simp only[↓pa,↓bT,pb,ai,az,↓reduceIte,reduceEqDiff,reduceAdd,reduceLeDiff,reduceCtorEq,f2,f6,o0,o2,h1];refine d7 hp ?_ rfl (by omega);rw[hdn];rfl
def gl(K:bJ cf){t:List UInt8}{i:Nat}{c:UInt8}(n:Int)(hc:(c.toNat:Int)=n)(hn:n≠0)(hs:st.objs s=some [S t,I i])(hi:i<=t.length)(hl:t.length<=2000000):
  cP (av cf 226 [.ptr s 0,S [c]] [] st) mk A↔lk (cI t i=n) (ek A (mk (.bool true) (bP st s [S t,I (i+1:Nat)]))) (ek A (mk (.bool false) st)):=by
 rw[vQ K.tab hs hi hl (show([c]:List UInt8).length<=2000000 by simp),vI (by rintro rfl;exact hn hc.symm),hc];simp only[decide_eq_true_eq];rfl
def eL(K:bJ cf){t:List UInt8}{i:Nat}{c:UInt8}(n:Int)(hc:(c.toNat:Int)=n)(hn:n≠0)(hs:st.objs s=some [S t,I i,.bool false])(hi:i<=t.length)(hl:t.length<=2000000):
  cP (av cf 210 [.ptr s 0,S [c]] [] st) mk A↔lk (cI t i=n) (ek A (mk (.bool true) (bP st s [S t,I (i+1:Nat),.bool false]))) (ek A (mk (.bool false) st)):=by
 rw[qp K.tab hs hi hl (show([c]:List UInt8).length<=2000000 by simp),vI (by rintro rfl;exact hn hc.symm),hc];simp only[decide_eq_true_eq];rfl
def L7(K:bJ cf){t:List UInt8}{i:Nat}(hs:st.objs s=some [S t,I i])(hi:i<=t.length)(hl:t.length<=2000000)(h40:cI t i=40):
  ∃ r c',mU t VA (gL t (i+1)) eO r c'/\∃ fl,av cf 222 [.ptr s 0] [] st=some (r,cZ (bP st s c') fl):=by
 refine gA K.tab (F:=F222) rfl rfl rfl (lb rfl) (lb rfl) (by simp) hs (fP t i) 1 ?_;unfold F222 qr qd qm qc qt qx qs qo qN;have hlt:=dt (show cI t i≠0 by rw[h40];decide);simp only[↓pa,pb,↓reduceIte,reduceCtorEq];refine(gl K (t:=t) (i:=i) 40 rfl (by decide) (by simp only[pb,↓reduceIte,reduceCtorEq]) hi hl).2 ?_;simp only[↓pa,pb,↓reduceIte,reduceCtorEq,h40];refine sg K (t:=t) (i:=i+1) (by simp only[pb,↓reduceIte]) hlt hl (fun a j fl ha hj=>?_) (fun n j fl ha hj=>?_);rotate_left
 ·have hno:gL t (i+1)=none:=by rw[gL,ha]
  simp only[↓pa,pb,aj,ah,↓reduceIte,reduceEqDiff,reduceCtorEq];refine(gl K (t:=t) (i:=j) 32 rfl (by decide) (by simp only[pb,ai,↓reduceIte]) hj hl).2 ?_;refine aa (fun h=>?_) (fun h=>?_)
  ·have:=dt (show cI t j≠0 by rw[h];decide);simp only[↓pa,↓bT,pb,ai,az,↓reduceIte,reduceEqDiff,reduceAdd,reduceLeDiff,reduceCtorEq];exact bv hno ⟨_,rfl,rfl,by simp only[az,ap],by simp only[az]⟩ rfl rfl (by omega)
  ·
   simp only[↓pa,↓bT,pb,ai,az,↓reduceIte,reduceEqDiff,reduceAdd,reduceLeDiff,reduceCtorEq];exact bv hno ⟨_,rfl,rfl,by simp only[az,ap],by simp only[az]⟩ rfl rfl (by omega)
 simp only[↓pa,pb,aj,ah,↓reduceIte,reduceEqDiff,reduceCtorEq];refine(gl K (t:=t) (i:=j) 32 rfl (by decide) (by simp only[pb,ai,↓reduceIte]) hj hl).2 ?_;refine aa (fun h32=>?_) (fun h32=>?_);rotate_left
 ·have hno:gL t (i+1)=none:=by rw[gL,ha];simp only;rw[ad h32]
  simp only[↓pa,↓bT,pb,ai,az,↓reduceIte,reduceEqDiff,reduceAdd,reduceLeDiff,reduceCtorEq];exact bv hno ⟨_,rfl,rfl,by simp only[az,ap],by simp only[az]⟩ rfl rfl (by omega)
 have hjl:=dt (show cI t j≠0 by rw[h32];decide);simp only[↓pa,pb,↓reduceIte,reduceEqDiff,reduceCtorEq];refine sg K (t:=t) (i:=j+1) (by simp only[pb,↓reduceIte]) hjl hl (fun b k fl hb hk=>?_) (fun n k fl hb hk=>?_);rotate_left
 ·have hno:gL t (i+1)=none:=by rw[gL,ha];simp only;rw[ak h32,hb]
  simp only[↓pa,↓bT,pb,ai,az,aj,ah,↓reduceIte,reduceEqDiff,reduceAdd,reduceLeDiff,reduceCtorEq];exact bv hno ⟨_,rfl,rfl,by simp only[az,ap],by simp only[az]⟩ rfl rfl (by omega)
 have hp:gL t (i+1)=if cI t k=41/\pY a=false/\pY b=false then some (.mk 5 a b [] [] [],k+1)else none:=by rw[gL,ha];simp only;rw[ak h32,hb]
 simp only[↓pa,pb,aj,ah,↓reduceIte,reduceEqDiff,reduceCtorEq];refine(gl K (t:=t) (i:=k) 41 rfl (by decide) (by simp only[pb,ai,↓reduceIte]) hk hl).2 ?_;refine aa (fun h41=>?_) (fun h41=>?_);rotate_left
 ·have hno:gL t (i+1)=none:=by rw[hp,ad fun h=>h41 h.1]
  simp only[↓pa,↓bT,pb,ai,az,↓reduceIte,reduceEqDiff,reduceAdd,reduceLeDiff,reduceCtorEq];exact bv hno ⟨_,rfl,rfl,by simp only[az,ap],by simp only[az]⟩ rfl rfl (by omega)
 have hkl:=dt (show cI t k≠0 by rw[h41];decide);have hbig:∀ x,pY x=true↔(x< -1000000\/1000000<x):=fun x=>by simp[pY]
 simp only[↓pa,pb,↓reduceIte,reduceEqDiff];refine aa (fun b1=>?_) (fun b1=>?_)
 ·have hno:gL t (i+1)=none:=by rw[hp,ad fun h=>by rw[(hbig a).2 (.inl b1)]at h;simp at h]
  simp only[↓pa,↓bT,pb,ai,↓reduceIte,reduceEqDiff,reduceAdd,reduceLeDiff,reduceCtorEq,b1];simp only[↓pa,pb,ai,az,↓reduceIte,reduceEqDiff,reduceAdd,reduceLeDiff,reduceCtorEq];exact bv hno ⟨_,rfl,rfl,by simp only[az,ap],by simp only[az]⟩ rfl rfl (by omega)
 simp only[↓pa,pb,↓reduceIte,reduceEqDiff,b1];refine aa (fun b2=>?_) (fun b2=>?_)
 ·have hno:gL t (i+1)=none:=by rw[hp,ad fun h=>by rw[(hbig a).2 (.inr b2)]at h;simp at h]
  simp only[↓pa,↓bT,pb,ai,↓reduceIte,reduceEqDiff,reduceAdd,reduceLeDiff,reduceCtorEq,b2];simp only[↓pa,pb,ai,az,↓reduceIte,reduceEqDiff,reduceAdd,reduceLeDiff,reduceCtorEq];exact bv hno ⟨_,rfl,rfl,by simp only[az,ap],by simp only[az]⟩ rfl rfl (by omega)
 simp only[↓pa,pb,↓reduceIte,reduceEqDiff,b2];refine aa (fun b3=>?_) (fun b3=>?_)
 ·have hno:gL t (i+1)=none:=by rw[hp,ad fun h=>by rw[(hbig b).2 (.inl b3)]at h;simp at h]
  simp only[↓pa,↓bT,pb,ai,↓reduceIte,reduceEqDiff,reduceAdd,reduceLeDiff,reduceCtorEq,b3];simp only[↓pa,pb,ai,az,↓reduceIte,reduceEqDiff,reduceAdd,reduceLeDiff,reduceCtorEq];exact bv hno ⟨_,rfl,rfl,by simp only[az,ap],by simp only[az]⟩ rfl rfl (by omega)
 simp only[↓pa,pb,↓reduceIte,reduceEqDiff,b3];refine aa (fun b4=>?_) (fun b4=>?_)
 ·have hno:gL t (i+1)=none:=by rw[hp,ad fun h=>by rw[(hbig b).2 (.inr b4)]at h;simp at h]
  simp only[↓pa,↓bT,pb,ai,az,↓reduceIte,reduceEqDiff,reduceAdd,reduceLeDiff,reduceCtorEq,b4];exact bv hno ⟨_,rfl,rfl,by simp only[az,ap],by simp only[az]⟩ rfl rfl (by omega)
 ·have ba:pY a=false:=by cases h:pY a;rfl;exact absurd ((hbig a).1 h) (by omega)
  have bb:pY b=false:=by cases h:pY b;rfl;exact absurd ((hbig b).1 h) (by omega)
  simp only[↓pa,↓bT,pb,ai,az,↓reduceIte,reduceEqDiff,reduceAdd,reduceLeDiff,reduceCtorEq,b4];exact dO (by rw[hp,ak ⟨h41,ba,bb⟩]) rfl rfl hkl
def d6{a b c d e f:PV}{vs:List PV}(h:vs.length=6):bD [a,b,c,d,e,f] 0 vs=vs:=iK (by rw[h];rfl)
def fz{vs:List PV}(h:vs.length=6):vs.take 6=vs:=bA (by omega)
def Gk{v:V}:bI v.ca 0 1 false=some (I v.kind):=by cases v;rfl
def Gj{v:V}:bI v.cb 0 1 false=some (I v.kind):=by cases v;rfl
def xC{t:List UInt8}{k:Int}{i j:Nat}{v:V}(hi:i<=t.length)(h:eD t k i=some (v,j)):v.kind=k/\i<=j/\j<=t.length:=by
 unfold eD at h;simp only[am,cn]at h;obtain⟨⟨n,j'⟩,h1,rfl,rfl⟩:=h;exact⟨rfl,MH hi h1⟩
def Cz{t:List UInt8}{i j:Nat}{v:V}(h:js t i=some (v,j)):(v.kind=9/\cI t i=101/\eD t 9 (i+1)=some (v,j)\/v.kind=8/\cI t i=110/\eD t 8 (i+1)=some (v,j))/\i<j/\j<=t.length:=by
 unfold js at h;split at h
 ·rename_i hc;have hlt:=dt (show cI t i≠0 by rw[hc];decide);obtain⟨h1,h2,h3⟩:=xC hlt h;exact⟨.inl ⟨h1,hc,h⟩,h2,h3⟩
 ·split at h
  ·rename_i hc;have hlt:=dt (show cI t i≠0 by rw[hc];decide);obtain⟨h1,h2,h3⟩:=xC hlt h;exact⟨.inr ⟨h1,hc,h⟩,h2,h3⟩
  ·cases h
def cS{vs:List V}{v:V}:(vs++[v]).length=vs.length+1:=by simp
def ER{t:List UInt8}{n j:Nat}{node:Bool}{acc:List V}(hn:0<n):mJ t n node j acc=
  if cI t j=(if node then 110 else 101)then match eD t (if node then 8 else 9) (j+1)with
   |some (v,j)=>
    if node=true/\cI t j=62 then some (.mk 10 0 0 [] [] (acc++[v]),j+1)
    else if cI t j=32 then mJ t (n-1) (!node) (j+1) (acc++[v])
    else none
   |none=>none
  else none:=by
 obtain⟨m,rfl⟩:∃ m,n=m+1:=⟨n-1,by omega⟩;rw[mJ];rfl
def BW(node:Bool):Int:=if node then 8 else 9
def JD{acc:List V}{v:V}:PV.agg [I 10,I 0,I 0,S [],.list 0 [] .no,.list (acc.length+1) (V.cas (acc++[v])) .no]=VA (.mk 10 0 0 [] [] (acc++[v])):=by
 rw[VA,V.ca,cS];rfl
def Nc(K:bJ cf){t:List UInt8}{i:Nat}(hs:st.objs s=some [S t,I i])(hi:i<=t.length)(hl:t.length<=2000000)(h60:cI t i=60):
  ∃ r c',mU t VA (qR t (i+1)) eO r c'/\∃ fl,av cf 225 [.ptr s 0] [] st=some (r,cZ (bP st s c') fl):=by
 refine gA K.tab (F:=F225) rfl rfl rfl (lb rfl) (lb rfl) (by simp) hs (fP t i) (t.length+1) ?_;unfold F225 qr qd qm qi qc qk ql qf qt qx qy qs qo qN;have hlt:=dt (show cI t i≠0 by rw[h60];decide);simp only[↓pa,↓bT,pb,ai,↓reduceIte,reduceEqDiff,reduceAdd,reduceLeDiff,reduceCtorEq];refine(gl K (t:=t) (i:=i) 60 rfl (by decide) (by simp only[pb,↓reduceIte,reduceCtorEq]) hi hl).2 ?_;simp only[↓pa,pb,↓reduceIte,h60];refine be (fun k fr st=>∃ (j n:Nat) (node:Bool) (acc:List V) (tok:aB),k=t.length-j/\j<=t.length/\acc.length<=j/\t.length-j<n/\fr 0= .ptr 0 0/\fr 2= .ptr 2 0/\fr 4= .ptr 4 0/\fr 5=I (BW node)/\st.objs 0=some [S t,I j]/\st.objs 2=some [I 0,I 0,I 0,S [],.list 0 [] .nil,.list 0 [] .nil]/\
  st.objs 4=some [I 10,I 0,I 0,S [],.list 0 [] .nil,.list acc.length (V.cas acc) tok]/\Gr 204 st.nx st.cnt acc.length tok/\mJ t n node j acc=qR t (i+1)) (t.length- (i+1)) (by omega)
  ⟨i+1,t.length+1- (i+1),true,[],.nil,rfl,by omega,aM _,by omega,by simp only[↓pa,pb,↓reduceIte,reduceCtorEq],by simp only[↓pa,pb,↓reduceIte,reduceEqDiff],by simp only[↓pa,↓reduceIte,reduceEqDiff],by simp only[↓pa,↓reduceIte];rfl,by simp only[pb,↓reduceIte],by simp only[pb,↓reduceIte,reduceEqDiff,reduceCtorEq],by simp only[pb,↓reduceIte,reduceCtorEq];rfl,rfl,rfl⟩ ?_
 rintro k fr st ⟨j,n,node,acc,tok,rfl,hj,hacc,hn,f0,f2,f4,f5,o0,o2,o4,hG,hQ⟩;rw[ER (by omega)]at hQ;simp only[↓pa,pb,↓reduceIte,f0];refine hY (AB K (t:=t) (i:=j) (by simp only[o0]) hj hl) (fun v j1 fl hv hj1=>?_) (fun p j1 fl hv hp hj1=>?_);rotate_left
 ·obtain⟨cs,rfl,hcs,hcn,hct⟩:=hp;have hno:qR t (i+1)=none:=by
   rw[<-hQ];unfold js at hv;cases node
   ·simp only[bG,if_false];by_cases hc:cI t j=101
    ·rw[ak hc]at hv;rw[ak hc,hv]
    ·rw[ad hc]
   ·simp only[if_true];by_cases hc:cI t j=110
    ·rw[ad (by omega),ak hc]at hv;rw[ak hc,hv]
    ·rw[ad hc]
  simp (disch:=omega)only[↓pa,pb,ai,az,fg,aj,ah,↓reduceIte,reduceEqDiff,reduceAdd,reduceLeDiff,reduceCtorEq,f2,f4,o2,o4,hcs,d6];exact bv hno ⟨_,rfl,rfl,by simp only[az,fg,ap],by simp only[az,fg]⟩ rfl rfl hj1
 obtain⟨hk,hlt1,-⟩:=Cz hv;have hvl:=v.ca_len;by_cases hw:v.kind=BW node;rotate_left
 ·have hno:qR t (i+1)=none:=by
   rw[<-hQ,ad];intro hc;apply hw;cases node
   ·have hc:cI t j=101:=hc;rcases hk with⟨h1,-⟩|⟨-,h2,-⟩
    ·exact h1
    ·omega
   ·have hc:cI t j=110:=hc;rcases hk with⟨-,h2,-⟩|⟨h1,-⟩
    ·omega
    ·exact h1
  simp (disch:=omega)only[↓pa,pb,ai,az,fg,aj,ah,↓reduceIte,reduceEqDiff,reduceAdd,reduceLeDiff,du,reduceCtorEq,f2,f4,f5,o2,o4,hvl,d6,Gk,hw];exact bv hno ⟨_,rfl,rfl,by simp only[az,fg,ap],by simp only[az,fg]⟩ rfl rfl hj1
 have hstep:qR t (i+1)=if node=true/\cI t j1=62 then some (.mk 10 0 0 [] [] (acc++[v]),j1+1)else if cI t j1=32 then mJ t (n-1) (!node) (j1+1) (acc++[v])else none:=by
  rw[<-hQ];cases node
  ·rcases hk with⟨h1,h2,h3⟩|⟨h1,h2,h3⟩
   ·rw[ak (by exact h2)];simp only[bG,if_false];rw[h3]
   ·rw[h1]at hw;exact absurd hw (by decide)
  ·rcases hk with⟨h1,h2,h3⟩|⟨h1,h2,h3⟩
   ·rw[h1]at hw;exact absurd hw (by decide)
   ·rw[ak (by exact h2)];simp only[if_true];rw[h3]
 clear hQ;simp (disch:=omega)only[↓pa,↓bT,pb,ai,aj,ah,↓reduceIte,reduceEqDiff,reduceAdd,reduceLeDiff,reduceLT,du,reduceCtorEq,f4,f5,o4,hvl,d6,fz,Gk,hw];refine bj (n:=acc.length) (m:=1) hG (by rw[V.cas_len]) (by rw[hvl]) (by omega) (by omega) (by decide) ?_;rw[V.cas_snoc];have hw8:BW true=8:=rfl;have hw9:BW false=9:=rfl;cases node
 ·rw[ad (by simp)]at hstep;simp only[↓pa,pb,ai,↓reduceIte,reduceEqDiff,reduceAdd,reduceLeDiff,Int.reduceEq,reduceCtorEq,f0,f4,f5,o4,hw9];refine(gl K (t:=t) (i:=j1) 32 rfl (by decide) (by simp only[pb,ai,↓reduceIte,reduceCtorEq]) hj1 hl).2 ?_;refine aa (fun h32=>?_) (fun h32=>?_)
  ·rw[ak h32]at hstep;have hjl:=dt (show cI t j1≠0 by rw[h32];decide);simp (disch:=omega)only[↓pa,pb,ai,↓reduceIte,reduceEqDiff,reduceCtorEq,f0,f2,f4,f5,o2,hw9];exact⟨t.length- (j1+1),by omega,j1+1,n-1,true,acc++[v],_,rfl,by omega,by rw[cS];omega,by omega,rfl,rfl,by rw[cS],by rw[cS];exact di hG,hstep.symm⟩
  ·rw[ad h32]at hstep;simp only[↓pa,pb,ai,az,fg,↓reduceIte,reduceEqDiff,reduceAdd,reduceLeDiff,reduceCtorEq,f2,f4,o2];exact bv hstep ⟨_,rfl,rfl,by simp only[az,fg,ap],by simp only[az,fg]⟩ rfl rfl hj1
 ·simp only[↓pa,pb,ai,↓reduceIte,reduceEqDiff,reduceAdd,reduceLeDiff,reduceCtorEq,f0,f4,f5,o4,hw8];refine(gl K (t:=t) (i:=j1) 62 rfl (by decide) (by simp only[pb,ai,↓reduceIte,reduceCtorEq]) hj1 hl).2 ?_;refine aa (fun h62=>?_) (fun h62=>?_)
  ·rw[ak ⟨rfl,h62⟩]at hstep;have hjl:=dt (show cI t j1≠0 by rw[h62];decide);simp only[↓pa,pb,ai,az,fg,↓reduceIte,reduceEqDiff,reduceAdd,reduceLeDiff,reduceCtorEq,f2,f4,o2];rw[JD];exact dO hstep rfl rfl hjl
  rw[ad fun h=>h62 h.2]at hstep;simp only[↓pa,pb,↓reduceIte,reduceEqDiff,reduceCtorEq,f0];refine(gl K (t:=t) (i:=j1) 32 rfl (by decide) (by simp only[pb,ai,↓reduceIte,reduceCtorEq]) hj1 hl).2 ?_;refine aa (fun h32=>?_) (fun h32=>?_)
  ·rw[ak h32]at hstep;have hjl:=dt (show cI t j1≠0 by rw[h32];decide);simp (disch:=omega)only[↓pa,pb,ai,↓reduceIte,reduceEqDiff,reduceCtorEq,f0,f2,f4,f5,o2,hw8];exact⟨t.length- (j1+1),by omega,j1+1,n-1,false,acc++[v],_,rfl,by omega,by rw[cS];omega,by omega,rfl,rfl,by rw[cS],by rw[cS];exact di hG,hstep.symm⟩
  ·rw[ad h32]at hstep;simp only[↓pa,pb,ai,az,fg,↓reduceIte,reduceEqDiff,reduceAdd,reduceLeDiff,reduceCtorEq,f2,f4,o2];exact bv hstep ⟨_,rfl,rfl,by simp only[az,fg,ap],by simp only[az,fg]⟩ rfl rfl hj1
def sW{t:List UInt8}{i j:Nat}{n:Int}(h:fF t i=some (n,j)):i<=j:=by
 unfold fF at h;simp only[am,cn]at h;obtain⟨_,_,_,rfl⟩:=h;split
 ·exact Nat.le_of_succ_le (lR _ _ _)
 ·exact lR _ _ _
def oc{t:List UInt8}{k:Int}{i j:Nat}{v:V}(h:eD t k i=some (v,j)):i<=j:=by
 unfold eD sX at h;simp only[am,cn]at h;obtain⟨⟨n,j'⟩,h1,rfl,rfl⟩:=h;split at h1
 ·rename_i hp;split at h1
  ·cases h1;exact sW hp
  ·cases h1
 ·cases h1
def vw{t:List UInt8}:∀ (n i:Nat) (acc:List UInt8) {r:List UInt8} {j:Nat},ir t n i acc=some (r,j)->i<=j
 |0,_,_,_,_,h=>by cases h
 |n+1,i,acc,r,j,h=>by
  have ih:=fun i acc=>vw (t:=t) n i acc (r:=r) (j:=j);rw[ir]at h
  repeat' split at h
  all_goals first
   |(cases h;done)
   |(have:=ih _ _ h;omega)
   |(cases h;omega)
def xD{t:List UInt8}:∀ (n:Nat) (node:Bool) (i:Nat) (acc:List V) {v:V} {j:Nat},mJ t n node i acc=some (v,j)->i<=j
 |0,_,_,_,_,_,h=>by cases h
 |n+1,node,i,acc,v,j,h=>by
  have ih:=fun node i acc=>xD (t:=t) n node i acc (v:=v) (j:=j);rw[mJ]at h;by_cases hc:cI t i=(if node then 110 else 101)
  ·rw[ak hc]at h;cases hv:eD t (if node then 8 else 9) (i+1)with
   |none=>rw[hv]at h;cases h
   |some q=>
    obtain⟨w,j1⟩:=q;rw[hv]at h;simp only at h;have:=oc hv;split at h
    ·cases h;omega
    ·split at h
     ·have:=ih _ _ _ h;omega
     ·cases h
  ·rw[ad hc]at h;cases h
def xH{t:List UInt8}{rd:Nat->Option (V×Nat)}(hr:∀ i v j,rd i=some (v,j)->i<=j):∀ (n i:Nat) (acc:List V) {v:V} {j:Nat},lU t rd n i acc=some (v,j)->i<=j
 |0,_,_,_,_,h=>by cases h
 |n+1,i,acc,v,j,h=>by
  have ih:=fun i acc=>xH (t:=t) hr n i acc (v:=v) (j:=j);rw[lU]at h;split at h
  ·rename_i hv;have:=hr _ _ _ hv;split at h
   ·cases h;omega
   ·split at h
    ·have:=ih _ _ h;omega
    ·cases h
  ·cases h
def uE{t:List UInt8}{i j:Nat}{l:List UInt8}(h:qS t i=some (l,j)):i<=j:=by
 unfold qS at h;split at h
 ·cases h;exact lR _ _ _
 ·cases h
def zk{t:List UInt8}{rd:Nat->Option (V×Nat)}(hr:∀ i v j,rd i=some (v,j)->i<=j):∀ (n i:Nat) (ns:List (List UInt8)) (acc:List V) {v:V} {j:Nat},mr t rd n i ns acc=some (v,j)->i<=j
 |0,_,_,_,_,_,h=>by cases h
 |n+1,i,ns,acc,v,j,h=>by
  have ih:=fun i ns acc=>zk (t:=t) hr n i ns acc (v:=v) (j:=j);rw[mr]at h;split at h
  ·rename_i hn;have h1:=uE hn;split at h
   ·split at h
    ·rename_i hv;have h2:=hr _ _ _ hv;split at h
     ·split at h
      ·cases h;omega
      ·cases h
     ·split at h
      ·have:=ih _ _ _ h;omega
      ·cases h
    ·cases h
   ·cases h
  ·cases h
def zb{t:List UInt8}{o:Option (Nat->Option (V×Nat))}(hr:∀ rd,o=some rd->∀ i v j,rd i=some (v,j)->i<=j){i:Nat}{v:V}{j:Nat}(h:mW t o i=some (v,j)):i<=j:=by
 unfold mW at h;by_cases c1:cI t i=34
 ·rw[ak c1]at h;simp only[am,cn]at h;obtain⟨⟨l,j'⟩,h1,_,rfl⟩:=h;have:=vw _ _ _ h1
  show i<=j';omega
 rw[ad c1]at h;by_cases c2:cI t i=64
 ·rw[ak c2]at h;simp only[am,cn]at h;obtain⟨⟨l,j'⟩,h1,_,rfl⟩:=h;unfold gH at h1;split at h1
  ·split at h1
   ·simp only[am,cn]at h1;obtain⟨_,_,_,h2⟩:=h1
    show i<=j';omega
   ·cases h1
  ·cases h1
 rw[ad c2]at h;by_cases c3:cI t i=45\/eW (cI t i)=true
 ·rw[ak c3]at h;simp only[am,cn]at h;obtain⟨⟨l,j'⟩,h1,_,rfl⟩:=h;exact sW h1
 rw[ad c3]at h;by_cases c4:cI t i=40
 ·rw[ak c4]at h;unfold gL at h;split at h
  ·rename_i h1;have:=sW h1;split at h
   ·split at h
    ·rename_i h2;have:=sW h2;split at h
     ·cases h;omega
     ·cases h
    ·cases h
   ·cases h
  ·cases h
 rw[ad c4]at h;by_cases c5:cI t i=91
 ·rw[ak c5]at h;cases o with
  |none=>cases h
  |some rd=>
   change lI t rd (i+1)=some (v,j)at h;unfold lI at h;split at h
   ·cases h;omega
   ·have:=xH (hr _ rfl) _ _ _ h;omega
 rw[ad c5]at h;by_cases c6:cI t i=123
 ·rw[ak c6]at h;cases o with
  |none=>cases h
  |some rd=>
   change jL t rd (i+1)=some (v,j)at h;unfold jL at h;split at h
   ·cases h;omega
   ·have:=zk (hr _ rfl) _ _ _ _ h;omega
 rw[ad c6]at h;by_cases c7:cI t i=60
 ·rw[ak c7]at h;have:=xD _ _ _ _ h;omega
 rw[ad c7]at h;by_cases c8:tk t i [110,117,108,108]=true
 ·rw[ak c8]at h;cases h;omega
 rw[ad c8]at h;by_cases c9:tk t i [116,114,117,101]=true
 ·rw[ak c9]at h;cases h;omega
 rw[ad c9]at h;by_cases c10:tk t i [102,97,108,115,101]=true
 ·rw[ak c10]at h;cases h;omega
 rw[ad c10]at h;by_cases c11:cI t i=110
 ·rw[ak c11]at h;have:=oc h;omega
 rw[ad c11]at h;by_cases c12:cI t i=101
 ·rw[ak c12]at h;have:=oc h;omega
 rw[ad c12]at h;cases h
def pe{t:List UInt8}:∀ (b i:Nat) (v:V) (j:Nat),eC t b i=some (v,j)->i<=j
 |0,i,v,j,h=>zb (fun rd h=>by cases h) (show mW t none i=some (v,j)from h)
 |b+1,i,v,j,h=>zb (fun rd h=>by cases h;exact pe b) (show mW t (some (eC t b)) i=some (v,j)from h)
def zR(cf:aA)(t:List UInt8)(b:Nat):Prop:=∀ (st:St) (s i:Nat),st.objs s=some [S t,I i]->i<=t.length->
 ∃ r c',mU t VA (eC t b i) eO r c'/\∃ fl,av cf 201 [.ptr s 0,I (5- (b:Int))] [] st=some (r,cZ (bP st s c') fl)
def E1{t:List UInt8}{rd:Nat->Option (V×Nat)}{n j:Nat}{acc:List V}(hn:0<n):lU t rd n j acc=match rd j with
  |some (v,j)=>
   if cI t j=93 then some (.mk 6 0 0 [] [] (acc++[v]),j+1)
   else if cI t j=44 then lU t rd (n-1) (j+1) (acc++[v])
   else none
  |none=>none:=by
 obtain⟨m,rfl⟩:∃ m,n=m+1:=⟨n-1,by omega⟩;rw[lU];rfl
def JV{acc:List V}{v:V}:PV.agg [I 6,I 0,I 0,S [],.list 0 [] .no,.list (acc.length+1) (V.cas (acc++[v])) .no]=VA (.mk 6 0 0 [] [] (acc++[v])):=by
 rw[VA,V.ca,cS];rfl
def Mc(K:bJ cf){t:List UInt8}{i:Nat}(hs:st.objs s=some [S t,I i])(hi:i<=t.length)(hl:t.length<=2000000)(h91:cI t i=91):
  ∃ r c',mU t VA none eO r c'/\∃ fl,av cf 223 [.ptr s 0,I 5] [] st=some (r,cZ (bP st s c') fl):=by
 refine gA K.tab (F:=F223) rfl rfl rfl (lb rfl) (lb rfl) (by simp[aQ]) hs (fP t i) 1 ?_;unfold F223 qr qd qm qc qk ql qf qu qx qs qo qN;have hlt:=dt (show cI t i≠0 by rw[h91];decide);simp only[↓pa,↓bT,pb,ai,↓reduceIte,reduceEqDiff,reduceAdd,reduceLeDiff,reduceCtorEq];refine(gl K (t:=t) (i:=i) 91 rfl (by decide) (by simp only[pb,↓reduceIte,reduceCtorEq]) hi hl).2 ?_;simp only[↓pa,pb,ai,↓reduceIte,reduceEqDiff,reduceAdd,reduceLeDiff,reduceCtorEq,h91];simp only[↓pa,pb,ai,az,↓reduceIte,reduceEqDiff,reduceAdd,reduceLeDiff,reduceCtorEq];exact bv rfl ⟨_,rfl,rfl,by simp only[az,ap],by simp only[az]⟩ rfl rfl hlt
def Nh(K:bJ cf){t:List UInt8}{i b:Nat}(hs:st.objs s=some [S t,I i])(hi:i<=t.length)(hl:t.length<=2000000)(hb:b<5)(h91:cI t i=91)(ih:zR cf t b):
  ∃ r c',mU t VA (lI t (eC t b) (i+1)) eO r c'/\∃ fl,av cf 223 [.ptr s 0,I (5- ((b+1:Nat):Int))] [] st=some (r,cZ (bP st s c') fl):=by
 refine gA K.tab (F:=F223) rfl rfl rfl (lb rfl) (lb rfl) (by simp[aQ]) hs (fP t i) (t.length+1) ?_;unfold F223 qr qd qm qc qk ql qf qu qx qs qo qN;have hlt:=dt (show cI t i≠0 by rw[h91];decide);have hd5:¬ (5- ((b+1:Nat):Int)=5):=by omega
 have hdd:5- ((b+1:Nat):Int)+1=5- (b:Int):=by omega
 revert hd5 hdd;generalize hdp:5- ((b+1:Nat):Int)=dp;intro hd5 hdd;simp only[↓pa,↓bT,pb,ai,↓reduceIte,reduceEqDiff,reduceAdd,reduceLeDiff,reduceCtorEq];refine(gl K (t:=t) (i:=i) 91 rfl (by decide) (by simp only[pb,↓reduceIte,reduceCtorEq]) hi hl).2 ?_;simp only[↓pa,pb,↓reduceIte,reduceEqDiff,reduceCtorEq,h91,hd5];refine(gl K (t:=t) (i:=i+1) 93 rfl (by decide) (by simp only[pb,↓reduceIte]) hlt hl).2 ?_;refine aa (fun h93=>?_) (fun h93=>?_)
 ·have hlt2:=dt (show cI t (i+1)≠0 by rw[h93];decide);simp only[↓pa,pb,ai,az,↓reduceIte,reduceEqDiff,reduceAdd,reduceLeDiff,reduceCtorEq];exact dO (by rw[lI,ak h93]) (by rfl) rfl hlt2
 have hP:lI t (eC t b) (i+1)=lU t (eC t b) (t.length+1- (i+1)) (i+1) []:=by rw[lI,ad h93]
 simp only[↓pa,pb,↓reduceIte];refine be (fun k fr st=>∃ (j n:Nat) (acc:List V) (tok:aB),k=t.length-j/\j<=t.length/\acc.length<=j/\t.length-j<n/\fr 0= .ptr 0 0/\fr 1=I dp/\fr 4= .ptr 4 0/\fr 6= .ptr 6 0/\st.objs 0=some [S t,I j]/\st.objs 4=some [I 0,I 0,I 0,S [],.list 0 [] .nil,.list 0 [] .nil]/\
  st.objs 6=some [I 6,I 0,I 0,S [],.list 0 [] .nil,.list acc.length (V.cas acc) tok]/\Gr 204 st.nx st.cnt acc.length tok/\lU t (eC t b) n j acc=lI t (eC t b) (i+1)) (t.length- (i+1)) (by omega)
  ⟨i+1,t.length+1- (i+1),[],.nil,rfl,by omega,aM _,by omega,by simp only[↓pa,pb,↓reduceIte,reduceCtorEq],by simp only[↓pa,pb,↓reduceIte,reduceEqDiff],by simp only[↓pa,pb,↓reduceIte,reduceEqDiff],by simp only[↓pa,↓reduceIte,reduceEqDiff],by simp only[pb,↓reduceIte],by simp only[pb,↓reduceIte,reduceEqDiff,reduceCtorEq],by simp only[pb,↓reduceIte,reduceCtorEq];rfl,rfl,hP.symm⟩ ?_
 rintro k fr st ⟨j,n,acc,tok,rfl,hj,hacc,hn,f0,f1,f4,f6,o0,o4,o6,hG,hQ⟩;rw[E1 (by omega)]at hQ;simp (disch:=omega)only[↓pa,pb,↓reduceIte,reduceEqDiff,f0,f1,hdd];refine hY (ih _ 0 j (by simp only[o0]) hj) (fun v j1 fl hv hj1=>?_) (fun p j1 fl hv hp hj1=>?_);rotate_left
 ·obtain⟨cs,rfl,hcs,hcn,hct⟩:=hp;rw[hv]at hQ;simp (disch:=omega)only[↓pa,pb,ai,az,fg,aj,ah,↓reduceIte,reduceEqDiff,reduceAdd,reduceLeDiff,reduceCtorEq,f4,f6,o4,o6,hcs,d6];exact bv hQ.symm ⟨_,rfl,rfl,by simp only[az,fg,ap],by simp only[az,fg]⟩ rfl rfl hj1
 have hm:=pe _ _ _ _ hv;have hvl:=v.ca_len;rw[hv]at hQ;simp only at hQ;simp (disch:=omega)only[↓pa,↓bT,pb,ai,aj,ah,↓reduceIte,reduceEqDiff,reduceAdd,reduceLeDiff,reduceLT,reduceCtorEq,f6,o6,hvl,d6,fz];refine bj (n:=acc.length) (m:=1) hG (by rw[V.cas_len]) (by rw[hvl]) (by omega) (by omega) (by decide) ?_;rw[V.cas_snoc];simp only[↓pa,pb,ai,↓reduceIte,reduceEqDiff,reduceAdd,reduceLeDiff,reduceCtorEq,f0,f6,o6];refine(gl K (t:=t) (i:=j1) 93 rfl (by decide) (by simp only[pb,ai,↓reduceIte,reduceCtorEq]) hj1 hl).2 ?_;refine aa (fun h1=>?_) (fun h1=>?_)
 ·rw[ak h1]at hQ;have hjl:=dt (show cI t j1≠0 by rw[h1];decide);simp only[↓pa,pb,ai,az,fg,↓reduceIte,reduceEqDiff,reduceAdd,reduceLeDiff,reduceCtorEq,f4,f6,o4];rw[JV];exact dO hQ.symm rfl rfl hjl
 rw[ad h1]at hQ;simp only[↓pa,pb,↓reduceIte,reduceCtorEq,f0];refine(gl K (t:=t) (i:=j1) 44 rfl (by decide) (by simp only[pb,ai,↓reduceIte,reduceCtorEq]) hj1 hl).2 ?_;refine aa (fun h2=>?_) (fun h2=>?_)
 ·rw[ak h2]at hQ;have hjl:=dt (show cI t j1≠0 by rw[h2];decide);simp only[↓pa,pb,ai,↓reduceIte,reduceEqDiff,reduceCtorEq,f0,f1,f4,f6,o4];exact⟨t.length- (j1+1),by omega,j1+1,n-1,acc++[v],_,rfl,by omega,by rw[cS];omega,by omega,rfl,by rw[cS],by rw[cS];exact di hG,hQ⟩
 ·rw[ad h2]at hQ;simp only[↓pa,pb,ai,az,fg,↓reduceIte,reduceEqDiff,reduceAdd,reduceLeDiff,reduceCtorEq,f4,f6,o4];exact bv hQ.symm ⟨_,rfl,rfl,by simp only[az,fg,ap],by simp only[az,fg]⟩ rfl rfl hj1
def Aa{ns:List (List UInt8)}{x:List UInt8}{i:Nat}(h:i<ns.length):kc (ns++[x]) i=kc ns i:=by
 unfold kc;rw[gh,gh,bL h]
def Ln{ns:List (List UInt8)}{x:List UInt8}:kc (ns++[x]) ns.length=x:=by
 unfold kc;rw[gh];simp
def xy(ns:List (List UInt8))(x:List UInt8):jj (ns++[x])=(jj ns && (decide (ns.length=0)||eq (kc ns (ns.length-1)) x)):=by
 have hlen:(ns++[x]).length=ns.length+1:=by simp
 have hold:∀ i,i<ns.length->kC (ns++[x]) i=kC ns i:=fun i hi=>by
  unfold kC;rw[Aa hi];by_cases h0:i=0
  ·simp[h0]
  ·rw[Aa (show i-1<ns.length by omega)]
 have hnew:kC (ns++[x]) ns.length=(decide (ns.length=0)||eq (kc ns (ns.length-1)) x):=by
  unfold kC;rw[Ln];by_cases h0:ns.length=0
  ·simp[h0]
  ·rw[Aa (show ns.length-1<ns.length by omega)]
 rw[m5,ae,jj,jj,hlen,oO,oO,<-hnew];constructor
 ·intro h;exact⟨fun j hj=>by rw[<-hold j hj];exact h j (by omega),h _ (by omega)⟩
 ·rintro⟨h1,h2⟩ j hj;by_cases hjn:j=ns.length
  ·rw[hjn];exact h2
  ·rw[hold j (by omega)];exact h1 j (by omega)
def xz{ns:List (List UInt8)}{x:List UInt8}(h:jj ns=false):jj (ns++[x])=false:=by rw[xy,h];rfl
def HZ{t:List UInt8}{rd:Nat->Option (V×Nat)}{n j:Nat}{ns:List (List UInt8)}{acc:List V}(hn:0<n):mr t rd n j ns acc=match qS t j with
  |some (x,j)=>if cI t j=58 then match rd (j+1)with
   |some (v,j)=>
    if cI t j=125 then(if jj (ns++[x])then some (.mk 7 0 0 [] (ns++[x]) (acc++[v]),j+1)else none)
    else if cI t j=44 then mr t rd (n-1) (j+1) (ns++[x]) (acc++[v])
    else none
   |none=>none
   else none
  |none=>none:=by
 obtain⟨m,rfl⟩:∃ m,n=m+1:=⟨n-1,by omega⟩;rw[mr];rfl
def EY{t:List UInt8}{rd:Nat->Option (V×Nat)}:∀ (n j:Nat) (ns:List (List UInt8)) (acc:List V),jj ns=false->mr t rd n j ns acc=none
 |0,_,_,_,_=>rfl
 |n+1,j,ns,acc,h=>by
  have ih:=fun j acc x=>EY (t:=t) (rd:=rd) n j (ns++[x]) acc (xz h);rw[mr];split
  ·split
   ·split
    ·split
     ·rw[ad (by rw[xz h];simp)]
     ·split
      ·exact ih _ _ _
      ·rfl
    ·rfl
   ·rfl
  ·rfl
def gS{t u:aB}(h:i8 t u):i8 u t:=by
 cases t<;>cases u<;>first|exact trivial|exact fun e=>h e.symm
def zZ(ns:List (List UInt8))(x:List UInt8):ns.map S++[S x]=(ns++[x]).map S:=by simp
def kY{ns:List (List UInt8)}{x:List UInt8}:(ns++[x]).length=ns.length+1:=by simp
def EW{ns:List (List UInt8)}{x:List UInt8}{acc:List V}{v:V}:PV.agg [I 7,I 0,I 0,S [],.list (ns.length+1) ((ns++[x]).map S) .no,.list (acc.length+1) (V.cas (acc++[v])) .no]=VA (.mk 7 0 0 [] (ns++[x]) (acc++[v])):=by
 rw[VA,V.ca,cS,kY]
def lD{e e2 sz bytes n n2 m:Nat}{cs ds:List PV}{tk u w:aB}(h:Gr e st.nx st.cnt n tk)(h1:cs.length=n*sz)(h2:ds.length=m*sz)(h3:(n+m) *bytes<=140737488355328)(h4:n+m<=140737488355328)(h5:0<sz)
  (h':Gr e2 st.nx st.cnt n2 u) (ha:i8 tk u) (k:∀ st' t',st'.objs=st.objs->Gr e st'.nx st'.cnt (n+m) t'->Gr e2 st'.nx st'.cnt n2 u->i8 t' u->A (mk (.list (n+m) (cs++ds) t') st')):cP (sJ e sz bytes (.list n cs tk) (.list m ds w) st) mk A:=by
 rw[xj h h1 h2 h3 h4 h5,eH];exact k _ _ tw (di h) (gO h h' ha).1 (gO (m:=n+m) h h' ha).2
def Ng(K:bJ cf){t:List UInt8}{i:Nat}(hs:st.objs s=some [S t,I i])(hi:i<=t.length)(hl:t.length<=2000000)(h123:cI t i=123):
  ∃ r c',mU t VA none eO r c'/\∃ fl,av cf 224 [.ptr s 0,I 5] [] st=some (r,cZ (bP st s c') fl):=by
 refine gA K.tab (F:=F224) rfl rfl rfl (lb rfl) (lb rfl) (by simp[aQ]) hs (fP t i) 1 ?_;unfold F224 qr qd qm qc qk ql qf qt qu qx qs qo qN;have hlt:=dt (show cI t i≠0 by rw[h123];decide);simp only[↓pa,↓bT,pb,ai,↓reduceIte,reduceEqDiff,reduceAdd,reduceLeDiff,reduceCtorEq];refine(gl K (t:=t) (i:=i) 123 rfl (by decide) (by simp only[pb,↓reduceIte,reduceCtorEq]) hi hl).2 ?_;simp only[↓pa,pb,ai,↓reduceIte,reduceEqDiff,reduceAdd,reduceLeDiff,reduceCtorEq,h123];simp only[↓pa,pb,ai,az,↓reduceIte,reduceEqDiff,reduceAdd,reduceLeDiff,reduceCtorEq];exact bv rfl ⟨_,rfl,rfl,by simp only[az,ap],by simp only[az]⟩ rfl rfl hlt
def Od(K:bJ cf){t:List UInt8}{i b:Nat}(hs:st.objs s=some [S t,I i])(hi:i<=t.length)(hl:t.length<=2000000)(hb:b<5)(h123:cI t i=123)(ih:zR cf t b):
  ∃ r c',mU t VA (jL t (eC t b) (i+1)) eO r c'/\∃ fl,av cf 224 [.ptr s 0,I (5- ((b+1:Nat):Int))] [] st=some (r,cZ (bP st s c') fl):=by
 refine gA K.tab (F:=F224) rfl rfl rfl (lb rfl) (lb rfl) (by simp[aQ]) hs (fP t i) (t.length+1) ?_;unfold F224 qr qd qm qc qk ql qf qt qu qx qs qo qN;have hlt:=dt (show cI t i≠0 by rw[h123];decide);have hd5:¬ (5- ((b+1:Nat):Int)=5):=by omega
 have hdd:5- ((b+1:Nat):Int)+1=5- (b:Int):=by omega
 revert hd5 hdd;generalize hdp:5- ((b+1:Nat):Int)=dp;intro hd5 hdd;simp only[↓pa,↓bT,pb,ai,↓reduceIte,reduceEqDiff,reduceAdd,reduceLeDiff,reduceCtorEq];refine(gl K (t:=t) (i:=i) 123 rfl (by decide) (by simp only[pb,↓reduceIte,reduceCtorEq]) hi hl).2 ?_;simp only[↓pa,pb,↓reduceIte,reduceEqDiff,reduceCtorEq,h123,hd5];refine(gl K (t:=t) (i:=i+1) 125 rfl (by decide) (by simp only[pb,↓reduceIte]) hlt hl).2 ?_;refine aa (fun h125=>?_) (fun h125=>?_)
 ·have hlt2:=dt (show cI t (i+1)≠0 by rw[h125];decide);simp only[↓pa,pb,ai,az,↓reduceIte,reduceEqDiff,reduceAdd,reduceLeDiff,reduceCtorEq];exact dO (by rw[jL,ak h125]) (by rfl) rfl hlt2
 have hP:jL t (eC t b) (i+1)=mr t (eC t b) (t.length+1- (i+1)) (i+1) [] []:=by rw[jL,ad h125]
 simp only[↓pa,pb,↓reduceIte];refine be (fun k fr st=>∃ (j n:Nat) (ns:List (List UInt8)) (acc:List V) (tok tok2:aB),k=t.length-j/\j<=t.length/\acc.length<=j/\ns.length=acc.length/\t.length-j<n/\jj ns=true/\fr 0= .ptr 0 0/\fr 1=I dp/\fr 4= .ptr 4 0/\fr 6= .ptr 6 0/\st.objs 0=some [S t,I j]/\st.objs 4=some [I 0,I 0,I 0,S [],.list 0 [] .nil,.list 0 [] .nil]/\
  st.objs 6=some [I 7,I 0,I 0,S [],.list ns.length (ns.map S) tok,.list acc.length (V.cas acc) tok2]/\Gr 9 st.nx st.cnt ns.length tok/\Gr 204 st.nx st.cnt acc.length tok2/\i8 tok tok2/\mr t (eC t b) n j ns acc=jL t (eC t b) (i+1)) (t.length- (i+1)) (by omega)
  ⟨i+1,t.length+1- (i+1),[],[],.nil,.nil,rfl,by omega,aM _,rfl,by omega,rfl,by simp only[↓pa,pb,↓reduceIte,reduceCtorEq],by simp only[↓pa,pb,↓reduceIte,reduceEqDiff],by simp only[↓pa,pb,↓reduceIte,reduceEqDiff],by simp only[↓pa,↓reduceIte,reduceEqDiff],by simp only[pb,↓reduceIte],by simp only[pb,↓reduceIte,reduceEqDiff,reduceCtorEq],by simp only[pb,↓reduceIte,reduceCtorEq];rfl,rfl,rfl,trivial,hP.symm⟩ ?_
 rintro k fr st ⟨j,n,ns,acc,tok,tok2,rfl,hj,hacc,hnl,hn,hris,f0,f1,f4,f6,o0,o4,o6,hG,hG2,hap,hQ⟩;have hm:(ns.map S).length=ns.length:=b8 _;rw[HZ (by omega)]at hQ;simp only[↓pa,pb,↓reduceIte,f0];refine hY (L9 K (t:=t) (i:=j) (by simp only[o0]) hj hl) (fun x j1 fl hx hj1=>?_) (fun p j1 fl hx hp hj1=>?_);rotate_left
 ·obtain⟨l,rfl⟩:=hp;have hno:jL t (eC t b) (i+1)=none:=by rw[<-hQ,hx]
  simp only[↓pa,pb,ai,az,fg,aj,ah,↓reduceIte,reduceEqDiff,reduceAdd,reduceLeDiff,reduceCtorEq,f4,f6,o4,o6];exact bv hno ⟨_,rfl,rfl,by simp only[az,fg,ap],by simp only[az,fg]⟩ rfl rfl (by omega)
 have hm1:=uE hx;rw[hx]at hQ;simp only at hQ;simp only[↓pa,pb,aj,ah,↓reduceIte,reduceEqDiff,reduceCtorEq,f0];refine(gl K (t:=t) (i:=j1) 58 rfl (by decide) (by simp only[pb,ai,↓reduceIte]) hj1 hl).2 ?_;refine aa (fun h58=>?_) (fun h58=>?_);rotate_left
 ·have hno:jL t (eC t b) (i+1)=none:=by rw[<-hQ,ad h58]
  simp only[↓pa,pb,ai,az,fg,↓reduceIte,reduceEqDiff,reduceAdd,reduceLeDiff,reduceCtorEq,f4,f6,o4,o6];exact bv hno ⟨_,rfl,rfl,by simp only[az,fg,ap],by simp only[az,fg]⟩ rfl rfl (by omega)
 rw[ak h58]at hQ;have hj58:=dt (show cI t j1≠0 by rw[h58];decide);have hrs:=xy ns x;rw[hris,dj]at hrs;simp only[↓pa,pb,ai,↓reduceIte,reduceEqDiff,reduceAdd,reduceCtorEq,f6,o6];by_cases hup:jj (ns++[x])=true;rotate_left
 ·have hup:jj (ns++[x])=false:=by simpa using hup
  have hno:jL t (eC t b) (i+1)=none:=by
   rw[<-hQ];split
   ·split
    ·first|rfl|rw[ad (by rw[hup];simp)]
    ·split
     ·exact EY _ _ _ _ hup
     ·rfl
   ·rfl
  rw[hup]at hrs;have hrs:=hrs.symm;rw[jQ]at hrs;have hpos:0<ns.length:=by have:=hrs.1;simp only[decide_eq_false_iff_not]at this;omega
  have hpos':(0:Int)<(ns.length:Int):=by omega
  have hidx:((ns.length:Int) -1).toNat=ns.length-1:=by omega
  simp (disch:=omega)only[↓pa,pb,ai,↓reduceIte,reduceEqDiff,reduceAdd,reduceLeDiff,reduceCtorEq,f4,f6,o4,o6,hpos',hidx,gp,ki (show ns.length-1<ns.length by omega),hrs.2];simp only[↓pa,pb,ai,az,fg,↓reduceIte,reduceEqDiff,reduceAdd,reduceLeDiff,reduceCtorEq,f4];exact bv hno ⟨_,rfl,rfl,by simp only[az,fg,ap],by simp only[az,fg]⟩ rfl rfl (by omega)
 rw[hup]at hrs;have hrs:=hrs.symm;by_cases hz:ns.length=0
 ·have hz':¬ (0:Int)<(ns.length:Int):=by omega
  have hz'':¬0<ns.length:=by omega
  simp (disch:=omega)only[↓pa,pb,↓reduceIte,reduceEqDiff,reduceCtorEq,f0,f1,hz',hdd];refine hY (ih _ 0 (j1+1) (by simp only[pb,↓reduceIte]) hj58) (fun v j2 fl hv hj2=>?_) (fun p j2 fl hv hp hj2=>?_);rotate_left
  ·obtain⟨cs,rfl,hcs,hcn,hct⟩:=hp;have hno:jL t (eC t b) (i+1)=none:=by rw[<-hQ,hv]
   simp (disch:=omega)only[↓pa,pb,ai,az,fg,aj,ah,↓reduceIte,reduceEqDiff,reduceAdd,reduceLeDiff,reduceCtorEq,f4,f6,o4,o6,hcs,d6];exact bv hno ⟨_,rfl,rfl,by simp only[az,fg,ap],by simp only[az,fg]⟩ rfl rfl hj2
  have hm2:=pe _ _ _ _ hv;have hvl:=v.ca_len;rw[hv]at hQ;simp only at hQ;simp (disch:=omega)only[↓pa,↓bT,pb,ai,aj,ah,↓reduceIte,reduceEqDiff,reduceAdd,reduceLeDiff,reduceLT,reduceCtorEq,f6,o6,hvl,d6];refine lD (n:=ns.length) (m:=1) (e2:=204) (n2:=acc.length) (u:=tok2) hG (by rw[hm];omega) rfl (by omega) (by omega) (by decide) hG2 hap (fun st1 tok' ho hG' hG2' hap'=>?_);rw[zZ];simp (disch:=omega)only[↓pa,↓bT,pb,ai,↓reduceIte,reduceEqDiff,reduceAdd,reduceLeDiff,reduceLT,reduceCtorEq,f6,o6,hvl,d6,fz,ho];refine lD (n:=acc.length) (m:=1) (e2:=9) (n2:=ns.length+1) (u:=tok') hG2' (by rw[V.cas_len]) (by rw[hvl]) (by omega) (by omega) (by decide) hG' (gS hap') (fun st2 tok2' ho2 hG2'' hG'' hap''=>?_);rw[V.cas_snoc];simp only[↓pa,pb,ai,↓reduceIte,reduceEqDiff,reduceAdd,reduceLeDiff,reduceCtorEq,f0,f6,ho2];refine(gl K (t:=t) (i:=j2) 125 rfl (by decide) (by simp only[pb,ai,↓reduceIte,reduceCtorEq,ho,ho2]) hj2 hl).2 ?_;refine aa (fun k1=>?_) (fun k1=>?_)
  ·rw[ak k1,ak hup]at hQ;have hjl:=dt (show cI t j2≠0 by rw[k1];decide);simp only[↓pa,pb,ai,az,fg,↓reduceIte,reduceEqDiff,reduceAdd,reduceLeDiff,reduceCtorEq,f4,f6,o4,ho,ho2];rw[EW];exact dO hQ.symm rfl rfl hjl
  rw[ad k1]at hQ;simp only[↓pa,pb,↓reduceIte,reduceCtorEq,f0];refine(gl K (t:=t) (i:=j2) 44 rfl (by decide) (by simp only[pb,ai,↓reduceIte,reduceCtorEq,ho,ho2]) hj2 hl).2 ?_;refine aa (fun k2=>?_) (fun k2=>?_)
  ·rw[ak k2]at hQ;have hjl:=dt (show cI t j2≠0 by rw[k2];decide);simp only[↓pa,pb,ai,↓reduceIte,reduceEqDiff,reduceCtorEq,f0,f1,f4,f6,o4,ho,ho2];exact⟨t.length- (j2+1),by omega,j2+1,n-1,ns++[x],acc++[v],tok',tok2',rfl,by omega,by rw[cS];omega,by rw[cS,kY];omega,by omega,hup,rfl,by rw[cS,kY],by rw[kY];exact hG'',by rw[cS];exact hG2'',gS hap'',hQ⟩
  ·rw[ad k2]at hQ;simp only[↓pa,pb,ai,az,fg,↓reduceIte,reduceEqDiff,reduceAdd,reduceLeDiff,reduceCtorEq,f4,f6,o4,ho,ho2];exact bv hQ.symm ⟨_,rfl,rfl,by simp only[az,fg,ap],by simp only[az,fg]⟩ rfl rfl hj2
 ·have hs1:eq (kc ns (ns.length-1)) x=true:=by simpa [hz]using hrs
  have hpos:0<ns.length:=by omega
  have hpos':(0:Int)<(ns.length:Int):=by omega
  have hidx:((ns.length:Int) -1).toNat=ns.length-1:=by omega
  simp (disch:=omega)only[↓pa,pb,ai,↓reduceIte,reduceEqDiff,reduceAdd,reduceCtorEq,f0,f1,f6,o6,hpos',hidx,hdd,gp,ki (show ns.length-1<ns.length by omega),hs1];refine hY (ih _ 0 (j1+1) (by simp only[pb,↓reduceIte]) hj58) (fun v j2 fl hv hj2=>?_) (fun p j2 fl hv hp hj2=>?_);rotate_left
  ·obtain⟨cs,rfl,hcs,hcn,hct⟩:=hp;have hno:jL t (eC t b) (i+1)=none:=by rw[<-hQ,hv]
   simp (disch:=omega)only[↓pa,pb,ai,az,fg,aj,ah,↓reduceIte,reduceEqDiff,reduceAdd,reduceLeDiff,reduceCtorEq,f4,f6,o4,o6,hcs,d6];exact bv hno ⟨_,rfl,rfl,by simp only[az,fg,ap],by simp only[az,fg]⟩ rfl rfl hj2
  have hm2:=pe _ _ _ _ hv;have hvl:=v.ca_len;rw[hv]at hQ;simp only at hQ;simp (disch:=omega)only[↓pa,↓bT,pb,ai,aj,ah,↓reduceIte,reduceEqDiff,reduceAdd,reduceLeDiff,reduceLT,reduceCtorEq,f6,o6,hvl,d6];refine lD (n:=ns.length) (m:=1) (e2:=204) (n2:=acc.length) (u:=tok2) hG (by rw[hm];omega) rfl (by omega) (by omega) (by decide) hG2 hap (fun st1 tok' ho hG' hG2' hap'=>?_);rw[zZ];simp (disch:=omega)only[↓pa,↓bT,pb,ai,↓reduceIte,reduceEqDiff,reduceAdd,reduceLeDiff,reduceLT,reduceCtorEq,f6,o6,hvl,d6,fz,ho];refine lD (n:=acc.length) (m:=1) (e2:=9) (n2:=ns.length+1) (u:=tok') hG2' (by rw[V.cas_len]) (by rw[hvl]) (by omega) (by omega) (by decide) hG' (gS hap') (fun st2 tok2' ho2 hG2'' hG'' hap''=>?_);rw[V.cas_snoc];simp only[↓pa,pb,ai,↓reduceIte,reduceEqDiff,reduceAdd,reduceLeDiff,reduceCtorEq,f0,f6,ho2];refine(gl K (t:=t) (i:=j2) 125 rfl (by decide) (by simp only[pb,ai,↓reduceIte,reduceCtorEq,ho,ho2]) hj2 hl).2 ?_;refine aa (fun k1=>?_) (fun k1=>?_)
  ·rw[ak k1,ak hup]at hQ;have hjl:=dt (show cI t j2≠0 by rw[k1];decide);simp only[↓pa,pb,ai,az,fg,↓reduceIte,reduceEqDiff,reduceAdd,reduceLeDiff,reduceCtorEq,f4,f6,o4,ho,ho2];rw[EW];exact dO hQ.symm rfl rfl hjl
  rw[ad k1]at hQ;simp only[↓pa,pb,↓reduceIte,reduceCtorEq,f0];refine(gl K (t:=t) (i:=j2) 44 rfl (by decide) (by simp only[pb,ai,↓reduceIte,reduceCtorEq,ho,ho2]) hj2 hl).2 ?_;refine aa (fun k2=>?_) (fun k2=>?_)
  ·rw[ak k2]at hQ;have hjl:=dt (show cI t j2≠0 by rw[k2];decide);simp only[↓pa,pb,ai,↓reduceIte,reduceEqDiff,reduceCtorEq,f0,f1,f4,f6,o4,ho,ho2];exact⟨t.length- (j2+1),by omega,j2+1,n-1,ns++[x],acc++[v],tok',tok2',rfl,by omega,by rw[cS];omega,by rw[cS,kY];omega,by omega,hup,rfl,by rw[cS,kY],by rw[kY];exact hG'',by rw[cS];exact hG2'',gS hap'',hQ⟩
  ·rw[ad k2]at hQ;simp only[↓pa,pb,ai,az,fg,↓reduceIte,reduceEqDiff,reduceAdd,reduceLeDiff,reduceCtorEq,f4,f6,o4,ho,ho2];exact bv hQ.symm ⟨_,rfl,rfl,by simp only[az,fg,ap],by simp only[az,fg]⟩ rfl rfl hj2
end Go.PM
