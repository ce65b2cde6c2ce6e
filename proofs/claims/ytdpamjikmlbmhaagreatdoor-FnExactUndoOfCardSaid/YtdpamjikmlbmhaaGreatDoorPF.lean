/- A part of the proof: texts PhR, PhS, PhT, PhU, PhV, PhW, PhX, PhY, PhZ, joined. Conditions: none. -/
import Derived.Test.YtdpamjikmlbmhaaGreatDoorPE
set_option linter.all false
set_option maxHeartbeats 32000000
namespace Go.PM
open Go.Lib
variable {cf:aJ} {st:St} {mk:PV->St->Fr×St} {A:Fr×St->Prop} {s:Nat}
def ED:∀ (vs as cs bs:List PV),vs.length=cs.length->bS (as++(cs++bs)) as.length vs=as++(vs++bs)
 | [],as,[],bs,_=>rfl
 |v::vs,as,c::cs,bs,h=>by
  rw[xa];have:(as++(c::cs++bs)).set as.length v=(as++[v])++(cs++bs):=by simp
  rw[this];have h2:=ED vs (as++[v]) cs bs (by simpa using h);rw[ae]at h2;simp only[aA,a6,ar]at h2;rw[h2];simp
def Jr(e sz by_ g:Nat)(zs:List PV):CC:=
 .seq (.reg [⟨none,(some 2),.mv (.k (.list 0 [] .nil))⟩] [])
 (.seq (.reg [⟨none,(some 5),.mv (.sl 0)⟩,
  ⟨none,(some 6),.len (.sl 5)⟩,
  ⟨none,(some 7),.mks e sz by_ zs (.sl 6) (.sl 6)⟩,
  ⟨none,(some 3),.mv (.sl 7)⟩] [])
 (.seq (.seq (.reg [⟨none,(some 4),.mv (.k (.int .i64 0))⟩] [])
 (.block 0 (.loop (.seq (.seq (.reg [⟨none,(some 8),.mv (.sl 4)⟩,
   ⟨none,(some 9),.mv (.sl 0)⟩,
   ⟨none,(some 10),.len (.sl 9)⟩,
   ⟨none,(some 11),.bin .lss (.sl 8) (.sl 10)⟩] [])
  (.cond (.sl 11) (.skip) (.exit 0)))
  (.seq (.block 1 (.reg [⟨none,(some 14),.mv (.sl 3)⟩,
    ⟨none,(some 15),.mv (.sl 4)⟩,
    ⟨none,(some 16),.mv (.sl 0)⟩,
    ⟨none,(some 17),.mv (.sl 4)⟩,
    ⟨none,(some 18),.iad sz (.sl 16) (.sl 17)⟩,
    ⟨none,(some 19),.load sz true (.sl 18)⟩,
    ⟨none,(some 20),.call g [(.sl 19)] []⟩,
    ⟨none,(some 21),.iad sz (.sl 14) (.sl 15)⟩,
    ⟨none,none,.store sz (.sl 21) (.sl 20)⟩] []))
  (.reg [⟨none,(some 12),.mv (.sl 4)⟩,
   ⟨none,(some 13),.bin .add (.sl 12) (.k (.int .i64 1))⟩,
   ⟨none,(some 4),.mv (.sl 13)⟩] []))))))
 (.seq (.reg [⟨none,(some 22),.mv (.sl 3)⟩,
  ⟨none,(some 2),.mv (.sl 22)⟩] [])
 (.ret))))
def CE:∀ l:List (List UInt8),cZ (l.map S)
 | []=>eC
 |x::l=>bQ (bR _) (CE l)
def LJ(m:Nat)(zs:List PV):(List.replicate (m+1) zs).flatten=zs++(List.replicate m zs).flatten:=by simp[lI]
def D5(K:bO cf){f e sz by_ g:Nat}{zs:List PV}{F:bw}(hT:T f=some F)(hF:F.body=Jr e sz by_ g zs/\F.res=[.tmp 2]/\F.own=true/\F.nk=0/\1<=F.nt)(hz:zs.length=sz)(hsz:0<sz)(hby:by_<=1000){α:Type}(enc:α->List PV)(hm:∀ a,(enc a).length=sz)(hp:∀ a,cZ (enc a))(l:List α)(hl:l.length<=2000000)
  (he:∀ a∈l,∀ st,∃ r ns,az cf g [.agg (enc a)] [] st=some (r,st.more ns)/\dC st.nx ns r/\aO r= .agg (enc a)):
  ∃ r ns,az cf f [.list l.length (l.flatMap enc) .no] [] st=some (r,st.more ns)/\dC st.nx ns r/\aO r= .list l.length (l.flatMap enc) .no:=by
 obtain⟨h1,h2,h3,h5,h4⟩:=hF;refine KM K.tab (F:=F) (t:=2) hT h2 h3 h5 (by simpa using h4) (by simp[gk (fP enc hp l)]) (l.length+1) ?_;have hlen:=bC enc sz hm l;have hby2:=Nat.mul_le_mul hby hl;have hmks:=fun s st=> @Hj e sz by_ s zs (l.length:Int) st (by omega) (by simp only[eQ];omega) (by omega) hz hsz;rw[h1,Jr];simp only[↓pa,pb,seval,di,hmks];refine a7 (fun k fr st=>∃ (i:Nat) (cs:List PV),k=l.length-i/\i<=l.length/\fr 0= .list l.length (l.flatMap enc) .no/\fr 3= .osl e sz 7 l.length/\fr 4=I i/\st.objs 7=some (cs++(List.replicate (l.length-i) zs).flatten)/\cs.length=i*sz/\aQ cs=(l.take i).flatMap enc/\aX cs=true/\bq cs=true/\a8 st (aw cs)/\st.fl=0) l.length (by omega)
  ⟨0,[],by simp,by omega,by simp only[↓pa,pb,seval],by simp only[↓pa,seval]<;>simp,by simp only[↓pa,seval]<;>rfl,by simp only[pb,ah,seval]<;>simp,by simp,rfl,rfl,rfl,aT eN,rfl⟩ ?_
 rintro k fr st ⟨i,cs,rfl,hi,f0,f3,f4,o7,hc1,hc2,hc3,hc4,hT2,hfl⟩;simp only[↓pa,pb,ak,seval,f0,f4];refine af (fun h=>?_) (fun h=>?_)
 ·have hlt:i<l.length:=h;have hrep:l.length-i=(l.length- (i+1))+1:=by omega
  rw[hrep,LJ]at o7;simp (maxSteps:=1000000) (disch:=omega)only[↓pa,pb,seval,f0,f3,f4,h,BZ hm hlt];refine dx (he _ (cp hlt) _) (fun r ns hFr hr=>?_);obtain⟨ds,rfl,hds⟩:=fi hr;have hdl:ds.length=sz:=by rw[<-hm l[i],<-hds,dX,bJ]
  have hw:bS (cs++(zs++(List.replicate (l.length- (i+1)) zs).flatten)) (i*sz) ds=(cs++ds)++(List.replicate (l.length- (i+1)) zs).flatten:=by
   rw[<-hc1,ED ds cs zs _ (by rw[hdl,hz]),bn]
  have hle:(i*sz+sz<=(cs++(zs++(List.replicate (l.length- (i+1)) zs).flatten)).length)=True:=by
   refine eq_true ?_;rw[ae,ae,hc1,hz];omega
  simp (maxSteps:=1000000) (disch:=omega)only[↓pa,pb,ah,ak,seval,f0,f3,f4,di,o7,hdl,hw,hle];refine⟨l.length- (i+1),by omega,i+1,cs++ds,rfl,by omega,rfl,rfl,?_,?_,?_,?_,?_,by rw[St.more_fl];exact hfl⟩
  ·rw[ae,hc1,hdl,gW,p5]
  ·rw[gv,hc2,hds,aV hlt,bA];simp
  ·exact iz hc3 hFr.np
  ·have:=hFr.so;simp only[aY]at this;rw[eu,hc4,this];rfl
  ·rw[dP];have:=hFr.tk;simp only[aB]at this;rw[this];exact aT (cK hT2 (by omega) ns)
 ·have hie:i=l.length:=by omega
  subst hie;simp only[↓pa,pb,seval,f3,h];rw[Nat.sub_self]at o7;refine⟨oL.2 trivial,e,sz,7,l.length,cs,by simp only[↓pa,seval],by rw[o7];simp,hc1,by omega,hc3,hc4,hT2,hfl,?_⟩;rw[hc2,aM (aP _)]
def QK(K:bO cf)(l:List (List UInt8))(hl:l.length<=2000000):∃ r ns,az cf 122 [TX l] [] st=some (r,st.more ns)/\dC st.nx ns r/\aO r=TX l:=by
 refine KM K.tab (F:=F122) (t:=2) rfl rfl rfl rfl (lb rfl) (by simp[fy]) (l.length+1) ?_;have hlen:(l.map S).length=l.length:=by simp
 have hmks:=fun s st=> @Hj 9 1 16 s [(PV.str ⟨#[]⟩)] (l.length:Int) st (by omega) (by simp only[eQ];omega) (by omega) rfl (by decide);simp only[F122,↓qU,seval];simp only[↓pa,pb,seval,di,hmks];refine a7 (fun k fr st=>∃ (i:Nat),k=l.length-i/\i<=l.length/\fr 0=TX l/\fr 3= .osl 9 1 7 l.length/\fr 4=I i/\st.objs 7=some ((l.take i).map S++List.replicate (l.length-i) (.str ⟨#[]⟩))/\a8 st []/\st.fl=0) l.length (by omega)
  ⟨0,by simp,by omega,by simp only[↓pa,pb,seval],by simp only[↓pa,seval]<;>simp,by simp only[↓pa,seval]<;>rfl,by simp only[pb,seval]<;>simp,aT eN,rfl⟩ ?_
 rintro k fr st ⟨i,rfl,hi,f0,f3,f4,o7,hT2,hfl⟩;simp only[↓pa,pb,ak,seval,f0,f4];refine af (fun h=>?_) (fun h=>?_)
 ·have hlt:i<l.length:=h;have ht:iV l i=l[i]:=by simp[iV,hlt]
  have hrep:l.length-i=(l.length- (i+1))+1:=by omega
  rw[hrep,lI]at o7;have hc1:((l.take i).map S).length=i:=by simp;omega
  have hw:bS ((l.take i).map S++(PV.str ⟨#[]⟩)::List.replicate (l.length- (i+1)) (.str ⟨#[]⟩)) i [S l[i]]=(l.take (i+1)).map S++List.replicate (l.length- (i+1)) (.str ⟨#[]⟩):=by
   have:=ED [S l[i]] ((l.take i).map S) [(PV.str ⟨#[]⟩)] (List.replicate (l.length- (i+1)) (.str ⟨#[]⟩)) rfl;rw[hc1]at this;simp only[bo,aU]at this;rw[this,aV hlt,cn];simp only[bg,cJ,bn,bo,aU]
  have hle:(i+1<=((l.take i).map S++(PV.str ⟨#[]⟩)::List.replicate (l.length- (i+1)) (.str ⟨#[]⟩)).length)=True:=by
   refine eq_true ?_;rw[ae,hc1,aA];omega
  simp (maxSteps:=1000000) (disch:=omega)only[↓pa,pb,ah,ak,seval,f0,f3,f4,h,eh,gZ hlt,ht,o7,hw,hle];exact⟨l.length- (i+1),by omega,i+1,rfl,by omega,rfl,rfl,aT hT2,hfl⟩
 ·have hie:i=l.length:=by omega
  subst hie;simp only[↓pa,pb,seval,f3,h];rw[Nat.sub_self]at o7;obtain⟨s1,s2⟩:=B5 (cs:=l.map S) (by simp[yJ,S]);have hpl:=CE l;refine⟨oL.2 trivial,9,1,7,l.length,l.map S,by simp only[↓pa,seval],by rw[o7];simp,by simp,by omega,hpl.1,s1,by rw[s2];exact hT2,hfl,?_⟩;rw[hpl.2.1]
def Pp(K:bO cf)(x:Fd):∃ r ns,az cf 170 [.agg (fc x)] [] st=some (r,st.more ns)/\dC st.nx ns r/\aO r= .agg (fc x):=by
 refine oT K.tab (F:=F170) (Q:=fun r=>r= .agg (fc x)) rfl rfl rfl (lb rfl) (by have:=(gK [x]);simp at this;simp[gd this]) 1 ?_;simp only[F170,↓qU,seval];simp only[↓pa,pb,ah,seval,fc,di];exact⟨rfl,rfl,rfl,aT (aT (aT (aT (aT (aT eN))))),rfl⟩
def KN(K:bO cf)(l:List Fd)(hl:l.length<=2000000):∃ r ns,az cf 123 [FX l] [] st=some (r,st.more ns)/\dC st.nx ns r/\aO r=FX l:=
 D5 K (f:=123) (F:=F123) rfl ⟨rfl,rfl,rfl,rfl,(lb rfl)⟩ rfl (by decide) (by decide) fc (fun _=>rfl) (fun a=>by have:=gK [a];simpa using this) l hl fun a _ st=>Pp K a
def Nk(K:bO cf)(x:Nd)(h1:x.labels.length<=2000000)(h2:x.fields.length<=2000000):∃ r ns,az cf 86 [.agg (nc x)] [] st=some (r,st.more ns)/\dC st.nx ns r/\aO r= .agg (nc x):=by
 refine oT K.tab (F:=F86) (Q:=fun r=>r= .agg (nc x)) rfl rfl rfl (lb rfl) (by simp[gF]) 1 ?_;simp only[F86,↓qU,seval];simp only[↓pa,pb,ah,seval,nc];refine dx (QK K x.labels h1) (fun r ns hF hr=>?_);obtain⟨ds,u,rfl,hd,-⟩:=bu hr;simp only[↓pa,pb,ah,seval,di];refine dx (KN K x.fields h2) (fun r2 ns2 hF2 hr2=>?_);obtain⟨ds2,u2,rfl,hd2,-⟩:=bu hr2;simp only[↓pa,pb,ah,seval,di];refine⟨rfl,?_,?_,?_,?_⟩
 ·simp only[aH,cH,bv];have a:=hF.np;have b:=hF2.np;simp only[aH]at a b;rw[a,b];rfl
 ·have a:=hF.so;have b:=hF2.so;simp only[aY,bq,cH,bv]at a b ⊢;rw[a,b];rfl
 ·have a:=hF.tk;have b:=hF2.tk;simp only[aB,aw,aU,aD]at a b ⊢;rw[a,b];exact aT (aT (cK (aT (cK (aT (aT (aT (aT eN)))) (aW _) ns)) (by simp only[cA,St.more_fl,bV];exact aW _) ns2))
 ·simp only[aH,hd,hd2]
def Nl(K:bO cf)(x:Eg)(h2:x.fields.length<=2000000):∃ r ns,az cf 87 [.agg (ec x)] [] st=some (r,st.more ns)/\dC st.nx ns r/\aO r= .agg (ec x):=by
 refine oT K.tab (F:=F87) (Q:=fun r=>r= .agg (ec x)) rfl rfl rfl (lb rfl) (by simp[fR]) 1 ?_;simp only[F87,↓qU,seval];simp only[↓pa,pb,ah,seval,ec];refine dx (KN K x.fields h2) (fun r2 ns2 hF2 hr2=>?_);obtain⟨ds2,u2,rfl,hd2,-⟩:=bu hr2;simp only[↓pa,pb,ah,seval,di];refine⟨rfl,?_,?_,?_,?_⟩
 ·simp only[aH,cH,bv];have b:=hF2.np;simp only[aH]at b;exact b
 ·have b:=hF2.so;simp only[aY,bq,cH,bv]at b ⊢;exact b
 ·have b:=hF2.tk;simp only[aB,aw,aU,aD]at b ⊢;rw[b];refine aT (aT (cK (st:=cA _ _ _) (l:=[]) ?_ (aW _) ns2));exact eN
 ·simp only[aH,hd2]
def D6(K:bO cf)(g:cj)(h:M6 g):∃ r ns,az cf 10 [.agg (gc g)] [] st=some (r,st.more ns)/\dC st.nx ns r/\aO r= .agg (gc g):=by
 refine oT K.tab (F:=F10) (Q:=fun r=>r= .agg (gc g)) rfl rfl rfl (lb rfl) (by simp[dE]) 1 ?_;simp only[F10,↓qU,seval];simp only[↓pa,pb,ah,seval,gc];refine dx (D5 K (f:=44) (F:=F44) rfl ⟨rfl,rfl,rfl,rfl,(lb rfl)⟩ rfl (by decide) (by decide) nc cP ny g.nodes h.ns fun a ha st=>Nk K a (h.nf a ha).2 (h.nf a ha).1) (fun r ns hF hr=>?_);obtain⟨ds,u,rfl,hd,-⟩:=bu hr;simp only[↓pa,pb,ah,seval,di];refine dx (D5 K (f:=45) (F:=F45) rfl ⟨rfl,rfl,rfl,rfl,(lb rfl)⟩ rfl (by decide) (by decide) ec cN nH g.edges h.es fun a ha st=>Nl K a (h.ef a ha)) (fun r2 ns2 hF2 hr2=>?_);obtain⟨ds2,u2,rfl,hd2,-⟩:=bu hr2;simp only[↓pa,pb,ah,seval,di];refine⟨rfl,?_,?_,?_,?_⟩
 ·simp only[aH,bv];have a:=hF.np;have b:=hF2.np;simp only[aH]at a b;rw[a,b];rfl
 ·have a:=hF.so;have b:=hF2.so;simp only[aY,bq,bv]at a b ⊢;rw[a,b];rfl
 ·have a:=hF.tk;have b:=hF2.tk;simp only[aB,aw,aD]at a b ⊢;rw[a,b];refine aT (aT (cK (aT (cK (st:=cA _ _ _) (l:=[]) ?_ (aW _) ns)) (by simp only[cA,St.more_fl,bV];exact aW _) ns2));exact eN
 ·simp only[aH,hd,hd2]
def xJ{n:Nat}{c:PV}{pre post:List PV}{tk:aF}(h:aY (.list n (pre++c::post) tk)=true):∃ k e,tk= .own k e:=by
 cases tk with
 |own k e=>exact⟨k,e,rfl⟩
 |_=>simp[aY]at h
def LZ(k i:Nat):rl k (i+1)=rl k i++[mt (k+i)]:=by
 unfold rl;rw[List.range_succ,cn];rfl
def L3(k i:Nat):mz k (i+1)=mz k i++[(mt (k+2*i),mt (k+2*i+1))]:=by
 unfold mz;rw[List.range_succ,cn];rfl
def HR(K:bO cf)(k n:Nat)(hk:k+n<=1000000000000){cs:List PV}{tk:aF}(hs:aY (.list n cs tk)=true)(hn:aX cs=true)(hl:cs.length=n)(hT:a8 st (aB (.list n cs tk))):
  ∃ p ns,uP cf 57 [.list n cs tk,I k] st=some (I (k+n:Nat),p,fA ((aB (.list n cs tk)).map (·.1)) ns st)/\dC st.nx ns p/\aO p= .list n ((rl k n).map S) .no/\dn [.list n cs tk,I k] [0] st=(aB (.list n cs tk)).map (·.1):=by
 refine yg K.tab (f:=57) (F:=FB57) (t:=4) rfl rfl rfl hs hn hT (lb rfl) (n+1) (fun cs0 tk0 ns h1 h2 h3 h4 h5=>?_);have hcl:cs0.length=n:=by rw[h2,hl]
 clear hs hn hT;simp only[FB57,↓qU,seval];simp only[↓pa,seval];refine a7 (fun q fr st=>∃ (i:Nat) (ds rs:List PV),q=n-i/\i<=n/\fr 0= .list n (ds++rs) tk0/\fr 1=I (k+i:Nat)/\fr 5=I i/\ds.length=i/\rs.length=n-i/\aQ ds=(rl k i).map S/\aX (ds++rs)=true/\aY (.list n (ds++rs) tk0)=true/\a8 st ([]++aB (.list n (ds++rs) tk0)++[])/\st.fl=0) n (by omega)
  ⟨0,[],cs0,by simp,by omega,by simp only[↓pa,ah,seval]<;>simp,by simp only[↓pa,seval]<;>simp,by simp only[↓pa,seval]<;>rfl,rfl,by omega,rfl,by simpa using h3,by simpa using h4,by simpa using h5,rfl⟩ ?_
 rintro q fr st ⟨i,ds,rs,rfl,hi,f0,f1,f5,hd1,hr1,hd2,hnp,hso,hTk,hfl⟩;simp only[↓pa,pb,ak,seval,f0,f5];refine af (fun h=>?_) (fun h=>?_)
 ·have hlt:i<n:=by omega
  obtain⟨c,rs',rfl⟩:∃ c rs',rs=c::rs':=by
   cases rs with
   |nil=>simp at hr1;omega
   |cons c rs'=>exact⟨c,rs',rfl⟩
  obtain⟨j,e,rfl⟩:=xJ hso;have ht:=fun st=>gL (st:=st) K (k+i) (by omega);have hlen:(ds++c::rs').length=n:=by rw[ae,hd1];simp at hr1 ⊢;omega
  simp (maxSteps:=1000000) (disch:=omega)only[↓pa,pb,ah,seval,f0,f1,f5,h,ht,bK,eh];refine fC (X:=[]) (Y:=[]) hd1.symm (by omega) hso hnp hTk ⟨rfl,rfl,rfl⟩ (fun hso' hnp' hTk'=>?_);have hbk:=fun cs' E'=> @ib n j e E' i ds rs' cs' c (S (mt (k+i))) hd1.symm;simp (maxSteps:=1000000) (disch:=omega)only[↓pa,pb,ak,seval,f0,f1,f5,bK,hbk];have hcat:ds++[S (mt (k+i))]++rs'=ds++S (mt (k+i))::rs':=by simp
  refine⟨n- (i+1),by omega,i+1,ds++[S (mt (k+i))],rs',rfl,by omega,by rw[hcat],by congr 1,rfl,by simp[hd1],by simp at hr1;omega,?_,by rw[hcat];exact hnp',by rw[hcat];exact hso',by rw[hcat];exact hTk',hfl⟩;rw[gv,hd2,LZ,cn];rfl
 ·have hie:i=n:=by omega
  subst hie;have hrn:rs=[]:=cq (by omega);subst hrn;rw[aD]at hnp hso hTk f0;simp only[↓pa,pb,seval,f0,f1,h,bK];refine⟨_,rfl,rfl,hnp,hso,by simpa using hTk,rfl,?_⟩;rw[fO,hd2]
def yQ(K:bO cf)(k n:Nat)(hk:k+2*n<=1000000000000){cs:List PV}{tk:aF}(hs:aY (.list n cs tk)=true)(hn:aX cs=true)(hl:cs.length=n*2)(hT:a8 st (aB (.list n cs tk))):
  ∃ p ns,uP cf 58 [.list n cs tk,I k] st=some (I (k+2*n:Nat),p,fA ((aB (.list n cs tk)).map (·.1)) ns st)/\dC st.nx ns p/\aO p= .list n ((mz k n).flatMap fc) .no/\dn [.list n cs tk,I k] [0] st=(aB (.list n cs tk)).map (·.1):=by
 refine yg K.tab (f:=58) (F:=FB58) (t:=4) rfl rfl rfl hs hn hT (lb rfl) (n+1) (fun cs0 tk0 ns h1 h2 h3 h4 h5=>?_);have hcl:cs0.length=n*2:=by rw[h2,hl]
 clear hs hn hT;simp only[FB58,↓qU,seval];simp only[↓pa,seval];refine a7 (fun q fr st=>∃ (i:Nat) (ds rs:List PV),q=n-i/\i<=n/\fr 0= .list n (ds++rs) tk0/\fr 1=I (k+2*i:Nat)/\fr 5=I i/\ds.length=i*2/\rs.length=(n-i) *2/\aQ ds=(mz k i).flatMap fc/\aX (ds++rs)=true/\aY (.list n (ds++rs) tk0)=true/\a8 st ([]++aB (.list n (ds++rs) tk0)++[])/\st.fl=0) n (by omega)
  ⟨0,[],cs0,by simp,by omega,by simp only[↓pa,ah,seval]<;>simp,by simp only[↓pa,seval]<;>simp,by simp only[↓pa,seval]<;>rfl,rfl,by omega,rfl,by simpa using h3,by simpa using h4,by simpa using h5,rfl⟩ ?_
 rintro q fr st ⟨i,ds,rs,rfl,hi,f0,f1,f5,hd1,hr1,hd2,hnp,hso,hTk,hfl⟩;simp only[↓pa,pb,ak,seval,f0,f5];refine af (fun h=>?_) (fun h=>?_)
 ·have hlt:i<n:=by omega
  obtain⟨c,d,rs',rfl⟩:∃ c d rs',rs=c::d::rs':=by
   match rs,hr1 with
   | [],h=>simp at h;omega
   | [c],h=>simp at h;omega
   |c::d::rs',_=>exact⟨c,d,rs',rfl⟩
  obtain⟨j,e,rfl⟩:=xJ hso;have ht:=fun st=>gL (st:=st) K (k+2*i) (by omega);have ht2:=fun st=>gL (st:=st) K (k+2*i+1) (by omega);have hr2:rs'.length+2=(n-i) *2:=by simpa using hr1
  have hlen:(ds++c::d::rs').length=n*2:=by rw[ae,hd1];simp only[aA];omega
  simp (maxSteps:=1000000) (disch:=omega)only[↓pa,pb,ah,seval,f0,f1,f5,h,ht,bK,aI];refine fC (X:=[]) (Y:=[]) hd1.symm (by omega) hso hnp hTk ⟨rfl,rfl,rfl⟩ (fun hso' hnp' hTk'=>?_);have hbk:=fun cs' E'=> @ib n j e E' (i*2) ds (d::rs') cs' c (S (mt (k+2*i))) hd1.symm;have hcat1:ds++S (mt (k+2*i))::d::rs'=(ds++[S (mt (k+2*i))])++d::rs':=by simp
  rw[hcat1]at hbk hso' hnp' hTk';have hlen2:(ds++[S (mt (k+2*i))]++d::rs').length=n*2:=by rw[ae,ae,hd1];simp only[aA,a6];omega
  have hoff:i*2+1=(ds++[S (mt (k+2*i))]).length:=by rw[ae,hd1];rfl
  simp (maxSteps:=1000000) (disch:=omega)only[↓pa,pb,ah,ak,seval,f0,f1,f5,bK,hbk,ht2];refine fC (X:=[]) (Y:=[]) hoff (by omega) hso' hnp' hTk' ⟨rfl,rfl,rfl⟩ (fun hso2 hnp2 hTk2=>?_);have hbk2:=fun cs' E'=> @ib n j e E' (i*2+1) (ds++[S (mt (k+2*i))]) rs' cs' d (S (mt (k+2*i+1))) hoff;simp (maxSteps:=1000000) (disch:=omega)only[↓pa,pb,ak,seval,f0,f5,bK,hbk,hbk2];have hcat:ds++[S (mt (k+2*i)),S (mt (k+2*i+1))]++rs'=ds++[S (mt (k+2*i))]++S (mt (k+2*i+1))::rs':=by simp
  refine⟨n- (i+1),by omega,i+1,ds++[S (mt (k+2*i)),S (mt (k+2*i+1))],rs',rfl,by omega,by rw[hcat],by congr 1,rfl,by simp only[ae,hd1,aA,a6];omega,by omega,?_,by rw[hcat];exact hnp2,by rw[hcat];exact hso2,by rw[hcat];exact hTk2,hfl⟩;rw[gv,hd2,L3,bA];rfl
 ·have hie:i=n:=by omega
  subst hie;have hrn:rs=[]:=cq (by omega);subst hrn;rw[aD]at hnp hso hTk f0;simp only[↓pa,pb,seval,f0,f1,h,bK];refine⟨_,rfl,rfl,hnp,hso,by simpa using hTk,rfl,?_⟩;rw[fO,hd2]
def zT:∀ (l:List (Nat×Nat)) (a b k:Nat),sW (l++[(a,b)]) k=sW l k++[⟨ep l k,rl (ep l k+1) a,mz (ep l k+1+a) b⟩]/\ep (l++[(a,b)]) k=ep l k+1+a+2*b
 | [],a,b,k=>⟨rfl,rfl⟩
 |(x,y)::l,a,b,k=>by
  obtain⟨h1,h2⟩:=zT l a b (k+1+x+2*y);exact⟨by simp only[bo,sW,ep,h1],by simp only[bo,ep,h2]⟩
def zU:∀ (l:List Nat) (b k:Nat),sX (l++[b]) k=sX l k++[⟨ey l k,mt (ey l k+1),(ey l k+2:Nat),(ey l k+3:Nat),mz (ey l k+4) b⟩]/\ey (l++[b]) k=ey l k+4+2*b
 | [],b,k=>⟨rfl,rfl⟩
 |y::l,b,k=>by
  obtain⟨h1,h2⟩:=zU l b (k+4+2*y);exact⟨by simp only[bo,sX,ey,h1],by simp only[bo,ey,h2]⟩
def Fj:∀ (l m:List (Nat×Nat)) (k:Nat),ep (l++m) k=ep m (ep l k)
 | [],_,_=>rfl
 |(x,y)::l,m,k=>by rw[bo,ep,ep,Fj l m]
def Fm:∀ (l m:List Nat) (k:Nat),ey (l++m) k=ey m (ey l k)
 | [],_,_=>rfl
 |y::l,m,k=>by rw[bo,ey,ey,Fm l m]
def Fi:∀ (l:List (Nat×Nat)) (k:Nat),k+l.length<=ep l k
 | [],_=>aP _
 |(a,b)::l,k=>by have:=Fi l (k+1+a+2*b);rw[ep,aA];omega
def Fl:∀ (l:List Nat) (k:Nat),k+l.length<=ey l k
 | [],_=>aP _
 |b::l,k=>by have:=Fl l (k+4+2*b);rw[ey,aA];omega
def kJ(x:Nd):Nat×Nat:=(x.labels.length,x.fields.length)
def kK(x:Eg):Nat:=x.fields.length
def oI{pre post:List PV}{c:PV}{k:Nat}(h:pre.length=k):bL (pre++c::post) k 1 false=some c:=by
 have:= @zk pre (c::post) 0 1 false;rw[aI,h]at this;rw[this,AP]
def sa{N K E:Nat}{pre post:List PV}{c:PV}{X Y:List (Nat×Nat)}(h:a8 st (X++aB (.list N (pre++c::post) (.own K E))++Y)):a8 st (aB c):=
 fo h (fun k=>by simp only[aB,dP,aw,bt];omega) (fun q hq=>by simp only[aB,dP,aw,aG];simp[hq])
def rK{N:Nat}{pre post:List PV}{c:PV}{tk:aF}(h:aY (.list N (pre++c::post) tk)=true):aY c=true:=by
 simp only[aY,eu,bq,aj]at h;exact h.2.2.1
def yF{pre post:List PV}{c:PV}(h:aX (pre++c::post)=true):np c=true:=gm h (by simp)
def On(K:bO cf)(k:Nat)(l:List Nd)(hk:ep (l.map kJ) k<=1000000000000){cs:List PV}{tk:aF}(hs:aY (.list l.length cs tk)=true)(hL:fK nc 3 l cs)(hT:a8 st (aB (.list l.length cs tk))):
  ∃ p ns,uP cf 50 [.list l.length cs tk,I k] st=some (I (ep (l.map kJ) k:Nat),p,fA ((aB (.list l.length cs tk)).map (·.1)) ns st)/\dC st.nx ns p/\aO p= .list l.length ((sW (l.map kJ) k).flatMap nc) .no/\dn [.list l.length cs tk,I k] [0] st=(aB (.list l.length cs tk)).map (·.1):=by
 refine yg K.tab (f:=50) (F:=FB50) (t:=4) rfl rfl rfl hs hL.np hT (lb rfl) (l.length+1) (fun cs0 tk0 ns h1 h2 h3 h4 h5=>?_);have hcl:cs0.length=l.length*3:=by rw[h2,hL.len]
 have hst:aQ cs0=l.flatMap nc:=by rw[h1,hL.st]
 have hN:l.length<=1000000000000:=by have:=Fi (l.map kJ) k;rw[bJ]at this;omega
 clear hs hL hT h1 h2;simp only[FB50,↓qU,seval];simp only[↓pa,seval];refine a7 (fun q fr st=>∃ (i:Nat) (ds rs:List PV),q=l.length-i/\i<=l.length/\fr 0= .list l.length (ds++rs) tk0/\fr 1=I (ep ((l.take i).map kJ) k:Nat)/\fr 5=I i/\ds.length=i*3/\aQ ds=(sW ((l.take i).map kJ) k).flatMap nc/\aQ rs=(l.drop i).flatMap nc/\aX (ds++rs)=true/\aY (.list l.length (ds++rs) tk0)=true/\a8 st ([]++aB (.list l.length (ds++rs) tk0)++[])/\st.fl=0) l.length (by omega)
  ⟨0,[],cs0,by simp,by omega,by simp only[↓pa,ah,seval]<;>simp,by simp only[↓pa,seval]<;>simp[ep],by simp only[↓pa,seval]<;>rfl,rfl,rfl,hst,by simpa using h3,by simpa using h4,by simpa using h5,rfl⟩ ?_
 rintro q fr st ⟨i,ds,rs,rfl,hi,f0,f1,f5,hd1,hd2,hr2,hnp,hso,hTk,hfl⟩;simp only[↓pa,pb,ak,seval,f0,f5];refine af (fun h=>?_) (fun h=>?_)
 ·have hlt:i<l.length:=h;rw[bj hlt,be]at hr2;have hkk:ep ((l.take (i+1)).map kJ) k=ep ((l.take i).map kJ) k+1+l[i].labels.length+2*l[i].fields.length:=by
   rw[aV hlt,cn];exact(zT _ _ _ _).2
  have hkm:sW ((l.take (i+1)).map kJ) k=sW ((l.take i).map kJ) k++[⟨ep ((l.take i).map kJ) k,rl (ep ((l.take i).map kJ) k+1) l[i].labels.length,mz (ep ((l.take i).map kJ) k+1+l[i].labels.length) l[i].fields.length⟩]:=by
   rw[aV hlt,cn];exact(zT _ _ _ _).1
  have hkl:ep ((l.take (i+1)).map kJ) k<=ep (l.map kJ) k:=by
   have e:l.map kJ=(l.take (i+1)).map kJ++(l.drop (i+1)).map kJ:=by rw[<-cn,dy]
   rw[e,Fj];exact Ca _ _
  generalize hm:ep ((l.take i).map kJ) k=m at*;obtain⟨c,d,e,rs',rfl⟩:∃ c d e rs',rs=c::d::e::rs':=by
   have hlen:(aQ rs).length=3+((l.drop (i+1)).flatMap nc).length:=by rw[hr2,ae,cP]
   rw[ch]at hlen
   match rs,hlen with
   | [],h=>simp at h;omega
   | [c],h=>simp at h;omega
   | [c,d],h=>simp at h;omega
   |c::d::e::rs',_=>exact⟨c,d,e,rs',rfl⟩
  simp only[dX,bg,nc,bo,aU,List.cons.injEq]at hr2;obtain⟨-,hr3,hr4,hr5⟩:=hr2;rw[<-dX]at hr5;obtain⟨ca,ta,rfl,hca,-⟩:=bu hr3;obtain⟨cb,tb,rfl,hcb,-⟩:=bu hr4;have hrl:rs'.length+3=(l.length-i) *3:=by
   have:=bX List.length hr5;rw[ch,bC nc 3 cP,bl]at this;omega
  obtain⟨j,t0,rfl⟩:=xJ hso;have hlen:∀ x y z:PV,(ds++x::y::z::rs').length=l.length*3:=fun x y z=>by rw[ae,hd1];simp only[aA];omega
  have hl0:=hlen c (.list l[i].labels.length ca ta) (.list l[i].fields.length cb tb);have hl1:=hlen (I m) (.list l[i].labels.length ca ta) (.list l[i].fields.length cb tb);simp (maxSteps:=1000000) (disch:=omega)only[↓pa,pb,ah,seval,f0,f1,f5,h,bK,aI];refine fC (X:=[]) (Y:=[]) hd1.symm (by omega) hso hnp hTk ⟨rfl,rfl,rfl⟩ (fun hso' hnp' hTk'=>?_);have hbk:=fun cs' E'=> @ib l.length j t0 E' (i*3) ds (.list l[i].labels.length ca ta:: .list l[i].fields.length cb tb::rs') cs' c (I m) hd1.symm;have hp1:bL (ds++I m:: .list l[i].labels.length ca ta:: .list l[i].fields.length cb tb::rs') (i*3+1) 1 false=some (.list l[i].labels.length ca ta):=by
   have:= @oI (ds++[I m]) (.list l[i].fields.length cb tb::rs') (.list l[i].labels.length ca ta) (i*3+1) (by rw[ae,hd1];rfl);rw[bn]at this;exact this
  simp (maxSteps:=1000000) (disch:=omega)only[↓pa,pb,ak,seval,f0,f1,f5,bK,hbk,hp1];have hcat1:ds++I m:: .list l[i].labels.length ca ta:: .list l[i].fields.length cb tb::rs'=(ds++[I m])++ .list l[i].labels.length ca ta::(.list l[i].fields.length cb tb::rs'):=by simp
  rw[hcat1]at hso' hnp' hTk';have la:ca.length=l[i].labels.length:=by rw[<-ch,hca,bJ]
  have lb:cb.length=l[i].fields.length*2:=by rw[<-ch,hcb,eH]
  refine pD (sz:=1) (X:=[]) (Y:=[]) (HR K (m+1) l[i].labels.length (by omega) (rK hso') (yF hnp') la (sa hTk')) (by omega) (by decide) (fun e=>by rw[e];rfl) hso' hnp' hTk' hfl (fun p ns' q hu k1 k2 k3 k5 k6=>?_);rw[<-hcat1]at k1;have hl2:(ds++[I m]++q:: .list l[i].fields.length cb tb::rs').length=l.length*3:=by rw[ae,ae,hd1];simp only[aA,a6];omega
  have hcat2:ds++[I m]++q:: .list l[i].fields.length cb tb::rs'=(ds++[I m,q])++ .list l[i].fields.length cb tb::rs':=by simp
  have hp2:bL (ds++[I m]++q:: .list l[i].fields.length cb tb::rs') (i*3+2) 1 false=some (.list l[i].fields.length cb tb):=by
   rw[hcat2];exact oI (by rw[ae,hd1];rfl)
  simp (maxSteps:=1000000) (disch:=omega)only[↓pa,pb,seval,f0,f5,bK,hbk,hu,k1,hp2];rw[hcat2]at k2 k3 k6;refine pD (sz:=2) (X:=[]) (Y:=[]) (yQ K (m+1+l[i].labels.length) l[i].fields.length (by omega) (rK k2) (yF k3) lb (sa k6)) lb (by decide) (fun e=>by rw[e];rfl) k2 k3 k6 hfl (fun p2 ns2 q2 hu2 j1 j2 j3 j5 j6=>?_);rw[<-hcat2]at j1;simp (maxSteps:=1000000) (disch:=omega)only[↓pa,pb,ak,seval,f0,f5,bK,hbk,k1,hu2,j1];have hcat:ds++[I m,q,q2]++rs'=ds++[I m,q]++q2::rs':=by simp
  refine⟨l.length- (i+1),by omega,i+1,ds++[I m,q,q2],rs',rfl,by omega,by rw[hcat],by rw[hkk],rfl,by simp only[ae,hd1,aA,a6];omega,?_,hr5,by rw[hcat];exact j3,by rw[hcat];exact j2,by rw[hcat];exact j6,hfl⟩;rw[gv,hd2,hkm,bA];simp only[aH,k5,j5,nc,be,jG,aD,TX,FX,vE,vF]
 ·have hie:l.take i=l:=aM (by omega);have hdr:l.drop i=[]:=ei (by omega);rw[hdr]at hr2;have hrn:rs=[]:=cq (by rw[<-ch,hr2];rfl);subst hrn;rw[aD]at hnp hso hTk f0;rw[hie]at hd2 f1;simp only[↓pa,pb,seval,f0,f1,h,bK];refine⟨_,rfl,rfl,hnp,hso,by simpa using hTk,rfl,?_⟩;rw[fO,hd2]
def Oq(K:bO cf)(k:Nat)(l:List Eg)(hk:ey (l.map kK) k<=1000000000000){cs:List PV}{tk:aF}(hs:aY (.list l.length cs tk)=true)(hL:fK ec 5 l cs)(hT:a8 st (aB (.list l.length cs tk))):
  ∃ p ns,uP cf 51 [.list l.length cs tk,I k] st=some (I (ey (l.map kK) k:Nat),p,fA ((aB (.list l.length cs tk)).map (·.1)) ns st)/\dC st.nx ns p/\aO p= .list l.length ((sX (l.map kK) k).flatMap ec) .no/\dn [.list l.length cs tk,I k] [0] st=(aB (.list l.length cs tk)).map (·.1):=by
 refine yg K.tab (f:=51) (F:=FB51) (t:=4) rfl rfl rfl hs hL.np hT (lb rfl) (l.length+1) (fun cs0 tk0 ns h1 h2 h3 h4 h5=>?_);have hcl:cs0.length=l.length*5:=by rw[h2,hL.len]
 have hst:aQ cs0=l.flatMap ec:=by rw[h1,hL.st]
 have hN:l.length<=1000000000000:=by have:=Fl (l.map kK) k;rw[bJ]at this;omega
 clear hs hL hT h1 h2;simp only[FB51,↓qU,seval];simp only[↓pa,seval];refine a7 (fun q fr st=>∃ (i:Nat) (ds rs:List PV),q=l.length-i/\i<=l.length/\fr 0= .list l.length (ds++rs) tk0/\fr 1=I (ey ((l.take i).map kK) k:Nat)/\fr 5=I i/\ds.length=i*5/\aQ ds=(sX ((l.take i).map kK) k).flatMap ec/\aQ rs=(l.drop i).flatMap ec/\aX (ds++rs)=true/\aY (.list l.length (ds++rs) tk0)=true/\a8 st ([]++aB (.list l.length (ds++rs) tk0)++[])/\st.fl=0) l.length (by omega)
  ⟨0,[],cs0,by simp,by omega,by simp only[↓pa,ah,seval]<;>simp,by simp only[↓pa,seval]<;>simp[ey],by simp only[↓pa,seval]<;>rfl,rfl,rfl,hst,by simpa using h3,by simpa using h4,by simpa using h5,rfl⟩ ?_
 rintro q fr st ⟨i,ds,rs,rfl,hi,f0,f1,f5,hd1,hd2,hr2,hnp,hso,hTk,hfl⟩;simp only[↓pa,pb,ak,seval,f0,f5];refine af (fun h=>?_) (fun h=>?_)
 ·have hlt:i<l.length:=h;rw[bj hlt,be]at hr2;have hkk:ey ((l.take (i+1)).map kK) k=ey ((l.take i).map kK) k+4+2*l[i].fields.length:=by
   rw[aV hlt,cn];exact(zU _ _ _).2
  have hkm:sX ((l.take (i+1)).map kK) k=sX ((l.take i).map kK) k++[⟨ey ((l.take i).map kK) k,mt (ey ((l.take i).map kK) k+1),(ey ((l.take i).map kK) k+2:Nat),(ey ((l.take i).map kK) k+3:Nat),mz (ey ((l.take i).map kK) k+4) l[i].fields.length⟩]:=by
   rw[aV hlt,cn];exact(zU _ _ _).1
  have hkl:ey ((l.take (i+1)).map kK) k<=ey (l.map kK) k:=by
   have e:l.map kK=(l.take (i+1)).map kK++(l.drop (i+1)).map kK:=by rw[<-cn,dy]
   rw[e,Fm];exact yK _ _
  generalize hm:ey ((l.take i).map kK) k=m at*;obtain⟨c0,c1,c2,c3,c4,rs',rfl⟩:∃ c0 c1 c2 c3 c4 rs',rs=c0::c1::c2::c3::c4::rs':=by
   have hlen:(aQ rs).length=5+((l.drop (i+1)).flatMap ec).length:=by rw[hr2,ae,cN]
   rw[ch]at hlen
   match rs,hlen with
   | [],h=>simp at h;omega
   | [_],h=>simp at h;omega
   | [_,_],h=>simp at h;omega
   | [_,_,_],h=>simp at h;omega
   | [_,_,_,_],h=>simp at h;omega
   |c0::c1::c2::c3::c4::rs',_=>exact⟨c0,c1,c2,c3,c4,rs',rfl⟩
  simp only[dX,bg,ec,bo,aU,List.cons.injEq]at hr2;obtain⟨-,-,-,-,hr4,hr5⟩:=hr2;rw[<-dX]at hr5;obtain⟨cb,tb,rfl,hcb,-⟩:=bu hr4;have hrl:rs'.length+5=(l.length-i) *5:=by
   have:=bX List.length hr5;rw[ch,bC ec 5 cN,bl]at this;omega
  obtain⟨j,t0,rfl⟩:=xJ hso;have lb:cb.length=l[i].fields.length*2:=by rw[<-ch,hcb,eH]
  have ht:=fun st=>gL (st:=st) K (m+1) (by omega);have len:∀ (a:List PV) (b:PV) (c:List PV),a.length+(c.length+1)=l.length*5->(a++b::c).length=l.length*5:=fun a b c h=>by rw[ae,aA];exact h
  have l0:=len ds c0 (c1::c2::c3:: .list l[i].fields.length cb tb::rs') (by simp only[aA];omega);simp (maxSteps:=1000000) (disch:=omega)only[↓pa,pb,ah,seval,f0,f1,f5,h,bK,aI];refine fC (X:=[]) (Y:=[]) hd1.symm (by omega) hso hnp hTk ⟨rfl,rfl,rfl⟩ (fun hso1 hnp1 hT1=>?_);have b1:=fun cs' E'=> @ib l.length j t0 E' (i*5) ds (c1::c2::c3:: .list l[i].fields.length cb tb::rs') cs' c0 (I m) hd1.symm;have e1:ds++I m::c1::c2::c3:: .list l[i].fields.length cb tb::rs'=(ds++[I m])++c1::c2::c3:: .list l[i].fields.length cb tb::rs':=by simp
  rw[e1]at b1 hso1 hnp1 hT1;have o1:i*5+1=(ds++[I m]).length:=by rw[ae,hd1];rfl
  have l1:=len (ds++[I m]) c1 (c2::c3:: .list l[i].fields.length cb tb::rs') (by simp only[ae,aA,a6];omega);simp (maxSteps:=1000000) (disch:=omega)only[↓pa,pb,ah,ak,seval,f0,f1,f5,bK,b1,ht];refine fC (X:=[]) (Y:=[]) o1 (by omega) hso1 hnp1 hT1 ⟨rfl,rfl,rfl⟩ (fun hso2 hnp2 hT2=>?_);have b2:=fun cs' E'=> @ib l.length j t0 E' (i*5+1) (ds++[I m]) (c2::c3:: .list l[i].fields.length cb tb::rs') cs' c1 (S (mt (m+1))) o1;have e2:ds++[I m]++S (mt (m+1))::c2::c3:: .list l[i].fields.length cb tb::rs'=(ds++[I m,S (mt (m+1))])++c2::c3:: .list l[i].fields.length cb tb::rs':=by simp
  rw[e2]at b2 hso2 hnp2 hT2;have o2:i*5+2=(ds++[I m,S (mt (m+1))]).length:=by rw[ae,hd1];rfl
  have l2:=len (ds++[I m,S (mt (m+1))]) c2 (c3:: .list l[i].fields.length cb tb::rs') (by simp only[ae,aA,a6];omega);simp (maxSteps:=1000000) (disch:=omega)only[↓pa,pb,ah,ak,seval,f0,f5,bK,b1,b2];refine fC (X:=[]) (Y:=[]) o2 (by omega) hso2 hnp2 hT2 ⟨rfl,rfl,rfl⟩ (fun hso3 hnp3 hT3=>?_);have b3:=fun cs' E'=> @ib l.length j t0 E' (i*5+2) (ds++[I m,S (mt (m+1))]) (c3:: .list l[i].fields.length cb tb::rs') cs' c2 (I (m+2:Nat)) o2;have e3:ds++[I m,S (mt (m+1))]++I (m+2:Nat)::c3:: .list l[i].fields.length cb tb::rs'=(ds++[I m,S (mt (m+1)),I (m+2:Nat)])++c3:: .list l[i].fields.length cb tb::rs':=by simp
  rw[e3]at b3 hso3 hnp3 hT3;have o3:i*5+3=(ds++[I m,S (mt (m+1)),I (m+2:Nat)]).length:=by rw[ae,hd1];rfl
  have l3:=len (ds++[I m,S (mt (m+1)),I (m+2:Nat)]) c3 (.list l[i].fields.length cb tb::rs') (by simp only[ae,aA,a6];omega);simp (maxSteps:=1000000) (disch:=omega)only[↓pa,pb,ah,ak,seval,f0,f5,bK,b1,b2,b3];refine fC (X:=[]) (Y:=[]) o3 (by omega) hso3 hnp3 hT3 ⟨rfl,rfl,rfl⟩ (fun hso4 hnp4 hT4=>?_);have b4:=fun cs' E'=> @ib l.length j t0 E' (i*5+3) (ds++[I m,S (mt (m+1)),I (m+2:Nat)]) (.list l[i].fields.length cb tb::rs') cs' c3 (I (m+3:Nat)) o3;have e4:ds++[I m,S (mt (m+1)),I (m+2:Nat)]++I (m+3:Nat):: .list l[i].fields.length cb tb::rs'=(ds++[I m,S (mt (m+1)),I (m+2:Nat),I (m+3:Nat)])++ .list l[i].fields.length cb tb::rs':=by simp
  rw[e4]at b4 hso4 hnp4 hT4;have hp4:bL (ds++[I m,S (mt (m+1)),I (m+2:Nat),I (m+3:Nat)]++ .list l[i].fields.length cb tb::rs') (i*5+4) 1 false=some (.list l[i].fields.length cb tb):=oI (by rw[ae,hd1];rfl);have l4:=len (ds++[I m,S (mt (m+1)),I (m+2:Nat),I (m+3:Nat)]) (.list l[i].fields.length cb tb) rs' (by simp only[ae,aA,a6];omega);simp (maxSteps:=1000000) (disch:=omega)only[↓pa,pb,ak,seval,f0,f5,bK,b1,b2,b3,b4,hp4];refine pD (sz:=2) (X:=[]) (Y:=[]) (yQ K (m+4) l[i].fields.length (by omega) (rK hso4) (yF hnp4) lb (sa hT4)) lb (by decide) (fun e=>by rw[e];rfl) hso4 hnp4 hT4 hfl (fun p2 ns2 q2 hu2 j1 j2 j3 j5 j6=>?_);simp (maxSteps:=1000000) (disch:=omega)only[↓pa,pb,ak,seval,f0,f5,bK,b1,b2,b3,b4,hu2,j1];have hcat:ds++[I m,S (mt (m+1)),I (m+2:Nat),I (m+3:Nat),q2]++rs'=ds++[I m,S (mt (m+1)),I (m+2:Nat),I (m+3:Nat)]++q2::rs':=by simp
  refine⟨l.length- (i+1),by omega,i+1,ds++[I m,S (mt (m+1)),I (m+2:Nat),I (m+3:Nat),q2],rs',rfl,by omega,by rw[hcat],by rw[hkk],rfl,by simp only[ae,hd1,aA,a6];omega,?_,hr5,by rw[hcat];exact j3,by rw[hcat];exact j2,by rw[hcat];exact j6,hfl⟩;rw[gv,hd2,hkm,bA];simp only[aH,j5,ec,be,jG,aD,FX,vF]
 ·have hie:l.take i=l:=aM (by omega);have hdr:l.drop i=[]:=ei (by omega);rw[hdr]at hr2;have hrn:rs=[]:=cq (by rw[<-ch,hr2];rfl);subst hrn;rw[aD]at hnp hso hTk f0;rw[hie]at hd2 f1;simp only[↓pa,pb,seval,f0,f1,h,bK];refine⟨_,rfl,rfl,hnp,hso,by simpa using hTk,rfl,?_⟩;rw[fO,hd2]
def Q0(g:cj):List (Nat×Nat)×List Nat:=(g.nodes.map kJ,g.edges.map kK)
def NT:∀ (l:List (Nat×Nat)) (k:Nat),(sW l k).length=l.length
 | [],_=>rfl
 |(a,b)::l,k=>by rw[sW,aA,NT l,aA]
def NV:∀ (l:List Nat) (k:Nat),(sX l k).length=l.length
 | [],_=>rfl
 |b::l,k=>by rw[sX,aA,NV l,aA]
def L0:∀ (l:List (List (Nat×Nat)×List Nat)) (a:List (Nat×Nat)) (b:List Nat) (k:Nat),AU (l++[(a,b)]) k=AU l k++[⟨sW a (mr l k),sX b (ep a (mr l k))⟩]/\mr (l++[(a,b)]) k=ey b (ep a (mr l k))
 | [],a,b,k=>⟨rfl,rfl⟩
 |(x,y)::l,a,b,k=>by
  obtain⟨h1,h2⟩:=L0 l a b (ey y (ep x k));exact⟨by simp only[bo,AU,mr,h1],by simp only[bo,mr,h2]⟩
def Mp:∀ (l m:List (List (Nat×Nat)×List Nat)) (k:Nat),mr (l++m) k=mr m (mr l k)
 | [],_,_=>rfl
 |(x,y)::l,m,k=>by rw[bo,mr,mr,Mp l m]
def sb{α:Type}{enc:α->List PV}{m:Nat}(hm:∀ a,(enc a).length=m){l:List α}{cs:List PV}(h:aQ cs=l.flatMap enc)(hn:aX cs=true):fK enc m l cs:=
 ⟨by rw[<-ch,h,bC enc m hm],h,hn⟩
section
variable {f:Nat} {F:bw} {cs rest:List PV} {rs:List iG}
def EQ(hr:rest.all bF=true):d5 [0] (.agg cs::rest) []=aw cs:=by
 have h:tB (kc [0] 0 (.agg cs::rest)) []=[]:=by cases kc [0] 0 (.agg cs::rest)<;>rfl
 rw[d5,h,gu,rk _ _ (by omega)];simp[aB]
def KK(hn:aX cs=true)(hk:a8 st (aw cs))(hr:rest.all bF=true)(hsp:iu ((aw cs).map (·.1)) [0] 1 rest=true){r:PV}{ns:List Nat}
  (hc:cf f (ren (bi ((aw cs).map (·.1))) false (.agg cs)::rest.map aO) ((aw cs).map (·.2)) []=some (r,ns,[])) (hs:aY r=true):
  az cf f (.agg cs::rest) [0] st=some (ren (fun k=>some (st.nx+k)) false r,fA ((aw cs).map (·.1)) ns st)/\dn (.agg cs::rest) [0] st=(aw cs).map (·.1):=by
 have hn':np (.agg cs)=true:=hn;have hkeys:dw (.agg cs::rest)=some []:=by
  rw[dw,am hn']
  ·exact eY hr
  ·intros;contradiction
 have hm:=EQ (cs:=cs) hr;have hb:me ((aw cs).map (·.1)) (kc [0] 0 (.agg cs::rest)) []=[]:=by cases kc [0] 0 (.agg cs::rest)<;>rfl
 have hbs:∀ J l,nI J l []=true:=by intro J l;cases l<;>rfl
 have hh:fe ((aw cs).map (·.1)) [0] 0 0 (.agg cs::rest)=ren (bi ((aw cs).map (·.1))) false (.agg cs)::rest.map aO:=by
  rw[fe,sp _ _ _ _ (by omega) hr]
  ·rfl
  ·intros;contradiction
 have hs2:iu ((aw cs).map (·.1)) [0] 0 (.agg cs::rest)=true:=by rw[iu,hsp];rfl
 constructor
 ·simp only[az,hkeys,dz,hm,ne hk.1,hk.ok,hs2,hbs,hb,ay,if_true,hh,hc,ld r hs,dd,a6,fx];rfl
 ·simp only[dn,hkeys,dz,hm]
def GV{as:List PV}(hres:F.res=rs)(hown:F.own=false)(hnt:as.length<=F.nt)(N:Nat){ns:List Nat}{v:PV}(h:Wp cf N F.body (eM as,bV ns []) (BG rs (· =v))):gr cf N F as ns []=some (v,[],[]):=by
 obtain⟨e,⟨fr,s1⟩,hev,he,ho⟩:=h;subst hres;revert ho;generalize hps:fG fr s1 F.res=o1;intro ho
 match o1,ho with
 |some ps0,ho=>
  obtain⟨hp,-,hQ⟩:=ho;have hf:=wB (n:=0) (cs0:=[]) hown hps hp rfl rfl;rw[hQ]at hf;unfold gr;rw[am ⟨hnt,aW _⟩,hev];cases e with
  |go=>exact hf
  |ret=>exact hf
  |exit i=>exact he.elim
end
def Oo(K:bO cf)(k:Nat)(g:cj)(hk:ey (g.edges.map kK) (ep (g.nodes.map kJ) k)<=1000000000000){cs:List PV}(hst:aQ cs=gc g)(hs:bq cs=true)(hn:aX cs=true)(hT:a8 st (aw cs)):
  az cf 14 [.agg cs,I k] [0] st=some (I (ey (g.edges.map kK) (ep (g.nodes.map kJ) k):Nat),fA ((aw cs).map (·.1)) [] st)/\dn [.agg cs,I k] [0] st=(aw cs).map (·.1):=by
 have hF:=ni (r0:= .agg cs) (by simpa [aY]using hs) hn hT.1 0;have hF0:=hF.2;have hrr:ren (bi ((aw cs).map (·.1))) false (.agg cs)= .agg (bm (bi ((aw cs).map (·.1))) false cs):=by simp[ren]
 have htt:aB (.agg cs)=aw cs:=by simp[aB]
 rw[htt,hrr]at hF0;have hst0:aQ (bm (bi ((aw cs).map (·.1))) false cs)=gc g:=by rw[fw];exact hst
 have hTB:a8 (bV ((aw cs).map (·.2)) []) (aw (bm (bi ((aw cs).map (·.1))) false cs)):=by
  have:=hF0.tk;simp only[aB]at this;rw[this];exact⟨fun j=>qS j _,fun q hq=>by have:=lq hq;exact⟨by simpa [bV]using this.2.1,by simpa [bV]using this.2.2,aW _⟩⟩
 have hso0:bq (bm (bi ((aw cs).map (·.1))) false cs)=true:=by simpa [aY]using hF0.so
 have hnp0:aX (bm (bi ((aw cs).map (·.1))) false cs)=true:=hF0.np;generalize hc0:bm (bi ((aw cs).map (·.1))) false cs=c0 at*;have hrun:gr cf 1 F14 [.agg c0,I k] ((aw cs).map (·.2)) []=some (I (ey (g.edges.map kK) (ep (g.nodes.map kJ) k):Nat),[],[]):=by
  refine GV (rs:=[.tmp 4]) rfl rfl (lb rfl) 1 ?_;obtain⟨c,d,rfl⟩:∃ c d,c0=[c,d]:=by
   have:=bX List.length hst0;rw[ch]at this
   match c0,this with
   | [c,d],_=>exact⟨c,d,rfl⟩
  simp only[dX,bg,cJ,gc,List.cons.injEq,and_true]at hst0;obtain⟨hr3,hr4⟩:=hst0;obtain⟨ca,ta,rfl,hca,-⟩:=bu hr3;obtain⟨cb,tb,rfl,hcb,-⟩:=bu hr4;simp only[bq,bv,aj]at hso0;have hLa:fK nc 3 g.nodes ca:=sb cP hca (by simp only[aH,bv,aj]at hnp0;first|exact hnp0.1|exact hnp0.2);have hLb:fK ec 5 g.edges cb:=sb cN hcb (by simp only[aH,bv,aj]at hnp0;exact hnp0.2);have hnm:=yK (g.edges.map kK) (ep (g.nodes.map kJ) k);have hTB2:a8 (bV ((aw cs).map (·.2)) []) ([]++aB (.list g.nodes.length ca ta)++aB (.list g.edges.length cb tb)):=by
   simpa only[aw,aD,aU]using hTB
  simp only[F14,↓qU,seval];simp only[↓pa,pb,ah,seval,bK];refine um (On K k g.nodes (by omega) hso0.1 hLa (aT (fo hTB2 (fun j=>by simp only[bt];omega) (fun q hq=>by simp[hq])))) (fun p ns1 hu hF1 hv htk=>?_);have hap:=rF hTB2;have hk1:bY ((aB (.list g.nodes.length ca ta)).map (·.1)) (.list g.edges.length cb tb)= .list g.edges.length cb tb:=kN hso0.2 fun q hq=>hap q (by simp[hq]);have hT2:=nL (ns:=ns1) (aT (s:=2) (c:=[.list g.nodes.length ca ta,.list g.edges.length cb tb]) hTB2) (aW _);simp only[↓pa,pb,ah,seval,bK,m7,hk1,hu];refine um (Oq K (ep (g.nodes.map kJ) k) g.edges hk hso0.2 hLb (fo hT2 (fun j=>by simp only[bt];omega) (fun q hq=>by simp[hq]))) (fun p2 ns2 hu2 hF2 hv2 htk2=>?_);simp only[↓pa,pb,aH,seval,hu2]
 have hcf:=K.tab 14 F14 rfl 1 _ _ _ _ hrun;rw[<-hrr]at hcf;obtain⟨a,b⟩:=KK (rest:=[I k]) hn hT rfl rfl hcf rfl;exact⟨a,b⟩
def qk(n:Nat):(((n:Nat):Int)<0)=False:=eq_false (by omega)
def O3{k n i:Nat}(h:i<(mz k n).length):(mz k n)[i]=(mt (k+2*i),mt (k+2*i+1)):=by simp[mz]
def O1:∀ (l:List (Nat×Nat)) (k i:Nat) (h:i<(sW l k).length) (h':i<l.length),(sW l k)[i]=⟨ep (l.take i) k,rl (ep (l.take i) k+1) l[i].1,mz (ep (l.take i) k+1+l[i].1) l[i].2⟩/\ep (l.take (i+1)) k=ep (l.take i) k+1+l[i].1+2*l[i].2
 |(a,b)::l,k,0,_,_=>⟨rfl,rfl⟩
 |(a,b)::l,k,i+1,h,h'=>O1 l (k+1+a+2*b) i (by simpa [sW]using h) (by simpa using h')
def O4:∀ (l:List Nat) (k i:Nat) (h:i<(sX l k).length) (h':i<l.length),(sX l k)[i]=⟨ey (l.take i) k,mt (ey (l.take i) k+1),(ey (l.take i) k+2:Nat),(ey (l.take i) k+3:Nat),mz (ey (l.take i) k+4) l[i]⟩/\ey (l.take (i+1)) k=ey (l.take i) k+4+2*l[i]
 |b::l,k,0,_,_=>⟨rfl,rfl⟩
 |b::l,k,i+1,h,h'=>O4 l (k+4+2*b) i (by simpa [sX]using h) (by simpa using h')
def O2:∀ (l:List (List (Nat×Nat)×List Nat)) (k i:Nat) (h:i<(AU l k).length) (h':i<l.length),(AU l k)[i]=⟨sW l[i].1 (mr (l.take i) k),sX l[i].2 (ep l[i].1 (mr (l.take i) k))⟩/\mr (l.take (i+1)) k=ey l[i].2 (ep l[i].1 (mr (l.take i) k))
 |(a,b)::l,k,0,_,_=>⟨rfl,rfl⟩
 |(a,b)::l,k,i+1,h,h'=>O2 l (ey b (ep a k)) i (by simpa [AU]using h) (by simpa using h')
def NU:∀ (l:List (List (Nat×Nat)×List Nat)) (k:Nat),(AU l k).length=l.length
 | [],_=>rfl
 |(a,b)::l,k=>by rw[AU,aA,NU l,aA]
def HT(K:bO cf)(k n:Nat)(hk:k+2*n<=1000000000000):az cf 61 [FX (mz k n),I k] [] st=some (I (k+2*n:Nat),st):=by
 refine df K.tab (F:=F61) (t:=4) rfl rfl rfl (lb rfl) (by simp[eL,bh]) (d6 _ _) (n+1) ?_;have hl:=vF k n;have hm:((mz k n).flatMap fc).length=n*2:=by rw[eH,hl]
 simp only[F61,↓qU,seval];simp only[↓pa,seval];refine a7 (fun q fr st=>∃ i:Nat,q=n-i/\i<=n/\fr 0=FX (mz k n)/\fr 1=I (k+2*i:Nat)/\fr 5=I i) n (by omega) ⟨0,by simp,by omega,by simp only[↓pa,seval],by simp only[↓pa,seval]<;>rfl,by simp only[↓pa,seval]<;>rfl⟩ ?_
 rintro q fr st ⟨i,rfl,hi,f0,f1,f5⟩;simp only[↓pa,pb,ak,seval,f0,f5,hl];refine af (fun h=>?_) (fun h=>?_)
 ·have hlt:i<(mz k n).length:=by omega
  have hp0:=dY fc 2 (fun _=>rfl) 0 1 false (by decide) (mz k n) i hlt;have hp1:=dY fc 2 (fun _=>rfl) 1 1 false (by decide) (mz k n) i hlt;rw[O3 hlt]at hp0 hp1;rw[aI]at hp0;have ht:=fun st=>gL (st:=st) K (k+2*i) (by omega);have ht2:=fun st=>gL (st:=st) K (k+2*i+1) (by omega);simp (maxSteps:=1000000) (disch:=omega)only[↓pa,↓ax,pb,ah,ap,aq,ak,ad,aa,seval,al,f0,f1,f5,hl,h,aI,hp0,hp1,fc,ht,ht2];exact⟨n- (i+1),by omega,i+1,rfl,by omega,by congr 1,rfl⟩
 ·have:i=n:=by omega
  subst this;simp only[↓pa,pb,seval,f1,h]
def tG{α:Type}(m:α->Nat)(a:α)(l:List α):fQ m (a::l)=1+m a+fQ m l:=by simp[fQ];omega
def GQ{α:Type}(m:α->Nat):fQ m []=0:=rfl
def If{α:Type}(m:α->Nat)(a b:List α):fQ m (a++b)=fQ m a+fQ m b:=by simp[fQ];omega
def OR(es:List Eg)(n k:Int):∀ l:List Nd,fQ fE (tJ es l n k)<=fQ fE l
 | []=>aP _
 |x::l=>by
  have ih:=OR es n k l;rw[tI,If,tG];have:fQ fE (pJ es n k x)<=1+fE x:=by
   unfold pJ;split
   ·rw[tG,GQ];omega
   ·split
    ·have e:fE (⟨x.id,[],[]⟩:Nd)=0:=rfl;rw[tG,GQ,e];omega
    ·exact aW _
  omega
def Ih(g:cj)(n:Int):∀ (j:Nat) (x:cj),x∈sC g n j->∃ k:Int,x=Nb g n k
 |0,x,h=>by simp[sC]at h
 |j+1,x,h=>by
  rw[sC,aG]at h;rcases h with h|h
  ·exact Ih g n j x h
  ·exact⟨j,by simpa using h⟩
def HB:∀ (l:List Nd) (k:Nat),ep (l.map kJ) k<=k+2*fQ fE l
 | [],k=>by simp[ep,fQ]
 |x::l,k=>by
  have ih:=HB l (k+1+x.labels.length+2*x.fields.length);have h1:= @jF _ List.length x.labels;have h2:= @jF _ nu x.fields;rw[bg,kJ,ep,tG];have h3:fE x=fQ List.length x.labels+fQ nu x.fields:=rfl;omega
def HC:∀ (l:List Eg) (k:Nat),ey (l.map kK) k<=k+4*fQ jk l
 | [],k=>by simp[ey,fQ]
 |x::l,k=>by
  have ih:=HC l (k+4+2*x.fields.length);have h2:= @jF _ nu x.fields;rw[bg,kK,ey,tG];have h3:jk x=x.type.length+fQ nu x.fields:=rfl;omega
def Fk(g:cj)(k:Nat):ey (g.edges.map kK) (ep (g.nodes.map kJ) k)<=k+4*mN g:=by
 have h1:=HB g.nodes k;have h2:=HC g.edges (ep (g.nodes.map kJ) k);unfold mN;omega
def N3(c:Nat):∀ (l:List cj) (k:Nat),(∀ g∈l,mN g<=c)->mr (l.map Q0) k<=k+l.length* (4*c)
 | [],k,_=>by simp[mr]
 |g::l,k,h=>by
  have h1:=Fk g k;have h2:=h g List.mem_cons_self;have ih:=N3 c l (ey (g.edges.map kK) (ep (g.nodes.map kJ) k)) fun x hx=>h x (ce _ hx);rw[bg,Q0,mr,aA,gW];omega
def MC{f:Nat}{as:List PV}{r:PV}{st':St}(h:az cf f as [] st=some (r,st'))(hf:st.fl<=st.nx):st'.fl<=st'.nx:=by
 unfold az at h;split at h
 ·cases h
 ·split at h
  ·cases h
  ·simp only at h;split at h
   ·split at h
    ·simp only[bB,cL]at h;rw[<-h.2];simp only[St.more_nx];split<;>omega
    ·cases h
   ·cases h
def wX{f:Nat}{as:List PV}{p:PV}(h:∃ r,r=p/\∃ fl,az cf f as [] st=some (r,db st fl))(hf:st.fl<=st.nx)(k:∀ fl,fl<=st.nx->A (mk p (db st fl))):dj (az cf f as [] st) mk A:=by
 obtain⟨r,rfl,fl,h⟩:=h;exact⟨_,_,h,k fl (MC h hf)⟩
def tA{f:Nat}{as bs:List PV}(hm:as.map aO=bs)(hp:as.all bF=true)(hb:∀ p∈bs,dq p)(hf:nU f=false:=by rfl):az cf f as [] st=az cf f bs [] st:=by
 subst hm;obtain⟨q1,q2⟩:=dD hb;rw[kR hp q1 q2 hf]
def zR{J ns:List Nat}{st:St}{s:Nat}:(fA J ns st).objs s=(st.objs s).map fun c=>c.map (bY J):=rfl
def xt{cs:List PV}:aO (.agg cs)= .agg (aQ cs):=by simp[aO,aQ,ren]
def pL(id:Int):List Eg->Nat->Int
 | [],_=> -1
 |e::l,k=>if e.id=id then k else pL id l (k+1)
def eJ(l:List Eg)(id:Int):Int:=pL id l 0
def ej(l:List Eg)(id:Int):Option Eg:=l.find? fun e=>decide (e.id=id)
def fz(l:List Nd)(id:Int):Option Nd:=l.find? fun e=>decide (e.id=id)
def Dq(id:Int):∀ (l:List Eg) (k:Nat),(pL id l k= -1/\ej l id=none)\/∃ j,∃ h:j<l.length,pL id l k=((k+j:Nat):Int)/\ej l id=some l[j]
 | [],_=> .inl ⟨rfl,rfl⟩
 |e::l,k=>by
  by_cases h:e.id=id
  ·exact .inr ⟨0,by simp,by simp[pL,h],by simp[ej,h]⟩
  ·rcases Dq id l (k+1)with⟨h1,h2⟩|⟨j,hj,h1,h2⟩
   ·exact .inl ⟨by simp[pL,h,h1],by simpa [ej,h]using h2⟩
   ·exact .inr ⟨j+1,by simp;omega,by rw[pL,ai h,h1];congr 1;omega,by simpa [ej,h]using h2⟩
def Da(id:Int):∀ (l:List Nd) (k:Nat),(nB id l k= -1/\fz l id=none)\/∃ j,∃ h:j<l.length,nB id l k=((k+j:Nat):Int)/\fz l id=some l[j]
 | [],_=> .inl ⟨rfl,rfl⟩
 |e::l,k=>by
  by_cases h:e.id=id
  ·exact .inr ⟨0,by simp,by simp[nB,h],by simp[fz,h]⟩
  ·rcases Da id l (k+1)with⟨h1,h2⟩|⟨j,hj,h1,h2⟩
   ·exact .inl ⟨by simp[nB,h,h1],by simpa [fz,h]using h2⟩
   ·exact .inr ⟨j+1,by simp;omega,by rw[nB,ai h,h1];congr 1;omega,by simpa [fz,h]using h2⟩
def tx(l:List Eg)(id:Int):(eJ l id= -1/\ej l id=none)\/∃ j,∃ h:j<l.length,eJ l id=(j:Int)/\ej l id=some l[j]:=by
 have:=Dq id l 0;simpa [eJ]using this
def He(l:List Nd)(id:Int):(cU l id= -1/\fz l id=none)\/∃ j,∃ h:j<l.length,cU l id=(j:Int)/\fz l id=some l[j]:=by
 have:=Da id l 0;simpa [cU]using this
def m8{l:List Eg}{j:Nat}(h:j<l.length):bL (l.flatMap ec) (j*5+1) 1 false=some (S l[j].type):=by
 have:=dY ec 5 cN 1 1 false (by decide) l j h;rw[this];rfl
def uF{l:List Eg}{j:Nat}(h:j<l.length):bL (l.flatMap ec) (j*5+4) 1 false=some (FX l[j].fields):=by
 have:=dY ec 5 cN 4 1 false (by decide) l j h;rw[this];rfl
def qL{l:List Nd}{j:Nat}(h:j<l.length):bL (l.flatMap nc) (j*3+1) 1 false=some (TX l[j].labels):=by
 have:=dY nc 3 cP 1 1 false (by decide) l j h;rw[this];rfl
def oH{l:List Nd}{j:Nat}(h:j<l.length):bL (l.flatMap nc) (j*3+2) 1 false=some (FX l[j].fields):=by
 have:=dY nc 3 cP 2 1 false (by decide) l j h;rw[this];rfl
def uZ(K:bO cf)(g:cj)(id:Int)(hl:g.edges.length<=2000000):az cf 99 [.agg (gc g),I id] [] st=some (I (eJ g.edges id),st):=by
 refine df K.tab (F:=F99) (t:=4) rfl rfl rfl (lb rfl) (by simp[dE,bh]) (d6 _ _) (g.edges.length+1) ?_;have hm:=bC ec 5 cN g.edges;simp only[F99,↓qU,seval];simp only[↓pa,ah,seval,gc];refine a7 (fun k fr st=>∃ i:Nat,k=g.edges.length-i/\i<=g.edges.length/\fr 1=I id/\fr 2= .ptr 2 0/\st.objs 2=some [NX g.nodes,EX g.edges]/\fr 5=I i/\pL id (g.edges.drop i) i=eJ g.edges id) g.edges.length (by omega) ⟨0,by simp,by omega,by simp only[↓pa,pb,seval],by simp only[↓pa,seval],by simp only[pb,seval],by simp only[↓pa,seval]<;>rfl,rfl⟩ ?_
 rintro k fr st ⟨i,rfl,hi,f1,f2,o2,f5,hQ⟩;simp only[↓pa,pb,ah,ak,seval,f2,o2,f5];refine af (fun h1=>?_) (fun h1=>?_)
 ·rw[bj h1,pL]at hQ;simp (maxSteps:=1000000) (disch:=omega)only[↓pa,pb,ah,seval,f1,f2,o2,f5,aI,m9 h1];refine af (fun h2=>?_) (fun h2=>?_)
  ·rw[am h2]at hQ;simp only[↓pa,pb,seval,f5,h2];rw[<-hQ]
  ·rw[ai h2]at hQ;simp (maxSteps:=1000000) (disch:=omega)only[↓pa,pb,ak,seval,f1,f2,o2,f5,h2];exact⟨g.edges.length- (i+1),by omega,i+1,rfl,by omega,rfl,hQ⟩
 ·have:i=g.edges.length:=by omega
  rw[this,jH]at hQ;simp only[↓pa,pb,seval,h1];rw[<-hQ];rfl
def Al(K:bO cf)(g:cj)(id:Int)(hl:g.edges.length<=2000000):az cf 101 [.agg (gc g),I id] [] st=some (I (eJ g.edges id),st):=by
 refine df K.tab (F:=F101) (t:=4) rfl rfl rfl (lb rfl) (by simp[dE,bh]) (d6 _ _) (g.edges.length+1) ?_;have hm:=bC ec 5 cN g.edges;simp only[F101,↓qU,seval];simp only[↓pa,pb,ah,seval,gc];refine a7 (fun k fr st=>∃ i:Nat,k=g.edges.length-i/\i<=g.edges.length/\fr 1=I id/\fr 8=EX g.edges/\fr 9=I g.edges.length/\fr 10=I i/\pL id (g.edges.drop i) i=eJ g.edges id) g.edges.length (by omega) ⟨0,by simp,by omega,by simp only[↓pa,pb,seval],by simp only[↓pa,seval],by simp only[↓pa,seval],by simp only[↓pa,seval]<;>rfl,rfl⟩ ?_
 rintro k fr st ⟨i,rfl,hi,f1,f8,f9,f10,hQ⟩;simp only[↓pa,pb,ak,seval,f9,f10];refine af (fun h1=>?_) (fun h1=>?_)
 ·rw[bj h1,pL]at hQ;simp (maxSteps:=1000000) (disch:=omega)only[↓pa,pb,ah,seval,f1,f8,f10,h1,ia h1,ec];refine af (fun h2=>?_) (fun h2=>?_)
  ·rw[am h2]at hQ;simp only[↓pa,pb,seval,h2];rw[<-hQ]
  ·rw[ai h2]at hQ;simp (maxSteps:=1000000) (disch:=omega)only[↓pa,pb,ak,seval,f1,f8,f9,f10,h2];exact⟨g.edges.length- (i+1),by omega,i+1,rfl,by omega,rfl,hQ⟩
 ·have:i=g.edges.length:=by omega
  rw[this,jH]at hQ;simp only[↓pa,pb,seval,h1];rw[<-hQ];rfl
def same(x e:Eg):Bool:=decide (x.type=e.type) && (decide (x.src=e.src) && decide (x.dst=e.dst))
def fH(l:List Eg)(e:Eg):Bool:=match ej l e.id with
 |some x=>same x e
 |none=>false
def pN(l:List Eg)(e:Eg):Int:=if fH l e then eJ l e.id else-1
def pi(l:List Eg)(e:Eg):pN l e<0↔fH l e=false:=by
 unfold pN;cases h:fH l e with
 |false=>simp
 |true=>
  rcases tx l e.id with⟨h1,h2⟩|⟨j,hj,h1,h2⟩
  ·rw[fH,h2]at h;cases h
  ·rw[am rfl,h1];simp
def Fy(K:bO cf)(g:cj)(e:Eg)(hl:g.edges.length<=2000000):az cf 95 [.agg (gc g),.agg (ec e)] [] st=some (.bool (fH g.edges e),st):=by
 refine df K.tab (F:=F95) (t:=4) rfl rfl rfl (lb rfl) (by simp[dE,fR]) (ct _) 1 ?_;have hm:=bC ec 5 cN g.edges;have hea:∀ id st,az cf 99 [.agg [NX g.nodes,EX g.edges],I id] [] st=some (I (eJ g.edges id),st):=fun id st=>uZ K g id hl;simp only[F95,↓qU,seval];rw[fH];rcases tx g.edges e.id with⟨h1,h2⟩|⟨j,hj,h1,h2⟩
 ·rw[h2];simp only[↓pa,pb,ah,seval,gc,ec,hea,h1]
 ·rw[h2];have hj0:(0:Int)<=(j:Int):=by omega
  simp only[same];by_cases t1:g.edges[j].type=e.type
  ·by_cases t2:g.edges[j].src=e.src
   ·by_cases t3:g.edges[j].dst=e.dst
    ·simp (maxSteps:=1000000) (disch:=omega)only[↓pa,pb,ah,seval,gc,ec,hea,h1,hj0,m8 hj,nw hj,rh hj,t1,t2,t3,ay]
    ·simp (maxSteps:=1000000) (disch:=omega)only[↓pa,pb,ah,seval,gc,ec,hea,h1,hj0,m8 hj,nw hj,rh hj,t1,t2,t3,ay]
   ·simp (maxSteps:=1000000) (disch:=omega)only[↓pa,pb,ah,seval,gc,ec,hea,h1,hj0,m8 hj,nw hj,t1,t2,ay]
  ·simp (maxSteps:=1000000) (disch:=omega)only[↓pa,pb,ah,seval,gc,ec,hea,h1,hj0,m8 hj,t1]
def Oe(K:bO cf)(g:cj)(e:Eg)(hl:g.edges.length<=2000000)(hs:st.objs s=some (gc g)):az cf 100 [.agg (ec e),.ptr s 0] [] st=some (I (pN g.edges e),st):=by
 refine Py K.tab (F:=F100) (t:=3) rfl rfl rfl (lb rfl) (lb rfl) (fR e) (d6 _ _) hs (uc g) 1 ?_;have hm:=bC ec 5 cN g.edges;have hea:∀ id st,az cf 101 [.agg [NX g.nodes,EX g.edges],I id] [] st=some (I (eJ g.edges id),st):=fun id st=>Al K g id hl;simp only[F100,↓qU,seval];rw[pN,fH];rcases tx g.edges e.id with⟨h1,h2⟩|⟨j,hj,h1,h2⟩
 ·rw[h2];simp only[↓pa,pb,ah,seval,gc,ec,hea,h1]
 ·rw[h2];have hj0:(0:Int)<=(j:Int):=by omega
  simp only[same];by_cases t1:g.edges[j].type=e.type
  ·by_cases t2:g.edges[j].src=e.src
   ·by_cases t3:g.edges[j].dst=e.dst
    ·simp (maxSteps:=1000000) (disch:=omega)only[↓pa,pb,ah,seval,gc,ec,hea,h1,hj0,m8 hj,nw hj,rh hj,t1,t2,t3,ay]
    ·simp (maxSteps:=1000000) (disch:=omega)only[↓pa,pb,ah,seval,gc,ec,hea,h1,hj0,m8 hj,nw hj,rh hj,t1,t2,t3,ay]
   ·simp (maxSteps:=1000000) (disch:=omega)only[↓pa,pb,ah,seval,gc,ec,hea,h1,hj0,m8 hj,nw hj,t1,t2,ay]
  ·simp (maxSteps:=1000000) (disch:=omega)only[↓pa,pb,ah,seval,gc,ec,hea,h1,hj0,m8 hj,t1]
def Ep{α:Type}{a b:List α}(h:a.length≠b.length):a≠b:=fun e=>h (by rw[e])
def CG{α:Type}{a b:List α}{i:Nat}(ha:i<a.length)(hb:i<b.length)(h:a.take i=b.take i)(he:a[i]=b[i]):a.take (i+1)=b.take (i+1):=by
 rw[aV ha,aV hb,h,he]
def MH(K:bO cf)(a b:List (List UInt8))(hl:a.length<=2000000):az cf 96 [TX a,TX b] [] st=some (.bool (decide (a=b)),st):=by
 refine df K.tab (F:=F96) (t:=4) rfl rfl rfl (lb rfl) (by simp[fy]) (ct _) (a.length+1) ?_;have hm:(a.map S).length=a.length:=by simp
 have hm2:(b.map S).length=b.length:=by simp
 simp only[F96,↓qU,seval];simp only[↓pa,pb,ak,seval,al];refine af (fun h1=>?_) (fun h1=>?_);rotate_left
 ·simp only[↓pa,pb,seval,h1];rw[decide_eq_false (Ep (by omega))]
 have h1:a.length=b.length:=by omega
 simp only[↓pa,pb,seval,h1];refine a7 (fun k fr st=>∃ i:Nat,k=b.length-i/\i<=b.length/\fr 0=TX a/\fr 1=TX b/\fr 5=I i/\a.take i=b.take i) b.length (by omega) ⟨0,by simp,by omega,by simp only[↓pa,seval],by simp only[↓pa,seval],by simp only[↓pa,seval]<;>rfl,rfl⟩ ?_
 rintro k fr st ⟨i,rfl,hi,f0,f1,f5,hQ⟩;simp only[↓pa,pb,ak,seval,f0,f5,h1];refine af (fun h=>?_) (fun h=>?_)
 ·have ha:i<a.length:=by omega
  have hb:i<b.length:=by omega
  have ta:iV a i=a[i]:=by simp[iV,ha]
  have tb:iV b i=b[i]:=by simp[iV,hb]
  simp (maxSteps:=1000000) (disch:=omega)only[↓pa,pb,seval,al,f0,f1,f5,h,h1,eh,gZ ha,gZ hb,ta,tb];refine af (fun h2=>?_) (fun h2=>?_);rotate_left
  ·simp only[↓pa,pb,seval,h2];rw[decide_eq_false fun e=>h2 (by simp only[e])]
  ·simp (maxSteps:=1000000) (disch:=omega)only[↓pa,pb,ak,seval,f0,f1,f5,h2];exact⟨b.length- (i+1),by omega,i+1,rfl,by omega,rfl,CG ha hb hQ h2⟩
 ·simp only[↓pa,pb,seval,h];have:i=b.length:=by omega
  rw[aM (by omega),aM (by omega)]at hQ;rw[decide_eq_true hQ]
def Oh(K:bO cf)(a b:List (List UInt8))(hl:a.length<=2000000):az cf 102 [TX a,TX b] [] st=some (.bool (decide (a=b)),st):=by
 refine df K.tab (F:=F102) (t:=4) rfl rfl rfl (lb rfl) (by simp[fy]) (ct _) (a.length+1) ?_;have hm:(a.map S).length=a.length:=by simp
 have hm2:(b.map S).length=b.length:=by simp
 simp only[F102,↓qU,seval];simp only[↓pa,pb,ak,seval,al];refine af (fun h1=>?_) (fun h1=>?_);rotate_left
 ·simp only[↓pa,pb,seval,h1];rw[decide_eq_false (Ep (by omega))]
 have h1:a.length=b.length:=by omega
 simp only[↓pa,pb,seval,h1];refine a7 (fun k fr st=>∃ i:Nat,k=b.length-i/\i<=b.length/\fr 0=TX a/\fr 1=TX b/\fr 12=I b.length/\fr 13=I i/\a.take i=b.take i) b.length (by omega) ⟨0,by simp,by omega,by simp only[↓pa,seval],by simp only[↓pa,seval],by simp only[↓pa,seval],by simp only[↓pa,seval]<;>rfl,rfl⟩ ?_
 rintro k fr st ⟨i,rfl,hi,f0,f1,f12,f13,hQ⟩;simp only[↓pa,pb,ak,seval,f12,f13];refine af (fun h=>?_) (fun h=>?_)
 ·have ha:i<a.length:=by omega
  have hb:i<b.length:=by omega
  have ta:iV a i=a[i]:=by simp[iV,ha]
  have tb:iV b i=b[i]:=by simp[iV,hb]
  simp (maxSteps:=1000000) (disch:=omega)only[↓pa,pb,seval,al,f0,f1,f13,h,h1,eh,gZ ha,gZ hb,ta,tb];refine af (fun h2=>?_) (fun h2=>?_);rotate_left
  ·simp only[↓pa,pb,seval,h2];rw[decide_eq_false fun e=>h2 (by simp only[e])]
  ·simp (maxSteps:=1000000) (disch:=omega)only[↓pa,pb,ak,seval,f0,f1,f12,f13,h2];exact⟨b.length- (i+1),by omega,i+1,rfl,by omega,rfl,CG ha hb hQ h2⟩
 ·simp only[↓pa,pb,seval,h];have:i=b.length:=by omega
  rw[aM (by omega),aM (by omega)]at hQ;rw[decide_eq_true hQ]
def fX:List UInt8:=[110,117,108,108]
def eI:List Fd->List UInt8->List UInt8
 | [],_=>fX
 |f::l,n=>if f.1=n then f.2 else eI l n
def zQ:(PV.str ⟨#[110,117,108,108]⟩)=S fX:=rfl
def Ak(K:bO cf)(l:List Fd)(n:List UInt8)(hl:l.length<=2000000):az cf 131 [FX l,S n] [] st=some (S (eI l n),st):=by
 refine df K.tab (F:=F131) (t:=4) rfl rfl rfl (lb rfl) (by simp[eL,bR]) (nK _) (l.length+1) ?_;have hm:=eH l;simp only[F131,↓qU,seval];simp only[↓pa,seval];refine a7 (fun k fr st=>∃ i:Nat,k=l.length-i/\i<=l.length/\fr 0=FX l/\fr 1=S n/\fr 5=I i/\eI (l.drop i) n=eI l n) l.length (by omega) ⟨0,by simp,by omega,by simp only[↓pa,seval],by simp only[↓pa,seval],by simp only[↓pa,seval]<;>rfl,rfl⟩ ?_
 rintro k fr st ⟨i,rfl,hi,f0,f1,f5,hQ⟩;simp only[↓pa,pb,ak,seval,f0,f5];refine af (fun h1=>?_) (fun h1=>?_)
 ·have hlt:i<l.length:=h1;rw[bj hlt,eI]at hQ;simp (maxSteps:=1000000) (disch:=omega)only[↓pa,pb,seval,f0,f1,f5,h1,aI,km hlt];refine af (fun h2=>?_) (fun h2=>?_)
  ·rw[am h2]at hQ;simp (maxSteps:=1000000) (disch:=omega)only[↓pa,pb,seval,f0,f5,h2,zM hlt];rw[<-hQ]
  ·rw[ai h2]at hQ;simp (maxSteps:=1000000) (disch:=omega)only[↓pa,pb,ak,seval,f0,f1,f5,h2];exact⟨l.length- (i+1),by omega,i+1,rfl,by omega,rfl,hQ⟩
 ·have:i=l.length:=by omega
  rw[this,jH]at hQ;simp only[↓pa,pb,seval,h1];rw[<-hQ];rfl
def DC(K:bO cf)(l:List Fd)(n:List UInt8)(hl:l.length<=2000000):az cf 134 [FX l,S n] [] st=some (S (eI l n),st):=by
 refine df K.tab (F:=F134) (t:=4) rfl rfl rfl (lb rfl) (by simp[eL,bR]) (nK _) (l.length+1) ?_;have hm:=eH l;simp only[F134,↓qU,seval];simp only[↓pa,pb,seval];refine a7 (fun k fr st=>∃ i:Nat,k=l.length-i/\i<=l.length/\fr 1=S n/\fr 7=FX l/\fr 8=I l.length/\fr 9=I i/\eI (l.drop i) n=eI l n) l.length (by omega) ⟨0,by simp,by omega,by simp only[↓pa,seval],by simp only[↓pa,seval],by simp only[↓pa,seval],by simp only[↓pa,seval]<;>rfl,rfl⟩ ?_
 rintro k fr st ⟨i,rfl,hi,f1,f7,f8,f9,hQ⟩;simp only[↓pa,pb,ak,seval,f8,f9];refine af (fun h1=>?_) (fun h1=>?_)
 ·have hlt:i<l.length:=h1;rw[bj hlt,eI]at hQ;simp (maxSteps:=1000000) (disch:=omega)only[↓pa,pb,ah,seval,f1,f7,f9,h1,mn hlt];refine af (fun h2=>?_) (fun h2=>?_)
  ·rw[am h2]at hQ;simp only[↓pa,pb,ah,seval,h2];rw[<-hQ]
  ·rw[ai h2]at hQ;simp (maxSteps:=1000000) (disch:=omega)only[↓pa,pb,ak,seval,f1,f7,f8,f9,h2];exact⟨l.length- (i+1),by omega,i+1,rfl,by omega,rfl,hQ⟩
 ·have:i=l.length:=by omega
  rw[this,jH]at hQ;simp only[↓pa,pb,seval,h1];rw[<-hQ];rfl
def KU(K:bO cf){n:Int}(h1: -9223372036854775808<=n)(h2:n<=9223372036854775807):az cf 105 [I n] [] st=some (S (itoa n),st):=by
 refine df K.tab (F:=F105) (t:=2) rfl rfl rfl (lb rfl) (by simp[bh]) (nK _) 1 ?_;have hf:=fun st=>I5 (st:=st) K h1 h2;simp only[F105,↓qU,seval];simp only[↓pa,pb,seval,hf]
end Go.PM
namespace Go.PM
def GU(a:List UInt8):d4 a []=false:=by cases a<;>rfl
def xx(b:UInt8)(l:List UInt8):d4 [] (b::l)=true:=rfl
def zG(a b:UInt8)(l m:List UInt8):d4 (a::l) (b::m)=(decide (a<b)||(a==b && d4 l m)):=rfl
def lY:∀ a:List UInt8,d4 a a=false
 | []=>rfl
 |a::l=>by rw[zG,lY l];simp
def oD:∀ {a b c:List UInt8},d4 a b=true->d4 b c=true->d4 a c=true
 |_,[],_,h,_=>by rw[GU]at h;cases h
 |_,_::_,[],_,h=>by rw[GU]at h;cases h
 | [],_::_,_::_,_,_=>rfl
 |a::l,b::m,c::n,h1,h2=>by
  rw[zG]at h1 h2 ⊢;simp only[cY,decide_eq_true_eq,aj,jO]at h1 h2 ⊢;rcases h1 with h1|⟨rfl,h1⟩
  ·rcases h2 with h2|⟨rfl,h2⟩
   ·exact .inl (UInt8.lt_trans h1 h2)
   ·exact .inl h1
  ·rcases h2 with h2|⟨rfl,h2⟩
   ·exact .inl h2
   ·exact .inr ⟨rfl,oD h1 h2⟩
def oE:∀ {a b:List UInt8},d4 a b=false->d4 b a=false->a=b
 | [],[],_,_=>rfl
 | [],_::_,h,_=>by rw[xx]at h;cases h
 |_::_,[],_,h=>by rw[xx]at h;cases h
 |a::l,b::m,h1,h2=>by
  rw[zG]at h1 h2;simp only[kH,decide_eq_false_iff_not]at h1 h2;have hab:a=b:=by
   have e1:=UInt8.not_lt.1 h1.1;have e2:=UInt8.not_lt.1 h2.1;exact UInt8.le_antisymm e2 e1
  subst hab;simp only[beq_self_eq_true,cH]at h1 h2;rw[oE h1.2 h2.2]
def qH{a b:List UInt8}(h:d4 a b=true):d4 b a=false:=by
 cases h2:d4 b a with
 |false=>rfl
 |true=>rw[<-lY a,<-oD h h2]
def iD(x:List UInt8):List (List UInt8)->List (List UInt8)
 | []=>[x]
 |y::l=>if d4 y x=true then y::iD x l else if y=x then y::l else x::y::l
def j8(l:List (List UInt8)):Prop:=l.Pairwise fun a b=>d4 a b=true
def zW{x y:List UInt8}:∀ {l:List (List UInt8)},y∈iD x l↔y=x\/y∈l
 | []=>by simp[iD]
 |z::l=>by
  rw[iD];split
  ·rw[aZ,zW (l:=l),aZ];constructor
   ·rintro(h|h|h)<;>simp[h]
   ·rintro(h|h|h)<;>simp[h]
  ·split
   ·rename_i e;subst e;simp
   ·simp
def Bg{x:List UInt8}:∀ {l:List (List UInt8)},j8 l->j8 (iD x l)
 | [],_=>gH _ _
 |y::l,h=>by
  have h2:=bI.1 h;rw[iD];split
  ·rename_i hy;refine bI.2 ⟨fun z hz=>?_,Bg h2.2⟩;rcases zW.1 hz with rfl|hz
   ·exact hy
   ·exact h2.1 z hz
  ·rename_i hy;split
   ·exact h
   ·rename_i hne;have hxy:d4 x y=true:=by
     cases hc:d4 x y with
     |true=>rfl
     |false=>exact absurd (oE (by simpa using hy) hc) hne
    refine bI.2 ⟨fun z hz=>?_,h⟩;rcases aZ.1 hz with rfl|hz
    ·exact hxy
    ·exact oD hxy (h2.1 z hz)
def C1:∀ {a b:List (List UInt8)},j8 a->j8 b->(∀ x,x∈a↔x∈b)->a=b
 | [],[],_,_,_=>rfl
 | [],y::b,_,_,h=>by have:=(h y).2 List.mem_cons_self;simp at this
 |x::a,[],_,_,h=>by have:=(h x).1 List.mem_cons_self;simp at this
 |x::a,y::b,ha,hb,h=>by
  have ha2:=bI.1 ha;have hb2:=bI.1 hb;have hxy:x=y:=by
   rcases aZ.1 ((h x).1 List.mem_cons_self)with e|hx
   ·exact e
   ·rcases aZ.1 ((h y).2 List.mem_cons_self)with e|hy
    ·exact e.symm
    ·have h1:=qH (ha2.1 y hy);rw[hb2.1 x hx]at h1;cases h1
  subst hxy;rw[C1 ha2.2 hb2.2 fun z=>?_];constructor
  ·intro hz;rcases aZ.1 ((h z).1 (ce _ hz))with e|hz'
   ·subst e;have:=ha2.1 z hz;rw[lY]at this;cases this
   ·exact hz'
  ·intro hz;rcases aZ.1 ((h z).2 (ce _ hz))with e|hz'
   ·subst e;have:=hb2.1 z hz;rw[lY]at this;cases this
   ·exact hz'
def xV{x:List UInt8}:∀ {l:List (List UInt8)} {k:Nat},k<=l.length->(∀ j (h:j<l.length),j<k->d4 l[j] x=true)->(∀ h:k<l.length,d4 l[k] x=false)->
  (∀ h:k<l.length,l[k]=x->iD x l=l)/\((∀ h:k<l.length,l[k]≠x)->iD x l=l.take k++x::l.drop k)
 | [],k,hk,_,_=>by
  have:k=0:=by simpa using hk
  subst this;exact⟨fun h=>by simp at h,fun _=>rfl⟩
 |y::l,0,_,_,h2=>by
  have hy:=h2 (by simp);have hy:d4 y x=false:=hy;rw[iD,ai (by rw[hy];simp)];refine⟨fun _ e=>?_,fun hne=>?_⟩
  ·have e:y=x:=e;rw[am e]
  ·have hne:y≠x:=hne (by simp);rw[ai hne];rfl
 |y::l,k+1,hk,h1,h2=>by
  have hy:d4 y x=true:=h1 0 (by simp) (by omega);obtain⟨i1,i2⟩:=xV (x:=x) (l:=l) (k:=k) (by simpa using hk) (fun j h hj=>by have:=h1 (j+1) (by simpa using h) (by omega);simpa using this) (fun h=>by have:=h2 (by simpa using h);simpa using this);rw[iD,am hy];refine⟨fun h e=>?_,fun hne=>?_⟩
  ·rw[i1 (by simpa using h) (by simpa using e)]
  ·rw[i2 fun h=>by have:=hne (by simpa using h);simpa using this];rfl
def wv{x:List UInt8}:∀ {l:List (List UInt8)} {k:Nat},j8 l->x∉l->k<=l.length->(∀ j (h:j<l.length),k<=j->d4 x l[j]=true)->(k=0\/∃ h:k-1<l.length,d4 x l[k-1]=false)->iD x l=l.take k++x::l.drop k
 | [],k,_,_,hk,_,_=>by
  have:k=0:=by simpa using hk
  subst this;rfl
 |y::l,k,ho,hn,hk,h1,h2=>by
  have ho2:=bI.1 ho;have hne:y≠x:=fun e=>hn (by rw[e];exact List.mem_cons_self);rw[iD];by_cases hy:d4 y x=true
  ·rw[am hy];cases k with
   |zero=>have:=h1 0 (by simp) (aP _);have:=qH hy;simp_all
   |succ k=>
    rw[wv (k:=k) ho2.2 (fun h=>hn (ce _ h)) (by simpa using hk) (fun j h hj=>by have:=h1 (j+1) (by simpa using h) (by omega);simpa using this) ?_]
    ·rfl
    ·rcases je k with h0|h0
     ·exact .inl h0
     ·right;obtain⟨h,h3⟩:=h2.resolve_left (by omega);refine⟨by simp at hk;omega,?_⟩;have e:(y::l)[k+1-1]=l[k-1]'(by simp at hk;omega):=by
       have:k=(k-1)+1:=by omega
       simp only[pc]
       conv=>lhs;arg 2;rw[this]
       rfl
      rw[e]at h3;exact h3
  ·have hxy:d4 x y=true:=by
    cases hc:d4 x y with
    |true=>rfl
    |false=>exact absurd (oE (by simpa using hy) hc) hne
   rw[ai hy,ai hne];have hk0:k=0:=by
    rcases h2 with h|⟨h,h3⟩
    ·exact h
    ·exfalso;rcases je (k-1)with h0|h0
     ·simp only[h0,List.getElem_cons_zero]at h3;rw[hxy]at h3;cases h3
     ·have:(y::l)[k-1]∈l:=by
       have e:k-1=(k-1-1)+1:=by omega
       have h':k-1-1<l.length:=by simp at h;omega
       have:(y::l)[k-1]=l[k-1-1]:=by
        conv=>lhs;arg 2;rw[e]
        rfl
       rw[this];exact cp h'
      rw[oD hxy (ho2.1 _ this)]at h3;cases h3
   subst hk0;rfl
def iI(l:List (List UInt8)):List (List UInt8):=l.foldl (fun o x=>iD x o) []
def wy:∀ (l o:List (List UInt8)),j8 o->j8 (l.foldl (fun o x=>iD x o) o)
 | [],_,h=>h
 |_::l,_,h=>wy l _ (Bg h)
def wk{y:List UInt8}:∀ {l o:List (List UInt8)},y∈l.foldl (fun o x=>iD x o) o↔y∈l\/y∈o
 | [],o=>by simp
 |x::l,o=>by
  rw[mj,wk (l:=l),zW,aZ];constructor
  ·rintro(h|h|h)<;>simp[h]
  ·rintro((h|h)|h)<;>simp[h]
def vh(l:List (List UInt8)):j8 (iI l):=wy l [] List.Pairwise.nil
def uL{y:List UInt8}{l:List (List UInt8)}:y∈iI l↔y∈l:=by simp[iI,wk]
def E4{x:List UInt8}:∀ {l:List (List UInt8)},(iD x l).length<=l.length+1
 | []=>by simp[iD]
 |y::l=>by
  rw[iD];split
  ·have:=E4 (x:=x) (l:=l);simp;omega
  ·split<;>simp
def wz:∀ {l o:List (List UInt8)},(l.foldl (fun o x=>iD x o) o).length<=l.length+o.length
 | [],o=>by simp
 |x::l,o=>by
  have h1:=wz (l:=l) (o:=iD x o);have h2:=E4 (x:=x) (l:=o);rw[mj,aA];omega
def qE(l:List (List UInt8)):(iI l).length<=l.length:=by have:=wz (l:=l) (o:=[]);simpa [iI]using this
def Ig(l:List (List UInt8))(x:List UInt8):iI (l++[x])=iD x (iI l):=by simp[iI,List.foldl_append]
structure Ch where
 kind:Int
 node:Nd
 edge:Eg
 value:List UInt8
 name:List UInt8
 text:List UInt8
def OX:Nd:=⟨0,[],[]⟩
def Ni:Eg:=⟨0,[],0,0,[]⟩
def HJ(what n v:List UInt8):Ch:=⟨6,OX,Ni,what,n,v⟩
def g9(a b:List Fd):List (List UInt8):=(b.map (·.1)).foldl (fun o x=>iD x o) (iI (a.map (·.1)))
def ln(goes:Bool)(what:List UInt8)(a b:List Fd)(s:List UInt8):List Ch:=if eI b s≠eI a s/\decide (eI b s=fX)=goes then [HJ what s (eI b s)]else []
def nW(what:List UInt8)(a b:List Fd):List Ch:=(g9 a b).flatMap (ln true what a b)++(g9 a b).flatMap (ln false what a b)
def jC(a b:List Fd):List (List UInt8):=(b.map (·.1)).filter fun n=>decide (eI a n=fX)
def nT(a b:List Fd):List (List UInt8):=iI (a.map (·.1)++jC a b)
def rX(what:List UInt8)(b:List Fd)(s:List UInt8):List Ch:=if eI b s=fX then [HJ what s (eI b s)]else []
def rW(what:List UInt8)(a b:List Fd)(s:List UInt8):List Ch:=if eI b s=fX then []else if eI b s≠eI a s then [HJ what s (eI b s)]else []
def nV(what:List UInt8)(a b:List Fd):List Ch:=(nT a b).flatMap (rX what b)++(nT a b).flatMap (rW what a b)
structure uq (l:List Fd):Prop where
 ord:j8 (l.map (·.1))
 val:∀ f∈l,f.2≠fX
def Bo:∀ {l:List Fd} {n:List UInt8},n∈l.map (·.1)->∃ f∈l,eI l n=f.2
 | [],_,h=>by simp at h
 |f::l,n,h=>by
  rw[eI];by_cases e:f.1=n
  ·rw[am e];exact⟨f,List.mem_cons_self,rfl⟩
  ·rw[ai e];obtain⟨g,hg,h2⟩:=Bo (l:=l) (n:=n) (by
    rw[bg,aZ]at h;exact h.resolve_left fun x=>e x.symm)
   exact⟨g,ce _ hg,h2⟩
def Bn:∀ {l:List Fd} {n:List UInt8},n∉l.map (·.1)->eI l n=fX
 | [],_,_=>rfl
 |f::l,n,h=>by
  rw[bg,aZ,not_or]at h;rw[eI,ai fun e=>h.1 e.symm,Bn h.2]
def th{l:List Fd}(h:uq l){n:List UInt8}:eI l n=fX↔n∉l.map (·.1):=by
 constructor
 ·intro e hm;obtain⟨f,hf,h2⟩:=Bo hm;exact h.val f hf (h2.symm.trans e)
 ·exact Bn
def Iz{a b:List Fd}(ha:uq a):nT a b=g9 a b:=by
 refine C1 (vh _) (wy _ _ (vh _)) fun x=>?_;rw[nT,uL,g9,wk,uL,aG,jC,iM,decide_eq_true_eq,th ha];constructor
 ·rintro(h|h)
  ·exact .inr h
  ·exact .inl h.1
 ·rintro(h|h)
  ·by_cases hx:x∈a.map (·.1)
   ·exact .inl hx
   ·exact .inr ⟨h,hx⟩
  ·exact .inl h
def Hz{what:List UInt8}{a b:List Fd}(ha:uq a)(hb:uq b):nV what a b=nW what a b:=by
 rw[nV,nW,Iz ha];have h0:∀ s∈g9 a b,eI b s=fX->eI b s≠eI a s:=by
  intro s hs h e;have hm:s∈a.map (·.1):=by
   rw[g9,wk,uL]at hs;exact hs.resolve_left ((th hb).1 h)
  exact(th ha).1 (by rw[<-e];exact h) hm
 have e1:(g9 a b).flatMap (rX what b)=(g9 a b).flatMap (ln true what a b):=by
  rw[qA,qA];congr 1;refine List.map_congr_left fun s hs=>?_;unfold rX ln;by_cases h:eI b s=fX
  ·rw[am h,am ⟨h0 s hs h,by simp[h]⟩]
  ·rw[ai h,ai (by simp[h])]
 have e2:(g9 a b).flatMap (rW what a b)=(g9 a b).flatMap (ln false what a b):=by
  rw[qA,qA];congr 1;refine List.map_congr_left fun s hs=>?_;unfold rW ln;by_cases h:eI b s=fX
  ·rw[am h,ai (by simp[h])]
  ·rw[ai h];by_cases h2:eI b s=eI a s
   ·rw[ai (by simp[h2]),ai (by simp[h2])]
   ·rw[am h2,am ⟨h2,by simp[h]⟩]
 rw[e1,e2]
end Go.PM
