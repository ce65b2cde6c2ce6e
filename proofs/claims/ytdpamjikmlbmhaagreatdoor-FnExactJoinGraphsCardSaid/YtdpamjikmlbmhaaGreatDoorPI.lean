/- FnExactJoinGraphs: the program's JoinGraphs returns what the reference's returns, for all arguments: the row and its card. Conditions: none. -/
import Derived.Test.YtdpamjikmlbmhaaGreatDoorPH
import Derived.Shelf.SlSortCmp.NoneTotal
import Derived.Test.YtdpamjikmlbmhaaGreatDoorProg
import Derived.Test.YtdpamjikmlbmhaaGreatDoorCards
import Derived.Test.YtdpamjikmlbmhaaGreatDoorTie
import Derived.Deep.DeepWitnessRowRef
import Derived.LaidMore
import Derived.ProofKit
import Derived.SevenTiedAt
set_option linter.all false
open Nat (reduceEqDiff reduceAdd reduceLeDiff reduceLT reduceMul reduceSub)
namespace Go.PM
open Go.Lib
variable {cf:au} {st:St} {mk:PV→St→Fr×St} {A:Fr×St→Prop} {s:Nat}
structure sO (cf:au) (f g m e:Nat):Prop where
 nil:∀ ns:List Nat,cf (gx f) [.list 0 [] .nil,.fn g []] ns []=some (.tup [.tup [],.list 0 [] .nil],ns,[])
 own:∀ (n:Nat) (cs:List PV) (ns:List Nat),cs.length=n*m→aG cs=true→dT ([0].contains ·) cs=true→gd m n cs=true→n≤10000000→cf (gx f) [.list n cs (.own 0 e),.fn g []] (n::ns) []=some (.tup [.tup [],.list n (eW m n cs) (.own 0 e)],n::ns,[])
theorem DA{m n:Nat}{cs:List PV}(h:cs.length=n*m):(eW m n cs).Perm cs:=by
 have h1:=(List.mergeSort_perm (List.finRange n) fun i j=>!decide (fN m cs j<fN m cs i)).flatMap_right fun i=>(cs.drop (i.val*m)).take m
 rw[A9 h]at h1
 exact h1
theorem rT:∀ cs:List PV,aw cs=cs.flatMap aq
 | []=>rfl
 |c::cs=>by rw[aw,aI,rT cs]
theorem Ds{a b:List PV}(h:a.Perm b):(aw a).Perm (aw b):=by
 rw[rT,rT];exact h.flatMap_right aq
theorem J4{k:Nat}{a b:List (Nat×Nat)}(h:a.Perm b):ck k a=ck k b:=by
 induction h with
 |nil=>rfl
 |cons x _ ih=>rw[ck,ck,ih]
 |swap x y l=>simp only[ck];omega
 |trans _ _ h1 h2=>exact h1.trans h2
theorem DC:∀ {cs ds:List PV},bc cs=true→(∀ p∈ds,p∈cs)→bc ds=true:=by
 have h1:∀ {cs:List PV} {p:PV},bc cs=true→p∈cs→aH p=true:=by
  intro cs
  induction cs with
  |nil=>intro p _ h;cases h
  |cons c cs ih=>
   intro p h hp
   simp only[bc,aa]at h
   rcases aJ.1 hp with rfl|hp
   ·exact h.1
   ·exact ih h.2 hp
 intro cs ds
 induction ds with
 |nil=>intros;rfl
 |cons d ds ih=>
  intro h hs
  rw[bc,h1 h (hs d List.mem_cons_self),ih h fun p hp=>hs p (a7 _ hp)];rfl
theorem pe{m:Nat}:eW m 0 []=[]:=by simp[eW,tD]
theorem J9{f g m e:Nat}(hS:sO cf f g m e){n:Nat}{cs:List PV}{tk:ay}(ht:n4 e tk)(hs:aH (.list n cs tk)=true)(hn:aG cs=true)(hk:a6 st (aq (.list n cs tk)))(h1:cs.length=n*m)(hm0:0<m)(hl:n≤10000000)(hko:gd m n cs=true):
  ∃ p ns,uP cf f [.list n cs tk,.fn g []] st=some (.tup [],p,ez ((aq (.list n cs tk)).map (·.1)) ns st)∧cX [.list n cs tk,.fn g []] [0] st=(aq (.list n cs tk)).map (·.1)∧np p=true∧aH p=true∧(∀ k,ck k (aq p)≤ck k (cY st.nx ns))∧(∀ q∈aq p,q∈cY st.nx ns)∧aA p= .list n (eW m n (aB cs)) .no:=by
 have hpl:=dR (ps:=[PV.fn g []]) (by intro p hp;rw[dj.1 hp];exact ph _)
 have hn':np (.list n cs tk)=true:=hn
 have key:∀ r0 ns,cf (gx f) [ren (bG ((aq (.list n cs tk)).map (·.1))) false (.list n cs tk),.fn g []] ((aq (.list n cs tk)).map (·.2)) []=some (.tup [.tup [],r0],ns,[])→aH r0=true→np r0=true→(∀ k,ck k (aq r0)≤ck k (cY 0 ns))→(∀ q∈aq r0,q∈cY 0 ns)→aA r0= .list n (eW m n (aB cs)) .no→
   ∃ p ns,uP cf f [.list n cs tk,.fn g []] st=some (.tup [],p,ez ((aq (.list n cs tk)).map (·.1)) ns st)∧cX [.list n cs tk,.fn g []] [0] st=(aq (.list n cs tk)).map (·.1)∧np p=true∧aH p=true∧(∀ k,ck k (aq p)≤ck k (cY st.nx ns))∧(∀ q∈aq p,q∈cY st.nx ns)∧aA p= .list n (eW m n (aB cs)) .no:=by
  intro r0 ns hc a1 a2 a3 a4 a5
  obtain⟨g1,g2⟩:=Bl (cf:=cf) (f:=gx f) (st:=st) (rest:=[.fn g []]) hn' hk hpl.1 (by simp[jR,tf,dT]) (by rw[hpl.2];exact hc) (by simp[aH,bc,a1])
  have e:aq (ren (fun k=>some (st.nx+k)) false r0)=(aq r0).map fun q=>(st.nx+q.1,q.2):=mD _ (fun k=>st.nx+k) _ fun _ _=>rfl
  refine⟨ren (fun k=>some (st.nx+k)) false r0,ns,?_,g2,by simp only[PM.np,fC];exact a2,lu _ _ a1 fun _ _=>rfl,fun k=>?_,fun q hq=>?_,by rw[hO];exact a5⟩
  ·unfold uP
   rw[g1]
   simp[ren,bB]
  ·rw[e,←sC];exact Lb a3
  ·rw[e]at hq
   obtain⟨q0,h0,rfl⟩:=cq.1 hq
   rw[←sC];exact cq.2 ⟨q0,a4 q0 h0,rfl⟩
 rcases ht with rfl|⟨k,rfl⟩
 ·have hc:cs=[]:=by simp only[aH,aa,List.isEmpty_iff]at hs;exact hs.1
  subst hc
  have hn0:n=0:=by
   have h1:(0:Nat)=n*m:=h1
   rcases Nat.mul_eq_zero.1 h1.symm with h|h
   ·exact h
   ·omega
  subst hn0
  refine key _ _ (hS.nil _) rfl rfl (fun k=>aY _) (fun q hq=>by simp[aq,aw]at hq) ?_
  show _=PV.list 0 (eW m 0 []) .no
  rw[pe];rfl
 ·have htk:aq (.list n cs (.own k e))=(k,n)::aw cs:=rfl
  rw[htk]at key hk ⊢
  have hx:bG (((k,n)::aw cs).map (·.1)) k=some 0:=by simp[bG]
  have hc2:=EU (cs:=cs) (l:=(k,n)::aw cs) fun q hq=>by simp[hq]
  have hcso:bc (bB (bG (((k,n)::aw cs).map (·.1))) false cs)=true:=by
   have:bc cs=true:=by simpa [aH]using hs
   exact k8 _ _ this fun q hq=>xr q (by simp[hq])
  have hcnp:aG (bB (bG (((k,n)::aw cs).map (·.1))) false cs)=true:=by rw[aG,iJ];exact hn
  have hcl:(bB (bG (((k,n)::aw cs).map (·.1))) false cs).length=n*m:=by rw[gB,h1]
  have hcst:=gA (bG (((k,n)::aw cs).map (·.1))) cs
  have hie:=HY hk.1
  have hrest:aw (bB (bG (((k,n)::aw cs).map (·.1))) false cs)=cY 1 ((aw cs).map (·.2)):=by
   rw[hc2]
   have h3:=hie
   simp[cY]at h3
   simpa using h3.2
  rw[gW]at key
  simp only[ay.ren,hx]at key
  generalize bB (bG (((k,n)::aw cs).map (·.1))) false cs=cs' at*
  have hge:∀ q∈aw cs',1≤q.1:=fun q hq=>by rw[hrest]at hq;exact CV _ _ _ hq
  have t1:dT ([0].contains ·) cs'=true:=mT _ _ hcso fun q hq=>by have:=hge q hq;simp;omega
  have hko':gd m n cs'=true:=by rw[←mx,hcst,mx];exact hko
  have hpm:=DA hcl
  have hpt:=Ds hpm
  refine key _ _ (hS.own n cs' _ hcl hcnp t1 hko' hl) ?_ ?_ (fun j=>?_) (fun q hq=>?_) ?_
  ·simp only[aH,DC hcso fun p hp=>oI hp,am]
  ·show aG _=true
   exact kX fun p hp=>eF hcnp (oI hp)
  ·have:aq (.list n (eW m n cs') (.own 0 e))=(0,n)::aw (eW m n cs'):=rfl
   rw[this,cY,←hrest,ck,ck,J4 hpt]
   exact aD _
  ·have:aq (.list n (eW m n cs') (.own 0 e))=(0,n)::aw (eW m n cs'):=rfl
   rw[this]at hq
   rw[cY,←hrest]
   rcases aJ.1 hq with rfl|hq
   ·exact List.mem_cons_self
   ·exact a7 _ (hpt.mem_iff.1 hq)
  ·rw[ep,Ai,hcst]
theorem vy{f g m e n:Nat}{cs:List PV}{tk:ay}{X Y:List (Nat×Nat)}(hS:sO cf f g m e)(hf:f=69∨f=72)(ht:n4 e tk)(hs:aH (.list n cs tk)=true)(hn:aG cs=true)(h1:cs.length=n*m)(hm0:0<m)(hl:n≤10000000)(hko:gd m n cs=true)(hk:a6 st (X++aq (.list n cs tk)++Y))(hfl:st.fl≤st.nx)
  (kk:∀ st' q,(∀ p,cL p→kU (uP cf f [.list n cs tk,.fn g []] st) [.list n cs tk,.fn g []] st p=p)→
   (∀ s c,st.objs s=some c→bc c=true→(∀ x∈aw c,x∈X++Y)→st'.objs s=some c)→
   (∀ s pre post,st.objs s=some (pre++ .list n cs tk::post)→bc pre=true→bc post=true→(∀ x∈aw pre++aw post,x∈X++Y)→st'.objs s=some (pre++q::post))→
   aH q=true→np q=true→aA q= .list n (eW m n (aB cs)) .no→a6 st' (X++aq q++Y)→st'.fl≤st'.nx→A (mk (.tup []) st')):
  cT (uR f (uP cf f [.list n cs tk,.fn g []] st) [.list n cs tk,.fn g []] st) mk A:=by
 have hkB:a6 st (aq (.list n cs tk)):=fH hk (fun k=>by rw[bW,bW];omega) (fun q hq=>by simp[hq])
 obtain⟨p,ns,hu,htk,hnp,hso,hck,hmem,hst⟩:=J9 hS ht hs hn hkB h1 hm0 hl hko
 have hap:=lJ hk
 have hT:=zF hk hfl hck hmem
 have hnx:st.nx≤(st.more ns).nx:=by rw[St.more_nx];omega
 rcases ht with rfl|⟨k,rfl⟩
 ·have hc:cs=[]:=by simp only[aH,aa,List.isEmpty_iff]at hs;exact hs.1
  subst hc
  have hn0:n=0:=by
   have h1:(0:Nat)=n*m:=h1
   rcases Nat.mul_eq_zero.1 h1.symm with h|h
   ·exact h
   ·omega
  subst hn0
  have hJ:aq (.list 0 [] .nil)=[]:=rfl
  rw[hJ]at hu htk hT hk
  refine⟨.tup [],ez [] ns st,by rw[hu];rfl,kk _ (.list 0 [] .nil) (fun q hq=>?_) (fun s c hc _ _=>?_) (fun s pre post hc _ _ _=>?_) rfl rfl ?_ ?_ ?_⟩
  ·rw[tP (by simp),htk];exact lS
  ·rw[si,hc]
   exact aC some (by show List.map (bJ []) _=_;rw[show bJ []=id from funext fun _=>lS,List.map_id])
  ·rw[si,hc]
   exact aC some (by show List.map (bJ []) _=_;rw[show bJ []=id from funext fun _=>lS,List.map_id])
  ·show PV.list 0 [] .no=PV.list 0 (eW m 0 []) .no
   rw[pe]
  ·rw[hJ]
   have:=zF (R:=[]) (ns:=ns) (B:=[]) hk hfl (fun k=>aY _) (fun q hq=>by cases hq)
   exact this
  ·exact di hfl hnx
 ·have hkey:ch [.list n cs (.own k e),.fn g []]=some []:=by
   have hn':np (.list n cs (.own k e))=true:=hn
   rw[ch,ai hn']
   ·exact dX (dR (ps:=[PV.fn g []]) (by intro p hp;rw[dj.1 hp];exact ph _)).1
   ·intros;contradiction
  have hJ:(((aq (.list n cs (.own k e))).map (·.1)).contains k)=true:=by simp[aq]
  refine⟨.tup [],{ez ((aq (.list n cs (.own k e))).map (·.1)) ns st with objs:=fun s=>(st.objs s).map fun c=>fU ⟨(aq (.list n cs (.own k e))).map (·.1),k,n,cH n p⟩ c},?_,kk _ (cH n p) (fun q hq=>?_) (fun s c hc h2 h3=>?_) (fun s pre post hc h2 h3 h4=>?_) ?_ ?_ ?_ ?_ ?_⟩
  ·rw[hu]
   simp only[uR,kG,if_true,Bu]
   rw[ai ⟨hf,hkey⟩,htk]
  ·rw[hu,tO,htk]
   exact Bt (u:=⟨(aq (.list n cs (.own k e))).map (·.1),k,n,cH n p⟩) hJ hq
  ·show(st.objs s).map _=_
   rw[hc]
   exact aC some (lH (u:=⟨(aq (.list n cs (.own k e))).map (·.1),k,n,cH n p⟩) hJ h2 fun x hx=>hap x (h3 x hx))
  ·show(st.objs s).map _=_
   rw[hc]
   refine aC some ?_
   show fU _ _=_
   rw[pz,lH (u:=⟨(aq (.list n cs (.own k e))).map (·.1),k,n,cH n p⟩) hJ h2 (fun x hx=>hap x (h4 x (by simp[hx])))]
   simp only[fU]
   rw[lH (u:=⟨(aq (.list n cs (.own k e))).map (·.1),k,n,cH n p⟩) hJ h3 (fun x hx=>hap x (h4 x (by simp[hx]))),GC]
  ·unfold cH;split
   ·rfl
   ·exact hso
  ·unfold cH;split
   ·rfl
   ·exact hnp
  ·unfold cH;split
   ·rename_i h0
    subst h0
    have hc:cs=[]:=aP (by omega)
    subst hc
    show PV.list 0 [] .no=PV.list 0 (eW m 0 []) .no
    rw[pe]
   ·exact hst
  ·have:a6 (ez ((aq (.list n cs (.own k e))).map (·.1)) ns st) (X++aq (cH n p)++Y):=by
    unfold cH;split
    ·exact fH hT (fun k=>by simp only[bW,aq,aw,ck];omega) (fun q hq=>by simp[aq,aw]at hq ⊢;rcases hq with h|h<;>simp[h])
    ·exact hT
   exact this
  ·exact di hfl hnx
theorem zp(n:Nat):∀ (l:List bj) (k:Nat) (h:bj),gY n k (l++[h])=gY n k l++zV n (k+l.length) h
 | [],k,h=>by simp[gY]
 |g::l,k,h=>by
  rw[aM,gY,gY,zp n l (k+1) h,cK,ao]
  congr 3;omega
theorem Gg{l:List bj}{n k:Nat}(h:k<l.length):gY n 0 (l.take (k+1))=gY n 0 (l.take k)++zV n k l[k]:=by
 rw[aL h,zp,bg,bi,jE (by omega)]
theorem Gi{l:List bj}{k:Nat}(h:k<l.length):fz (l.take (k+1))=fz (l.take k)++l[k].edges:=by
 rw[aL h]
 unfold fz
 rw[dF,aI,je,aO]
def cN(l:List bj)(k i:Nat)(g:bj):List Nd:=gY l.length 0 (l.take k)++(g.nodes.take i).filter fun x=>decide (x.id.tmod l.length=(k:Int))
theorem Ks{l:List bj}{k:Nat}{g:bj}:cN l k 0 g=gY l.length 0 (l.take k):=by simp[cN]
theorem Ku{l:List bj}{k i:Nat}(h:k<l.length)(hi:¬i<l[k].nodes.length):cN l k i l[k]=gY l.length 0 (l.take (k+1)):=by
 rw[Gg h,cN,bC (l:=l[k].nodes) (by omega)];rfl
theorem Kt{l:List bj}{k i:Nat}{g:bj}(h:i<g.nodes.length):cN l k (i+1) g=cN l k i g++if g.nodes[i].id.tmod l.length=(k:Int)then [g.nodes[i]]else []:=by
 unfold cN
 rw[aL h,List.filter_append,cK]
 congr 2
 rw[List.filter_cons,List.filter_nil]
 by_cases h:g.nodes[i].id.tmod l.length=(k:Int)
 ·rw[ai h,ai (by simpa using h)]
 ·rw[ad h,ad (by simpa using h)]
theorem yZ(y:Nd):∀ l:List Nd,(fq y l).Perm (y::l)
 | []=>List.Perm.refl _
 |z::l=>by
  rw[fq]
  split
  ·exact List.Perm.refl _
  ·exact((yZ y l).cons z).trans (List.Perm.swap y z l)
theorem xy:∀ (l a:List Nd),(oC a l).Perm (l++a)
 | [],a=>List.Perm.refl _
 |y::l,a=>by
  refine(xy l (fq y a)).trans ?_
  exact((yZ y a).append_left l).trans List.perm_middle
theorem FW(l:List Nd):(oC [] l).length=l.length:=by have:=(xy l []).length_eq;simpa using this
theorem FY(l:List Eg):(pp [] l).length=l.length:=by have:=(sx l []).length_eq;simpa using this
theorem Bj{c:Nat}(n:Nat):∀ (l:List bj) (k:Nat),(∀ g∈l,g.nodes.length≤c)→(gY n k l).length≤c*l.length
 | [],k,_=>aY _
 |g::l,k,h=>by
  have h1:=h g List.mem_cons_self
  have ih:=Bj (c:=c) n l (k+1) fun x hx=>h x (a7 _ hx)
  have h2:=List.length_filter_le (fun x:Nd=>decide (x.id.tmod n=k)) g.nodes
  rw[gY,ak,ao,Nat.mul_succ]
  unfold zV
  omega
theorem Bk{c:Nat}:∀ (l:List bj),(∀ g∈l,g.edges.length≤c)→(fz l).length≤c*l.length
 | [],_=>aY _
 |g::l,h=>by
  have h1:=h g List.mem_cons_self
  have ih:=Bk (c:=c) l fun x hx=>h x (a7 _ hx)
  unfold fz at ih ⊢
  rw[aI,ak,ao,Nat.mul_succ]
  omega
theorem xE(n:Nat):∀ (l:List bj) (k:Nat),(∀ g∈l,bY g=true)→((gY n k l).map Nd.id).Nodup
 | [],k,_=>iR
 |g::l,k,h=>by
  rw[gY,bS,List.nodup_append]
  refine⟨?_,xE n l (k+1) fun x hx=>h x (a7 _ hx),fun a ha b hb=>?_⟩
  ·have hr:=vo (h g List.mem_cons_self)
   have hnd:(g.nodes.map Nd.id).Nodup:=by
    rw[List.nodup_iff_pairwise_ne,me]
    exact hr.imp fun hab=>by omega
   exact hnd.sublist (List.filter_sublist.map Nd.id)
  ·rintro rfl
   obtain⟨x,hx,rfl⟩:=cq.1 ha
   obtain⟨y,hy,hid⟩:=cq.1 hb
   have h1:x.id.tmod n=k:=by simpa using(jF.1 hx).2
   obtain⟨i,-,-,h2⟩:=vX n (k+1) l hy
   rw[hid,h1]at h2
   omega
theorem EY{g:bj}{n:Nat}(h:g.nodes.length≤n)(i:Nat)(p:Nd→Bool):((g.nodes.take i).filter p).length≤n:=by
 refine di (List.length_filter_le _ _) ?_
 rw[bi];omega
set_option maxHeartbeats 16000000 in
theorem Ki(K:bH cf)(hSN:sO cf 69 70 3 72)(hSE:sO cf 72 73 5 68)(l:List bj)(hl:EP l):∃ r ns,ar cf 25 [GX l] [] st=some (r,st.more ns)∧cW st.nx ns r∧aA r= .agg (gP (po l)):=by
 refine oW K.tab (F:=F25) (Q:=fun r=>r= .agg (gP (po l))) rfl rfl rfl (lb rfl) (by simp[iI]) 1000 ?_
 have hm:=ce gc 2 ki l
 have hsh:∀ st,ar cf 65 [GX l] [] st=some (.bool (decide (1≤l.length∧l.length≤8) && fK l),st):=fun st=>Gs K l hl
 have hlb:=hl.1
 unfold F25 qr qd qm qi qb qk ql qf qt qa qn qs qo qN
 simp only[↓pa,pb,↓reduceIte,reduceCtorEq]
 refine ab (fun k1=>?_) (fun k1=>?_)
 ·have e:po l=⟨2,0,g0⟩:=ai (by omega)
  simp only[↓pa,↓bM,pb,aj,↓reduceIte,reduceEqDiff,reduceAdd,reduceLeDiff,lx,k1]
  rw[e]
  exact⟨rfl,rfl,rfl,fp,rfl⟩
 have k1':¬1000<l.length:=by omega
 cases hs:(decide (1≤l.length∧l.length≤8) && fK l)with
 |false=>
  have e:po l=⟨1,0,g0⟩:=by
   rw[po,ad k1',ai]
   by_cases h:1≤l.length∧l.length≤8
   ·rw[decide_eq_true h,bX]at hs;exact .inr hs
   ·exact .inl (by omega)
  simp only[↓pa,↓bM,pb,aj,↓reduceIte,reduceEqDiff,reduceAdd,reduceLeDiff,reduceCtorEq,lx,k1,hsh,hs]
  rw[e]
  exact⟨rfl,rfl,rfl,fp,rfl⟩
 |true=>
  have hsh':∀ st,ar cf 65 [GX l] [] st=some (.bool true,st):=fun st=>by rw[hsh,hs]
  rw[aa,decide_eq_true_eq]at hs
  obtain⟨⟨n1,n8⟩,hS⟩:=hs
  have e0:po l=if bY (d7 l)=false then⟨1,0,g0⟩else⟨0,0,d7 l⟩:=by
   rw[po,ad k1',ad]
   rintro(h|h)
   ·omega
   ·rw[hS]at h;cases h
  unfold fK at hS
  rw[aa,aa,aU,decide_eq_true_eq]at hS
  obtain⟨⟨hgo,hnd⟩,-⟩:=hS
  have hok:∀ g∈l,IR g:=fun g hg=>uG (hgo g hg)
  have hcn:∀ k,(gY l.length 0 (l.take k)).length≤1600:=fun k=>by
   have h1:=Bj (c:=200) l.length (l.take k) 0 fun g hg=>(hok g (d5 hg)).nl
   rw[bi]at h1;omega
  have hce:∀ k,(fz (l.take k)).length≤3200:=fun k=>by
   have h1:=Bk (c:=400) (l.take k) fun g hg=>(hok g (d5 hg)).el
   rw[bi]at h1;omega
  clear hsh
  simp only[↓pa,↓bM,pb,aj,↓reduceIte,reduceEqDiff,reduceAdd,reduceLeDiff,reduceCtorEq,k1,hsh']
  refine aX (fun q fr st=>∃ (k:Nat) (A:List Nd) (B:List Eg) (cs ds:List PV) (tk u:ay),q=l.length-k∧k≤l.length∧fr 0=GX l∧fr 2= .ptr 2 0∧fr 3= .ptr 3 0∧fr 4=I l.length∧fr 20=GX l∧fr 21=I l.length∧fr 22=I k∧st.objs 2=some [.int .i64 0,.int .i64 0,.list 0 [] .nil,.list 0 [] .nil]∧st.objs 3=some [.list A.length cs tk,.list B.length ds u]∧A=gY l.length 0 (l.take k)∧B=fz (l.take k)∧kO nc 3 A cs∧kO ec 5 B ds∧n4 72 tk∧n4 68 u∧aH (.list A.length cs tk)=true∧aH (.list B.length ds u)=true∧a6 st ([]++aq (.list A.length cs tk)++aq (.list B.length ds u))∧st.fl=0) l.length (by omega)
   ⟨0,[],[],[],[],.nil,.nil,by simp,by omega,by simp only[↓pa,pb,↓reduceIte,reduceCtorEq],by simp only[↓pa,pb,↓reduceIte,reduceEqDiff],by simp only[↓pa,↓reduceIte,reduceEqDiff],by simp only[↓pa,↓reduceIte,reduceEqDiff],by simp only[↓pa,↓reduceIte,reduceEqDiff],by simp only[↓pa,↓reduceIte,reduceEqDiff],(by simp only[↓pa,↓reduceIte]<;>rfl),by simp only[pb,↓reduceIte,reduceEqDiff],(by simp only[pb,↓reduceIte]<;>rfl),by simp[gY],by simp[fz],ww,ww,.inl rfl,.inl rfl,rfl,rfl,fp,rfl⟩ ?_
  rintro q fr st ⟨k,A,B,cs,ds,tk,u,rfl,hk,f0,f2,f3,f4,f20,f21,f22,o2,o3,hA,hB,hLA,hLB,hto,htu,hso,hsu,hT,hfl⟩
  have hAl:A.length≤1600:=by rw[hA];exact hcn k
  have hBl:B.length≤3200:=by rw[hB];exact hce k
  simp only[↓pa,pb,aT,↓reduceIte,f21,f22]
  refine ab (fun h1=>?_) (fun h1=>?_)
  ·have hlt:k<l.length:=h1
   have hokk:=hok _ (bL hlt)
   have hnl:=hokk.nl
   have hel:=hokk.el
   have hmn:=ce nc 3 dI l[k].nodes
   simp (disch:=omega)only[↓pa,pb,aj,↓reduceIte,reduceEqDiff,reduceAdd,reduceLeDiff,f20,f22,h1,n3 hlt,gc]
   refine aX (fun q fr st=>∃ (i:Nat) (A:List Nd) (cs:List PV) (tk:ay),q=l[k].nodes.length-i∧i≤l[k].nodes.length∧fr 0=GX l∧fr 2= .ptr 2 0∧fr 3= .ptr 3 0∧fr 4=I l.length∧fr 5=I k∧fr 6= .ptr 6 0∧fr 20=GX l∧fr 21=I l.length∧fr 22=I k∧fr 28=NX l[k].nodes∧fr 29=I l[k].nodes.length∧fr 30=I i∧st.objs 2=some [.int .i64 0,.int .i64 0,.list 0 [] .nil,.list 0 [] .nil]∧st.objs 6=some [NX l[k].nodes,EX l[k].edges]∧st.objs 3=some [.list A.length cs tk,.list B.length ds u]∧A=cN l k i l[k]∧kO nc 3 A cs∧n4 72 tk∧aH (.list A.length cs tk)=true∧a6 st ([]++aq (.list A.length cs tk)++aq (.list B.length ds u))∧st.fl=0) l[k].nodes.length (by omega)
    ⟨0,A,cs,tk,by simp,by omega,by simp only[↓pa,pb,↓reduceIte,reduceCtorEq,f0],by simp only[↓pa,pb,↓reduceIte,reduceEqDiff,f2],by simp only[↓pa,pb,↓reduceIte,reduceEqDiff,f3],by simp only[↓pa,pb,↓reduceIte,reduceEqDiff,f4],by simp only[↓pa,↓reduceIte,reduceEqDiff],by simp only[↓pa,↓reduceIte,reduceEqDiff],by simp only[↓pa,pb,↓reduceIte,reduceEqDiff,f20],by simp only[↓pa,pb,↓reduceIte,reduceEqDiff,f21],by simp only[↓pa,pb,↓reduceIte,reduceEqDiff,f22],by simp only[↓pa,↓reduceIte,reduceEqDiff],by simp only[↓pa,↓reduceIte,reduceEqDiff],(by simp only[↓pa,↓reduceIte]<;>rfl),by simp only[pb,↓reduceIte,reduceEqDiff,o2],by simp only[pb,↓reduceIte],by simp only[pb,↓reduceIte,reduceEqDiff,o3],by rw[Ks];exact hA,hLA,hto,hso,br (br hT),hfl⟩ ?_
   clear f0 f2 f3 f4 f20 f21 f22 o2 o3 hA hLA hto hso hT hfl hAl A cs tk
   rintro q fr st ⟨i,A,cs,tk,rfl,hi,f0,f2,f3,f4,f5,f6,f20,f21,f22,f28,f29,f30,o2,o6,o3,hA,hLA,hto,hso,hT,hfl⟩
   have hAl:A.length≤1800:=by
    rw[hA,cN,ak]
    have:=hcn k
    have:=EY hnl i fun x=>decide (x.id.tmod l.length=(k:Int))
    omega
   simp only[↓pa,pb,aT,↓reduceIte,f29,f30]
   refine ab (fun h3=>?_) (fun h3=>?_)
   ·have hlt2:i<l[k].nodes.length:=h3
    have hokn:=hokk.ns _ (bL hlt2)
    have hll:=hokn.ll
    have hff:=hokn.fl
    have hrem:=kN (k:= .i64) (a:=l[k].nodes[i].id) (show(l.length:Int)≠0 by omega)
    have hn3:=dI l[k].nodes[i]
    have hnext:=Kt (l:=l) (k:=k) hlt2
    simp (disch:=omega)only[↓pa,pb,aj,↓reduceIte,reduceEqDiff,reduceAdd,reduceLeDiff,f4,f5,f28,f30,h3,k9 hlt2,hn3,sc hn3,yL,hrem]
    refine ab (fun h4=>?_) (fun h4=>?_)
    ·rw[ai h4,←hA]at hnext
     have hn3t:List.take 3 (nc l[k].nodes[i])=nc l[k].nodes[i]:=rfl
     have hkp:=m8 (hY l[k].nodes[i])
     simp only[↓pa,↓dV,pb,aj,cS,↓reduceIte,reduceEqDiff,reduceLeDiff,f3,o3,h4,bh,hn3,hn3t]
     refine eV (J7 K l[k].nodes[i] (by omega) (by omega)) (fun r ns hF hr=>?_)
     obtain⟨es,rfl,hes⟩:=jl hr
     have hdl:es.length=3:=by rw[←hn3,←hes,ct,bu]
     have hFt:aw es=cY _ ns:=hF.tk
     have hFs:bc es=true:=hF.so
     have hFn:aG es=true:=hF.np
     simp only[↓pa,↓bM,↓dV,pb,aj,cS,↓reduceIte,reduceEqDiff,reduceAdd,reduceLeDiff,reduceLT,hdl,sc hdl,hkp]
     refine rB (X:=[]) (Y:=aq (.list B.length ds u)) hto hso hFs (by rw[hFt];exact ew (br (br hT)) (by show st.fl≤_;omega) ns) (by rw[St.more_fl];exact hfl) hLA.len (by rw[hdl]) (by omega) (by omega) (by decide) (fun st1 tk1 hto1 hso1 hT1 ho1 hfl1=>?_)
     have hl1:A.length+1=(cN l k (i+1) l[k]).length:=by rw[hnext,ak];rfl
     rw[hl1]at hso1 hT1 ⊢
     simp (disch:=omega)only[↓pa,↓dV,pb,aj,cS,fS,aT,ah,af,↓reduceIte,reduceEqDiff,reduceAdd,reduceLeDiff,reduceCtorEq,f0,f2,f3,f4,f5,f6,f20,f21,f22,f28,f29,f30,o2,o6,o3,bh,lx,ho1]
     exact⟨l[k].nodes.length- (i+1),by omega,i+1,cN l k (i+1) l[k],_,tk1,rfl,by omega,rfl,rfl,rfl,by rw[hnext];exact zJ hLA hdl hes hFn,hto1,hso1,br hT1,hfl1⟩
    ·rw[ad h4,aO,←hA]at hnext
     simp (disch:=omega)only[↓pa,pb,aT,↓reduceIte,reduceEqDiff,reduceCtorEq,f0,f2,f3,f4,f5,f6,f20,f21,f22,f28,f29,f30,o2,o6,o3,h4]
     exact⟨l[k].nodes.length- (i+1),by omega,i+1,A,cs,tk,rfl,by omega,rfl,rfl,hnext.symm,hLA,hto,hso,hT,hfl⟩
   ·rw[Ku hlt h3]at hA
    have hkp:=dX (dR (ps:=[EX l[k].edges,.fn 68 []]) (by
     intro p hp
     rcases aJ.1 hp with rfl|hp
     ·exact m3 _
     ·rw[dj.1 hp];exact ph _)).1
    simp only[↓pa,↓dV,pb,aj,cS,↓reduceIte,reduceEqDiff,reduceAdd,f3,f6,o6,o3,h3]
    refine IP (Ip K l[k].edges (by omega) (fun x hx=>by have:=(hokk.es x hx).fl;omega)) (fun r ns hF hLo=>?_)
    obtain⟨es,w,rfl,hLe,hw⟩:=hLo.sh
    have hFs:bc es=true:=by have:=hLo.so;simp only[aH,aa]at this;exact this.2
    have hFt:=hF.tk
    rw[rV]at hFt
    have hT0:=ew hT (by omega) ns
    rw[←hFt]at hT0
    have hnext:=Gi hlt
    rw[←hB]at hnext
    simp only[↓pa,↓bM,↓dV,cS,↓reduceIte,reduceEqDiff,hkp]
    refine rB (X:=aq (.list A.length cs tk)) (Y:=[]) htu hsu hFs (fH hT0 (fun j=>by simp only[bW,ck];omega) (fun q hq=>by simp only[ax,eD,or_false,false_or]at hq ⊢;rcases hq with(h|h)|h<;>simp[h])) (by rw[St.more_fl];exact hfl) hLB.len hLe.len (by omega) (by omega) (by decide) (fun st1 u1 htu1 hsu1 hT1 ho1 hfl1=>?_)
    have hl1:B.length+l[k].edges.length=(fz (l.take (k+1))).length:=by rw[hnext,ak]
    rw[hl1]at hsu1 hT1 ⊢
    simp (disch:=omega)only[↓pa,↓dV,pb,aj,cS,fS,aT,ah,af,↓reduceIte,reduceEqDiff,reduceAdd,reduceLeDiff,reduceCtorEq,f0,f2,f3,f4,f20,f21,f22,o2,o3,lx,ho1]
    refine⟨l.length- (k+1),by omega,k+1,A,fz (l.take (k+1)),cs,_,tk,u1,rfl,by omega,rfl,rfl,hA,rfl,hLA,?_,hto,htu1,hso,hsu1,br (by simpa using hT1),hfl1⟩
    rw[hnext]
    exact⟨by rw[ak,ak,hLB.len,hLe.len,fm],by rw[gg,hLB.st,hLe.st,dF],kF hLB.np hLe.np⟩
  have hkl:l.take k=l:=bC (by omega)
  rw[hkl]at hA hB
  have hA3:=Dx (l:=A) (by rw[hA];exact xE l.length l 0 hgo)
  have hB3:=Dy (l:=B) (by rw[hB];exact hnd)
  have hkA:gd 3 A.length cs=true:=by rw[←mx,hLA.st];exact hA3.1
  have hkB:gd 5 B.length ds=true:=by rw[←mx,hLB.st];exact hB3.1
  simp only[↓pa,pb,aj,↓reduceIte,reduceEqDiff,reduceAdd,f3,o3,h1,g9]
  refine vy (X:=[]) (Y:=aq (.list B.length ds u)) hSN (.inl rfl) hto hso hLA.np hLA.len (by decide) (by omega) hkA hT (by omega) (fun st1 q1 hku hobj hbox hs1 hn1 hst1 hT1 hf1=>?_)
  have p2:=hobj 2 _ o2 rfl (by simp[aw,aq])
  have p3:=hbox 3 [] [.list B.length ds u] (by simpa using o3) rfl (by simp only[bc,hsu,am]) (by simp[aw])
  rw[bf]at p3
  simp only[↓pa,pb,aj,↓reduceIte,reduceEqDiff,reduceAdd,f3,g9,p3]
  refine vy (X:=aq q1) (Y:=[]) hSE (.inr rfl) htu hsu hLB.np hLB.len (by decide) (by omega) hkB (by simpa using hT1) hf1 (fun st2 q2 hku2 hobj2 hbox2 hs2 hn2 hst2 hT2 hf2=>?_)
  have r2:=hobj2 2 _ p2 rfl (by simp[aw,aq])
  have r3:=hbox2 3 [q1] [] p3 (by simp only[bc,hs1,am]) rfl (by simp[aw])
  have r3:st2.objs 3=some [q1,q2]:=r3
  rw[hLA.st,hA3.2]at hst1
  rw[hLB.st,hB3.2]at hst2
  have hst1':aA q1=NX (d7 l).nodes:=by rw[hst1,←FW A,hA];rfl
  have hst2':aA q2=EX (d7 l).edges:=by rw[hst2,←FY B,hB];rfl
  have hnp:aG [q1,q2]=true:=by
   have a1:al _ _=true:=hn1
   have a2:al _ _=true:=hn2
   show cM _ _=true
   simp only[cM,a1,a2,am]
  have hgc:aB [q1,q2]=gc (d7 l):=by simp only[ct,aF,bK,hst1',hst2'];rfl
  have hg46:∀ st,ar cf 46 [.agg [q1,q2]] [] st=some (.bool (bY (d7 l)),st):=fun st=>by
   rw[pI (bs:=[.agg (gc (d7 l))]) (by simp only[aF,bK,mV,hgc]) (by simp only[dc,du,bI,av,hnp,am]) (by simp[gQ])]
   exact zu K _
  cases hg:bY (d7 l)
  ·simp only[↓pa,↓bM,pb,aj,↓reduceIte,reduceEqDiff,reduceAdd,reduceLeDiff,f2,f3,g9,lx,r2,r3,hg46,hg]
   rw[e0,ai hg]
   exact⟨rfl,rfl,rfl,fp,rfl⟩
  ·simp only[↓pa,↓bM,pb,aj,↓reduceIte,reduceEqDiff,reduceAdd,reduceLeDiff,f2,f3,g9,lx,r2,r3,hg46,hg]
   rw[e0,ad (by rw[hg];simp)]
   refine⟨rfl,hnp,by simp only[aH,bc,hs1,hs2,am],?_,?_⟩
   ·have:aq (.agg [I 0,I 0,q1,q2])=aq q1++aq q2:=by simp[aq,aw]
    rw[this]
    exact br (by simpa using hT2)
   ·rw[mV]
    simp only[ct,aF,bK,hst1',hst2',gP]
    rfl
theorem zi{c:Nat}:∀ (l:List Nd) (k:Nat),(∀ n∈l,n.labels.length≤10∧n.fields.length≤20)→bO (l.map eL) k≤k+l.length*51
 | [],k,_=>by simp[bO]
 |n::l,k,h=>by
  have ih:=zi (c:=c) l (k+1+n.labels.length+2*n.fields.length) fun x hx=>h x (a7 _ hx)
  have h1:=h n List.mem_cons_self
  rw[aF,eL,bO,ao,fm]
  omega
theorem zj:∀ (l:List Eg) (k:Nat),(∀ n∈l,n.fields.length≤20)→cg (l.map e9) k≤k+l.length*44
 | [],k,_=>by simp[cg]
 |n::l,k,h=>by
  have ih:=zj l (k+4+2*n.fields.length) fun x hx=>h x (a7 _ hx)
  have h1:=h n List.mem_cons_self
  rw[aF,e9,cg,ao,fm]
  omega
theorem HA{g:bj}(h:qH g)(k:Nat):cg (g.edges.map e9) (bO (g.nodes.map eL) k)≤k+27800:=by
 have h1:=zi (c:=0) g.nodes k fun n hn=>⟨(h.ns n hn).1,(h.ns n hn).2.1⟩
 have h2:=zj g.edges (bO (g.nodes.map eL) k) fun n hn=>(h.es n hn).1
 have:=h.nl
 have:=h.el
 omega
theorem qY:qH g0:=⟨aY _,aY _,fun n hn=>(by cases hn),fun n hn=>(by cases hn)⟩
theorem Fy(l:List bj):qH (my l).graph:=by
 unfold my
 split
 ·exact qY
 split
 ·exact qY
 split
 ·exact qY
 split
 ·exact qY
 ·rename_i h
  exact JO (by simpa using h)
theorem Fz{g:bj}(h:qH g):sS g:=
 ⟨by have:=h.nl;omega,by have:=h.el;omega,fun x hx=>by have:=h.ns x hx;exact⟨by omega,by omega⟩,fun x hx=>by have:=h.es x hx;omega⟩
theorem Jl{cs ds:List PV}(h:aG cs=true)(h2:aG ds=true):([.agg cs,.agg ds]:List PV).all bI=true:=by
 simp only[dc,du,bI,av,h,h2,am]
theorem JN{cs:List PV}{n:Int}(h:aG cs=true):([.agg cs,I n]:List PV).all bI=true:=by
 simp only[dc,du,bI,av,h,am]
theorem Be:∀ (l:List bj) (k:Nat),fy (l.map l7) k≤k+4*eo kc l
 | [],k=>by simp[fy]
 |g::l,k=>by
  have h1:=Bf g k
  have ih:=Be l (cg (g.edges.map e9) (bO (g.nodes.map eL) k))
  rw[aF,l7,fy,nS]
  omega
theorem Lj(K:bH cf)(l:List bj)(hl:l.length≤eA)(h:∀ g∈l,uV g)(left:Nat)(hle:left≤2000000):ar cf 22 [GX l,I left] [] st=some (I (eM left (eo kc l)),st):=
 z6 K (f:=22) (F:=F22) rfl ⟨rfl,rfl,rfl,(lb rfl)⟩ gc ki qj kc l hl left hle fun a ha left st hl=>Li K a (h a ha) left hl
theorem xF(K:bH cf)(l:List bj)(hl:l.length≤2000000)(h:∀ g∈l,sS g):∃ r ns,ar cf 24 [GX l] [] st=some (r,st.more ns)∧cW st.nx ns r∧aA r=GX l:=
 zZ K (f:=24) (F:=F24) rfl ⟨rfl,rfl,rfl,rfl,(lb rfl)⟩ rfl (by decide) (by decide) gc ki qj l hl fun a ha st=>Mk K a (h a ha)
theorem LC(K:bH cf)(x:pC)(h:sS x.graph):ar cf 26 [.agg (gP x),.agg (gP x)] [] st=some (.bool true,st):=by
 refine cB K.tab (F:=F26) (t:=4) rfl rfl rfl (lb rfl) (by simp[fu (qS x)]) (bD _) 1 ?_
 have hg:∀ st,ar cf 13 [.agg [NX x.graph.nodes,EX x.graph.edges],.agg [NX x.graph.nodes,EX x.graph.edges]] [] st=some (.bool true,st):=fun st=>Gx K x.graph h
 unfold F26 qg qr qc qb ql qf qu qo
 simp only[↓pa,pb,aj,↓reduceIte,reduceEqDiff,reduceAdd,reduceLeDiff,dD,gP,hg]
theorem IB(K:bH cf)(k:Nat)(c i:Int)(a:List (Nat×Nat))(b:List Nat)(hk:cg b (bO a k)≤1000000000000):ar cf 28 [.agg (gP ⟨c,i,lz a b k⟩),I k] [] st=some (I (cg b (bO a k):Nat),st):=by
 refine cB K.tab (F:=F28) (t:=4) rfl rfl rfl (lb rfl) (by simp[fu (qS _),aQ]) (dn _ _) 1 ?_
 have h1:∀ st,ar cf 74 [.agg [NX (lz a b k).nodes,EX (lz a b k).edges],I k] [] st=some (I (cg b (bO a k):Nat),st):=fun st=>Kl K k a b hk
 unfold F28 qg qr qm qi qk ql qf qu qo
 simp only[↓pa,pb,aj,↓reduceIte,reduceEqDiff,reduceAdd,reduceLeDiff,gP,h1,tI]
set_option maxHeartbeats 4000000 in
theorem Iy(K:bH cf)(k:Nat)(x:pC)(hk:cg (x.graph.edges.map e9) (bO (x.graph.nodes.map eL) k)≤1000000000000){cs:List PV}(hst:aB cs=gc x.graph)(hs:bc cs=true)(hn:aG cs=true)(hT:a6 st (aw cs)):
  ∃ p ns,uP cf 27 [.agg (I x.code::I x.at_::cs),I k] st=some (I (cg (x.graph.edges.map e9) (bO (x.graph.nodes.map eL) k):Nat),p,ez ((aw cs).map (·.1)) ns st)∧cW st.nx ns p∧aA p= .agg (gP ⟨x.code,x.at_,lz (x.graph.nodes.map eL) (x.graph.edges.map e9) k⟩)∧cX [.agg (I x.code::I x.at_::cs),I k] [0] st=(aw cs).map (·.1):=by
 rw[←qJ (c:=x.code) (i:=x.at_)]
 refine C5 K.tab (cs:=I x.code::I x.at_::cs) (f:=27) (F:=FB27) (t:=4) rfl rfl rfl (by simpa [bc,aH]using hs) hn (by rw[qJ];exact hT) (lb rfl) 1 (fun c0 ns hst0 hnp0 hso0 hTB=>?_)
 have hst1:aB c0=gP x:=by
  rw[hst0,ct,aF,aF,←ct,hst];rfl
 clear hs hn hT hst hst0
 obtain⟨ds,rfl,hd⟩:=pd hst1
 have hs:bc ds=true:=by simpa [bc,aH]using hso0
 have hn:aG ds=true:=hnp0
 have hT:a6 (cF ns []) (aw ds):=by rw[qJ]at hTB;exact hTB
 clear hso0 hnp0 hTB hst1
 have hm:∀ {st:St},a6 st (aw ds)→_:=fun{st} h=>Iz (st:=st) K k x.graph hk hd hs hn h
 obtain⟨ca,ta,cb,tb,rfl,-,-⟩:=tg hd
 unfold FB27 qr qm qi ql qf qo
 simp only[↓pa,pb,aj,↓reduceIte,reduceEqDiff,reduceAdd,reduceLeDiff,g9]
 refine zH hn (hm (br hT)) (fun es ns1 hu hF hv htk=>?_)
 obtain⟨p,q,h1,h2,h3,h4,h5⟩:=w7 rfl rfl hd hs (br hT) hv hF (aY _)
 have hkk:kU (some (I (cg (x.graph.edges.map e9) (bO (x.graph.nodes.map eL) k):Nat),.agg es,ez ((aw [.list x.graph.nodes.length ca ta,.list x.graph.edges.length cb tb]).map (·.1)) ns1 (bU (cF ns []) 2 [I x.code,I x.at_,.list x.graph.nodes.length ca ta,.list x.graph.edges.length cb tb]))) [.agg [.list x.graph.nodes.length ca ta,.list x.graph.edges.length cb tb],I k] (bU (cF ns []) 2 [I x.code,I x.at_,.list x.graph.nodes.length ca ta,.list x.graph.edges.length cb tb]) (.agg [I x.code,I x.at_,.list x.graph.nodes.length ca ta,.list x.graph.edges.length cb tb])= .agg [I x.code,I x.at_,p,q]:=by
  rw[FO,htk]
  show PV.agg (I x.code::I x.at_::fA _ _ [.list x.graph.nodes.length ca ta,.list x.graph.edges.length cb tb])=_
  rw[h1]
 simp only[↓pa,pb,↓reduceIte,reduceCtorEq,g9,hu,hkk]
 refine⟨_,rfl,rfl,h3,by simpa [aH,bc]using h2,?_,rfl,?_⟩
 ·have:aq (.agg [I x.code,I x.at_,p,q])=aw [p,q]:=by simp[aq,aw]
  rw[this]
  exact h5
 ·rw[mV]
  simp only[ct,aF,bK]at h4 ⊢
  simp only[gc,List.cons.injEq,and_true]at h4
  simp only[gP,h4.1,h4.2,av]
theorem GJ(K:bH cf){k:Nat}{x:pC}(hk:cg (x.graph.edges.map e9) (bO (x.graph.nodes.map eL) k)≤1000000000000){p q:PV}(hst:aB [p,q]=gc x.graph)(hs:bc [p,q]=true)(hn:aG [p,q]=true)(hT:a6 st (aw [p,q]))(hf:st.fl≤st.nx)
  (kk:∀ ns ds l u v,(∀ z∈l,((aw [p,q]).map (·.1)).contains z.1=true)→uP cf 27 [.agg [I x.code,I x.at_,p,q],I k] st=some (I (cg (x.graph.edges.map e9) (bO (x.graph.nodes.map eL) k):Nat),.agg ds,ez ((aw [p,q]).map (·.1)) ns st)→
   (∀ q',kU (uP cf 27 [.agg [I x.code,I x.at_,p,q],I k] st) [.agg [I x.code,I x.at_,p,q],I k] st q'=gG ((aw [p,q]).map (·.1)) l q')→
   fA ((aw [p,q]).map (·.1)) l [I x.code,I x.at_,p,q]=[I x.code,I x.at_,u,v]→aG [u,v]=true→aB [u,v]=gc (lz (x.graph.nodes.map eL) (x.graph.edges.map e9) k)→
   A (mk (I (cg (x.graph.edges.map e9) (bO (x.graph.nodes.map eL) k):Nat)) (yn ((aw [p,q]).map (·.1)) l st (ez ((aw [p,q]).map (·.1)) ns st)))):
  cT (uR 27 (uP cf 27 [.agg [I x.code,I x.at_,p,q],I k] st) [.agg [I x.code,I x.at_,p,q],I k] st) mk A:=by
 refine zH (by exact hn) (Iy K k x hk hst hs hn hT) (fun ds ns hu hF hv htk=>?_)
 obtain⟨es,rfl,hes⟩:=pd hv
 obtain⟨u,v,h1,h2,h3,h4,h5⟩:=w7 rfl rfl hst hs hT hes (GL hF) hf
 have hsel:fD (I x.code::I x.at_::[p,q]) (I x.code::I x.at_::es)=fD [p,q] es:=rfl
 have hin:=KM (cs:=[p,q]) (ds:=es)
 have hk2:=kk ns (I x.code::I x.at_::es) (fD [p,q] es) u v hin hu (fun q'=>by rw[hu,FO,htk,hsel]) (by show I x.code::I x.at_::fA _ _ [p,q]=_;rw[h1]) h3 h4
 exact hk2
theorem Cu{n:Nat}{cs:List PV}{t:ay}(h:aG cs=true):([.list n cs t]:List PV).all bI=true:=by
 simp only[dc,du,bI,av,h,am]
theorem Hj{n m:Nat}{cs ds:List PV}{t u:ay}(h:aG cs=true)(h2:aG ds=true):([.list n cs t,.list m ds u]:List PV).all bI=true:=by
 simp only[dc,du,bI,av,h,h2,am]
set_option maxHeartbeats 32000000 in
theorem Lw(K:bH cf)(hSN:sO cf 69 70 3 72)(hSE:sO cf 72 73 5 68)(l:List bj)(hl:l.length≤eA)(hB:∀ g∈l,uV g):ar cf 5 [GX l] [] st=some (.bool true,st):=by
 refine cB K.tab (F:=F5) (t:=2) rfl rfl rfl (lb rfl) (by simp[iI]) (bD _) 1 ?_
 have hsz:=fun st=>Lj (st:=st) K l hl hB 1048576 (by omega)
 have e48:((1048576:Nat):Int)=1048576:=rfl
 rw[e48]at hsz
 have hp:=iI l
 unfold F5 qg qr qm qi qc qb qk ql qt qu qx qs qo qN
 simp only[↓pa,pb,↓reduceIte,reduceEqDiff,reduceCtorEq,hsz]
 by_cases hs:eo kc l≤1048576
 rotate_left
 ·have hd:eM 1048576 (eo kc l)= -1:=by rw[eM,ad hs]
  simp only[↓pa,pb,↓reduceIte,Int.reduceLT,hd]
 have hd:eM 1048576 (eo kc l)=((1048576-eo kc l:Nat):Int):=by rw[eM,ai hs]
 have hFs:∀ g∈l,sS g:=fun g hg=>J0 (by have:=xU (m:=kc) hg;omega)
 have hll:l.length≤2000000:=by have:= @lQ _ kc l;omega
 have hFG:EP l:=⟨hll,hFs⟩
 have hsame:=FP l
 have hok:=Fy l
 have hjS:=fun st=>Kh (st:=st) K l hFG
 have hjP:=fun st=>Ki (st:=st) K hSN hSE l hFG
 rw[hsame]at hjP
 generalize hR:my l=R at*
 clear hR hsame
 have hFR:=Fz hok
 have hrl:(gP R).length=4:=rfl
 have hrt:List.take 4 (gP R)=gP R:=rfl
 have hrp:=qS R
 have hpc:putCells [.int .i64 0,.int .i64 0,.list 0 [] .nil,.list 0 [] .nil] 0 (gP R)=gP R:=rfl
 simp only[↓pa,pb,↓reduceIte,reduceCtorEq,hd,tI]
 refine eV (xF K l hll hFs) (fun r ns hFr hr=>?_)
 obtain⟨c1,t1,rfl,hc1,-⟩:=cw hr
 simp only[↓pa,pb,↓reduceIte]
 refine EK (p:= .agg (gP R)) ?_ ?_ (fun fl hfl=>?_)
 ·rw[pI (bs:=[GX l]) (by simp only[aF,bK,av,hc1]) (Cu hFr.np) (by simp[iI])]
  exact hjS _
 ·simp only[St.more_fl,St.more_nx];exact aY _
 simp only[↓pa,pb,aj,↓reduceIte,reduceEqDiff,reduceAdd,reduceLeDiff,reduceCtorEq,hrl,hpc]
 generalize hS0:bU (bU (cQ ((cF [] []).more ns) fl) 4 [.int .i64 0,.int .i64 0,.list 0 [] .nil,.list 0 [] .nil]) 4 (gP R)=S0 at*
 have o4:S0.objs 4=some (gP R):=by rw[←hS0];simp only[pb,↓reduceIte]
 have hf0:S0.fl≤S0.nx:=by rw[←hS0];exact hfl
 clear hS0 hFr hr hfl
 refine eV (xF K l hll hFs) (fun r2 ns2 hFr2 hr2=>?_)
 obtain⟨c5,t5,rfl,hst5,-⟩:=cw hr2
 have hT1:=ew (st:=S0) fp hf0 ns2
 rw[bf,←hFr2.tk]at hT1
 have hso5:=hFr2.so
 have hnp5:aG c5=true:=hFr2.np
 have p4:(S0.more ns2).objs 4=some (gP R):=by rw[St.more_objs];exact o4
 have hf1:(S0.more ns2).fl≤(S0.more ns2).nx:=by rw[St.more_fl,St.more_nx];omega
 simp only[↓pa,pb,↓reduceIte]
 generalize S0.more ns2=S1 at*
 clear hFr2 hr2 o4 hf0
 have h25:∀ {st:St} {cs:List PV} {t:ay},aB cs=l.flatMap gc→aG cs=true→∃ r ns,ar cf 25 [.list l.length cs t] [] st=some (r,st.more ns)∧cW st.nx ns r∧aA r= .agg (gP R):=fun{st cs t} h1 h2=>by
  rw[pI (bs:=[GX l]) (by simp only[aF,bK,av,h1]) (Cu h2) (by simp[iI])]
  exact hjP _
 refine eV (h25 hst5 hnp5) (fun r6 ns3 hFr6 hr6=>?_)
 obtain⟨c6,rfl,hst6⟩:=jl hr6
 obtain⟨d6,rfl,hst6'⟩:=pd hst6
 obtain⟨x6,y6,rfl⟩:∃ x y,d6=[x,y]:=by
  have hl:d6.length=2:=by rw[←cZ,hst6'];rfl
  match d6,hl with
  | [x,y],_=>exact⟨x,y,rfl⟩
 have hT2:=ew hT1 hf1 ns3
 have htk6:aw [x6,y6]=cY S1.nx ns3:=by have:=hFr6.tk;simpa [aq,aw]using this
 rw[←htk6]at hT2
 have hso6:bc [x6,y6]=true:=by have:=hFr6.so;simpa [aH,bc]using this
 have hnp6:aG [I R.code,I R.at_,x6,y6]=true:=hFr6.np
 have hnp6':aG [x6,y6]=true:=by simpa [aG,cM,al]using hnp6
 simp only[↓pa,pb,aj,↓reduceIte,reduceEqDiff,reduceAdd,reduceLeDiff,lx,hrl,hrt,p4]
 generalize hS2:bU (bU (S1.more ns3) 6 [.int .i64 0,.int .i64 0,.list 0 [] .nil,.list 0 [] .nil]) 6 [I R.code,I R.at_,x6,y6]=S2 at*
 have o4:S2.objs 4=some (gP R):=by rw[←hS2];simp only[pb,↓reduceIte,reduceEqDiff,lx,p4]
 have o6:S2.objs 6=some [I R.code,I R.at_,x6,y6]:=by rw[←hS2];simp only[pb,↓reduceIte]
 have hT2:a6 S2 (aq (.list l.length c5 t5)++aw [x6,y6]):=by rw[←hS2];exact br (br hT2)
 have hf2:S2.fl≤S2.nx:=by rw[←hS2];show(S1.more ns3).fl≤(S1.more ns3).nx;rw[St.more_fl,St.more_nx];omega
 clear hS2 hFr6 hr6 htk6 p4 hf1 hT1
 have h26:∀ {st:St} {cs:List PV},aB cs=gP R→aG cs=true→ar cf 26 [.agg cs,.agg (gP R)] [] st=some (.bool true,st):=fun{st cs} h1 h2=>by
  rw[pI (bs:=[.agg (gP R),.agg (gP R)]) (by simp only[aF,bK,mV,h1,hrp.2.1]) (Jl h2 hrp.1) (by simp[fu hrp])]
  exact LC K R hFR
 have h26a:=fun st=>h26 (st:=st) hst6 hnp6
 simp only[↓pa,pb,↓reduceIte,reduceEqDiff,reduceCtorEq,h26a]
 refine eV (xF K l hll hFs) (fun r3 ns4 hFr3 hr3=>?_)
 obtain⟨c29,t29,rfl,hc29,-⟩:=cw hr3
 have hnp29:aG c29=true:=hFr3.np
 have h12:∀ st:St,ar cf 12 [.list l.length c5 t5,.list l.length c29 t29] [] st=some (.bool true,st):=fun st=>by
  rw[pI (bs:=[GX l,GX l]) (by simp only[aF,bK,av,hst5,hc29]) (Hj hnp5 hnp29) (by simp[iI])]
  exact LB K l hll hFs
 have hT3:a6 (S2.more ns4) (aq (.list l.length c5 t5)++aw [x6,y6]):=fH (ew hT2 hf2 ns4) (fun j=>by simp only[bW];omega) (fun q hq=>by rw[ax];exact .inl hq)
 have p4:(S2.more ns4).objs 4=some (gP R):=by rw[St.more_objs];exact o4
 have p6:(S2.more ns4).objs 6=some [I R.code,I R.at_,x6,y6]:=by rw[St.more_objs];exact o6
 have hf3:(S2.more ns4).fl≤(S2.more ns4).nx:=by rw[St.more_fl,St.more_nx];omega
 generalize S2.more ns4=S3 at*
 clear hFr3 hr3 hT2 hf2 o4 o6
 simp only[↓pa,pb,↓reduceIte,reduceEqDiff,h12,g9]
 have hz:=Be l 1
 have hL5:kO gc 2 l c5:=rR ki hst5 hnp5
 have e1:((1:Nat):Int)=1:=rfl
 have hmu:=Ix (st:=S3) K 1 l (by omega) (by omega) hso5 hL5 (fH hT3 (fun j=>by simp only[bW];omega) (fun q hq=>by simp[hq]))
 rw[e1]at hmu
 generalize fy (l.map l7) 1=k3 at*
 refine sP hmu (fun p5 ns5 hu hF5 hv htk=>?_)
 have hap:∀ q∈aw [x6,y6],q.1∉(aq (.list l.length c5 t5)).map (·.1):=fun q hq=>lJ (X:=[]) (B:=aq (.list l.length c5 t5)) (Y:=aw [x6,y6]) (by simpa using hT3) q (by simpa using hq)
 have hkpu:= @HR l.length c5 [I 1] t5 (I k3) p5 (ez ((aq (.list l.length c5 t5)).map (·.1)) ns5 S3) S3 htk _ hp
 have hT4:=qD (st:=S3) (A:=[]) (B:=aq (.list l.length c5 t5)) (C:=aw [x6,y6]) (ns:=ns5) (by simpa using hT3) hf3
 have hT4:a6 (ez ((aq (.list l.length c5 t5)).map (·.1)) ns5 S3) (aw [x6,y6]):=fH hT4 (fun j=>by simp only[bW];omega) (fun q hq=>by simp[hq])
 have o4:(ez ((aq (.list l.length c5 t5)).map (·.1)) ns5 S3).objs 4=some (gP R):=by rw[si,p4];exact aC some (FI hrp)
 have o6:(ez ((aq (.list l.length c5 t5)).map (·.1)) ns5 S3).objs 6=some [I R.code,I R.at_,x6,y6]:=by rw[si,p6];exact aC some (FH (by simpa [bc,aH]using hso6) fun q hq=>hap q (by rw[qJ]at hq;exact hq))
 have hf4:(ez ((aq (.list l.length c5 t5)).map (·.1)) ns5 S3).fl≤(ez ((aq (.list l.length c5 t5)).map (·.1)) ns5 S3).nx:=by show S3.fl≤(S3.more ns5).nx;rw[St.more_nx];omega
 generalize ez ((aq (.list l.length c5 t5)).map (·.1)) ns5 S3=S4 at*
 clear hT3 hf3 p4 p6 hap
 simp only[↓pa,pb,aj,↓reduceIte,reduceEqDiff,reduceAdd,reduceLeDiff,hrl,hrt,o4,o6,g9,hu,tI,h26a]
 have hz4:=HA hok 1
 refine GJ K (k:=1) (x:=R) (by omega) hst6' hso6 hnp6' hT4 hf4 (fun ns6 ds6 l6 u9 v9 hin hu6 hku hbm hnpq hstq=>?_)
 rw[e1]at hku
 have hb0:∀ {J:List Nat} {l:List (Nat×Nat×PV)} {s k:Nat},gG J l (.ptr s k)= .ptr s k:=rfl
 have hb1:∀ {J:List Nat} {l:List (Nat×Nat×PV)} {k:IntKind} {n:Int},gG J l (.int k n)= .int k n:=rfl
 have hb2:∀ {J:List Nat} {l:List (Nat×Nat×PV)} {b:Bool},gG J l (.bool b)= .bool b:=rfl
 have hbp:=zA hin hp
 have q4:(yn ((aw [x6,y6]).map (·.1)) l6 S4 (ez ((aw [x6,y6]).map (·.1)) ns6 S4)).objs 4=some (gP R):=by
  show(S4.objs 4).map _=_
  rw[o4];exact aC some (EH hin hrp)
 have q6:(yn ((aw [x6,y6]).map (·.1)) l6 S4 (ez ((aw [x6,y6]).map (·.1)) ns6 S4)).objs 6=some [I R.code,I R.at_,u9,v9]:=by
  show(S4.objs 6).map _=_
  rw[o6];exact aC some hbm
 generalize yn ((aw [x6,y6]).map (·.1)) l6 S4 (ez ((aw [x6,y6]).map (·.1)) ns6 S4)=S5 at*
 have h28:∀ st:St,ar cf 28 [.agg [I R.code,I R.at_,u9,v9],I 1] [] st=some (I (cg (R.graph.edges.map e9) (bO (R.graph.nodes.map eL) 1):Nat),st):=fun st=>by
  have hst:aB [I R.code,I R.at_,u9,v9]=gP ⟨R.code,R.at_,lz (R.graph.nodes.map eL) (R.graph.edges.map e9) 1⟩:=by
   rw[ct,aF,aF,←ct,hstq];rfl
  rw[pI (bs:=[.agg (gP ⟨R.code,R.at_,lz (R.graph.nodes.map eL) (R.graph.edges.map e9) 1⟩),I 1]) (by simp only[aF,bK,mV,hst];rfl) (JN (cs:=[I R.code,I R.at_,u9,v9]) hnpq) (by simp[fu (qS _),aQ])]
  exact IB K 1 R.code R.at_ _ _ (by omega)
 generalize cg (R.graph.edges.map e9) (bO (R.graph.nodes.map eL) 1)=k4 at*
 clear hu6 hbm hstq hT4 o4 o6 hin
 simp only[↓pa,pb,aj,↓reduceIte,reduceEqDiff,reduceAdd,reduceLeDiff,dD,reduceCtorEq,q6,g9,hkpu,hku,hbp,hb0,tI,h28]
 refine eV (xF K l hll hFs) (fun r4 ns7 hFr4 hr4=>?_)
 obtain⟨c55,t55,rfl,hc55,-⟩:=cw hr4
 have p4:(S5.more ns7).objs 4=some (gP R):=by rw[St.more_objs];exact q4
 have p6:(S5.more ns7).objs 6=some [I R.code,I R.at_,u9,v9]:=by rw[St.more_objs];exact q6
 generalize S5.more ns7=S6 at*
 have hnp55:aG c55=true:=hFr4.np
 simp only[↓pa,pb,↓reduceIte]
 refine eV (h25 hc55 hnp55) (fun r10 ns8 hFr10 hr10=>?_)
 obtain⟨c10,rfl,hst10⟩:=jl hr10
 obtain⟨d10,rfl,hst10'⟩:=pd hst10
 obtain⟨x10,y10,rfl⟩:∃ x y,d10=[x,y]:=by
  have hl:d10.length=2:=by rw[←cZ,hst10'];rfl
  match d10,hl with
  | [x,y],_=>exact⟨x,y,rfl⟩
 have hnp10:aG [I R.code,I R.at_,x10,y10]=true:=hFr10.np
 have q4:(S6.more ns8).objs 4=some (gP R):=by rw[St.more_objs];exact p4
 have q6:(S6.more ns8).objs 6=some [I R.code,I R.at_,u9,v9]:=by rw[St.more_objs];exact p6
 generalize S6.more ns8=S7 at*
 have h26b:=fun st=>h26 (st:=st) hst10 hnp10
 simp only[↓pa,pb,aj,↓reduceIte,reduceEqDiff,reduceAdd,reduceLeDiff,dD,hrl,hrt,q4,q6,g9,hku,hb0,tI,h28,h26b]
end Go.PM
namespace Go.Proofs
open Go.Shelf Go.PM
def Tryz.sortN_ren:Go.Shelf.Ren:=⟨fun|6=>69|15=>110|14=>109|28=>145|29=>146|20=>137|21=>138|22=>139|23=>140|24=>141|25=>142|26=>143|27=>144|46=>178|47=>179|48=>180|49=>181|50=>182|57=>198|n=>n,fun|22=>29|24=>72|25=>98|3=>3|39=>138|0=>0|53=>168|55=>170|4=>4|46=>161|45=>160|50=>165|5=>5|9=>9|66=>189|70=>193|76=>216|77=>217|n=>n,fun|n=>n⟩
theorem Tryz.sortN:Go.Proofs.SlLaysF0.n6 Tryz.prog Tryz.sortN_ren:={
 mixed:=by kernel_rfl
 f6:=⟨Tryz.f69.name,by decide,Tryz.func69.trans (aC some (by kernel_rfl))⟩
 f14:=⟨Tryz.f109.name,by decide,Tryz.func109.trans (aC some (by kernel_rfl))⟩
 f15:=Tryz.func110.trans (aC some (by kernel_rfl))
 f20:=⟨Tryz.f137.name,by decide,Tryz.func137.trans (aC some (by kernel_rfl))⟩
 f21:=⟨Tryz.f138.name,by decide,Tryz.func138.trans (aC some (by kernel_rfl))⟩
 f22:=⟨Tryz.f139.name,by decide,Tryz.func139.trans (aC some (by kernel_rfl))⟩
 f23:=⟨Tryz.f140.name,by decide,Tryz.func140.trans (aC some (by kernel_rfl))⟩
 f24:=⟨Tryz.f141.name,by decide,Tryz.func141.trans (aC some (by kernel_rfl))⟩
 f25:=⟨Tryz.f142.name,by decide,Tryz.func142.trans (aC some (by kernel_rfl))⟩
 f26:=⟨Tryz.f143.name,by decide,Tryz.func143.trans (aC some (by kernel_rfl))⟩
 f27:=⟨Tryz.f144.name,by decide,Tryz.func144.trans (aC some (by kernel_rfl))⟩
 f28:=Tryz.func145.trans (aC some (by kernel_rfl))
 f29:=Tryz.func146.trans (aC some (by kernel_rfl))
 f46:=⟨Tryz.f178.name,by decide,Tryz.func178.trans (aC some (by kernel_rfl))⟩
 f47:=Tryz.func179.trans (aC some (by kernel_rfl))
 f48:=Tryz.func180.trans (aC some (by kernel_rfl))
 f49:=⟨Tryz.f181.name,by decide,Tryz.func181.trans (aC some (by kernel_rfl))⟩
 f50:=⟨Tryz.f182.name,by decide,Tryz.func182.trans (aC some (by kernel_rfl))⟩
 f57:=⟨Tryz.f198.name,by decide,Tryz.func198.trans (aC some (by kernel_rfl))⟩
 t0:=Tryz.underlying0
 a0:=Tryz.isAgg0
 z0:=Tryz.sizeOf0
 v0:=Tryz.zeroValue0
 t3:=Tryz.underlying3
 a3:=Tryz.isAgg3
 z3:=Tryz.sizeOf3
 v3:=Tryz.zeroValue3
 t4:=Tryz.underlying4
 a4:=Tryz.isAgg4
 z4:=Tryz.sizeOf4
 v4:=Tryz.zeroValue4
 t5:=Tryz.underlying5
 a5:=Tryz.isAgg5
 z5:=Tryz.sizeOf5
 v5:=Tryz.zeroValue5
 t9:=Tryz.underlying9
 a9:=Tryz.isAgg9
 z9:=Tryz.sizeOf9
 v9:=Tryz.zeroValue9
 t22:=Tryz.underlying29
 a22:=Tryz.isAgg29
 z22:=Tryz.sizeOf29
 v22:=Tryz.zeroValue29
 t25:=Tryz.underlying98
 a25:=Tryz.isAgg98
 z25:=Tryz.sizeOf98
 v25:=Tryz.zeroValue98
 t39:=Tryz.underlying138
 a39:=Tryz.isAgg138
 z39:=Tryz.sizeOf138
 v39:=Tryz.zeroValue138
 t45:=Tryz.underlying160
 a45:=Tryz.isAgg160
 z45:=Tryz.sizeOf160
 v45:=Tryz.zeroValue160
 t46:=Tryz.underlying161
 a46:=Tryz.isAgg161
 z46:=Tryz.sizeOf161
 v46:=Tryz.zeroValue161
 t50:=Tryz.underlying165
 a50:=Tryz.isAgg165
 z50:=Tryz.sizeOf165
 v50:=Tryz.zeroValue165
 t53:=Tryz.underlying168
 a53:=Tryz.isAgg168
 z53:=Tryz.sizeOf168
 v53:=Tryz.zeroValue168
 t55:=Tryz.underlying170
 a55:=Tryz.isAgg170
 z55:=Tryz.sizeOf170
 v55:=Tryz.zeroValue170
 t66:=Tryz.underlying189
 a66:=Tryz.isAgg189
 z66:=Tryz.sizeOf189
 v66:=Tryz.zeroValue189
 t70:=Tryz.underlying193
 a70:=Tryz.isAgg193
 z70:=Tryz.sizeOf193
 v70:=Tryz.zeroValue193
 t76:=Tryz.underlying216
 a76:=Tryz.isAgg216
 z76:=Tryz.sizeOf216
 v76:=Tryz.zeroValue216
 t77:=Tryz.underlying217
 a77:=Tryz.isAgg217
 z77:=Tryz.sizeOf217
 v77:=Tryz.zeroValue217}
def Tryz.sortE_ren:Go.Shelf.Ren:=⟨fun|6=>72|15=>110|14=>111|28=>145|29=>146|20=>147|21=>148|22=>149|23=>150|24=>151|25=>152|26=>153|27=>154|46=>183|47=>179|48=>180|49=>184|50=>185|57=>199|n=>n,fun|22=>30|24=>68|25=>100|3=>3|39=>138|0=>0|53=>168|55=>170|4=>4|46=>161|45=>160|50=>165|5=>5|9=>9|66=>189|70=>193|76=>216|77=>217|n=>n,fun|n=>n⟩
theorem Tryz.sortE:Go.Proofs.SlLaysF0.n6 Tryz.prog Tryz.sortE_ren:={
 mixed:=by kernel_rfl
 f6:=⟨Tryz.f72.name,by decide,Tryz.func72.trans (aC some (by kernel_rfl))⟩
 f14:=⟨Tryz.f111.name,by decide,Tryz.func111.trans (aC some (by kernel_rfl))⟩
 f15:=Tryz.func110.trans (aC some (by kernel_rfl))
 f20:=⟨Tryz.f147.name,by decide,Tryz.func147.trans (aC some (by kernel_rfl))⟩
 f21:=⟨Tryz.f148.name,by decide,Tryz.func148.trans (aC some (by kernel_rfl))⟩
 f22:=⟨Tryz.f149.name,by decide,Tryz.func149.trans (aC some (by kernel_rfl))⟩
 f23:=⟨Tryz.f150.name,by decide,Tryz.func150.trans (aC some (by kernel_rfl))⟩
 f24:=⟨Tryz.f151.name,by decide,Tryz.func151.trans (aC some (by kernel_rfl))⟩
 f25:=⟨Tryz.f152.name,by decide,Tryz.func152.trans (aC some (by kernel_rfl))⟩
 f26:=⟨Tryz.f153.name,by decide,Tryz.func153.trans (aC some (by kernel_rfl))⟩
 f27:=⟨Tryz.f154.name,by decide,Tryz.func154.trans (aC some (by kernel_rfl))⟩
 f28:=Tryz.func145.trans (aC some (by kernel_rfl))
 f29:=Tryz.func146.trans (aC some (by kernel_rfl))
 f46:=⟨Tryz.f183.name,by decide,Tryz.func183.trans (aC some (by kernel_rfl))⟩
 f47:=Tryz.func179.trans (aC some (by kernel_rfl))
 f48:=Tryz.func180.trans (aC some (by kernel_rfl))
 f49:=⟨Tryz.f184.name,by decide,Tryz.func184.trans (aC some (by kernel_rfl))⟩
 f50:=⟨Tryz.f185.name,by decide,Tryz.func185.trans (aC some (by kernel_rfl))⟩
 f57:=⟨Tryz.f199.name,by decide,Tryz.func199.trans (aC some (by kernel_rfl))⟩
 t0:=Tryz.underlying0
 a0:=Tryz.isAgg0
 z0:=Tryz.sizeOf0
 v0:=Tryz.zeroValue0
 t3:=Tryz.underlying3
 a3:=Tryz.isAgg3
 z3:=Tryz.sizeOf3
 v3:=Tryz.zeroValue3
 t4:=Tryz.underlying4
 a4:=Tryz.isAgg4
 z4:=Tryz.sizeOf4
 v4:=Tryz.zeroValue4
 t5:=Tryz.underlying5
 a5:=Tryz.isAgg5
 z5:=Tryz.sizeOf5
 v5:=Tryz.zeroValue5
 t9:=Tryz.underlying9
 a9:=Tryz.isAgg9
 z9:=Tryz.sizeOf9
 v9:=Tryz.zeroValue9
 t22:=Tryz.underlying30
 a22:=Tryz.isAgg30
 z22:=Tryz.sizeOf30
 v22:=Tryz.zeroValue30
 t25:=Tryz.underlying100
 a25:=Tryz.isAgg100
 z25:=Tryz.sizeOf100
 v25:=Tryz.zeroValue100
 t39:=Tryz.underlying138
 a39:=Tryz.isAgg138
 z39:=Tryz.sizeOf138
 v39:=Tryz.zeroValue138
 t45:=Tryz.underlying160
 a45:=Tryz.isAgg160
 z45:=Tryz.sizeOf160
 v45:=Tryz.zeroValue160
 t46:=Tryz.underlying161
 a46:=Tryz.isAgg161
 z46:=Tryz.sizeOf161
 v46:=Tryz.zeroValue161
 t50:=Tryz.underlying165
 a50:=Tryz.isAgg165
 z50:=Tryz.sizeOf165
 v50:=Tryz.zeroValue165
 t53:=Tryz.underlying168
 a53:=Tryz.isAgg168
 z53:=Tryz.sizeOf168
 v53:=Tryz.zeroValue168
 t55:=Tryz.underlying170
 a55:=Tryz.isAgg170
 z55:=Tryz.sizeOf170
 v55:=Tryz.zeroValue170
 t66:=Tryz.underlying189
 a66:=Tryz.isAgg189
 z66:=Tryz.sizeOf189
 v66:=Tryz.zeroValue189
 t70:=Tryz.underlying193
 a70:=Tryz.isAgg193
 z70:=Tryz.sizeOf193
 v70:=Tryz.zeroValue193
 t76:=Tryz.underlying216
 a76:=Tryz.isAgg216
 z76:=Tryz.sizeOf216
 v76:=Tryz.zeroValue216
 t77:=Tryz.underlying217
 a77:=Tryz.isAgg217
 z77:=Tryz.sizeOf217
 v77:=Tryz.zeroValue217}
end Go.Proofs
namespace Go.Proofs
open Go.Shelf Go.RowKit Go.Lib Go.Sort
open Go.PM (ai ad)
def tl(a b:Int):Int:=if a<b then-1 else if b<a then 1 else 0
set_option maxHeartbeats 1000000 in
theorem Tryz.sign71(a b:Int)(W:World):Calls Tryz.prog 71 #[.int .i64 a,.int .i64 b] W fun e w'=>e= .returned (.int .i64 (tl a b))∧w'=W:=by
 unfold tl
 by_cases h1:a<b
 ·rw[ai h1]
  go_enter Tryz.func71,Tryz.ntmps71
  go_wp2
  go_ret
  exact⟨rfl,rfl⟩
 ·rw[ad h1]
  by_cases h2:b<a
  ·rw[ai h2]
   go_enter Tryz.func71,Tryz.ntmps71
   go_wp2
   go_ret
   exact⟨rfl,rfl⟩
  ·rw[ad h2]
   go_enter Tryz.func71,Tryz.ntmps71
   go_wp2
   go_ret
   exact⟨rfl,rfl⟩
set_option maxHeartbeats 1000000 in
theorem Tryz.closure70(a b:Int)(p q r s:Value)(W:World):Calls Tryz.prog 70 #[.agg #[.int .i64 a,p,q],.agg #[.int .i64 b,r,s]] W fun e w'=>e= .returned (.int .i64 (tl a b))∧∃ q os',w'=grow (W.drewN q) os':=by
 have hcon:=fun W'=>Tryz.sign71 a b W'
 generalize tl a b=x at hcon ⊢
 go_enter Tryz.func70,Tryz.ntmps70
 go_wp2_with (go_at_call 71;refine(hcon _).mono ?_;rintro e w' ⟨rfl,rfl⟩)
 go_ret
 exact⟨rfl,0,_,by rw[alloc_eq_grow,alloc_eq_grow,grow_grow];rfl⟩
set_option maxHeartbeats 1000000 in
theorem Tryz.closure73(a b:Int)(p q r s p' q' r' s':Value)(W:World):Calls Tryz.prog 73 #[.agg #[.int .i64 a,p,q,r,s],.agg #[.int .i64 b,p',q',r',s']] W fun e w'=>e= .returned (.int .i64 (tl a b))∧∃ q os',w'=grow (W.drewN q) os':=by
 have hcon:=fun W'=>Tryz.sign71 a b W'
 generalize tl a b=x at hcon ⊢
 go_enter Tryz.func73,Tryz.ntmps73
 go_wp2_with (go_at_call 71;refine(hcon _).mono ?_;rintro e w' ⟨rfl,rfl⟩)
 go_ret
 exact⟨rfl,0,_,by rw[alloc_eq_grow,alloc_eq_grow,grow_grow];rfl⟩
end Go.Proofs
namespace Go.PM
open Go Go.Proofs
variable {B:Nat→Nat→Option Value}
structure rQ (k:Nat) where
 key:Int
 rest:List Value
 hl:rest.length=k
 h1:∀ v∈rest,v.oneCell'=true
instance {k:Nat}:Inhabited (rQ k):=⟨⟨0,List.replicate k (.int .i64 0),List.length_replicate,fun v hv=>by rw[List.eq_of_mem_replicate hv];rfl⟩⟩
def gS{k:Nat}(r:rQ k):List Value:= .int .i64 r.key::r.rest
def tv{k:Nat}(x y:rQ k):Int:=tl x.key y.key
theorem r5{k:Nat}(r:rQ k):(gS r).length=k+1:=by rw[gS,ao,r.hl]
theorem At{k:Nat}(r:rQ k):∀ v∈gS r,v.oneCell'=true:=by
 intro v hv
 rcases aJ.1 hv with rfl|hv
 ·rfl
 ·exact r.h1 v hv
theorem zT{k:Nat}(x y:rQ k):ltOf tv x y=decide (x.key<y.key):=by
 unfold ltOf tv tl
 by_cases h:x.key<y.key
 ·rw[ai h,decide_eq_true h];rfl
 ·rw[ad h,decide_eq_false h]
  split<;>rfl
theorem Fc(k:Nat):Go.Sort.SWO (ltOf (tv (k:=k))):=
 ⟨fun x=>by rw[zT];simp,fun x y z h1 h2=>by rw[zT,decide_eq_true_eq]at*;omega,fun x y z h1 h2=>by rw[zT,decide_eq_false_iff_not]at*;omega⟩
theorem xA{α:Type}[Inhabited α]{enc:α→List Value}{k:Nat}(h0:0<k)(hk:∀ x,(enc x).length=k)(d:Array α):(Go.Sort.flatK enc k d).toList=d.toList.flatMap enc:=by
 have hlen:(d.toList.flatMap enc).length=d.size*k:=by rw[sy fun a _=>hk a,cC]
 apply mQ (by rw[cC,Go.Sort.size_flatK,hlen])
 intro t h1 h2
 rw[hlen]at h2
 have hi:t / k<d.toList.length:=by rw[cC];exact(Nat.div_lt_iff_lt_mul h0).2 h2
 have hi':t / k<d.size:=by simpa using hi
 have hmod:t % k<k:=Nat.mod_lt _ h0
 have e1:(Go.Sort.flatK enc k d).toList[t]=(Go.Sort.flatK enc k d)[t]! :=by
  rw[gL,getElem!_pos]
 rw[e1,Go.Sort.get_flatK _ _ _ _ h2]
 have hch:=sH (enc:=enc) hk d.toList (t / k) hi
 have e2:enc d[t / k]! =enc d.toList[t / k]:=by rw[getElem!_pos d _ hi',gL]
 have e3:(d.toList.flatMap enc)[t]? =(enc d.toList[t / k])[t % k]? :=by
  rw[←hch,dt hmod,ey]
  congr 1
  have:=Nat.div_add_mod t k
  rw[Nat.mul_comm]at this;omega
 rw[e2,getElem!_pos _ _ (by rw[hk];exact hmod)]
 rw[az (by rw[hlen];exact h2),az (by rw[hk];exact hmod)]at e3
 exact(Option.some.inj e3).symm
theorem BV{w:World}{b e:Nat}{cur F:Array Value}(hcur:w.heap[b]? =some (.cells cur e (0,0)))(hF:F.size≤cur.size):(Go.Sort.putRow id w b 0 F).heap=(w.setRow b (cur.toList.take 0++F.toList++cur.toList.drop (0+F.toList.length)).toArray).heap:=by
 have he:Go.Sort.putCells id 0 F cur=(cur.toList.take 0++F.toList++cur.toList.drop (0+F.toList.length)).toArray:=by
  apply jG
  intro j
  simp only[Go.Sort.putCells,Array.getElem?_mapIdx,gw,List.take_zero,bf,bg,aY,true_and,Nat.sub_zero,id]
  by_cases hj:j<F.size
  ·rw[bA (by simpa using hj),iE (show j<cur.size by omega),cp,ai hj,il,iE hj,getElem!_pos F j hj]
  ·rw[bF (by simpa using hj),ey,cC,il,show F.size+(j-F.size)=j by omega]
   cases hc:cur[j]? with
   |none=>rfl
   |some v=>rw[cp,ad hj]
 unfold Go.Sort.putRow Go.Sort.mapBlock World.setRow
 apply jG
 intro j
 simp only[im]
 by_cases hj:b=j
 ·subst hj
  simp only[if_true,hcur,cp,Go.Sort.onCells,he]
 ·simp only[ad hj]
theorem Dm{G:Gh}{n m:Nat}{cs:List PV}{us:List Value}(h:Rs G cs us):∀ L:List (Fin n),Rs G (L.flatMap fun i=>(cs.drop (i.val*m)).take m) (L.flatMap fun i=>(us.drop (i.val*m)).take m)
 | []=>⟨rfl,fun j p u hp=>by simp at hp,fun u hu=>by simp at hu⟩
 |i::L=>by
  rw[aI,aI]
  exact((h.drop _).take _).append (Dm h L)
theorem HU{m n:Nat}{cs:List PV}(hk:gd m n cs=true){i:Nat}(hi:i<n):cs[i*m]? =some (.int .i64 (fN m cs i)):=by
 unfold gd at hk
 rw[aa,aU]at hk
 have:=hk.1 i (iS.2 hi)
 unfold ra at this
 unfold fN
 split at this
 ·rename_i h;rw[h]
 ·cases this
theorem HP{m n:Nat}{cs:List PV}(hk:gd m n cs=true){i j:Fin n}(h:fN m cs i=fN m cs j):i=j:=by
 unfold gd at hk
 rw[aa,decide_eq_true_eq]at hk
 exact Fin.ext ((List.getElem_inj (h₀:=by simp) (h₁:=by simp) hk.2).1 (by simpa using h))
theorem Ah{f g m e k:Nat}(hmk:m=k+1)
  (hnone:∀ (p:Option Addr) (cap:Nat) (fv:Value) (w:World),Calls Tryz.prog f #[.slice p 0 cap,fv] w fun e w'=>e= .returned (.tuple #[])∧w'=w)
  (hsome:∀ (b cap:Nat) (d:Array (rQ k)) (w:World),Go.Sort.HoldsK gS m w b 0 d→b<w.heap.size→d.size<4611686018427387904→Calls Tryz.prog f #[.slice (some ⟨b,0,none⟩) d.size cap,.func (.func g) #[] #[]] w fun e w'=>e= .returned (.tuple #[])∧∃ d' n os,Go.Sort.PermIn 0 d.size d d'∧Go.Sort.SortedIn (ltOf tv) 0 d.size d'∧w'=sortWorldK gS m w b 0 n d' os)
  {G:Gh} {w:World} {n:Nat} {ns:List Nat} {cs:List PV} {x y:Value} (hI:bt Tryz.prog B G (cF (n::ns) []) w) (hx:R G (.list n cs (.own 0 e)) x) (hy:R G (.fn g []) y) (hc:cs.length=n*m) (hn1:aG cs=true) (ht1:dT ([0].contains ·) cs=true) (hk:gd m n cs=true) (hn:n≤10000000):
  Calls Tryz.prog f #[x,y] w fun e1 w'=>∃ G',e1= .returned (.tuple #[])∧R G' (.list n (eW m n cs) (.own 0 e)) x∧bt Tryz.prog B G' (cF (n::ns) []) w'∧bV G w G' w'∧G'.bx=G.bx:=by
 have h0:0<m:=by omega
 cases hy with
 |fn _ _ vs hl hr=>
 obtain rfl:vs=[]:=aP hl.symm
 by_cases hn0:n=0
 ·subst hn0
  have hc0:cs=[]:=aP (by simpa using hc)
  subst hc0
  rw[pe]
  have:∃ p cap,x= .slice p 0 cap:=by
   cases hx with
   |listN=>exact⟨none,0,rfl⟩
   |list=>exact⟨_,_,rfl⟩
  obtain⟨p,cap,rfl⟩:=this
  exact(hnone p cap _ w).mono fun e1 w' h=>by obtain⟨rfl,rfl⟩:=h;exact⟨G,rfl,hx,hI,bV.refl G _,rfl⟩
 cases hx with
 |listN=>exact absurd rfl hn0
 |list _ _ _ b o cap us hncap hxl hxc hxr hx1 hxt hxp hxx=>
 have hxt0:=hxt
 obtain⟨hlt0,hxt⟩:=hxt
 obtain⟨x0,hx0⟩:=hI.live 0 (by simp[cF])
 have hcnt:=(hI.cnt 0 x0 hx0).2
 have hxn:x0.cnt=n:=by rw[←hcnt];simp[cF]
 obtain⟨h3,h4⟩:=hxt x0 hx0
 have h4:=h4 hxn.symm
 cases x0 with
 |full m=>have:=hI.ful 0 m hx0;simp only[nj.cnt]at hxn;omega
 |room r=>
 obtain⟨rfl,rfl,hrc,hre,hrl⟩:=h4
 obtain⟨hsh,hcm,hmc,hsz,hno,hxr'⟩:=hI.room 0 r hx0
 have hrm:r.m=n:=hxn
 have hul:us.length=n*m:=by rw[←hxl,hc]
 have hszr:r.sz=m:=by
  rw[hrl]at hul
  exact Nat.eq_of_mul_eq_mul_left (by omega) hul
 obtain⟨cur,hcur,hcs⟩:=hI.sh _ _ _ hsh
 rw[hrc,hszr]at hcs
 rw[hre]at hcur
 have hus:∀ (j:Nat) (u:Value),us[j]? =some u→w.cell? ⟨r.b,j,none⟩=some u:=fun j u hj=>by have:=hI.com _ _ _ (hxc j u hj);rwa [bg]at this
 have hfz:∀ j,w.frozen? ⟨r.b,j,none⟩=false:=fun j=>by simp[World.frozen?,hcur]
 have hblk:r.b<w.heap.size:=(aE.1 hcur).1
 have hRs:Rs G cs us:=⟨hxl,hxr,hx1⟩
 have hmn:∀ i:Fin n,i.val*m+m≤n*m:=fun i=>by have:=ex m i.2;rwa [fb]at this
 have hkey:∀ i:Fin n,us[i.val*m]? =some (.int .i64 (fN m cs i)):=fun i=>by
  have h5:=HU hk i.2
  have hlt:i.val*m<us.length:=by have:=hmn i;omega
  have h6:=hxr _ _ _ h5 (az hlt)
  rw[az hlt]
  generalize us[i.val*m]=u at h6
  cases h6
  rfl
 let row:Fin n→rQ k:=fun i=>⟨fN m cs i,(us.drop (i.val*m+1)).take k,by have:=hmn i;rw[bi,cV];omega,fun v hv=>hx1 v (eZ (d5 hv))⟩
 have hrow:∀ i,gS (row i)=(us.drop (i.val*m)).take m:=fun i=>by
  have hlt:i.val*m<us.length:=by have:=hmn i;omega
  have h5:=hkey i
  rw[az hlt]at h5
  rw[aK hlt,Option.some.inj h5,hmk,ji]
  rw[←hmk];rfl
 generalize hd:((List.finRange n).map row).toArray=d
 have hdl:d.toList=(List.finRange n).map row:=by rw[←hd]
 have hds:d.size=n:=by rw[←cC,hdl,bu,List.length_finRange]
 have hflat:∀ L:List (Fin n),(L.map row).flatMap gS=L.flatMap fun i=>(us.drop (i.val*m)).take m:=fun L=>by
  rw[List.flatMap_map];simp only[hrow]
 have hF:(Go.Sort.flatK gS m d).toList=us:=by
  rw[xA h0 (fun x=>by rw[r5,hmk]),hdl,hflat,A9 hul]
 have hH:Go.Sort.HoldsK gS m w r.b 0 d:=by
  intro j hj
  have hj':j<us.length:=by rw[←hF,cC];exact hj
  refine⟨?_,hfz _⟩
  rw[bg]
  have:us[j]? =some (Go.Sort.flatK gS m d)[j]! :=by
   rw[getElem!_pos (Go.Sort.flatK gS m d) j hj,←gL,←az]
   exact aC (·[j]?) hF.symm
  exact hus _ _ this
 have hcall:=hsome r.b cap d w hH hblk (by omega)
 rw[hds]at hcall
 refine hcall.mono fun e1 w' h=>?_
 obtain⟨rfl,d',nn,os,⟨hps,-,hpp⟩,hso,rfl⟩:=h
 rw[hds]at hps
 have hpp:d'.toList.Perm d.toList:=by
  have a1:d'.extract 0 n=d':=by rw[←hps];exact Array.extract_size
  have a2:d.extract 0 n=d:=by rw[←hds];exact Array.extract_size
  rwa [a1,a2]at hpp
 have hd':d'.toList=(tD m n cs).map row:=by
  have hB:=(List.mergeSort_perm (List.finRange n) fun i j=>!decide (fN m cs j<fN m cs i)).map row
  refine List.Perm.eq_of_pairwise (le:=fun a b:rQ k=>a.key≤b.key) (fun a b ha hb h1 h2=>?_) ?_ ?_ ((hpp.trans (by rw[hdl])).trans hB.symm)
  ·have ha:=hpp.mem_iff.1 ha
   rw[hdl]at ha
   obtain⟨i,-,rfl⟩:=cq.1 ha
   obtain⟨j,-,rfl⟩:=cq.1 hb
   have:fN m cs i=fN m cs j:=Int.le_antisymm h1 h2
   rw[HP hk this]
  ·rw[List.pairwise_iff_getElem]
   intro i j hi hj hij
   have hi':i<d'.size:=by simpa using hi
   have hj':j<d'.size:=by simpa using hj
   have h5:=hso i j (aY _) hij (by omega)
   rw[zT,decide_eq_false_iff_not,getElem!_pos d' j hj',getElem!_pos d' i hi']at h5
   rw[gL,gL]
   omega
  ·rw[me]
   have:=List.pairwise_mergeSort (le:=fun i j:Fin n=>!decide (fN m cs j<fN m cs i)) (fun a b c h1 h2=>by simp at h1 h2 ⊢;omega) (fun a b=>by simp;omega) (List.finRange n)
   exact this.imp fun h=>by simpa using h
 have hF':(Go.Sort.flatK gS m d').toList=(tD m n cs).flatMap fun i=>(us.drop (i.val*m)).take m:=by
  rw[xA h0 (fun x=>by rw[r5,hmk]),hd',hflat]
 have hFs:(Go.Sort.flatK gS m d').size=n*m:=by rw[Go.Sort.size_flatK,hps]
 have hRs':Rs G (eW m n cs) (Go.Sort.flatK gS m d').toList:=by rw[hF'];exact Dm hRs _
 have hlenc:(eW m n cs).length=cs.length:=by rw[E5 hc,hc]
 have hlenv:(Go.Sort.flatK gS m d').toList.length=us.length:=by rw[cC,hFs,hul]
 have hpk:=hI.poke (k:=0) (e:=e) (al:=0) hx0 (by omega) hre (aD _) hRs hRs' (by rw[hul,hrm,hszr]) (fun j u hj=>by have:=hxc j u hj;rwa [bg]at this) (by rw[hlenv];omega) ht1 (Cn ht1 fun p hp=>oI hp) hn1 (CG hn1 fun p hp=>oI hp) (by rw[hre];exact hcur)
 obtain⟨hI2,hS2,hst2,_⟩:=hpk
 rw[KJ]at hI2
 have hw2:=BV (F:=Go.Sort.flatK gS m d') hcur (by rw[hFs,hcs];exact ex _ hncap)
 have hI3:=hI2.drawn (w':=Go.Sort.putRowK gS m (Go.Sort.ahead w nn) r.b 0 d') hw2
 have hS3:=hS2.heap (w3:=Go.Sort.putRowK gS m (Go.Sort.ahead w nn) r.b 0 d') hw2 ⟨rfl,rfl⟩
 obtain⟨hI4,hS4⟩:=hI3.below (w':=sortWorldK gS m w r.b 0 nn d' os) (by unfold sortWorldK;rw[Go.Sort.size_grow];omega) (fun b hb=>by
  show((Go.Sort.putRowK gS m (Go.Sort.ahead w nn) r.b 0 d').heap++os)[b]? =_
  exact ir hb) ⟨rfl,rfl⟩
 refine⟨_,rfl,?_,hI4,hS3.trans hS4,rfl⟩
 have:=hst2 _ _ (R.list n cs (.own 0 e) r.b 0 cap us hncap hxl hxc hxr hx1 hxt0 hxp hxx)
 rw[fo]at this
 simp only[jH,ay.isOwn,hrm,kP,am,if_true]at this
 rwa [ke hlenc]at this
end Go.PM
namespace Go.PM
open Go Go.Proofs
def uy(g m e:Nat):List PV→List Nat→List (List PV)→Option (PV×List Nat×List (List PV))
 | [.list n cs tk,.fn g' []],ns,[]=>
  if g'=g then match tk,n,cs,ns with
   | .nil,0,[],ns=>some (.tup [.tup [],.list 0 [] .nil],ns,[])
   | .own 0 e0,n,cs,n0::ns=>if e0=e∧n0=n∧cs.length=n*m∧aG cs=true∧dT ([0].contains ·) cs=true∧gd m n cs=true∧n≤10000000 then some (.tup [.tup [],.list n (eW m n cs) (.own 0 e)],n0::ns,[])else none
   |_,_,_,_=>none
  else none
 |_,_,_=>none
def tz:au:=fun f xs ns cs=>match f with
 |1000069=>uy 70 3 72 xs ns cs
 |1000072=>uy 73 5 68 xs ns cs
 |f=>yH f xs ns cs
theorem Ib:kZ Tryz.prog 69:=⟨Tryz.f69,Tryz.func69,of_decide_eq_true (by kernel_rfl),by kernel_rfl⟩
theorem Ia:kZ Tryz.prog 72:=⟨Tryz.f72,Tryz.func72,of_decide_eq_true (by kernel_rfl),by kernel_rfl⟩
section
variable {B:Nat→Nat→Option Value}
theorem Ac{α β:Type}{a b:α}{vs:List β}(h:[a,b].length=vs.length):∃ x y,vs=[x,y]:=by
 match vs,h with
 | [x,y],_=>exact⟨x,y,rfl⟩
theorem GK{G:Gh}{p:PV}{x:Value}(h:R G p x):R G (.tup [.tup [],p]) (.tuple #[.tuple #[],x]):=by
 have h0:R G (.tup []) (.tuple #[]):=R.tup [] [] rfl fun j p u hp=>by simp at hp
 refine R.tup [.tup [],p] [.tuple #[],x] rfl fun j q u hq hu=>?_
 match j with
 |0=>simp at hq hu;subst hq hu;exact h0
 |1=>simp at hq hu;subst hq hu;exact h
 |j+2=>simp at hq
theorem JP(p:PV):PM.np (.tup [.tup [],p])=PM.np p:=by simp[PM.np,al,cM]
theorem E4{f g m e:Nat}(hf:f<1000000)
  (hnone:∀ (p:Option Addr) (cap:Nat) (fv:Value) (w:World),Calls Tryz.prog f #[.slice p 0 cap,fv] w fun e w'=>e= .returned (.tuple #[])∧w'=w)
  (hown:∀ {G:Gh} {w:World} {n:Nat} {ns:List Nat} {cs:List PV} {x y:Value},bt Tryz.prog B G (cF (n::ns) []) w→R G (.list n cs (.own 0 e)) x→R G (.fn g []) y→cs.length=n*m→aG cs=true→dT ([0].contains ·) cs=true→gd m n cs=true→n≤10000000→
   Calls Tryz.prog f #[x,y] w fun e1 w'=>∃ G',e1= .returned (.tuple #[])∧R G' (.list n (eW m n cs) (.own 0 e)) x∧bt Tryz.prog B G' (cF (n::ns) []) w'∧bV G w G' w'∧G'.bx=G.bx)
  (xs:List PV) (ns:List Nat) (cs:List (List PV)) (r:PV) (rs:List Nat) (cs':List (List PV)) (h:uy g m e xs ns cs=some (r,rs,cs')):
  cs'.length=cs.length∧np r=true∧(∀ c∈cs',aG c=true)∧∀ G w (vs:List Value),bt Tryz.prog B G (cF ns cs) w→xs.length=vs.length→(∀ (j:Nat) p v,xs[j]? =some p→vs[j]? =some v→R G p v∧bN p=true)→
   Calls Tryz.prog f vs.toArray w fun e w'=>∃ v G',nP (gx f) vs v e∧R G' r v∧bt Tryz.prog B G' (cF rs cs') w'∧bV G w G' w'∧G'.ob=G.ob∧∀ k,k<cs.length→G'.oe k=G.oe k:=by
 unfold uy at h
 split at h
 ·split at h
  ·rename_i hg
   subst hg
   split at h
   ·cases h
    refine⟨rfl,rfl,fun c hc=>(by cases hc),fun G w vs hI hl hR=>?_⟩
    obtain⟨x,y,rfl⟩:=Ac hl
    have a0:=(hR 0 _ _ rfl rfl).1
    have:∃ p cap,x= .slice p 0 cap:=by
     cases a0 with
     |listN=>exact⟨none,0,rfl⟩
     |list=>exact⟨_,_,rfl⟩
    obtain⟨p,cap,rfl⟩:=this
    exact(hnone p cap y w).mono fun e1 w' h=>by
     obtain⟨rfl,rfl⟩:=h
     exact⟨_,G,nO.2 ⟨_,rfl,rfl⟩,GK a0,hI,bV.refl G _,rfl,fun k hk=>absurd hk (ij _)⟩
   ·split at h
    ·rename_i hc
     obtain⟨rfl,rfl,c3,c4,c5,c6,c7⟩:=hc
     cases h
     have hnp:=fun k=>CG (ds:=eW m k _) c4 fun p hp=>oI hp
     refine⟨rfl,?_,fun c hc=>(by cases hc),fun G w vs hI hl hR=>?_⟩
     ·rw[JP];exact hnp _
     obtain⟨x,y,rfl⟩:=Ac hl
     have a0:=(hR 0 _ _ rfl rfl).1
     have a1:=(hR 1 _ _ rfl rfl).1
     exact(hown hI a0 a1 c3 c4 c5 c6 c7).mono fun e1 w' h=>by
      obtain⟨G',rfl,b1,b2,b3,b4⟩:=h
      exact⟨_,G',nO.2 ⟨_,rfl,rfl⟩,GK b1,b2,b3,funext fun s=>jW (congrFun b4 s),fun k hk=>absurd hk (ij _)⟩
    ·cases h
   ·cases h
  ·cases h
 ·cases h
theorem eN:∀ (args:Array Value) (w:World),(callFunc 70 args).run Tryz.prog w= .ok (.enter 70 args) w:=Go.Proofs.enters_of Tryz.func70 (by kernel_rfl) rfl
theorem eE:∀ (args:Array Value) (w:World),(callFunc 73 args).run Tryz.prog w= .ok (.enter 73 args) w:=Go.Proofs.enters_of Tryz.func73 (by kernel_rfl) rfl
theorem I2(r:rQ 2):∃ p q,gS r=[.int .i64 r.key,p,q]:=by
 obtain⟨k,l,hl,h1⟩:=r
 match l,hl with
 | [p,q],_=>exact⟨p,q,rfl⟩
theorem I1(r:rQ 4):∃ p q s t,gS r=[.int .i64 r.key,p,q,s,t]:=by
 obtain⟨k,l,hl,h1⟩:=r
 match l,hl with
 | [p,q,s,t],_=>exact⟨p,q,s,t,rfl⟩
theorem wA(p:Option Addr)(cap:Nat)(fv:Value)(w:World):Calls Tryz.prog 69 #[.slice p 0 cap,fv] w fun e w'=>e= .returned (.tuple #[])∧w'=w:=AnyF.slices_SortFunc_none Tryz.sortN p cap fv w
theorem wD(p:Option Addr)(cap:Nat)(fv:Value)(w:World):Calls Tryz.prog 72 #[.slice p 0 cap,fv] w fun e w'=>e= .returned (.tuple #[])∧w'=w:=AnyF.slices_SortFunc_none Tryz.sortE p cap fv w
theorem Dz(b cap:Nat)(d:Array (rQ 2))(w:World)(hH:Go.Sort.HoldsK gS 3 w b 0 d)(hb:b<w.heap.size)(hs:d.size<4611686018427387904):Calls Tryz.prog 69 #[.slice (some ⟨b,0,none⟩) d.size cap,.func (.func 70) #[] #[]] w fun e w'=>e= .returned (.tuple #[])∧∃ d' n os,Go.Sort.PermIn 0 d.size d d'∧Go.Sort.SortedIn (ltOf tv) 0 d.size d'∧w'=sortWorldK gS 3 w b 0 n d' os:=
 AnyQ.slices_SortFunc Tryz.sortN 3 Tryz.isAgg72 Tryz.sizeOf72 gS r5 At tv (Fc 2) 70 #[] b 0 cap d w eN (fun m os dk _ x y=>by
  obtain⟨p,q,h1⟩:=I2 x
  obtain⟨r,s,h2⟩:=I2 y
  rw[h1,h2]
  exact Tryz.closure70 x.key y.key p q r s _) hH hb hs
theorem DB(b cap:Nat)(d:Array (rQ 4))(w:World)(hH:Go.Sort.HoldsK gS 5 w b 0 d)(hb:b<w.heap.size)(hs:d.size<4611686018427387904):Calls Tryz.prog 72 #[.slice (some ⟨b,0,none⟩) d.size cap,.func (.func 73) #[] #[]] w fun e w'=>e= .returned (.tuple #[])∧∃ d' n os,Go.Sort.PermIn 0 d.size d d'∧Go.Sort.SortedIn (ltOf tv) 0 d.size d'∧w'=sortWorldK gS 5 w b 0 n d' os:=
 AnyQ.slices_SortFunc Tryz.sortE 5 Tryz.isAgg68 Tryz.sizeOf68 gS r5 At tv (Fc 4) 73 #[] b 0 cap d w eE (fun m os dk _ x y=>by
  obtain⟨p,q,r,s,h1⟩:=I1 x
  obtain⟨p',q',r',s',h2⟩:=I1 y
  rw[h1,h2]
  exact Tryz.closure73 x.key y.key p q r s p' q' r' s' _) hH hb hs
theorem KO(tS tR:TypeId)(pS pR:Value):gU Tryz.prog (ii (.iface tS pS) (.iface tR pR)) tz:=by
 intro f xs ns cs r rs cs' h
 unfold tz at h
 split at h
 ·rw[show nH 1000069=69 from rfl]
  exact⟨Ib,E4 (f:=69) (by decide) wA (fun a b c d e f g h=>Ah (k:=2) rfl wA Dz a b c d e f g h) _ _ _ _ _ _ h⟩
 ·rw[show nH 1000072=72 from rfl]
  exact⟨Ia,E4 (f:=72) (by decide) wD (fun a b c d e f g h=>Ah (k:=4) rfl wD DB a b c d e f g h) _ _ _ _ _ _ h⟩
 ·exact KP tS tR pS pR _ _ _ _ _ _ _ h
end
end Go.PM
namespace Go.PM
open Go Go.Proofs Go.Lib
noncomputable def I8:au:=rl T tz
theorem Ld(tS tR:TypeId)(pS pR:Value):gU Tryz.prog (ii (.iface tS pS) (.iface tR pR)) I8:=Ik T tz (by kernel_rfl) Jo (KO tS tR pS pR)
theorem MO:gT I8:=fun f F hF N xs ns cs r h=>Il T tz hF (by
 unfold tz
 split
 ·cases hF
 ·cases hF
 unfold yH
 split
 ·rename_i hf;subst hf;cases hF
 ·split
  ·rename_i hf;subst hf;cases hF
  ·rfl) N h
theorem MY:bH I8 where
 tab:=MO
 parse l hl:=sJ T tz (by
  show yH 239 _ _ _=_
  unfold yH
  rw[ai rfl]
  show(if(10:Int)=10∧(64:Int)=64∧ByteArray.size ⟨l.toArray⟩≤2000000 then _ else _)=_
  rw[ai ⟨rfl,rfl,by simpa [ByteArray.size]using hl⟩]
  show some (tB l.toArray.toList,_,_)=_
  unfold tB
  simp only[]
  cases parseIntB 64 l<;>rfl)
 fmt n h1 h2:=sJ T tz (by
  show yH 135 _ _ _=_
  unfold yH
  rw[ad (by decide),ai rfl]
  show(if(10:Int)=10∧_∧_ then _ else _)=_
  rw[ai ⟨rfl,h1,h2⟩])
theorem KK{f g m e:Nat}(h:∀ xs ns cs,tz (gx f) xs ns cs=uy g m e xs ns cs):sO I8 f g m e where
 nil ns:=sJ T tz (by
  rw[h]
  simp only[uy,if_true])
 own n cs ns h1 h2 h3 h4 h5:=sJ T tz (by
  rw[h]
  show(if g=g then(if e=e∧n=n∧cs.length=n*m∧aG cs=true∧dT ([0].contains ·) cs=true∧gd m n cs=true∧n≤10000000 then _ else none)else none)=_
  rw[ai rfl,ai ⟨rfl,rfl,h1,h2,h3,h4,h5⟩])
end Go.PM
namespace Go.Proofs.YtdpamjikmlbmhaaGreatDoor.JoinGraphs
open Go Go.PM Go.ChangeShapes Go.WideShapes Go.ChangeAt Go.RowKit
theorem own:ownKnob Tryz.prog.godebug=none:=by kernel_rfl
theorem MN:Tryz.prog.underlying 4=some .bool:=by kernel_rfl
theorem Mh:Tryz.prog.cellsOf 25=2:=by kernel_rfl
theorem MX{g:bj}(h:MM g):uV g:=⟨h.ns,h.es,fun x hx=>(h.n x hx).1,fun x hx=>(h.n x hx).2,fun x hx=>(h.e x hx).1,fun x hx=>(h.e x hx).2⟩
theorem IW:Tryz.prog.underlying 44=some (.slice 25):=by kernel_rfl
set_option maxRecDepth 100000 in
theorem Ky{w:World}{base:Nat}{v u:Value}(h:v.okWide Tryz.prog w .any base 44)(hc:v.cells.toList=[u]):v=u:=by
 cases v with
 |agg cs=>
  unfold Value.okWide Cell.okWide Cell.ok at h
  simp only[IW]at h
 |_=>simpa [Value.cells]using hc
theorem Fh{H:Type}{enc:TypeId×Value→H}{w:World}{base:Nat}{held:Bool}{fuel:Nat}{cs:List Value}{x:DataW H×List MemPlace}(h:DataW.trod enc Tryz.prog w base (fun _=>true) held fuel 44 cs=some x):∃ (l:List bj) (v:Value),cs=[v]∧R (kh w) (GX l) v∧l.length≤eA∧∀ g∈l,uV g:=by
 obtain⟨l,v,rfl,h1,h2,h3,h4⟩:=pW (α:=bj) (e:=25) (sz:=2) IW Mh (by decide) gc uV ki (fun fuel cs x h hl=>by
  obtain⟨g,hg,hok⟩:=Hn h hl
  exact⟨g,hg,MX hok⟩) h
 exact⟨l,v,rfl,h1,h3,h4⟩
set_option maxRecDepth 100000 in
theorem Ig(H:Type)(enc:TypeId×Value→H)(W:World)(base:Nat)(args:Array Value)(ds gs:List (DataW H))(before:List MemPlace)
  (hval:∀ (j:Nat) t v,Tryz.f5.params[j]? =some t→args[j]? =some v→Value.okWide Tryz.prog W .any base t v)
  (hW:DataW.Whole enc Tryz.prog Tryz.f5.params.toList Rows.fnExactJoinGraphsSpec.vars false W args.toList ds gs before) (hL:laidMetH Tryz.prog xc W) (hsh:W.ShapedOpen Tryz.prog):
  Calls Tryz.prog 5 args W fun e W'=>∃ v,e= .returned v∧Rows.fnExactJoinGraphsSpec.post enc Tryz.prog Tryz.f5 false true false false W args v W':=by
 have hW':=hW
 have hlt:=hW.lt
 obtain⟨p,q,hA0,hV,rfl,hfz,hnd⟩:=hW
 have hA:DataW.TrodAll enc Tryz.prog W 0 (fun _=>true) true Tryz.f5.params.toList args.toList ds p:=hA0
 have hp:Tryz.f5.params= #[44]:=by kernel_rfl
 rw[hp]at hA hval
 obtain⟨v0,d0,rfl,rfl,h0⟩:=trodAll_one hA
 obtain⟨rfl,rfl⟩:=trodVars_none hV
 have hv0:=hval 0 44 v0 rfl rfl
 obtain⟨fuel,hf⟩:=h0
 obtain⟨l,u,hu,hR0,hl,hok⟩:=Fh hf
 obtain rfl:=Ky hv0 hu
 obtain⟨pS,pR,hI⟩:=GV hL hsh
 obtain⟨_,_,hc⟩:=oE (Ld 270 270 pS pR) hI (f:=5) (show([GX l]:List PV).length=([v0]:List Value).length from rfl) (fun j p v hp hv=>by
  match j with
  |0=>simp at hp hv;subst hp hv;exact⟨hR0,ek (iI l).1⟩
  |j+1=>simp at hp) (Lw MY (KK fun _ _ _=>rfl) (KK fun _ _ _=>rfl) l hl hok)
 refine hc.mono fun e W' h=>?_
 obtain⟨v,G',hret,hRv,_,hS,_⟩:=h
 cases hRv
 obtain rfl:=(qG (by decide)).1 hret
 have hb:=J1 hS
 have hargs:=s8 (enc:=enc) JT hb (ts:=[44]) (fun t ht=>by
  simp only[aJ,eD,or_false]at ht
  subst ht
  exact⟨by kernel_rfl,of_decide_eq_true (by kernel_rfl)⟩) (fun x hx=>hlt x (gK _ hx)) (by rw[hp]at hA0;exact hA0)
 refine⟨_,rfl,[d0],[],_,[],p,[],hW',trodAll_mk1 (shut_bool MN true),?_,rfl,B6 hS.eff hb _,fun h=>by cases h⟩
 rw[hp]
 exact hargs
theorem HO(os:Os)(a:Array Value):laidMetH Tryz.prog xc ((World.doorLaid Tryz.prog 400 os).forCall (fun _ _=>0) ⟨#[],a,[]⟩).memory:=
 laidMetH_of_parts3 (fuel:=8) (laidMet_of_run' 8 (by kernel_rfl) (by kernel_rfl)) (by kernel_rfl) (by kernel_rfl)
theorem reads(os:Os){H:Type}(enc:TypeId×Value→H):∃ places,DataW.whole enc Tryz.prog ((World.doorLaid Tryz.prog 400 os).forCall (fun _ _=>0) ⟨#[], #[.slice none 0 0],[]⟩).memory Tryz.f5.params.toList Rows.fnExactJoinGraphsSpec.vars false #[Value.slice none 0 0].toList 8=some ([.nil],[],places):=
 ⟨[],by kernel_rfl⟩
set_option maxRecDepth 100000 in
theorem K3(os:Os)(started:os.Started)(H:Type)(enc:TypeId×Value→H)(F:Stop.Interp):
  ReturnsInHanded {} Tryz.checked os 5 .any ((OpenSpec.ofChange Rows.fnExactJoinGraphsSpec).preRow enc Tryz.prog Tryz.f5 Rows.fnExactJoinGraphsRow.domain false Rows.fnExactJoinGraphsRow.laid) (((OpenSpec.ofChange Rows.fnExactJoinGraphsSpec).at F).post enc Tryz.prog Tryz.f5 false true false false):=by
 obtain⟨places,hx⟩:=reads os enc
 refine returnsInHanded_of_row (C:=Tryz.checked) (s:=OpenSpec.ofChange Rows.fnExactJoinGraphsSpec) own started (by kernel_rfl) Tryz.func5
  (witness_row_atRef (enc:=enc) (C:=Tryz.checked) false (World.doorLaid Tryz.prog 400 os) #[.slice none 0 0] rfl (by kernel_rfl) (by kernel_rfl) (by kernel_rfl)
   (OpenSpec.preRow_of_cond 8 hx (by kernel_rfl) (fun k hk=>by cases hk) (by kernel_rfl) (HO os _))) ?_
 intro W base args ds gs before hval hW _ _ _ hL hsh _
 exact Ig H enc W base args ds gs before hval hW hL hsh
theorem MQ:Rows.FnExactJoinGraphsSaid:=
 OpenClaim.holds_of_cond 5 Tryz.f5 rfl rfl rfl rfl rfl rfl rfl ⟨rfl,rfl,rfl,rfl,rfl⟩ rfl rfl rfl rfl rfl (by kernel_rfl) Tryz.func5 (by kernel_rfl)
  (of_decide_eq_true (by kernel_rfl)) (by unfold Func.isWrapper;first|(rw[ai (by decide+kernel)];kernel_rfl)|(rw[ad (by decide+kernel)];exact⟨rfl,rfl⟩))
  (fun os started H enc _ F=>by rw[OpenClaim.pre_eq_preRow];exact K3 os started H enc F)
theorem plain(f:FuncId)(fn:Func)(hf:Tryz.pinned.checked.prog.funcNamed "loop.example/g00042/laws.FnExactJoinGraphs" =some f)(hfn:Tryz.pinned.checked.prog.funcs[f]? =some fn):
  true=Tryz.pinned.checked.prog.looks []∧∀ (j:Nat) t,fn.params[j]? =some t→Tryz.pinned.checked.prog.wantsStandIn t=false:=by
 obtain rfl:f=5:=Option.some.inj ((show Tryz.prog.funcNamed "loop.example/g00042/laws.FnExactJoinGraphs" =some 5 by kernel_rfl).symm.trans hf)|>.symm
 obtain rfl:fn=Tryz.f5:=(Option.some.inj (Tryz.func5.symm.trans hfn)).symm
 refine⟨by kernel_rfl,fun j t ht=>?_⟩
 have hp:Tryz.f5.params= #[44]:=by kernel_rfl
 rw[hp]at ht
 have hm:=Array.mem_of_getElem? ht
 simp only[List.mem_toArray,aJ,eD,or_false]at hm
 subst hm
 exact(show Tryz.prog.wantsStandIn 44=false by kernel_rfl)
theorem card : Rows.FnExactJoinGraphsCardSaid :=
 Claim7.holds_tied_plain_at .later [] _ _ _ _ MQ (fun _ h=>by cases h) (by kernel_rfl) (fun _ h=>by cases h) fnExactJoinGraphs_row_tie rfl ⟨rfl,rfl⟩ (by kernel_rfl) rfl plain (by kernel_rfl)
#print axioms card
end Go.Proofs.YtdpamjikmlbmhaaGreatDoor.JoinGraphs
