/- A part of the proof: texts PoM, PoN, PgA, PgB, PgC, PgD, PgE, PgF, PgG, PgH, PgI, PgJ, PgK, PgL, PgM, PgN, PgO, PgP, PgQ, joined. Conditions: none. -/
import Derived.Test.YtdpamjikmlbmhaaGreatDoorPD
import Derived.Lib.ItoaMem
import Derived.Lib.ParseIntB
import Derived.Lib.ItoaLen
import Derived.Lib.ParseIntBTie
import Derived.Laws.BitsLemmas
namespace Go.PM
mutual
theorem tf_strip(K:Nat→Bool):∀ p:PV,tf K (strip p)=true
 | .list n cs t=>by
  have ih:=tfs_strips K cs
  rw[strip_list]
  simp only[tf,ih,Bool.and_true];rfl
 | .iptr cs o t=>by
  have ih:=tfs_strips K cs
  simp only[strip,strips,ren]at ih ⊢
  simp only[tf,ih,Bool.and_true]
  cases t<;>rfl
 | .agg cs=>by have ih:=tfs_strips K cs;simp only[strip,strips,ren,tf]at ih ⊢;exact ih
 | .tup cs=>by have ih:=tfs_strips K cs;simp only[strip,strips,ren,tf]at ih ⊢;exact ih
 | .fn g cs=>by have ih:=tfs_strips K cs;simp only[strip,strips,ren,tf]at ih ⊢;exact ih
 | .any| .hole| .int _ _| .bool _| .str _| .nilp| .nili| .err| .ptr _ _| .osl _ _ _ _| .mp _=>rfl
theorem tfs_strips(K:Nat→Bool):∀ ps:List PV,tfs K (strips ps)=true
 | []=>rfl
 |p::ps=>by
  have h1:=tf_strip K p
  have h2:=tfs_strips K ps
  simp only[strip,strips,rens,tfs]at h1 h2 ⊢
  rw[h1,h2];rfl
end
theorem killT_plain{J:List Nat}{p:PV}(h:plainV p):killT J p=p:=by
 have:=tf_strip (J.contains ·) p
 rw[h.2.1]at this
 rw[killT,if_pos this]
theorem killT_ptr{J:List Nat}{s o:Nat}:killT J (.ptr s o)= .ptr s o:=rfl
theorem killT_solid{J:List Nat}{p:PV}(h:solid p=true)(hk:∀ q∈toks p,q.1∉J):killT J p=p:=by
 rw[killT,if_pos (solid_tf _ p h fun q hq=>by simpa using hk q hq)]
theorem map_plain{J:List Nat}:∀ {cs:List PV},plainVs cs→cs.map (killT J)=cs
 | [],_=>rfl
 |c::cs,h=>by
  have h1:=tfs_strips (J.contains ·) (c::cs)
  rw[h.2.1]at h1
  simp only[tfs,Bool.and_eq_true]at h1
  have:∀ {ds:List PV},tfs (J.contains ·) ds=true→ds.map (killT J)=ds:=by
   intro ds hd
   induction ds with
   |nil=>rfl
   |cons d ds ih=>
    simp only[tfs,Bool.and_eq_true]at hd
    rw[List.map_cons,ih hd.2,killT,if_pos hd.1]
  exact this (by simp only[tfs,h1.1,h1.2,Bool.and_self])
theorem map_solid{J:List Nat}{cs:List PV}(h:solids cs=true)(hk:∀ q∈tokss cs,q.1∉J):cs.map (killT J)=cs:=by
 have hd:=solids_tf (J.contains ·) cs h fun q hq=>by simpa using hk q hq
 clear h hk
 induction cs with
 |nil=>rfl
 |cons d ds ih=>
  simp only[tfs,Bool.and_eq_true]at hd
  rw[List.map_cons,ih hd.2,killT,if_pos hd.1]
def killA(J:List Nat)(fr:Fr):Fr:=fun t=>killT J (fr t)
def mvS(J ns:List Nat)(st:St):St:={st.more ns with objs:=killObjs J st.objs,maps:=killMaps J st.maps,cnt:=(fun t=>if J.contains t then 0 else(st.more ns).cnt t),fl:=st.fl}
theorem TokOK_mv{st:St}{A B C:List (Nat×Nat)}{ns:List Nat}(h:TokOK st (A++B++C))(hf:st.fl≤st.nx):TokOK (mvS (B.map (·.1)) ns st) (A++enum st.nx ns++C):=by
 have hd:∀ q,q∈A∨q∈C→q.1∉B.map (·.1):=by
  intro q hq hb
  obtain⟨x,hx,he⟩:=List.mem_map.1 hb
  have h1:=h.1 q.1
  rw[ck_append,ck_append]at h1
  have h2:=ck_pos.2 ⟨x,hx,he⟩
  have h3:0<ck q.1 A∨0<ck q.1 C:=hq.imp (fun hq=>ck_pos.2 ⟨q,hq,rfl⟩) (fun hq=>ck_pos.2 ⟨q,hq,rfl⟩)
  omega
 have ho:∀ q,q∈A∨q∈C→q.1<st.nx∧st.cnt q.1=q.2∧st.fl≤q.1:=fun q hq=>h.2 q (by simp only[List.mem_append];rcases hq with h|h<;>simp[h])
 have hB:∀ q∈B,q.1<st.nx:=fun q hq=>(h.2 q (by simp[hq])).1
 refine⟨fun k=>?_,fun q hq=>?_⟩
 ·have h1:=h.1 k
  rw[ck_append,ck_append]at h1 ⊢
  have h2:= @enum_ck st.nx k ns
  by_cases hk:k<st.nx
  ·have:ck k (enum st.nx ns)=0:=ck_zero fun q hq=>by have:=enum_mem hq;omega
   omega
  ·have e1:ck k A=0:=ck_zero fun q hq=>by have:=(ho q (.inl hq)).1;omega
   have e2:ck k C=0:=ck_zero fun q hq=>by have:=(ho q (.inr hq)).1;omega
   omega
 ·have hq':(q∈A∨q∈C)∨q∈enum st.nx ns:=by
   simp only[List.mem_append]at hq
   rcases hq with(h|h)|h<;>simp[h]
  show q.1<(st.more ns).nx∧(if(B.map (·.1)).contains q.1 then 0 else(st.more ns).cnt q.1)=q.2∧st.fl≤q.1
  rw[St.more_nx]
  rcases hq' with hq|hq
  ·obtain⟨h1,h2,h3⟩:=ho q hq
   have:=hd q hq
   rw[if_neg (by simpa using this),St.more_old _ _ h1]
   exact⟨by omega,h2,h3⟩
  ·obtain⟨h1,h2,h3⟩:=enum_mem hq
   have:q.1∉B.map (·.1):=by
    intro hb
    obtain⟨x,hx,he⟩:=List.mem_map.1 hb
    have:=hB x hx
    omega
   rw[if_neg (by simpa using this),St.more_new _ _ h1 h2]
   exact⟨by omega,h3,by omega⟩
section
variable {cf:CallF} {f:Nat} {F:CFn} {st:St} {rs:List CRes} {n:Nat} {cs rest:List PV} {tk:Tok}
theorem moved_rest:∀ (rest:List PV) (i:Nat),0<i→moved [0] i rest=[]
 | [],_,_=>rfl
 |p::ps,i,h=>by
  have:([0]:List Nat).contains i=false:=by simp;omega
  rw[moved,this,moved_rest ps (i+1) (by omega)];rfl
theorem boxMv_np(mv:List Nat):∀ (ps:List PV) (i:Nat),ps.all plainArg=true→boxMv mv i ps=[]
 | [],_,_=>rfl
 |p::ps,i,h=>by
  rw[List.all_cons,Bool.and_eq_true]at h
  have ih:=boxMv_np mv ps (i+1) h.2
  cases p<;>first|exact ih|exact absurd h.1 (by simp[plainArg])
theorem movedAll_one(hr:rest.all plainArg=true):movedAll [0] (.list n cs tk::rest) []=toks (.list n cs tk):=by
 have h:boxToks (boxMv [0] 0 (.list n cs tk::rest)) []=[]:=by cases boxMv [0] 0 (.list n cs tk::rest)<;>rfl
 rw[movedAll,h,moved,moved_rest _ _ (by omega)]
 simp
theorem handOn_rest(J:List Nat):∀ (rest:List PV) (i k:Nat),0<i→rest.all plainArg=true→handOn J [0] i k rest=rest.map strip
 | [],_,_,_,_=>rfl
 |p::ps,i,k,h,hr=>by
  rw[List.all_cons,Bool.and_eq_true]at hr
  have ih:=fun m=>handOn_rest J ps (i+1) m (by omega) hr.2
  have hc:([0]:List Nat).contains i=false:=by simp;omega
  cases p<;>first|(simp only[handOn,hc,ih,List.map_cons];rfl)|exact absurd hr.1 (by simp[plainArg])
theorem callP_mv(hn:np (.list n cs tk)=true)(hk:TokOK st (toks (.list n cs tk)))(hr:rest.all plainArg=true)(hsp:spare ((toks (.list n cs tk)).map (·.1)) [0] 1 rest=true){r:PV}{ns:List Nat}
  (hc:cf f (ren (idxIn ((toks (.list n cs tk)).map (·.1))) false (.list n cs tk)::rest.map strip) ((toks (.list n cs tk)).map (·.2)) []=some (r,ns,[])) (hs:solid r=true):
  callP cf f (.list n cs tk::rest) [0] st=some (ren (fun k=>some (st.nx+k)) false r,mvS ((toks (.list n cs tk)).map (·.1)) ns st)∧takes (.list n cs tk::rest) [0] st=(toks (.list n cs tk)).map (·.1):=by
 have hkeys:keysOf (.list n cs tk::rest)=some []:=by
  rw[keysOf,if_pos hn]
  ·exact keysOf_plain hr
  ·intros;contradiction
 have hm:=movedAll_one (n:=n) (cs:=cs) (tk:=tk) hr
 have hb:boxOn ((toks (.list n cs tk)).map (·.1)) (boxMv [0] 0 (.list n cs tk::rest)) []=[]:=by cases boxMv [0] 0 (.list n cs tk::rest)<;>rfl
 have hbs:∀ J l,boxSpare J l []=true:=by intro J l;cases l<;>rfl
 have hh:handOn ((toks (.list n cs tk)).map (·.1)) [0] 0 0 (.list n cs tk::rest)=ren (idxIn ((toks (.list n cs tk)).map (·.1))) false (.list n cs tk)::rest.map strip:=by
  rw[handOn,handOn_rest _ _ _ _ (by omega) hr]
  ·rfl
  ·intros;contradiction
 have hs2:spare ((toks (.list n cs tk)).map (·.1)) [0] 0 (.list n cs tk::rest)=true:=by rw[spare,hsp];rfl
 constructor
 ·simp only[callP,hkeys,getAll,hm,nodupB_ck hk.1,hk.ok,hs2,hbs,hb,Bool.and_self,if_true,hh,hc,solid_closed r hs,List.all_nil,List.length_nil,setAll]
  rfl
 ·simp only[takes,hkeys,getAll,hm]
def ownT(e:Nat)(tk:Tok):Prop:=tk= .nil∨∃ k,tk= .own k e
end
theorem pmm:
  (∀ {cf:CallF} {f:Nat} {as:List CX} {d:Option Nat} {st:St} {fr:Fr},killF cf (.call f as [0]) d st fr=killA (takes (as.map (·.ev fr)) [0] st) fr)∧(∀ {J:List Nat} {fr:Fr} {t:Nat},killA J fr t=killT J (fr t))∧
  (∀ {J:List Nat} {k:IntKind} {n:Int},killT J (.int k n)= .int k n)∧(∀ {J:List Nat} {b:Bool},killT J (.bool b)= .bool b)∧(∀ {J:List Nat} {s:ByteArray},killT J (.str s)= .str s)∧(∀ {J:List Nat} {s o:Nat},killT J (.ptr s o)= .ptr s o)∧(∀ {J:List Nat} {e z s n:Nat},killT J (.osl e z s n)= .osl e z s n)∧
  (∀ {J ns:List Nat} {st:St} {s:Nat},(mvS J ns st).objs s=(st.objs s).map fun c=>c.map (killT J))∧(∀ {c:List PV} {g:List PV→List PV},(some c).map g=some (g c)):=
 ⟨rfl,rfl,rfl,rfl,rfl,rfl,rfl,rfl,rfl⟩
def stxO(sz:Nat)(a:PV)(vs:Option (List PV))(st:St):Option (PV×St):=match a,vs with
 | .ptr s off,some vs=>match st.objs s with
  |some cs=>if vs.length=sz∧off+sz≤cs.length then some (.hole,setO st s (putCells cs off vs))else none
  |none=>none
 | .iptr cs off (.el k e n),some vs=>
  if vs.length=sz∧off+sz≤cs.length∧0<n∧st.cnt k=n∧k<st.nx∧st.fl≤k∧tfs ([k].contains ·) cs=true∧tfs ([k].contains ·) vs=true then
   some (.hole,{st with objs:=bkObjs (stxU cs off k e n vs) st.objs,maps:=bkMaps (stxU cs off k e n vs) st.maps})
  else none
 |_,_=>none
def bkS(u:Upd)(st:St):St:={st with objs:=bkObjs u st.objs,maps:=bkMaps u st.maps}
def bkA(u:Upd)(fr:Fr):Fr:=fun t=>bkT u (fr t)
theorem stxO_ok{sz off k e n:Nat}{cs vs:List PV}{st:St}(h1:vs.length=sz)(h2:off+sz≤cs.length)(h3:0<n)(h4:st.cnt k=n)(h5:k<st.nx)(h6:st.fl≤k)(h7:tfs ([k].contains ·) cs=true)(h8:tfs ([k].contains ·) vs=true):
  stxO sz (.iptr cs off (.el k e n)) (some vs) st=some (.hole,bkS (stxU cs off k e n vs) st):=by
 simp only[stxO]
 rw[if_pos ⟨h1,h2,h3,h4,h5,h6,h7,h8⟩];rfl
def uR(o:Option (PV×PV×St))(as:List PV):Option (PV×St):=match o with
 |some (r,_,st')=>if markable as=true then some (r,st')else none
 |none=>none
theorem bk_own{J:List Nat}{k n e:Nat}{p:PV}{cs:List PV}:bkT ⟨J,k,n,p⟩ (.list n cs (.own k e))=p:=by simp[bkT,Tok.isOwn]
theorem bk_stx{cs cs' vs:List PV}{off k e e' n:Nat}:bkT (stxU cs off k e n vs) (.list n cs' (.own k e'))= .list n (putCells cs off vs) (.own k e):=by simp[bkT,Tok.isOwn,stxU]
theorem bk_list{u:Upd}{n:Nat}{cs:List PV}{k e:Nat}(h:k≠u.k)(hJ:u.J.contains k=false):bkT u (.list n cs (.own k e))= .list n (bkTs u cs) (.own k e):=by
 have h1:(Tok.own k e).isOwn u.k=false:=by simp[Tok.isOwn,h]
 have h2:(Tok.own k e).free (u.J.contains ·)=true:=by simp only[Tok.free,Tok.of,hJ,Bool.not_false]
 rw[bkT,h1,Bool.false_and,if_neg (by simp),if_pos h2]
theorem free_none{K:Nat→Bool}{t:Tok}(h:t.of=none):t.free K=true:=by simp[Tok.free,h]
mutual
theorem bk_same(u:Upd)(hu:u.J.contains u.k=true):∀ p:PV,tf (u.J.contains ·) p=true→bkT u p=p
 | .list n cs t,h=>by
  simp only[tf,Bool.and_eq_true]at h
  have ih:=bks_same u hu cs h.2
  simp only[bkT,ih]
  have:t.isOwn u.k=false:=by
   cases t with
   |own j e=>
    simp only[Tok.isOwn,beq_eq_false_iff_ne,ne_eq]
    rintro rfl
    have:=h.1
    simp only[Tok.free,Tok.of,hu]at this
    cases this
   |_=>rfl
  rw[this,if_neg (by simp),if_pos h.1]
 | .iptr cs o t,h=>by
  simp only[tf,Bool.and_eq_true]at h
  have ih:=bks_same u hu cs h.2
  simp only[bkT,ih]
  rw[if_pos h.1]
 | .agg cs,h=>by simp only[tf]at h;simp only[bkT,bks_same u hu cs h]
 | .tup cs,h=>by simp only[tf]at h;simp only[bkT,bks_same u hu cs h]
 | .fn g cs,h=>by simp only[tf]at h;simp only[bkT,bks_same u hu cs h]
 | .any,_| .hole,_| .int _ _,_| .bool _,_| .str _,_| .nilp,_| .nili,_| .err,_| .ptr _ _,_| .osl _ _ _ _,_| .mp _,_=>rfl
theorem bks_same(u:Upd)(hu:u.J.contains u.k=true):∀ ps:List PV,tfs (u.J.contains ·) ps=true→bkTs u ps=ps
 | [],_=>rfl
 |p::ps,h=>by
  simp only[tfs,Bool.and_eq_true]at h
  simp only[bkTs,bk_same u hu p h.1,bks_same u hu ps h.2]
end
theorem bks_solid{u:Upd}(hu:u.J.contains u.k=true){ps:List PV}(h:solids ps=true)(hk:∀ q∈tokss ps,q.1∉u.J):bkTs u ps=ps:=
 bks_same u hu ps (solids_tf _ ps h fun q hq=>by simpa using hk q hq)
theorem bk_plain{u:Upd}(hu:u.J.contains u.k=true){p:PV}(h:plainV p):bkT u p=p:=by
 have:=tf_strip (u.J.contains ·) p
 rw[h.2.1]at this
 exact bk_same u hu p this
theorem bks_append(u:Upd):∀ a b:List PV,bkTs u (a++b)=bkTs u a++bkTs u b
 | [],_=>rfl
 |x::a,b=>by simp only[List.cons_append,bkTs,bks_append u a b]
theorem TokOK_of'{st:St}{l l':List (Nat×Nat)}(h:TokOK st l)(h1:∀ k,ck k l'≤ck k l)(h2:∀ q∈l',q∈l):TokOK st l':=
 ⟨fun k=>Nat.le_trans (h1 k) (h.1 k),fun q hq=>h.2 q (h2 q hq)⟩
theorem TokOK_apart'{st:St}{X B Y:List (Nat×Nat)}(h:TokOK st (X++B++Y)):∀ q∈X++Y,q.1∉B.map (·.1):=by
 intro q hq hb
 obtain⟨x,hx,he⟩:=List.mem_map.1 hb
 have h1:=h.1 q.1
 rw[ck_append,ck_append]at h1
 have h2:=ck_pos.2 ⟨x,hx,he⟩
 have h3:0<ck q.1 X∨0<ck q.1 Y:=(List.mem_append.1 hq).imp (fun hq=>ck_pos.2 ⟨q,hq,rfl⟩) (fun hq=>ck_pos.2 ⟨q,hq,rfl⟩)
 omega
def EndsB(t:Nat)(Q:Int→PV→Prop)(e:Ex)(y:Fr×St):Prop:=endOk e∧∃ k,y.1 t=I k∧notRow (y.1 0)=true∧np (y.1 0)=true∧solid (y.1 0)=true∧TokOK y.2 (toks (y.1 0))∧Q k (strip (y.1 0))
def OutB(Q:Int→PV→Prop)(r p:PV)(st:St):Prop:=∃ k,r=I k∧notRow p=true∧np p=true∧solid p=true∧TokOK st (toks p)∧Q k (strip p)
theorem EndsB_ret{t:Nat}{Q:Int→PV→Prop}{fr:Fr}{st:St}:EndsB t Q .ret (fr,st)↔OutB Q (fr t) (fr 0) st:=
 ⟨fun h=>h.2,fun h=>⟨endOk_ret.2 trivial,h⟩⟩
section
variable {cf:CallF} {f:Nat} {F:CFn} {st:St} {n:Nat} {cs:List PV} {tk:Tok}
theorem run_back{as:List PV}{t:Nat}(hown:F.own=true)(hres:F.res=[.tmp t,.tmp 0])(N:Nat){ns:List Nat}{Q:Int→PV→Prop}(hnt:as.length≤F.nt)(h:Wp cf N F.body (frame as,stB ns []) (EndsB t Q)):
  ∃ k p ns',runFn cf N F as ns []=some (.tup [I k,p],ns',[])∧Fresh 0 ns' p∧(∀ nx,Fresh nx ns' (ren (fun k=>some (nx+k)) false p))∧Q k (strip p):=by
 obtain⟨e,⟨fr,s1⟩,hev,he,k,hk,hr,hp,hso,htk,hQ⟩:=h
 have hf:finish F 0 fr s1=some (.tup [I k,ren (idxIn ((toks (fr 0)).map (·.1))) false (fr 0)],(toks (fr 0)).map (·.2),[]):=by
  have h0:getAll s1 (List.range 0)=some []:=rfl
  have hps:ressP fr s1 F.res=some [I k,fr 0]:=by rw[hres];simp only[ressP,resP];rw[show fr t=I k from hk]
  have hm:=meltAll_all F.nk s1 [I k,fr 0] (by
   intro p hp
   simp at hp
   rcases hp with rfl|rfl
   ·rfl
   ·exact hr)
  have hnp:np (.tup [I k,fr 0])=true:=by
   show nps [I k,fr 0]=true
   have hp:np (fr 0)=true:=hp
   simp only[pmz,hp,Bool.and_self]
  have htt:toks (.tup [I k,fr 0])=toks (fr 0):=by simp only[toks,tokss,List.nil_append,List.append_nil]
  have:=seal_fresh (r0:= .tup [I k,fr 0]) (st1:=s1) (by rw[htt];exact htk)
  rw[htt]at this
  simp only[finish,hps,h0,hm,oneOf,hnp,List.all_nil,Bool.and_self,if_true,hown,this]
  rfl
 refine⟨k,_,_,?_,(fresh_ren hso hp htk.1 0).2,fun nx=>(fresh_ren hso hp htk.1 nx).1,by rw[strip_ren];exact hQ⟩
 unfold runFn
 rw[if_pos ⟨hnt,Nat.zero_le _⟩,hev]
 cases e with
 |go=>exact hf
 |ret=>exact hf
 |exit i=>exact he.elim
theorem c_valU(K:Tab cf)(hT:T (backF f)=some F){t:Nat}(hres:F.res=[.tmp t,.tmp 0])(hown:F.own=true)(hs:solid (.list n cs tk)=true)(hn:nps cs=true)(hk:TokOK st (toks (.list n cs tk)))
  (hnt:2≤F.nt) (N:Nat) {k k':Int} {v:PV}
  (h:∀ cs0 tk0 ns,strips cs0=strips cs→cs0.length=cs.length→nps cs0=true→solid (.list n cs0 tk0)=true→TokOK (stB ns []) (toks (.list n cs0 tk0))→Wp cf N F.body (frame [.list n cs0 tk0,I k],stB ns []) (EndsB t fun j p=>j=k'∧p=v)):
  ∃ p ns,uP cf f [.list n cs tk,I k] st=some (I k',p,mvS ((toks (.list n cs tk)).map (·.1)) ns st)∧Fresh st.nx ns p∧strip p=v∧takes [.list n cs tk,I k] [0] st=(toks (.list n cs tk)).map (·.1):=by
 have hn':np (.list n cs tk)=true:=hn
 have hF0:=(fresh_ren hs hn' hk.1 0).2
 rw[ren_list]at hF0
 have hp:nps (rens (idxIn ((toks (.list n cs tk)).map (·.1))) false cs)=true:=by rw[nps,offs_rens];exact hn
 have hTB:TokOK (stB ((toks (.list n cs tk)).map (·.2)) []) (toks (.list n (rens (idxIn ((toks (.list n cs tk)).map (·.1))) false cs) (tk.ren (idxIn ((toks (.list n cs tk)).map (·.1))) false))):=by
  rw[hF0.tk]
  exact⟨fun j=>enum_ck j _,fun q hq=>by have:=enum_mem hq;exact⟨by simpa [stB]using this.2.1,by simpa [stB]using this.2.2,Nat.zero_le _⟩⟩
 obtain⟨j,p,ns,hrun,hFr,hF,hQ1,hQ2⟩:=run_back hown hres N (as:=[.list n (rens (idxIn ((toks (.list n cs tk)).map (·.1))) false cs) (tk.ren (idxIn ((toks (.list n cs tk)).map (·.1))) false),I k]) hnt (h _ _ _ (strips_rens _ _) (rens_length _ _ _) hp hF0.so hTB)
 have hcf:=K (backF f) F hT N _ _ _ _ hrun
 rw[←ren_list]at hcf
 subst hQ1
 have hst:solid (.tup [I j,p])=true:=by simp only[solid,solids,hFr.so,Bool.and_self]
 obtain⟨h1,h2⟩:=callP_mv (rest:=[I k]) hn' hk rfl rfl hcf hst
 refine⟨ren (fun k=>some (st.nx+k)) false p,ns,?_,hF st.nx,by rw[strip_ren];exact hQ2,h2⟩
 unfold uP
 rw[h1]
 rfl
theorem RunsTo_U{v q:PV}{k':Int}{J:List Nat}{mk:PV→St→Fr×St}{A:Fr×St→Prop}{n:Nat}{cs:List PV}{tk:Tok}{X:Prop}
  (h:∃ p ns,uP cf f [.list n cs tk,q] st=some (I k',p,mvS J ns st)∧Fresh st.nx ns p∧strip p=v∧X) (k:∀ p ns,uP cf f [.list n cs tk,q] st=some (I k',p,mvS J ns st)→Fresh st.nx ns p→strip p=v→X→A (mk (I k') (mvS J ns st))):RunsTo (uR (uP cf f [.list n cs tk,q] st) [.list n cs tk,q]) mk A:=by
 obtain⟨p,ns,hu,hF,hs,hX⟩:=h
 refine⟨I k',mvS J ns st,by rw[hu];rfl,k p ns hu hF hs hX⟩
end
theorem kU_own{n:Nat}{cs rest:List PV}{k e:Nat}{r p:PV}{s st:St}{q:PV}:kU (some (r,p,s)) (.list n cs (.own k e)::rest) st q=bkT ⟨takes (.list n cs (.own k e)::rest) [0] st,k,n,markedP n p⟩ q:=rfl
theorem kU_not{n:Nat}{cs rest:List PV}{tk:Tok}{o:Option (PV×PV×St)}{st:St}{q:PV}(h:∀ k e,tk≠ .own k e):kU o (.list n cs tk::rest) st q=killT (takes (.list n cs tk::rest) [0] st) q:=by
 cases tk with
 |own k e=>exact absurd rfl (h k e)
 |_=>cases o<;>rfl
theorem killT_none{q:PV}:killT [] q=q:=by
 unfold killT
 have:tf (([]:List Nat).contains ·) q=true:=by
  have:=tf_none q
  have e:(fun x=>([]:List Nat).contains x)=fun _=>false:=by funext x;rfl
  rw[e];exact this
 rw[if_pos this]
theorem solid_not{n:Nat}{cs:List PV}{tk:Tok}(hs:solid (.list n cs tk)=true)(h:∀ k e,tk≠ .own k e):cs=[]:=by
 simp only[solid,Bool.and_eq_true]at hs
 cases tk with
 |own k e=>exact absurd rfl (h k e)
 |sub k=>simp at hs
 |el k e n=>simp at hs
 |_=>simpa using hs.1
theorem toks_not{n:Nat}{cs:List PV}{tk:Tok}(hs:solid (.list n cs tk)=true)(h:∀ k e,tk≠ .own k e):toks (.list n cs tk)=[]:=by
 have:=solid_not hs h
 subst this
 cases tk with
 |own k e=>exact absurd rfl (h k e)
 |_=>rfl
section
variable {n sz:Nat} {cs rest:List PV} {tk:Tok} {r p':PV} {s st:St} {ns:List Nat}
theorem kU_top(hs:solid (.list n cs tk)=true)(hn:nps cs=true)(hl:cs.length=n*sz)(h0:0<sz)(ht:takes (.list n cs tk::rest) [0] st=(toks (.list n cs tk)).map (·.1))(hF:Fresh st.nx ns p')(hz:cs=[]→strip p'= .list 0 [] .no){X Y:List (Nat×Nat)}(hk:TokOK st (X++toks (.list n cs tk)++Y))(hf:st.fl≤st.nx):
  ∃ q,kU (some (r,p',s)) (.list n cs tk::rest) st (.list n cs tk)=q∧solid q=true∧np q=true∧strip q=strip p'∧TokOK (mvS ((toks (.list n cs tk)).map (·.1)) ns st) (X++toks q++Y):=by
 have hm:=TokOK_mv (ns:=ns) hk hf
 rw[←hF.tk]at hm
 have hn0:cs=[]↔n=0:=by
  constructor
  ·rintro rfl
   simp only[List.length_nil]at hl
   rcases Nat.eq_zero_or_pos n with h|h
   ·exact h
   ·have:=Nat.mul_pos h h0;omega
  ·rintro rfl
   exact List.eq_nil_of_length_eq_zero (by rw[hl,Nat.zero_mul])
 have drop:TokOK (mvS ((toks (.list n cs tk)).map (·.1)) ns st) (X++[]++Y):=TokOK_of' hm (fun k=>by rw[ck_append,ck_append,ck_append,ck_append];simp only[ck];omega) (fun q hq=>by simp at hq ⊢;rcases hq with h|h<;>simp[h])
 by_cases ho:∃ k e,tk= .own k e
 ·obtain⟨k,e,rfl⟩:=ho
  rw[kU_own,bk_own]
  refine⟨_,rfl,?_⟩
  unfold markedP
  by_cases h:n=0
  ·rw[if_pos h]
   exact⟨rfl,rfl,(hz (hn0.2 h)).symm,drop⟩
  ·rw[if_neg h]
   exact⟨hF.so,hF.np,rfl,hm⟩
 ·have ho':∀ k e,tk≠ .own k e:=fun k e h=>ho ⟨k,e,h⟩
  have hc:=solid_not hs ho'
  have htk:=toks_not hs ho'
  rw[kU_not ho',ht,htk,List.map_nil,killT_none]
  refine⟨_,rfl,hs,hn,?_,?_⟩
  ·rw[hz hc,strip_list,hc,hn0.1 hc];rfl
  ·rw[htk]at drop ⊢;exact drop
theorem kU_in(hs:solid (.list n cs tk)=true)(hn:nps cs=true)(hl:cs.length=n*sz)(h0:0<sz)(ht:takes (.list n cs tk::rest) [0] st=(toks (.list n cs tk)).map (·.1))(hF:Fresh st.nx ns p')(hz:cs=[]→strip p'= .list 0 [] .no){X Y:List (Nat×Nat)}{N K E:Nat}{pre post:List PV}
  (hso:solid (.list N (pre++ .list n cs tk::post) (.own K E))=true) (hk:TokOK st (X++toks (.list N (pre++ .list n cs tk::post) (.own K E))++Y)) (hf:st.fl≤st.nx):
  ∃ q,kU (some (r,p',s)) (.list n cs tk::rest) st (.list N (pre++ .list n cs tk::post) (.own K E))= .list N (pre++q::post) (.own K E)∧solid (.list N (pre++q::post) (.own K E))=true∧solid q=true∧np q=true∧strip q=strip p'∧TokOK (mvS ((toks (.list n cs tk)).map (·.1)) ns st) (X++toks (.list N (pre++q::post) (.own K E))++Y):=by
 have hsplit:X++toks (.list N (pre++ .list n cs tk::post) (.own K E))++Y=(X++((K,N)::tokss pre))++toks (.list n cs tk)++(tokss post++Y):=by
  rw[toks,tokss_append,tokss]
  simp only[List.append_assoc,List.cons_append,List.nil_append]
 have hk2:=hk
 rw[hsplit]at hk2
 obtain⟨q,h1,h2,h3,h4,h5⟩:=kU_top (r:=r) (s:=s) hs hn hl h0 ht hF hz hk2 hf
 simp only[solid,solids_append,solids,Bool.true_and,Bool.and_eq_true]at hso
 have hap:=TokOK_apart' hk2
 refine⟨q,?_,?_,h2,h3,h4,?_⟩
 ·by_cases ho:∃ k e,tk= .own k e
  ·obtain⟨k,e,rfl⟩:=ho
   rw[kU_own]at h1 ⊢
   rw[ht]at h1 ⊢
   have hJ:((toks (.list n cs (.own k e))).map (·.1)).contains k=true:=by simp[toks]
   have hK:K∉(toks (.list n cs (.own k e))).map (·.1):=hap (K,N) (by simp)
   have hKk:K≠k:=by rintro rfl;exact hK (by simp[toks])
   rw[bk_list (u:=⟨(toks (.list n cs (.own k e))).map (·.1),k,n,markedP n p'⟩) hKk (by simpa using hK),bks_append,bks_solid (u:=⟨(toks (.list n cs (.own k e))).map (·.1),k,n,markedP n p'⟩) hJ hso.1 (fun x hx=>hap x (by simp[hx]))]
   simp only[bkTs]
   rw[bks_solid (u:=⟨(toks (.list n cs (.own k e))).map (·.1),k,n,markedP n p'⟩) hJ hso.2.2 (fun x hx=>hap x (by simp[hx])),h1]
  ·have ho':∀ k e,tk≠ .own k e:=fun k e h=>ho ⟨k,e,h⟩
   have htk:=toks_not hs ho'
   rw[kU_not ho',ht,htk,List.map_nil,killT_none]at h1 ⊢
   rw[h1]
 ·simp only[solid,solids_append,solids,hso.1,h2,hso.2.2,Bool.and_self]
 ·have:X++toks (.list N (pre++q::post) (.own K E))++Y=(X++((K,N)::tokss pre))++toks q++(tokss post++Y):=by
   rw[toks,tokss_append,tokss]
   simp only[List.append_assoc,List.cons_append,List.nil_append]
  rw[this]
  exact h5
end
section
variable {cf:CallF} {f:Nat} {st:St} {mk:PV→St→Fr×St} {A:Fr×St→Prop}
theorem RunsTo_UIn{n sz N K E:Nat}{cs vs pre post:List PV}{tk:Tok}{q:PV}{k':Int}{X Y:List (Nat×Nat)}
  (h:∃ p ns,uP cf f [.list n cs tk,q] st=some (I k',p,mvS ((toks (.list n cs tk)).map (·.1)) ns st)∧Fresh st.nx ns p∧strip p= .list n vs .no∧takes [.list n cs tk,q] [0] st=(toks (.list n cs tk)).map (·.1))
  (hl:cs.length=n*sz) (h0:0<sz) (hz:n=0→vs=[]) (hso:solid (.list N (pre++ .list n cs tk::post) (.own K E))=true) (hnp:nps (pre++ .list n cs tk::post)=true) (hk:TokOK st (X++toks (.list N (pre++ .list n cs tk::post) (.own K E))++Y)) (hf:st.fl=0)
  (k:∀ p ns c,uP cf f [.list n cs tk,q] st=some (I k',p,mvS ((toks (.list n cs tk)).map (·.1)) ns st)→kU (some (I k',p,mvS ((toks (.list n cs tk)).map (·.1)) ns st)) [.list n cs tk,q] st (.list N (pre++ .list n cs tk::post) (.own K E))= .list N (pre++c::post) (.own K E)→
   solid (.list N (pre++c::post) (.own K E))=true→nps (pre++c::post)=true→strip c= .list n vs .no→TokOK (mvS ((toks (.list n cs tk)).map (·.1)) ns st) (X++toks (.list N (pre++c::post) (.own K E))++Y)→A (mk (I k') (mvS ((toks (.list n cs tk)).map (·.1)) ns st))):RunsTo (uR (uP cf f [.list n cs tk,q] st) [.list n cs tk,q]) mk A:=by
 have hs1:solid (.list n cs tk)=true:=by
  simp only[solid,solids_append,solids,Bool.and_eq_true]at hso
  simpa [solid]using hso.2.2.1
 have hn1:nps cs=true:=by
  have:np (.list n cs tk)=true:=nps_mem hnp (by simp)
  exact this
 refine RunsTo_U h fun p ns hu hF hv ht=>?_
 have hz':cs=[]→strip p= .list 0 [] .no:=by
  intro e
  have hn0:n=0:=by
   subst e
   simp only[List.length_nil]at hl
   rcases Nat.eq_zero_or_pos n with h|h
   ·exact h
   ·have:=Nat.mul_pos h h0;omega
  rw[hv,hz hn0,hn0]
 obtain⟨c,k1,k2,k3,k4,k5,k6⟩:=kU_in (r:=I k') (s:=mvS ((toks (.list n cs tk)).map (·.1)) ns st) (sz:=sz) hs1 hn1 hl h0 ht hF hz' hso hk (by omega)
 refine k p ns c hu k1 k2 ?_ (by rw[k5,hv]) k6
 refine nps_of fun x hx=>?_
 rcases List.mem_append.1 hx with h|h
 ·exact nps_mem hnp (by simp[h])
 ·rcases List.mem_cons.1 h with rfl|h
  ·exact k4
  ·exact nps_mem hnp (by simp[h])
end
theorem kU_int{o:Option (PV×PV×St)}{as:List PV}{st:St}{k:IntKind}{n:Int}:kU o as st (.int k n)= .int k n:=by
 unfold kU;split<;>rfl
theorem kU_bool{o:Option (PV×PV×St)}{as:List PV}{st:St}{b:Bool}:kU o as st (.bool b)= .bool b:=by
 unfold kU;split<;>rfl
theorem kU_ptr{o:Option (PV×PV×St)}{as:List PV}{st:St}{s k:Nat}:kU o as st (.ptr s k)= .ptr s k:=by
 unfold kU;split<;>rfl
theorem kU_plain{n:Nat}{cs rest:List PV}{tk:Tok}{r p':PV}{s st:St}(ht:takes (.list n cs tk::rest) [0] st=(toks (.list n cs tk)).map (·.1)){q:PV}(h:plainV q):kU (some (r,p',s)) (.list n cs tk::rest) st q=q:=by
 by_cases ho:∃ k e,tk= .own k e
 ·obtain⟨k,e,rfl⟩:=ho
  rw[kU_own,ht]
  exact bk_plain (u:=⟨(toks (.list n cs (.own k e))).map (·.1),k,n,markedP n p'⟩) (by simp[toks]) h
 ·rw[kU_not fun k e h=>ho ⟨k,e,h⟩]
  exact killT_plain h
section
variable {st:St} {mk:PV→St→Fr×St} {A:Fr×St→Prop}
theorem RunsTo_poke{n K E off:Nat}{pre post:List PV}{c v:PV}{X Y:List (Nat×Nat)}(hoff:off=pre.length)(hn:0<n)(hs:solid (.list n (pre++c::post) (.own K E))=true)(hnp:nps (pre++c::post)=true)(hk:TokOK st (X++toks (.list n (pre++c::post) (.own K E))++Y))(hv:solid v=true∧toks v=[]∧np v=true)
  (k:solid (.list n (pre++v::post) (.own K E))=true→nps (pre++v::post)=true→TokOK (bkS (stxU (pre++c::post) off K E n [v]) st) (X++toks (.list n (pre++v::post) (.own K E))++Y)→A (mk .hole (bkS (stxU (pre++c::post) off K E n [v]) st))):
  RunsTo (stxO 1 (.iptr (pre++c::post) off (.el K E n)) (some [v]) st) mk A:=by
 have hK:=hk.2 (K,n) (by simp[toks])
 have hsc:solids (pre++c::post)=true:=by simpa [solid]using hs
 have hnotin:∀ q∈tokss (pre++c::post),q.1≠K:=by
  intro q hq he
  have h1:=hk.1 K
  rw[ck_append,ck_append,toks,ck_append]at h1
  have h2:=ck_pos.2 ⟨q,hq,he⟩
  simp only[ck,if_true]at h1
  omega
 refine⟨_,_,stxO_ok rfl (by simp[hoff]) hn hK.2.1 hK.1 hK.2.2 (solids_tf _ _ hsc fun q hq=>by simpa using hnotin q hq) (by have:=solid_tf ([K].contains ·) v hv.1 (by rw[hv.2.1];simp);simp only[tfs,this,Bool.and_self]),k ?_ ?_ ?_⟩
 ·simp only[solids_append,solids,Bool.and_eq_true]at hsc
  simp only[solid,solids_append,solids,hsc.1,hv.1,hsc.2.2,Bool.and_self]
 ·have e1:nps pre=true:=nps_of fun q hq=>nps_mem hnp (by simp[hq])
  have e2:nps (v::post)=true:=nps_of fun q hq=>by
   rcases List.mem_cons.1 hq with rfl|h
   ·exact hv.2.2
   ·exact nps_mem hnp (by simp[h])
  exact nps_append e1 e2
 ·have:TokOK st (X++toks (.list n (pre++v::post) (.own K E))++Y):=TokOK_of' hk (fun q=>by simp only[toks,tokss_append,tokss,hv.2.1,ck_append,ck];omega) (fun q hq=>by
   simp only[toks,tokss_append,tokss,hv.2.1,List.mem_append,List.mem_cons,List.not_mem_nil,or_false,List.nil_append]at hq ⊢
   rcases hq with(h|h|h|h)|h<;>simp[h])
  exact this
theorem bk_poke{n K E E' off:Nat}{pre post cs':List PV}{c v:PV}(hoff:off=pre.length):bkT (stxU (pre++c::post) off K E n [v]) (.list n cs' (.own K E'))= .list n (pre++v::post) (.own K E):=by
 rw[bk_stx,hoff]
 congr 1
 simp[putCells]
end
theorem pmu:
  (∀ {cf:CallF} {fr:Fr} {st:St} {d:Option Nat} {sz:Nat} {a x:CX},runOp cf fr st d (.stx sz a x)=stxO sz (a.ev fr) (cellsOf (x.ev fr)) st)∧
  (∀ {cf:CallF} {fr:Fr} {st:St} {d:Option Nat} {f:Nat} {as:List CX},runOp cf fr st d (.callU f as)=uR (uP cf f (as.map (·.ev fr)) st) (as.map (·.ev fr)))∧
  (∀ {cf:CallF} {fr:Fr} {st:St} {d:Option Nat} {sz:Nat} {a x:CX},killF cf (.stx sz a x) d st fr=killX (a.ev fr) (cellsOf (x.ev fr)) fr)∧
  (∀ {cf:CallF} {fr:Fr} {st:St} {d:Option Nat} {f:Nat} {as:List CX},killF cf (.callU f as) d st fr=killU (uP cf f (as.map (·.ev fr)) st) (as.map (·.ev fr)) st fr)∧
  (∀ {cs vs:List PV} {off k e n:Nat} {fr:Fr},killX (.iptr cs off (.el k e n)) (some vs) fr=bkA (stxU cs off k e n vs) fr)∧(∀ {s off:Nat} {vs:Option (List PV)} {fr:Fr},killX (.ptr s off) vs fr=fr)∧
  (∀ {u:Upd} {fr:Fr} {t:Nat},bkA u fr t=bkT u (fr t))∧(∀ {o:Option (PV×PV×St)} {as:List PV} {st:St} {fr:Fr} {t:Nat},killU o as st fr t=kU o as st (fr t))∧
  (∀ {u:Upd} {k:IntKind} {n:Int},bkT u (.int k n)= .int k n)∧(∀ {u:Upd} {b:Bool},bkT u (.bool b)= .bool b)∧(∀ {u:Upd} {s:ByteArray},bkT u (.str s)= .str s)∧(∀ {u:Upd} {s o:Nat},bkT u (.ptr s o)= .ptr s o)∧
  (∀ {n k e:Nat},(Tok.own k e).elt n= .el k e n)∧(∀ {u:Upd} {st:St} {s:Nat},(bkS u st).objs s=(st.objs s).map fun c=>bkTs u c)∧
  (∀ {cf:CallF} {fr:Fr} {x y:CX} {sz:Nat},keysAt fr (.stx sz x y)=[])∧(∀ {o:Option (PV×PV×St)} {as:List PV} {st:St} {k:IntKind} {n:Int},kU o as st (.int k n)= .int k n)∧(∀ {o:Option (PV×PV×St)} {as:List PV} {st:St} {b:Bool},kU o as st (.bool b)= .bool b)∧(∀ {o:Option (PV×PV×St)} {as:List PV} {st:St} {s k:Nat},kU o as st (.ptr s k)= .ptr s k)∧(∀ {t:Nat} {Q:Int→PV→Prop} {fr:Fr} {st:St},EndsB t Q .ret (fr,st)↔OutB Q (fr t) (fr 0) st):=by
 refine⟨?_,?_,?_,?_,rfl,?_,rfl,rfl,rfl,rfl,rfl,rfl,rfl,rfl,rfl,kU_int,kU_bool,kU_ptr,EndsB_ret⟩
 ·intros;rfl
 ·intros;rfl
 ·intro cf fr st d sz a x;cases d<;>rfl
 ·intro cf fr st d f as;cases d<;>rfl
 ·intros;rfl
end Go.PM
namespace Go.PM
variable {cf:CallF} {st:St}
def isL(c:Int):Bool:=decide (97≤c) && decide (c≤122)||decide (65≤c) && decide (c≤90)
def isD(c:Int):Bool:=decide (48≤c) && decide (c≤57)
def isC(c:Int):Bool:=isL c||isD c||decide (c=95)
def nameOk(l:List UInt8):Bool:=decide (1≤l.length) && decide (l.length≤20) && isL (cI l 0) && l.all fun c=>isC (c.toNat:Int)
def idOk(n:Int):Bool:=decide (1≤n) && decide (n≤1000000000000)
theorem all_take(l:List UInt8)(i:Nat)(hi:i<l.length)(f:UInt8→Bool):(l.take (i+1)).all f=((l.take i).all f && f l[i]):=by
 rw[List.take_succ_eq_append_getElem hi,List.all_append];simp
theorem cI_get(l:List UInt8)(i:Nat)(hi:i<l.length):cI l i=(l[i].toNat:Int):=by simp[cI,hi]
theorem cI_isC{l:List UInt8}{i:Nat}(hi:i<l.length)(h:isC (cI l i)=false)(f:UInt8→Bool)(hf:f=fun c=>isC (c.toNat:Int)):l.all f=false:=by
 rw[cI_get l i hi]at h
 subst hf
 rw[List.all_eq_false]
 exact⟨l[i],List.getElem_mem hi,by simpa using h⟩
theorem c_letter(K:Tab cf)(c:Int):callP cf 172 [U c] [] st=some (.bool (isL c),st):=by
 refine c_val K (F:=F172) (t:=2) rfl rfl rfl (lb rfl) (by simp[plainV_int]) (bare_bool _) 1 ?_
 unfold F172 qr qm qc qo isL
 repeat' (first|(refine Cnd_intro (fun _=>?_) (fun _=>?_))|(simp (disch:=omega)only[↓pa,pb,↓reduceIte,Nat.reduceEqDiff,reduceCtorEq, *]))
theorem c_letterS(K:Tab cf)(c:Int):callP cf 168 [U c] [] st=some (.bool (isL c),st):=by
 refine c_val K (F:=F168) (t:=2) rfl rfl rfl (lb rfl) (by simp[plainV_int]) (bare_bool _) 1 ?_
 unfold F168 qr qm qc qo isL
 repeat' (first|(refine Cnd_intro (fun _=>?_) (fun _=>?_))|(simp (disch:=omega)only[↓pa,pb,↓reduceIte,Nat.reduceEqDiff,reduceCtorEq, *]))
theorem c_digit(K:Tab cf)(c:Int):callP cf 173 [U c] [] st=some (.bool (isD c),st):=by
 refine c_val K (F:=F173) (t:=2) rfl rfl rfl (lb rfl) (by simp[plainV_int]) (bare_bool _) 1 ?_
 unfold F173 qr qm qc qo isD
 repeat' (first|(refine Cnd_intro (fun _=>?_) (fun _=>?_))|(simp (disch:=omega)only[↓pa,pb,↓reduceIte,Nat.reduceEqDiff,reduceCtorEq, *]))
theorem c_digitS(K:Tab cf)(c:Int):callP cf 169 [U c] [] st=some (.bool (isD c),st):=by
 refine c_val K (F:=F169) (t:=2) rfl rfl rfl (lb rfl) (by simp[plainV_int]) (bare_bool _) 1 ?_
 unfold F169 qr qm qc qo isD
 repeat' (first|(refine Cnd_intro (fun _=>?_) (fun _=>?_))|(simp (disch:=omega)only[↓pa,pb,↓reduceIte,Nat.reduceEqDiff,reduceCtorEq, *]))
theorem c_idOk(K:Tab cf)(n:Int):callP cf 124 [I n] [] st=some (.bool (idOk n),st):=by
 refine c_val K (F:=F124) (t:=2) rfl rfl rfl (lb rfl) (by simp[plainV_int]) (bare_bool _) 1 ?_
 unfold F124 qr qm qc qk qo idOk
 repeat' (first|(refine Cnd_intro (fun _=>?_) (fun _=>?_))|(simp (disch:=omega)only[↓pa,pb,↓reduceIte,Nat.reduceEqDiff,reduceCtorEq, *]))
theorem c_idOkS(K:Tab cf)(n:Int):callP cf 118 [I n] [] st=some (.bool (idOk n),st):=by
 refine c_val K (F:=F118) (t:=2) rfl rfl rfl (lb rfl) (by simp[plainV_int]) (bare_bool _) 1 ?_
 unfold F118 qr qm qc qk qo idOk
 repeat' (first|(refine Cnd_intro (fun _=>?_) (fun _=>?_))|(simp (disch:=omega)only[↓pa,pb,↓reduceIte,Nat.reduceEqDiff,reduceCtorEq, *]))
theorem c_name(K:Tab cf)(l:List UInt8):callP cf 127 [S l] [] st=some (.bool (nameOk l),st):=by
 refine c_val K (F:=F127) (t:=2) rfl rfl rfl (lb rfl) (by simp[plainV_str]) (bare_bool _) (l.length+1) ?_
 unfold F127 qr qd qm qi qc qb qk qo
 simp (disch:=omega)only[↓pa,pb,↓reduceIte,reduceCtorEq]
 refine Cnd_intro (fun h1=>?_) (fun h1=>?_)
 ·simp (disch:=omega)only[↓pa,pb,↓reduceIte,Nat.reduceEqDiff,h1]
  have:¬1≤l.length:=by omega
  simp[nameOk,this]
 simp (disch:=omega)only[↓pa,pb,↓reduceIte,Nat.reduceEqDiff,reduceCtorEq,h1]
 refine Cnd_intro (fun h2=>?_) (fun h2=>?_)
 ·simp (disch:=omega)only[↓pa,pb,↓reduceIte,Nat.reduceEqDiff,h2]
  have:¬l.length≤20:=by omega
  simp[nameOk,this]
 simp (disch:=omega)only[↓pa,pb,↓reduceIte,Nat.reduceEqDiff,reduceCtorEq,h2,c_letter K]
 refine Cnd_intro (fun h3=>?_) (fun h3=>?_)
 rotate_left
 ·simp (disch:=omega)only[↓pa,pb,↓reduceIte,h3]
  simp[nameOk,h3]
 simp (disch:=omega)only[↓pa,pb,↓reduceIte,reduceCtorEq,h3]
 refine Wp_rounds (fun k fr st=>∃ i:Nat,k=l.length-i∧i≤l.length∧fr 0=S l∧fr 19=I l.length∧fr 20=I i∧(l.take i).all (fun c=>isC (c.toNat:Int))=true) l.length (by omega) ⟨0,by simp,by simp,by simp (disch:=omega)only[↓pa,↓reduceIte,reduceCtorEq],by simp (disch:=omega)only[↓pa,↓reduceIte,Nat.reduceEqDiff],by simp (disch:=omega)only[↓pa,↓reduceIte];rfl,by simp⟩ ?_
 rintro k fr st ⟨i,rfl,hi,f0,f19,f20,hall⟩
 simp (disch:=omega)only[↓pa,pb,↓reduceIte,f19,f20]
 refine Cnd_intro (fun h4=>?_) (fun h4=>?_)
 rotate_left
 ·simp (disch:=omega)only[↓pa,pb,↓reduceIte]
  have hil:i=l.length:=by omega
  subst hil
  rw[List.take_length]at hall
  have h1':1≤l.length:=by omega
  have h2':l.length≤20:=by omega
  simp[nameOk,h1',h2',h3,hall]
 have hlt:i<l.length:=by omega
 have next:isC (cI l i)=true→∃ j,j<l.length-i∧∃ m:Nat,j=l.length-m∧m≤l.length∧True∧True∧I (↑i+1)=I m∧(l.take m).all (fun c=>isC (c.toNat:Int))=true:=fun h=>
  ⟨l.length- (i+1),by omega,i+1,rfl,by omega,trivial,trivial,by simp,by rw[all_take l i hlt,hall,←cI_get l i hlt,h];rfl⟩
 simp (disch:=omega)only[↓pa,pb,↓reduceIte,Nat.reduceEqDiff,reduceCtorEq,f0,f20,c_letter K]
 refine Cnd_intro (fun h5=>?_) (fun h5=>?_)
 ·simp (disch:=omega)only[↓pa,pb,↓reduceIte,Nat.reduceEqDiff,reduceCtorEq,f0,f19,f20,h5]
  simpa using next (by simp[isC,h5])
 ·simp (disch:=omega)only[↓pa,pb,↓reduceIte,Nat.reduceEqDiff,reduceCtorEq,f0,h5,c_digit K]
  refine Cnd_intro (fun h6=>?_) (fun h6=>?_)
  ·simp (disch:=omega)only[↓pa,pb,↓reduceIte,Nat.reduceEqDiff,reduceCtorEq,f0,f19,f20,h6]
   simpa using next (by simp[isC,h6])
  ·simp (disch:=omega)only[↓pa,pb,↓reduceIte,Nat.reduceEqDiff,reduceCtorEq,f0,h6]
   refine Cnd_intro (fun h7=>?_) (fun h7=>?_)
   ·simp (disch:=omega)only[↓pa,pb,↓reduceIte,Nat.reduceEqDiff,reduceCtorEq,f0,f19,f20,h7]
    simpa using next (by simp[isC,h7])
   ·simp (disch:=omega)only[↓pa,pb,↓reduceIte]
    have:isC (cI l i)=false:=by simp[isC,h5,h6,h7]
    simp[nameOk,cI_isC hlt this _ rfl]
def alln(n:Nat)(ok:Nat→Bool):Bool:=(List.range n).all ok
theorem alln_true{n:Nat}{ok:Nat→Bool}(h:∀ j,j<n→ok j=true):alln n ok=true:=by
 simp only[alln,List.all_eq_true,List.mem_range];exact h
theorem alln_false{n i:Nat}{ok:Nat→Bool}(h:i<n)(k:ok i=false):alln n ok=false:=by
 simp only[alln,List.all_eq_false,List.mem_range]
 exact⟨i,h,by simp[k]⟩
theorem alln_iff{n:Nat}{ok:Nat→Bool}:alln n ok=true↔∀ j,j<n→ok j=true:=by
 simp only[alln,List.all_eq_true,List.mem_range]
theorem below_next{i:Nat}{ok:Nat→Bool}(h:∀ j,j<i→ok j=true)(k:ok i=true):∀ j,j<i+1→ok j=true:=fun j hj=>by
 by_cases e:j=i
 ·rw[e];exact k
 ·exact h j (by omega)
@[reducible] def TX (l:List (List UInt8)):PV:= .list l.length (l.map S) .no
def tAt(l:List (List UInt8))(i:Nat):List UInt8:=l.getD i []
theorem partP_tx{l:List (List UInt8)}{i:Nat}(h:i<l.length):partP (l.map S) i 1 false=some (S (tAt l i)):=by
 refine partP_one ?_
 simp[tAt,h]
theorem plainV_tx(l:List (List UInt8)):plainV (TX l):=by
 refine plainV_list ?_
 induction l with
 |nil=>exact plainVs_nil
 |cons x l ih=>exact plainVs_cons (plainV_str _) ih
def rises(l:List (List UInt8))(i:Nat):Bool:=decide (i=0)||sLt (tAt l (i-1)) (tAt l i)
def rising(l:List (List UInt8)):Bool:=alln l.length (rises l)
def labelsOk(m:Int)(l:List (List UInt8)):Bool:=decide ((l.length:Int)≤m) && alln l.length fun i=>nameOk (tAt l i) && rises l i
theorem labelsOk_two(m:Int)(l:List (List UInt8)):labelsOk m l=(decide ((l.length:Int)≤m) && (rising l && alln l.length fun i=>nameOk (tAt l i))):=by
 unfold labelsOk rising
 congr 1
 rw[Bool.eq_iff_iff]
 simp only[Bool.and_eq_true,alln_iff]
 exact⟨fun h=>⟨fun j hj=>(h j hj).2,fun j hj=>(h j hj).1⟩,fun h j hj=>⟨h.2 j hj,h.1 j hj⟩⟩
theorem nameOk_from(l:List UInt8)(h1:1≤l.length)(h3:isL (cI l 0)=true):(l.take 1).all (fun c=>isC (c.toNat:Int))=true:=by
 match l,h1 with
 |c::l,_=>
  have:isL (c.toNat:Int)=true:=h3
  simp[isC,this]
theorem c_nameS(K:Tab cf)(l:List UInt8):callP cf 121 [S l] [] st=some (.bool (nameOk l),st):=by
 refine c_val K (F:=F121) (t:=2) rfl rfl rfl (lb rfl) (by simp[plainV_str]) (bare_bool _) (l.length+1) ?_
 unfold F121 qr qd qm qi qc qb qk qo
 simp (disch:=omega)only[↓pa,pb,↓reduceIte,reduceCtorEq]
 refine Cnd_intro (fun h1=>?_) (fun h1=>?_)
 ·simp (disch:=omega)only[↓pa,pb,↓reduceIte,Nat.reduceEqDiff,h1]
  have:¬1≤l.length:=by omega
  simp[nameOk,this]
 simp (disch:=omega)only[↓pa,pb,↓reduceIte,Nat.reduceEqDiff,reduceCtorEq,h1]
 refine Cnd_intro (fun h2=>?_) (fun h2=>?_)
 ·simp (disch:=omega)only[↓pa,pb,↓reduceIte,Nat.reduceEqDiff,h2]
  have:¬l.length≤20:=by omega
  simp[nameOk,this]
 simp (disch:=omega)only[↓pa,pb,↓reduceIte,Nat.reduceEqDiff,reduceCtorEq,h2,c_letterS K]
 refine Cnd_intro (fun h3=>?_) (fun h3=>?_)
 rotate_left
 ·simp (disch:=omega)only[↓pa,pb,↓reduceIte,h3]
  simp[nameOk,h3]
 simp (disch:=omega)only[↓pa,pb,h3]
 refine Wp_rounds (fun k fr st=>∃ i:Nat,k=l.length-i∧i≤l.length∧fr 0=S l∧fr 3=I i∧(l.take i).all (fun c=>isC (c.toNat:Int))=true) (l.length-1) (by omega) ⟨1,by simp,by omega,by simp (disch:=omega)only[↓pa,↓reduceIte,reduceCtorEq],by simp (disch:=omega)only[↓pa,↓reduceIte];rfl,nameOk_from l (by omega) h3⟩ ?_
 rintro k fr st ⟨i,rfl,hi,f0,f3,hall⟩
 simp (disch:=omega)only[↓pa,pb,↓reduceIte,Nat.reduceEqDiff,reduceCtorEq,f0,f3]
 refine Cnd_intro (fun h4=>?_) (fun h4=>?_)
 rotate_left
 ·simp (disch:=omega)only[↓pa,pb,↓reduceIte]
  have hil:i=l.length:=by omega
  subst hil
  rw[List.take_length]at hall
  have h1':1≤l.length:=by omega
  have h2':l.length≤20:=by omega
  simp[nameOk,h1',h2',h3,hall]
 have hlt:i<l.length:=by omega
 have next:isC (cI l i)=true→∃ j,j<l.length-i∧∃ m:Nat,j=l.length-m∧m≤l.length∧True∧I (↑i+1)=I m∧(l.take m).all (fun c=>isC (c.toNat:Int))=true:=fun h=>
  ⟨l.length- (i+1),by omega,i+1,rfl,by omega,trivial,by simp,by rw[all_take l i hlt,hall,←cI_get l i hlt,h];rfl⟩
 simp (disch:=omega)only[↓pa,pb,↓reduceIte,Nat.reduceEqDiff,reduceCtorEq,f0,f3,c_letterS K]
 refine Cnd_intro (fun h5=>?_) (fun h5=>?_)
 ·simp (disch:=omega)only[↓pa,pb,↓reduceIte,Nat.reduceEqDiff,reduceCtorEq,f0,f3,h5]
  simpa using next (by simp[isC,h5])
 ·simp (disch:=omega)only[↓pa,pb,↓reduceIte,Nat.reduceEqDiff,reduceCtorEq,f0,f3,h5,c_digitS K]
  refine Cnd_intro (fun h6=>?_) (fun h6=>?_)
  ·simp (disch:=omega)only[↓pa,pb,↓reduceIte,Nat.reduceEqDiff,reduceCtorEq,f0,f3,h6]
   simpa using next (by simp[isC,h6])
  ·simp (disch:=omega)only[↓pa,pb,↓reduceIte,Nat.reduceEqDiff,reduceCtorEq,f0,f3,h6]
   refine Cnd_intro (fun h7=>?_) (fun h7=>?_)
   ·simp (disch:=omega)only[↓pa,pb,↓reduceIte,Nat.reduceEqDiff,reduceCtorEq,f0,f3,h7]
    simpa using next (by simp[isC,h7])
   ·simp (disch:=omega)only[↓pa,pb,↓reduceIte]
    have:isC (cI l i)=false:=by simp[isC,h5,h6,h7]
    simp[nameOk,cI_isC hlt this _ rfl]
theorem c_rising(K:Tab cf)(l:List (List UInt8))(hl:(l.length:Int)≤2000000):callP cf 166 [TX l] [] st=some (.bool (rising l),st):=by
 refine c_val K (F:=F166) (t:=2) rfl rfl rfl (lb rfl) (by simp[plainV_tx]) (bare_bool _) (l.length+1) ?_
 have hm:(l.map S).length=l.length:=List.length_map _
 unfold F166 qr qd qm qi qc qb qk ql qo
 simp (disch:=omega)only[↓pa]
 refine Wp_rounds (fun k fr st=>∃ i:Nat,k=l.length-i∧1≤i∧(i≤l.length∨i=1)∧fr 0=TX l∧fr 3=I i∧∀ j,j<i→rises l j=true) (l.length-1) (by omega) ⟨1,by simp,by omega,by omega,by simp (disch:=omega)only[↓pa,↓reduceIte,reduceCtorEq],by simp (disch:=omega)only[↓pa,↓reduceIte];rfl,fun j hj=>?_⟩ ?_
 ·obtain rfl:j=0:=by omega
  rfl
 rintro k fr st ⟨i,rfl,hi1,hi,f0,f3,hall⟩
 simp (disch:=omega)only[↓pa,pb,↓reduceIte,Nat.reduceEqDiff,reduceCtorEq,f0,f3]
 refine Cnd_intro (fun h4=>?_) (fun h4=>?_)
 rotate_left
 ·simp (disch:=omega)only[↓pa,pb,↓reduceIte]
  rw[rising,alln_true fun j hj=>hall j (by omega)]
 have hlt:i<l.length:=by omega
 have hp:((i:Int) -1).toNat=i-1:=by omega
 simp (disch:=omega)only[↓pa,pb,↓reduceIte,Nat.reduceEqDiff,reduceCtorEq,f0,f3,hp,Nat.mul_one,partP_tx (show i<l.length from hlt),partP_tx (show i-1<l.length by omega)]
 have e:rises l i=sLt (tAt l (i-1)) (tAt l i):=by simp[rises,show i≠0 by omega]
 refine Cnd_intro (fun h5=>?_) (fun h5=>?_)
 ·simp (disch:=omega)only[↓pa,pb,↓reduceIte,Nat.reduceEqDiff,reduceCtorEq,f0,f3,h5]
  exact⟨l.length- (i+1),by omega,i+1,rfl,by omega,by omega,by simp,below_next hall (by rw[e];exact h5)⟩
 ·simp (disch:=omega)only[↓pa,pb,↓reduceIte,h5]
  rw[rising,alln_false hlt (by rw[e];simpa using h5)]
theorem c_labelsS(K:Tab cf)(l:List (List UInt8)):callP cf 119 [TX l] [] st=some (.bool (labelsOk 10 l),st):=by
 refine c_val K (F:=F119) (t:=2) rfl rfl rfl (lb rfl) (by simp[plainV_tx]) (bare_bool _) (l.length+1) ?_
 rw[labelsOk_two]
 have hm:(l.map S).length=l.length:=List.length_map _
 unfold F119 qr qd qm qi qc qb qk ql qo
 simp (disch:=omega)only[↓pa,pb,↓reduceIte,reduceCtorEq]
 refine Cnd_intro (fun h1=>?_) (fun h1=>?_)
 ·simp (disch:=omega)only[↓pa,pb,↓reduceIte,Nat.reduceEqDiff,h1]
  have:¬ ((l.length:Int)≤10):=by omega
  simp only[this,decide_false,Bool.false_and]
 have h1':(l.length:Int)≤10:=by omega
 simp (disch:=omega)only[↓pa,pb,↓reduceIte,Nat.reduceEqDiff,reduceCtorEq,h1,c_rising K l (by omega)]
 refine Cnd_intro (fun h2=>?_) (fun h2=>?_)
 rotate_left
 ·simp (disch:=omega)only[↓pa,pb,↓reduceIte,h2]
 simp (disch:=omega)only[↓pa,pb,h2]
 refine Wp_rounds (fun k fr st=>∃ i:Nat,k=l.length-i∧i≤l.length∧fr 0=TX l∧fr 3=I i∧∀ j,j<i→nameOk (tAt l j)=true) l.length (by omega) ⟨0,by simp,by omega,by simp (disch:=omega)only[↓pa,↓reduceIte,reduceCtorEq],by simp (disch:=omega)only[↓pa,↓reduceIte];rfl,fun j hj=>by omega⟩ ?_
 rintro k fr st ⟨i,rfl,hi,f0,f3,hall⟩
 simp (disch:=omega)only[↓pa,pb,↓reduceIte,Nat.reduceEqDiff,reduceCtorEq,f0,f3]
 refine Cnd_intro (fun h4=>?_) (fun h4=>?_)
 rotate_left
 ·simp (disch:=omega)only[↓pa,pb,↓reduceIte]
  have ha:alln l.length (fun i=>nameOk (tAt l i))=true:=alln_true fun j hj=>hall j (by omega)
  simp[h1',ha]
 have hlt:i<l.length:=by omega
 simp (disch:=omega)only[↓pa,pb,↓reduceIte,Nat.reduceEqDiff,reduceCtorEq,f0,f3,Nat.mul_one,partP_tx hlt,c_nameS K]
 refine Cnd_intro (fun h5=>?_) (fun h5=>?_)
 ·simp (disch:=omega)only[↓pa,pb,↓reduceIte,Nat.reduceEqDiff,reduceCtorEq,f0,f3,h5]
  exact⟨l.length- (i+1),by omega,i+1,rfl,by omega,by simp,below_next hall h5⟩
 ·simp (disch:=omega)only[↓pa,pb,↓reduceIte,h5]
  rw[alln_false hlt (by simpa using h5)]
  simp
theorem c_labels(K:Tab cf)(l:List (List UInt8))(m:Int)(hm:m≤2000000):callP cf 125 [TX l,I m] [] st=some (.bool (labelsOk m l),st):=by
 refine c_val K (F:=F125) (t:=4) rfl rfl rfl (lb rfl) (by simp[plainV_tx,plainV_int]) (bare_bool _) (l.length+1) ?_
 have hm:(l.map S).length=l.length:=List.length_map _
 unfold F125 qr qd qm qi qc qb qk ql qo
 simp (disch:=omega)only[↓pa,pb,↓reduceIte,Nat.reduceEqDiff,reduceCtorEq]
 refine Cnd_intro (fun h1=>?_) (fun h1=>?_)
 ·simp (disch:=omega)only[↓pa,pb,↓reduceIte,h1]
  have:¬ ((l.length:Int)≤m):=by omega
  simp[labelsOk,this]
 have h1':(l.length:Int)≤m:=by omega
 simp (disch:=omega)only[↓pa,pb,↓reduceIte,reduceCtorEq,h1]
 refine Wp_rounds (fun k fr st=>∃ i:Nat,k=l.length-i∧i≤l.length∧fr 0=TX l∧fr 11=TX l∧fr 12=I l.length∧fr 13=I i∧∀ j,j<i→(nameOk (tAt l j) && rises l j)=true) l.length (by omega) ⟨0,by simp,by omega,by simp (disch:=omega)only[↓pa,↓reduceIte,reduceCtorEq],by simp (disch:=omega)only[↓pa,↓reduceIte,Nat.reduceEqDiff],by simp (disch:=omega)only[↓pa,↓reduceIte,Nat.reduceEqDiff],by simp (disch:=omega)only[↓pa,↓reduceIte];rfl,fun j hj=>by omega⟩ ?_
 rintro k fr st ⟨i,rfl,hi,f0,f11,f12,f13,hall⟩
 simp (disch:=omega)only[↓pa,pb,↓reduceIte,f12,f13]
 refine Cnd_intro (fun h4=>?_) (fun h4=>?_)
 rotate_left
 ·simp (disch:=omega)only[↓pa,pb,↓reduceIte]
  have ha:alln l.length (fun i=>nameOk (tAt l i) && rises l i)=true:=alln_true fun j hj=>hall j (by omega)
  simp[labelsOk,h1',ha]
 have hlt:i<l.length:=by omega
 have bad:(nameOk (tAt l i) && rises l i)=false→labelsOk m l=false:=fun h=>by rw[labelsOk,alln_false hlt h];simp
 have next:(nameOk (tAt l i) && rises l i)=true→∃ j,j<l.length-i∧∃ m:Nat,j=l.length-m∧m≤l.length∧True∧True∧True∧I (↑i+1)=I m∧∀ j,j<m→(nameOk (tAt l j) && rises l j)=true:=fun h=>
  ⟨l.length- (i+1),by omega,i+1,rfl,by omega,trivial,trivial,trivial,by simp,below_next hall h⟩
 simp (disch:=omega)only[↓pa,pb,↓reduceIte,Nat.reduceEqDiff,f11,f13,Nat.mul_one,partP_tx hlt,c_name K]
 refine Cnd_intro (fun h5=>?_) (fun h5=>?_)
 rotate_left
 ·simp (disch:=omega)only[↓pa,pb,↓reduceIte,Nat.reduceEqDiff,h5]
  rw[bad (by simp[h5])]
 simp (disch:=omega)only[↓pa,pb,↓reduceIte,Nat.reduceEqDiff,h5]
 refine Cnd_intro (fun h6=>?_) (fun h6=>?_)
 rotate_left
 ·simp (disch:=omega)only[↓pa,pb,↓reduceIte,Nat.reduceEqDiff,reduceCtorEq,f0,f11,f12,f13,h6]
  have:i=0:=by omega
  simpa using next (by rw[h5,rises];simp[this])
 have hp:((i:Int) -1).toNat=i-1:=by omega
 have e:rises l i=sLt (tAt l (i-1)) (tAt l i):=by simp[rises,show i≠0 by omega]
 simp (disch:=omega)only[↓pa,pb,↓reduceIte,Nat.reduceEqDiff,reduceCtorEq,f0,h6,hp,Nat.mul_one,partP_tx (show i-1<l.length by omega)]
 refine Cnd_intro (fun h7=>?_) (fun h7=>?_)
 ·simp (disch:=omega)only[↓pa,pb,↓reduceIte,Nat.reduceEqDiff,reduceCtorEq,f0,f11,f12,f13,h7]
  simpa using next (by rw[e];simp[h5,h7])
 ·simp (disch:=omega)only[↓pa,pb,↓reduceIte,h7]
  rw[bad (by rw[e];simp[h5,h7])]
end Go.PM
namespace Go.PM
inductive V where
 |mk (kind n m:Int) (s:List UInt8) (ns:List (List UInt8)) (vs:List V)
def V.kind:V→Int| .mk k _ _ _ _ _=>k
def V.items:V→List V| .mk _ _ _ _ _ vs=>vs
mutual
def V.ca:V→List PV
 | .mk k n m s ns vs=>[I k,I n,I m,S s,.list ns.length (ns.map S) .no,.list vs.length (V.cas vs) .no]
def V.cas:List V→List PV
 | []=>[]
 |v::vs=>v.ca++V.cas vs
end
mutual
def V.cb:V→List PV
 | .mk k n m s ns vs=>[I k,I n,I m,S s,.list vs.length (V.cbs vs) .no,.list ns.length (ns.map S) .no]
def V.cbs:List V→List PV
 | []=>[]
 |v::vs=>v.cb++V.cbs vs
end
def skip(p:Int→Bool)(t:List UInt8)(i:Nat):Nat:=i+((t.drop i).takeWhile fun c=>p (c.toNat:Int)).length
def seg(t:List UInt8)(i j:Nat):List UInt8:=(t.take j).drop i
def tk(t:List UInt8)(i:Nat)(s:List UInt8):Bool:=decide ((t.drop i).take s.length=s)
def rdInt(s:List UInt8):Option Int:=match Go.Lib.parseIntB 64 s with
 | .ok n=>if Go.Lib.itoa n=s then some n else none
 |_=>none
def pint(t:List UInt8)(i:Nat):Option (Int×Nat):=
 (rdInt (seg t i (skip isD t (if cI t i=45 then i+1 else i)))).map fun n=>(n,skip isD t (if cI t i=45 then i+1 else i))
def pid(t:List UInt8)(i:Nat):Option (Int×Nat):=match pint t i with
 |some (n,j)=>if 1≤n∧n≤1000000000000 then some (n,j)else none
 |none=>none
def quotedGo(t:List UInt8):Nat→Nat→List UInt8→Option (List UInt8×Nat)
 |0,_,_=>none
 |k+1,i,acc=>
  if i<t.length then
   if cI t i=34 then some (acc,i+1)
   else if cI t i=92 then
    if cI t (i+1)=34∨cI t (i+1)=92 then quotedGo t k (i+2) (acc++[t.getD (i+1) 0])
    else if cI t (i+1)=110 then quotedGo t k (i+2) (acc++[10])else none
   else if cI t i<32 then none
   else quotedGo t k (i+1) (acc++[t.getD i 0])
  else none
def pquoted(t:List UInt8)(i:Nat):Option (List UInt8×Nat):=quotedGo t (t.length+1-i) i []
def pname(t:List UInt8)(i:Nat):Option (List UInt8×Nat):=
 if nameOk (seg t i (skip isC t i))then some (seg t i (skip isC t i),skip isC t i)else none
def digs(t:List UInt8):Nat→Nat→Int→Option Int
 |0,_,v=>some v
 |k+1,i,v=>if i<t.length∧isD (cI t i)=true then digs t k (i+1) (v*10+(cI t i-48))else none
def leapY(y:Int):Bool:=decide (y.tmod 4=0) && (decide (y.tmod 100≠0)||decide (y.tmod 400=0))
def mdays(y m:Int):Int:=if m=2 then(if leapY y then 29 else 28)else if m=4∨m=6∨m=9∨m=11 then 30 else 31
def msum(y:Int):Nat→Int
 |0=>0
 |k+1=>msum y k+mdays y (k+1)
def dnum(y m d:Int):Int:=(y-1) *365+(y-1).tdiv 4- (y-1).tdiv 100+(y-1).tdiv 400+msum y (m.toNat-1)+d-1
def ymd(y m d:Int):Option Int:=if 1≤y∧1≤m∧m≤12∧1≤d∧d≤mdays y m then some (dnum y m d)else none
def pdate(t:List UInt8)(i:Nat):Option (Int×Nat):=
 match digs t 4 i 0,digs t 2 (i+5) 0,digs t 2 (i+8) 0 with
 |some y,some m,some d=>if cI t (i+4)=45∧cI t (i+7)=45 then(ymd y m d).map fun n=>(n,i+10)else none
 |_,_,_=>none
def big(x:Int):Bool:=decide (x< -1000000)||decide (1000000<x)
def ppoint(t:List UInt8)(i:Nat):Option (V×Nat):=match pint t i with
 |some (a,j)=>if cI t j=32 then match pint t (j+1)with
  |some (b,k)=>if cI t k=41∧big a=false∧big b=false then some (.mk 5 a b [] [] [],k+1)else none
  |none=>none
  else none
 |none=>none
def pthing(t:List UInt8)(kind:Int)(i:Nat):Option (V×Nat):=(pid t i).map fun q=>(.mk kind q.1 0 [] [] [],q.2)
def pathGo(t:List UInt8):Nat→Bool→Nat→List V→Option (V×Nat)
 |0,_,_,_=>none
 |k+1,node,i,acc=>
  if cI t i=(if node then 110 else 101)then match pthing t (if node then 8 else 9) (i+1)with
   |some (v,j)=>
    if node=true∧cI t j=62 then some (.mk 10 0 0 [] [] (acc++[v]),j+1)
    else if cI t j=32 then pathGo t k (!node) (j+1) (acc++[v])
    else none
   |none=>none
  else none
def ppath(t:List UInt8)(i:Nat):Option (V×Nat):=pathGo t (t.length+1-i) true i []
def listGo(t:List UInt8)(rd:Nat→Option (V×Nat)):Nat→Nat→List V→Option (V×Nat)
 |0,_,_=>none
 |k+1,i,acc=>match rd i with
  |some (v,j)=>
   if cI t j=93 then some (.mk 6 0 0 [] [] (acc++[v]),j+1)
   else if cI t j=44 then listGo t rd k (j+1) (acc++[v])
   else none
  |none=>none
def plist(t:List UInt8)(rd:Nat→Option (V×Nat))(i:Nat):Option (V×Nat):=
 if cI t i=93 then some (.mk 6 0 0 [] [] [],i+1)else listGo t rd (t.length+1-i) i []
def mapGo(t:List UInt8)(rd:Nat→Option (V×Nat)):Nat→Nat→List (List UInt8)→List V→Option (V×Nat)
 |0,_,_,_=>none
 |k+1,i,ns,acc=>match pname t i with
  |some (s,j)=>if cI t j=58 then match rd (j+1)with
   |some (v,j)=>
    if cI t j=125 then(if rising (ns++[s])then some (.mk 7 0 0 [] (ns++[s]) (acc++[v]),j+1)else none)
    else if cI t j=44 then mapGo t rd k (j+1) (ns++[s]) (acc++[v])
    else none
   |none=>none
   else none
  |none=>none
def pmap(t:List UInt8)(rd:Nat→Option (V×Nat))(i:Nat):Option (V×Nat):=
 if cI t i=125 then some (.mk 7 0 0 [] [] [],i+1)else mapGo t rd (t.length+1-i) i [] []
def pbody(t:List UInt8)(rd:Option (Nat→Option (V×Nat)))(i:Nat):Option (V×Nat):=
 if cI t i=34 then(pquoted t (i+1)).map fun q=>(.mk 3 0 0 q.1 [] [],q.2)
 else if cI t i=64 then(pdate t (i+1)).map fun q=>(.mk 4 q.1 0 [] [] [],q.2)
 else if cI t i=45∨isD (cI t i)=true then(pint t i).map fun q=>(.mk 2 q.1 0 [] [] [],q.2)
 else if cI t i=40 then ppoint t (i+1)
 else if cI t i=91 then match rd with
  |some rd=>plist t rd (i+1)
  |none=>none
 else if cI t i=123 then match rd with
  |some rd=>pmap t rd (i+1)
  |none=>none
 else if cI t i=60 then ppath t (i+1)
 else if tk t i [110,117,108,108]then some (.mk 0 0 0 [] [] [],i+4)
 else if tk t i [116,114,117,101]then some (.mk 1 1 0 [] [] [],i+4)
 else if tk t i [102,97,108,115,101]then some (.mk 1 0 0 [] [] [],i+5)
 else if cI t i=110 then pthing t 8 (i+1)
 else if cI t i=101 then pthing t 9 (i+1)
 else none
def pval(t:List UInt8):Nat→Nat→Option (V×Nat)
 |0=>pbody t none
 |b+1=>pbody t (some (pval t b))
def pread(t:List UInt8):Option V:=if t.length≤2000 then match pval t 5 0 with
 |some (v,j)=>if j=t.length then some v else none
 |none=>none
 else none
theorem cI_end{t:List UInt8}{i:Nat}(h:t.length≤i):cI t i=0:=by simp[cI,List.getElem?_eq_none h]
theorem cI_in{t:List UInt8}{i:Nat}(h:cI t i≠0):i<t.length:=by
 by_cases k:i<t.length
 ·exact k
 ·exact absurd (cI_end (by omega)) h
theorem skip_step{p:Int→Bool}{t:List UInt8}{i:Nat}(h:i<t.length)(k:p (cI t i)=true):skip p t i=skip p t (i+1):=by
 unfold skip
 rw[List.drop_eq_getElem_cons h,List.takeWhile_cons]
 rw[cI_get t i h]at k
 rw[if_pos k,List.length_cons]
 omega
theorem skip_stop{p:Int→Bool}{t:List UInt8}{i:Nat}(h:i<t.length→p (cI t i)=false):skip p t i=i:=by
 unfold skip
 by_cases hi:i<t.length
 ·rw[List.drop_eq_getElem_cons hi,List.takeWhile_cons]
  have k:=h hi
  rw[cI_get t i hi]at k
  rw[if_neg (by simp[k])]
  rfl
 ·rw[List.drop_eq_nil_of_le (by omega)]
  rfl
theorem skip_ge(p:Int→Bool)(t:List UInt8)(i:Nat):i≤skip p t i:=by unfold skip;omega
theorem skip_le{p:Int→Bool}{t:List UInt8}{i:Nat}(h:i≤t.length):skip p t i≤t.length:=by
 unfold skip
 have:=(List.takeWhile_sublist (fun c:UInt8=>p (c.toNat:Int)) (l:=t.drop i)).length_le
 rw[List.length_drop]at this
 omega
theorem pint_le{t:List UInt8}{i:Nat}{n:Int}{j:Nat}(hi:i≤t.length)(h:pint t i=some (n,j)):i≤j∧j≤t.length:=by
 unfold pint at h
 simp only[Option.map_eq_some_iff,Prod.mk.injEq]at h
 obtain⟨_,_,_,rfl⟩:=h
 split
 ·rename_i hc
  have hlt:=cI_in (show cI t i≠0 by rw[hc];decide)
  have:=skip_ge isD t (i+1)
  exact⟨by omega,skip_le (by omega)⟩
 ·exact⟨skip_ge _ _ _,skip_le hi⟩
theorem pid_le{t:List UInt8}{i:Nat}{n:Int}{j:Nat}(hi:i≤t.length)(h:pid t i=some (n,j)):i≤j∧j≤t.length:=by
 unfold pid at h
 split at h
 ·rename_i n' j' hp
  split at h
  ·cases h;exact pint_le hi hp
  ·cases h
 ·cases h
theorem V.ca_len(v:V):v.ca.length=6:=by cases v;rfl
theorem V.cb_len(v:V):v.cb.length=6:=by cases v;rfl
theorem V.cas_len:∀ vs:List V,(V.cas vs).length=vs.length*6
 | []=>rfl
 |v::vs=>by rw[V.cas,List.length_append,V.ca_len,V.cas_len vs,List.length_cons];omega
theorem V.cbs_len:∀ vs:List V,(V.cbs vs).length=vs.length*6
 | []=>rfl
 |v::vs=>by rw[V.cbs,List.length_append,V.cb_len,V.cbs_len vs,List.length_cons];omega
theorem V.cas_app:∀ vs ws:List V,V.cas (vs++ws)=V.cas vs++V.cas ws
 | [],_=>rfl
 |v::vs,ws=>by rw[List.cons_append,V.cas,V.cas,V.cas_app vs ws,List.append_assoc]
theorem V.cbs_app:∀ vs ws:List V,V.cbs (vs++ws)=V.cbs vs++V.cbs ws
 | [],_=>rfl
 |v::vs,ws=>by rw[List.cons_append,V.cbs,V.cbs,V.cbs_app vs ws,List.append_assoc]
theorem V.cas_snoc(vs:List V)(v:V):V.cas vs++v.ca=V.cas (vs++[v]):=by rw[V.cas_app,V.cas,V.cas,List.append_nil]
theorem V.cbs_snoc(vs:List V)(v:V):V.cbs vs++v.cb=V.cbs (vs++[v]):=by rw[V.cbs_app,V.cbs,V.cbs,List.append_nil]
theorem plainVs_tx(ns:List (List UInt8)):plainVs (ns.map S):=by
 induction ns with
 |nil=>exact plainVs_nil
 |cons x l ih=>exact plainVs_cons (plainV_str _) ih
mutual
theorem V.ca_plain:∀ v:V,plainVs v.ca
 | .mk k n m s ns vs=>by
  rw[V.ca]
  exact plainVs_cons (plainV_int _ _) (plainVs_cons (plainV_int _ _) (plainVs_cons (plainV_int _ _) (plainVs_cons (plainV_str _) (plainVs_cons (plainV_list (plainVs_tx ns)) (plainVs_cons (plainV_list (V.cas_plain vs)) plainVs_nil)))))
theorem V.cas_plain:∀ vs:List V,plainVs (V.cas vs)
 | []=>plainVs_nil
 |v::vs=>by rw[V.cas];exact plainVs_append (V.ca_plain v) (V.cas_plain vs)
end
mutual
theorem V.cb_plain:∀ v:V,plainVs v.cb
 | .mk k n m s ns vs=>by
  rw[V.cb]
  exact plainVs_cons (plainV_int _ _) (plainVs_cons (plainV_int _ _) (plainVs_cons (plainV_int _ _) (plainVs_cons (plainV_str _) (plainVs_cons (plainV_list (V.cbs_plain vs)) (plainVs_cons (plainV_list (plainVs_tx ns)) plainVs_nil)))))
theorem V.cbs_plain:∀ vs:List V,plainVs (V.cbs vs)
 | []=>plainVs_nil
 |v::vs=>by rw[V.cbs];exact plainVs_append (V.cb_plain v) (V.cbs_plain vs)
end
theorem pmV:
  (∀ {v:V},nps v.ca=true)∧(∀ {v:V},strips v.ca=v.ca)∧(∀ {v:V},nps v.cb=true)∧(∀ {v:V},strips v.cb=v.cb)∧
  (∀ {vs:List V},nps (V.cas vs)=true)∧(∀ {vs:List V},strips (V.cas vs)=V.cas vs)∧(∀ {vs:List V},nps (V.cbs vs)=true)∧(∀ {vs:List V},strips (V.cbs vs)=V.cbs vs)∧
  (∀ {ns:List (List UInt8)},nps (ns.map S)=true)∧(∀ {ns:List (List UInt8)},strips (ns.map S)=ns.map S)∧
  (∀ {v:V},v.ca.take 6=v.ca)∧(∀ {v:V},v.cb.take 6=v.cb)∧(∀ {v:V},v.ca.length=6)∧(∀ {v:V},v.cb.length=6)∧
  (∀ {v:V} {cs:List PV},cs.length=6→putCells cs 0 v.ca=v.ca)∧(∀ {v:V} {cs:List PV},cs.length=6→putCells cs 0 v.cb=v.cb):=by
 refine⟨fun{v}=>v.ca_plain.1,fun{v}=>v.ca_plain.2.1,fun{v}=>v.cb_plain.1,fun{v}=>v.cb_plain.2.1,fun{vs}=>(V.cas_plain vs).1,fun{vs}=>(V.cas_plain vs).2.1,fun{vs}=>(V.cbs_plain vs).1,fun{vs}=>(V.cbs_plain vs).2.1,fun{ns}=>(plainVs_tx ns).1,fun{ns}=>(plainVs_tx ns).2.1,fun{v}=>?_,fun{v}=>?_,fun{v}=>v.ca_len,fun{v}=>v.cb_len,fun{v cs} h=>?_,fun{v cs} h=>?_⟩
 ·exact List.take_of_length_le (by rw[V.ca_len];omega)
 ·exact List.take_of_length_le (by rw[V.cb_len];omega)
 ·exact putCells_all (by rw[V.ca_len,h])
 ·exact putCells_all (by rw[V.cb_len,h])
end Go.PM
namespace Go.PM
variable {cf:CallF} {st:St} {mk:PV→St→Fr×St} {A:Fr×St→Prop} {s:Nat}
theorem natP:(∀ {i:Nat},((i:Int)+1)=((i+1:Nat):Int))∧(∀ {i j:Nat},((i:Int)+(j:Int))=((i+j:Nat):Int))∧(∀ {i j:Nat},((i:Int)<(j:Int))=(i<j))∧(∀ {i j:Nat},((i:Int)≤(j:Int))=(i≤j))∧(∀ {i j:Nat},((i:Int)=(j:Int))=(i=j)):=by
 exact⟨by intros;simp,by intros;simp,by intros;simp,by intros;simp,by intros;apply propext;omega⟩
theorem setO_same{c:List PV}(h:st.objs s=some c):setO st s c=st:=by
 unfold setO
 congr 1
 funext k
 split
 ·rename_i e;rw[e,h]
 ·rfl
theorem plainVs_rd(t:List UInt8)(i:Int):plainVs [S t,I i]:=plainVs_cons (plainV_str _) (plainVs_cons (plainV_int _ _) plainVs_nil)
theorem bares_rd(t:List UInt8)(i:Int):bares [S t,I i]:=bares_cons (bare_str _) (bares_cons (bare_int _ _) bares_nil)
theorem plainVs_rd3(t:List UInt8)(i:Int)(b:Bool):plainVs [S t,I i,.bool b]:=plainVs_cons (plainV_str _) (plainVs_cons (plainV_int _ _) (plainVs_cons (plainV_bool _) plainVs_nil))
theorem bares_rd3(t:List UInt8)(i:Int)(b:Bool):bares [S t,I i,.bool b]:=bares_cons (bare_str _) (bares_cons (bare_int _ _) (bares_cons (bare_bool _) bares_nil))
theorem c_peek(K:Tab cf){t:List UInt8}{i:Nat}(hs:st.objs s=some [S t,I i]):callP cf 218 [.ptr s 0] [] st=some (U (cI t i),st):=by
 have:callP cf 218 [.ptr s 0] [] st=some (U (cI t i),setO st s [S t,I i]):=by
  refine c_ptr K (F:=F218) (t:=2) rfl rfl rfl (lb rfl) (lb rfl) (by simp) (bare_int _ _) hs (plainVs_rd t i) (bares_rd t i) 1 ?_
  unfold F218 qr qd qm qc qb ql qf qo
  simp (disch:=omega)only[↓pa,pb,pmy,natP,↓reduceIte,Nat.reduceEqDiff,Nat.reduceAdd,reduceCtorEq]
  refine Cnd_intro (fun h=>?_) (fun h=>?_)
  ·simp (disch:=omega)only[↓pa,pb,pmy,↓reduceIte,Nat.reduceEqDiff,Nat.reduceAdd,reduceCtorEq,h]
  ·simp (disch:=omega)only[↓pa,pb,↓reduceIte,h]
   rw[cI_end (by omega)]
 rw[this,setO_same hs]
theorem rt_peek(K:Tab cf){t:List UInt8}{i:Nat}(hs:st.objs s=some [S t,I i]):RunsTo (callP cf 218 [.ptr s 0] [] st) mk A↔A (mk (U (cI t i)) st):=by rw[c_peek K hs,RunsTo_some]
theorem tk_short{t x:List UInt8}{i:Nat}(hi:i≤t.length)(h:t.length-i<x.length):tk t i x=false:=by
 simp only[tk,decide_eq_false_iff_not]
 intro e
 have:=congrArg List.length e
 rw[List.length_take,List.length_drop]at this
 omega
theorem c_hasP(K:Tab cf)(a x:List UInt8):callP cf 248 [S a,S x] [] st=some (.bool (decide (a.take x.length=x)),st):=by
 refine c_val K (F:=F248) (t:=4) rfl rfl rfl (lb rfl) (by simp[plainV_str]) (bare_bool _) 1 ?_
 unfold F248 qr qm qc qb qo
 simp (disch:=omega)only[↓pa,pb,natP,↓reduceIte,Nat.reduceEqDiff,reduceCtorEq]
 refine Cnd_intro (fun h=>?_) (fun h=>?_)
 ·simp (disch:=omega)only[↓pa,pb,↓reduceIte,Nat.reduceEqDiff,reduceCtorEq,h]
 ·simp (disch:=omega)only[↓pa,pb,↓reduceIte,Nat.reduceEqDiff,h]
  have:¬a.take x.length=x:=fun e=>by
   have:=congrArg List.length e
   rw[List.length_take]at this
   omega
  simp only[this,decide_false]
theorem c_has(K:Tab cf)(a x:List UInt8):callP cf 241 [S a,S x] [] st=some (.bool (decide (a.take x.length=x)),st):=by
 refine c_val K (F:=F241) (t:=4) rfl rfl rfl (lb rfl) (by simp[plainV_str]) (bare_bool _) 1 ?_
 unfold F241 qr qm qc qo
 simp (disch:=omega)only[↓pa,pb,↓reduceIte,Nat.reduceEqDiff,reduceCtorEq,c_hasP K]
theorem c_begins(K:Tab cf)(a x:List UInt8):callP cf 231 [S a,S x] [] st=some (.bool (decide (a.take x.length=x)),st):=by
 refine c_val K (F:=F231) (t:=4) rfl rfl rfl (lb rfl) (by simp[plainV_str]) (bare_bool _) 1 ?_
 unfold F231 qr qm qc qb qo
 simp (disch:=omega)only[↓pa,pb,natP,↓reduceIte,Nat.reduceEqDiff,reduceCtorEq]
 refine Cnd_intro (fun h=>?_) (fun h=>?_)
 ·simp (disch:=omega)only[↓pa,pb,↓reduceIte,Nat.reduceEqDiff,reduceCtorEq,h]
 ·simp (disch:=omega)only[↓pa,pb,↓reduceIte,Nat.reduceEqDiff,h]
  have:¬a.take x.length=x:=fun e=>by
   have:=congrArg List.length e
   rw[List.length_take]at this
   omega
  simp only[this,decide_false]
theorem tk_eq{t x:List UInt8}{i:Nat}:decide ((t.drop i).take x.length=x)=tk t i x:=rfl
theorem c_eat1(K:Tab cf){t x:List UInt8}{i:Nat}(hs:st.objs s=some [S t,I i])(hi:i≤t.length)(hl:t.length≤2000000)(hx:x.length≤2000000)(h:tk t i x=true):callP cf 226 [.ptr s 0,S x] [] st=some (.bool true,setO st s [S t,I (i+x.length:Nat)]):=by
 refine c_ptr K (F:=F226) (t:=4) rfl rfl rfl (lb rfl) (lb rfl) (by simp[plainV_str]) (bare_bool _) hs (plainVs_rd t i) (bares_rd t _) 1 ?_
 unfold F226 qr qd qm qc qb ql qf qo qe
 simp (disch:=omega)only[↓pa,pb,pmy,natP,↓reduceIte,Nat.reduceEqDiff,Nat.reduceAdd,Nat.reduceLeDiff,reduceCtorEq,c_has K,tk_eq,h]
theorem c_eat0(K:Tab cf){t x:List UInt8}{i:Nat}(hs:st.objs s=some [S t,I i])(hi:i≤t.length)(hl:t.length≤2000000)(h:¬tk t i x=true):callP cf 226 [.ptr s 0,S x] [] st=some (.bool false,st):=by
 have:callP cf 226 [.ptr s 0,S x] [] st=some (.bool false,setO st s [S t,I i]):=by
  refine c_ptr K (F:=F226) (t:=4) rfl rfl rfl (lb rfl) (lb rfl) (by simp[plainV_str]) (bare_bool _) hs (plainVs_rd t i) (bares_rd t _) 1 ?_
  unfold F226 qr qd qm qc qb ql qf qo qe
  simp (disch:=omega)only[↓pa,pb,pmy,↓reduceIte,Nat.reduceEqDiff,Nat.reduceAdd,reduceCtorEq,c_has K,tk_eq,h]
 rw[this,setO_same hs]
theorem rt_eat(K:Tab cf){t x:List UInt8}{i:Nat}(hs:st.objs s=some [S t,I i])(hi:i≤t.length)(hl:t.length≤2000000)(hx:x.length≤2000000):
  RunsTo (callP cf 226 [.ptr s 0,S x] [] st) mk A↔Cnd (tk t i x=true) (Later A (mk (.bool true) (setO st s [S t,I (i+x.length:Nat)]))) (Later A (mk (.bool false) st)):=by
 by_cases h:tk t i x=true
 ·rw[c_eat1 K hs hi hl hx h,RunsTo_some];simp only[h,Later,Cnd];simp
 ·rw[c_eat0 K hs hi hl h,RunsTo_some];simp only[Later,Cnd,h];simp
theorem c_takes1(K:Tab cf){t x:List UInt8}{i:Nat}(hs:st.objs s=some [S t,I i,.bool false])(hi:i≤t.length)(hl:t.length≤2000000)(hx:x.length≤2000000)(h:tk t i x=true):callP cf 210 [.ptr s 0,S x] [] st=some (.bool true,setO st s [S t,I (i+x.length:Nat),.bool false]):=by
 refine c_ptr K (F:=F210) (t:=4) rfl rfl rfl (lb rfl) (lb rfl) (by simp[plainV_str]) (bare_bool _) hs (plainVs_rd3 t i _) (bares_rd3 t _ _) 1 ?_
 unfold F210 qr qd qm qc qb ql qf qo qe
 simp (disch:=omega)only[↓pa,pb,pmy,natP,↓reduceIte,Nat.reduceEqDiff,Nat.reduceAdd,Nat.reduceLeDiff,reduceCtorEq,c_begins K,tk_eq,h]
theorem c_takes0(K:Tab cf){t x:List UInt8}{i:Nat}{b:Bool}(hs:st.objs s=some [S t,I i,.bool b])(hi:i≤t.length)(hl:t.length≤2000000)(h:¬ (b=false∧tk t i x=true)):callP cf 210 [.ptr s 0,S x] [] st=some (.bool false,st):=by
 have:callP cf 210 [.ptr s 0,S x] [] st=some (.bool false,setO st s [S t,I i,.bool b]):=by
  refine c_ptr K (F:=F210) (t:=4) rfl rfl rfl (lb rfl) (lb rfl) (by simp[plainV_str]) (bare_bool _) hs (plainVs_rd3 t i _) (bares_rd3 t _ _) 1 ?_
  unfold F210 qr qd qm qc qb ql qf qo qe
  cases b with
  |true=>simp (disch:=omega)only[↓pa,pb,pmy,↓reduceIte,Nat.reduceEqDiff,Nat.reduceAdd,reduceCtorEq]
  |false=>
   have h':¬tk t i x=true:=fun k=>h ⟨rfl,k⟩
   simp (disch:=omega)only[↓pa,pb,pmy,↓reduceIte,Nat.reduceEqDiff,Nat.reduceAdd,reduceCtorEq,c_begins K,tk_eq,h']
 rw[this,setO_same hs]
theorem rt_takes(K:Tab cf){t x:List UInt8}{i:Nat}(hs:st.objs s=some [S t,I i,.bool false])(hi:i≤t.length)(hl:t.length≤2000000)(hx:x.length≤2000000):
  RunsTo (callP cf 210 [.ptr s 0,S x] [] st) mk A↔Cnd (tk t i x=true) (Later A (mk (.bool true) (setO st s [S t,I (i+x.length:Nat),.bool false]))) (Later A (mk (.bool false) st)):=by
 by_cases h:tk t i x=true
 ·rw[c_takes1 K hs hi hl hx h,RunsTo_some];simp only[h,Later,Cnd];simp
 ·rw[c_takes0 K hs hi hl (by simp[h]),RunsTo_some];simp only[Later,Cnd,h];simp
theorem rt_takesB(K:Tab cf){t x:List UInt8}{i:Nat}(hs:st.objs s=some [S t,I i,.bool true])(hi:i≤t.length)(hl:t.length≤2000000):
  RunsTo (callP cf 210 [.ptr s 0,S x] [] st) mk A↔A (mk (.bool false) st):=by
 rw[c_takes0 K hs hi hl (by simp),RunsTo_some]
theorem tk_one{t:List UInt8}{i:Nat}{c:UInt8}(hc:c≠0):tk t i [c]=decide (cI t i=(c.toNat:Int)):=by
 unfold tk cI
 rw[Bool.eq_iff_iff]
 simp only[decide_eq_true_eq,List.length_cons,List.length_nil]
 by_cases hi:i<t.length
 ·have e:(t.drop i).take (0+1)=[t[i]]:=by rw[List.drop_eq_getElem_cons hi];rfl
  have g:t.getD i 0=t[i]:=by simp[hi]
  rw[e,g]
  constructor
  ·intro h
   rw[List.singleton_inj.1 h]
  ·intro h
   rw[UInt8.toNat_inj.1 (Int.ofNat_inj.1 h)]
 ·rw[List.drop_eq_nil_of_le (by omega)]
  simp[List.getElem?_eq_none (show t.length≤i by omega)]
  intro h
  apply hc
  apply UInt8.toNat_inj.1
  simp;omega
end Go.PM
namespace Go.PM
open Go.Lib
variable {cf:CallF} {st:St} {mk:PV→St→Fr×St} {A:Fr×St→Prop} {s:Nat}
structure Env (cf:CallF):Prop where
 tab:Tab cf
 parse:∀ l:List UInt8,l.length≤2000000→cf 239 [S l,I 10,I 64] [] []=some (match parseIntB 64 l with
  | .ok n=> .tup [I n,.nili]
  | .range=> .tup [I (intSat 64 l),.err]
  |_=> .tup [I 0,.err],[],[])
 fmt:∀ n:Int,-9223372036854775808≤n→n≤9223372036854775807→cf 135 [I n,I 10] [] []=some (S (itoa n),[],[])
theorem c_fmt(K:Env cf){n:Int}(h1: -9223372036854775808≤n)(h2:n≤9223372036854775807):callP cf 135 [I n,I 10] [] st=some (S (itoa n),st):=
 call_bare (by simp[plainV_int]) (bare_str _) (K.fmt n h1 h2)
theorem c_parseOk(K:Env cf){l:List UInt8}(hl:l.length≤2000000){n:Int}(h:parseIntB 64 l= .ok n):callP cf 239 [S l,I 10,I 64] [] st=some (.tup [I n,.nili],st):=
 call_bare (by simp[plainV_int,plainV_str]) (bare_tup (bares_cons (bare_int _ _) (bares_cons bare_nili bares_nil))) (by rw[K.parse l hl,h])
theorem c_parseNo(K:Env cf){l:List UInt8}(hl:l.length≤2000000)(h:∀ n,parseIntB 64 l≠ .ok n):∃ n,callP cf 239 [S l,I 10,I 64] [] st=some (.tup [I n,.err],st):=by
 cases e:parseIntB 64 l with
 |ok n=>exact absurd e (h n)
 |range=>exact⟨intSat 64 l,call_bare (by simp[plainV_int,plainV_str]) (bare_tup (bares_cons (bare_int _ _) (bares_cons bare_err bares_nil))) (by rw[K.parse l hl,e])⟩
 |_=>exact⟨0,call_bare (by simp[plainV_int,plainV_str]) (bare_tup (bares_cons (bare_int _ _) (bares_cons bare_err bares_nil))) (by rw[K.parse l hl,e])⟩
def OutI{α:Type}(t:List UInt8)(enc:α→PV)(o:Option (α×Nat))(dm:PV→Prop)(r:PV)(c:List PV):Prop:=match o with
 |some (a,j)=>r= .tup [enc a,.bool true]∧c=[S t,I j]∧j≤t.length
 |none=>∃ p,∃ j:Nat,dm p∧r= .tup [p,.bool false]∧c=[S t,I j]∧j≤t.length
def OutS{α:Type}(t:List UInt8)(enc:α→PV)(o:Option (α×Nat))(dm:PV→Prop)(r:PV)(c:List PV):Prop:=match o with
 |some (a,j)=>r=enc a∧c=[S t,I j,.bool false]∧j≤t.length
 |none=>∃ j:Nat,dm r∧c=[S t,I j,.bool true]∧j≤t.length
theorem RunsTo_I{α:Type}{t:List UInt8}{enc:α→PV}{q:Option (α×Nat)}{dm:PV→Prop}{o:Option (PV×St)}(h:∃ r c',OutI t enc q dm r c'∧∃ fl,o=some (r,setF (setO st s c') fl))
  (k1:∀ a j fl,q=some (a,j)→j≤t.length→A (mk (.tup [enc a,.bool true]) (setF (setO st s [S t,I j]) fl)))
  (k2:∀ p j fl,q=none→dm p→j≤t.length→A (mk (.tup [p,.bool false]) (setF (setO st s [S t,I (j:Nat)]) fl))):RunsTo o mk A:=by
 obtain⟨r,c',ho,fl,rfl⟩:=h
 rw[RunsTo_some]
 match q,ho,k1,k2 with
 |some (a,j),⟨e1,e2,e3⟩,k1,_=>rw[e1,e2];exact k1 a j fl rfl e3
 |none,⟨p,j,hd,e1,e2,e3⟩,_,k2=>rw[e1,e2];exact k2 p j fl rfl hd e3
theorem RunsTo_S{α:Type}{t:List UInt8}{enc:α→PV}{q:Option (α×Nat)}{dm:PV→Prop}{o:Option (PV×St)}(h:∃ r c',OutS t enc q dm r c'∧∃ fl,o=some (r,setF (setO st s c') fl))
  (k1:∀ a j fl,q=some (a,j)→j≤t.length→A (mk (enc a) (setF (setO st s [S t,I j,.bool false]) fl)))
  (k2:∀ p j fl,q=none→dm p→j≤t.length→A (mk p (setF (setO st s [S t,I (j:Nat),.bool true]) fl))):RunsTo o mk A:=by
 obtain⟨r,c',ho,fl,rfl⟩:=h
 rw[RunsTo_some]
 match q,ho,k1,k2 with
 |some (a,j),⟨e1,e2,e3⟩,k1,_=>rw[e1,e2];exact k1 a j fl rfl e3
 |none,⟨j,hd,e2,e3⟩,_,k2=>rw[e2];exact k2 r j fl rfl hd e3
theorem OutI_none{α:Type}{t:List UInt8}{enc:α→PV}{p:PV}{j:Nat}{dm:PV→Prop}{r:PV}{c:List PV}{q:Option (α×Nat)}(hq:q=none)(hd:dm p)(h1:r= .tup [p,.bool false])(h2:c=[S t,I j])(h3:j≤t.length):OutI t enc q dm r c:=by
 subst hq;exact⟨p,j,hd,h1,h2,h3⟩
theorem OutI_val{α:Type}{t:List UInt8}{enc:α→PV}{a:α}{j:Nat}{dm:PV→Prop}{r:PV}{c:List PV}{q:Option (α×Nat)}(hq:q=some (a,j))(h1:r= .tup [enc a,.bool true])(h2:c=[S t,I j])(h3:j≤t.length):OutI t enc q dm r c:=by
 subst hq;exact⟨h1,h2,h3⟩
theorem OutS_val{α:Type}{t:List UInt8}{enc:α→PV}{a:α}{j:Nat}{dm:PV→Prop}{r:PV}{c:List PV}{q:Option (α×Nat)}(hq:q=some (a,j))(h1:r=enc a)(h2:c=[S t,I j,.bool false])(h3:j≤t.length):OutS t enc q dm r c:=by
 subst hq;exact⟨h1,h2,h3⟩
theorem OutS_none{α:Type}{t:List UInt8}{enc:α→PV}{j:Nat}{dm:PV→Prop}{r:PV}{c:List PV}{q:Option (α×Nat)}(hq:q=none)(hd:dm r)(h2:c=[S t,I j,.bool true])(h3:j≤t.length):OutS t enc q dm r c:=by
 subst hq;exact⟨j,hd,h2,h3⟩
def isI(p:PV):Prop:=∃ n,p=I n
theorem rdInt_ok{l:List UInt8}{n:Int}(h:parseIntB 64 l= .ok n):rdInt l=if itoa n=l then some n else none:=by simp[rdInt,h]
theorem rdInt_no{l:List UInt8}(h:∀ n,parseIntB 64 l≠ .ok n):rdInt l=none:=by
 unfold rdInt
 split
 ·rename_i n e;exact absurd e (h n)
 ·rfl
theorem seg_len{t:List UInt8}{i j:Nat}(hj:j≤t.length):(seg t i j).length=j-i:=by simp[seg,hj]
theorem seg_eq{t:List UInt8}{i j:Nat}:(t.take j).drop i=seg t i j:=rfl
theorem c_whole(K:Env cf){t:List UInt8}{i:Nat}(hs:st.objs s=some [S t,I i])(hi:i≤t.length)(hl:t.length≤2000000):
  ∃ r c',OutI t I (pint t i) isI r c'∧∃ fl,callP cf 221 [.ptr s 0] [] st=some (r,setF (setO st s c') fl):=by
 refine c_ptrE K.tab (F:=F221) rfl rfl rfl (lb rfl) (lb rfl) (by simp) hs (plainVs_rd t i) (t.length+1) ?_
 unfold F221 qr qd qm qi qc qb qk ql qf qo qe
 simp (disch:=omega)only[↓pa,pb,pmy,↓reduceIte,Nat.reduceAdd,reduceCtorEq]
 refine(rt_peek K.tab (t:=t) (i:=i) (by simp only[pb])).2 ?_
 simp (disch:=omega)only[↓pa,pb,↓reduceIte]
 have hJ:pint t i=(rdInt (seg t i (skip isD t (if cI t i=45 then i+1 else i)))).map fun n=>(n,skip isD t (if cI t i=45 then i+1 else i)):=rfl
 have hle:skip isD t (if cI t i=45 then i+1 else i)≤t.length:=by
  split
  ·rename_i h
   exact skip_le (by have:=cI_in (show cI t i≠0 by rw[h];decide);omega)
  ·exact skip_le hi
 have hge:i≤skip isD t (if cI t i=45 then i+1 else i):=by
  have:=skip_ge isD t (if cI t i=45 then i+1 else i)
  split at this<;>split<;>omega
 revert hJ hle hge
 generalize hj0:(if cI t i=45 then i+1 else i)=j0
 generalize hjJ:skip isD t j0=J
 intro hJ hle hge
 refine Cnd_intro (fun h=>?_) (fun h=>?_)
 all_goals
  simp (disch:=omega)only[↓pa,pb,pmy,natP,↓reduceIte,Nat.reduceEqDiff,Nat.reduceAdd,Nat.reduceLeDiff,reduceCtorEq,h]
  refine Wp_rounds (fun k fr st=>∃ j:Nat,k=t.length-j∧j≤t.length∧fr 0= .ptr 0 0∧fr 4=I i∧st.objs 0=some [S t,I j]∧skip isD t j=J) (t.length-j0) (by omega) ⟨j0,rfl,?_,by simp (disch:=omega)only[↓pa,↓reduceIte,reduceCtorEq],by simp (disch:=omega)only[↓pa,↓reduceIte,Nat.reduceEqDiff],?_,hjJ⟩ ?_
  ·have:=skip_ge isD t j0
   omega
  ·subst hj0;simp (disch:=omega)only[pb,↓reduceIte,h]
  rintro k fr st ⟨j,rfl,hj,f0,f4,o0,hsk⟩
  simp (disch:=omega)only[↓pa,pb,pmy,natP,↓reduceIte,Nat.reduceEqDiff,Nat.reduceAdd,reduceCtorEq,f0,o0]
  refine Cnd_intro (fun h1=>?_) (fun h1=>?_)
  ·simp (disch:=omega)only[↓pa,pb,pmy,↓reduceIte,Nat.reduceEqDiff,Nat.reduceAdd,reduceCtorEq,f0,o0,c_digit K.tab,h1]
   refine Cnd_intro (fun h2=>?_) (fun h2=>?_)
   ·simp (disch:=omega)only[↓pa,pb,pmy,natP,↓reduceIte,Nat.reduceEqDiff,Nat.reduceAdd,Nat.reduceLeDiff,reduceCtorEq,f0,f4,o0,h2]
    refine⟨t.length- (j+1),by omega,j+1,rfl,by omega,rfl,?_⟩
    rw[←skip_step h1 h2,hsk]
   ·have hjj:J=j:=by rw[←hsk];exact skip_stop fun _=>by simpa using h2
    subst hjj
    simp (disch:=omega)only[↓pa,pb,pmy,↓reduceIte,Nat.reduceEqDiff,Nat.reduceAdd,reduceCtorEq,f0,f4,o0,h2,seg_eq]
    have hsl:(seg t i J).length≤2000000:=by rw[seg_len hle];omega
    by_cases hp:∃ n,parseIntB 64 (seg t i J)= .ok n
    ·obtain⟨n,hp⟩:=hp
     have hb:=parseIntB_bounds hp
     have hb1: -9223372036854775808≤n:=hb.1
     have hb2:n≤9223372036854775807:=by have:=hb.2;omega
     simp (disch:=omega)only[↓pa,pb,List.getElem?_cons_zero,List.getElem?_cons_succ,↓reduceIte,Nat.reduceEqDiff,ne_eq,c_parseOk K hsl hp,c_fmt K hb1 hb2]
     rw[rdInt_ok hp]at hJ
     refine Cnd_intro (fun he=>?_) (fun he=>?_)
     ·simp (disch:=omega)only[↓pa,pb,pmz,↓reduceIte,Nat.reduceEqDiff,o0]
      rw[if_pos (by simpa using he)]at hJ
      exact OutI_val hJ rfl rfl hle
     ·simp (disch:=omega)only[↓pa,pb,pmz,↓reduceIte,Nat.reduceEqDiff,o0]
      rw[if_neg (by simpa using he)]at hJ
      exact OutI_none hJ ⟨_,rfl⟩ rfl rfl hle
    ·have hp:∀ n,parseIntB 64 (seg t i J)≠ .ok n:=fun n h=>hp ⟨n,h⟩
     obtain⟨n,hn⟩:=c_parseNo (st:=st) K hsl hp
     simp (disch:=omega)only[↓pa,pb,pmz,List.getElem?_cons_zero,List.getElem?_cons_succ,↓reduceIte,Nat.reduceEqDiff,o0,hn]
     rw[rdInt_no hp]at hJ
     exact OutI_none hJ ⟨_,rfl⟩ rfl rfl hle
  ·have hjj:J=j:=by rw[←hsk];exact skip_stop fun h=>absurd h h1
   subst hjj
   simp (disch:=omega)only[↓pa,pb,pmy,↓reduceIte,Nat.reduceEqDiff,Nat.reduceAdd,reduceCtorEq,f0,f4,o0,h1,seg_eq]
   have hsl:(seg t i J).length≤2000000:=by rw[seg_len hle];omega
   by_cases hp:∃ n,parseIntB 64 (seg t i J)= .ok n
   ·obtain⟨n,hp⟩:=hp
    have hb:=parseIntB_bounds hp
    have hb1: -9223372036854775808≤n:=hb.1
    have hb2:n≤9223372036854775807:=by have:=hb.2;omega
    simp (disch:=omega)only[↓pa,pb,List.getElem?_cons_zero,List.getElem?_cons_succ,↓reduceIte,Nat.reduceEqDiff,ne_eq,c_parseOk K hsl hp,c_fmt K hb1 hb2]
    rw[rdInt_ok hp]at hJ
    refine Cnd_intro (fun he=>?_) (fun he=>?_)
    ·simp (disch:=omega)only[↓pa,pb,pmz,↓reduceIte,Nat.reduceEqDiff,o0]
     rw[if_pos (by simpa using he)]at hJ
     exact OutI_val hJ rfl rfl hle
    ·simp (disch:=omega)only[↓pa,pb,pmz,↓reduceIte,Nat.reduceEqDiff,o0]
     rw[if_neg (by simpa using he)]at hJ
     exact OutI_none hJ ⟨_,rfl⟩ rfl rfl hle
   ·have hp:∀ n,parseIntB 64 (seg t i J)≠ .ok n:=fun n h=>hp ⟨n,h⟩
    obtain⟨n,hn⟩:=c_parseNo (st:=st) K hsl hp
    simp (disch:=omega)only[↓pa,pb,pmz,List.getElem?_cons_zero,List.getElem?_cons_succ,↓reduceIte,Nat.reduceEqDiff,o0,hn]
    rw[rdInt_no hp]at hJ
    exact OutI_none hJ ⟨_,rfl⟩ rfl rfl hle
end Go.PM
namespace Go.PM
open Go.Lib
def valD(a:Nat)(l:List UInt8):Nat:=l.foldl (fun a c=>a*10+(c.toNat-48)) a
theorem valD_nil(a:Nat):valD a []=a:=by unfold valD;rw[List.foldl_nil]
theorem valD_cons(a:Nat)(c:UInt8)(l:List UInt8):valD a (c::l)=valD (a*10+(c.toNat-48)) l:=by unfold valD;rw[List.foldl_cons]
theorem valD_snoc(a:Nat)(l:List UInt8)(c:UInt8):valD a (l++[c])=valD a l*10+(c.toNat-48):=by simp[valD]
theorem valD_ge(l:List UInt8):∀ a,a≤valD a l:=by
 induction l with
 |nil=>exact fun a=>Nat.le_refl _
 |cons c l ih=>intro a;rw[valD_cons];have:=ih (a*10+(c.toNat-48));omega
def isDb(c:UInt8):Bool:=isD (c.toNat:Int)
theorem isD_iff{n:Int}:isD n=true↔48≤n∧n≤57:=by simp[isD]
theorem isDb_iff{c:UInt8}:isDb c=true↔48≤c.toNat∧c.toNat≤57:=by simp[isDb,isD];omega
theorem digit_nat{d:Nat}(h:d<10):(UInt8.ofNat (48+d)).toNat=48+d:=by
 rw[UInt8.toNat_ofNat_of_lt' (by simp[UInt8.size];omega)]
theorem dec_digits(u:Nat):decDigits u≠ []∧(∀ c∈decDigits u,isDb c=true)∧valD 0 (decDigits u)=u:=by
 induction u using Nat.strongRecOn with
 |_ u ih=>
  by_cases h:u<10
  ·rw[decDigits,dif_pos h]
   refine⟨by simp,?_,?_⟩
   ·intro c hc
    rw[List.mem_singleton.1 hc,isDb_iff,digit_nat h]
    omega
   ·rw[valD_cons,valD_nil,digit_nat h]
    omega
  ·obtain⟨h1,h2,h3⟩:=ih (u / 10) (by omega)
   rw[decDigits,dif_neg h]
   refine⟨by simp,?_,?_⟩
   ·intro c hc
    rcases List.mem_append.1 hc with hc|hc
    ·exact h2 c hc
    ·rw[List.mem_singleton.1 hc,isDb_iff,digit_nat (by omega)]
     omega
   ·rw[valD_snoc,h3,digit_nat (by omega)]
    omega
theorem parseUintM_digits(M:Nat)(hM:M≤18446744073709551615):∀ (l:List UInt8) (a:Nat),(∀ c∈l,isDb c=true)→valD a l≤M→parseUintM M a l= .ok (valD a l)
 | [],a,_,_=>rfl
 |c::l,a,h,hv=>by
  have hc:=isDb_iff.1 (h c (by simp))
  rw[valD_cons]at hv
  have hge:=valD_ge l (a*10+(c.toNat-48))
  rw[parseUintM,if_pos hc,if_neg (by omega),if_neg (by omega),parseUintM_digits M hM l _ (fun d hd=>h d (by simp[hd])) hv]
  rfl
theorem parse_itoa{n:Int}(h1: -9223372036854775808≤n)(h2:n≤9223372036854775807):parseIntB 64 (itoa n)= .ok n:=by
 have key:∀ u:Nat,u≤18446744073709551615→parseUintB 64 (decDigits u)= .ok u:=fun u hu=>by
  obtain⟨d1,d2,d3⟩:=dec_digits u
  rw[parseUintB,if_neg d1]
  have:=parseUintM_digits (2 ^ 64-1) (by decide) (decDigits u) 0 d2 (by rw[d3];simpa using hu)
  rw[d3]at this
  exact this
 unfold itoa
 split
 ·rename_i hn
  have hu:=key n.natAbs (by omega)
  unfold parseIntB
  have e:(45:UInt8).toNat=45:=rfl
  simp only[e,or_true,if_true,hu,not_true,false_and,if_false,true_and]
  rw[if_neg (by simp;omega)]
  congr 1;omega
 ·rename_i hn
  have hu:=key n.toNat (by omega)
  obtain⟨d1,d2,d3⟩:=dec_digits n.toNat
  match hd:decDigits n.toNat,d1 with
  |c::r,_=>
   have hc:=isDb_iff.1 (d2 c (by simp[hd]))
   rw[hd]at hu
   unfold parseIntB
   have e1:¬c.toNat=43:=by omega
   have e2:¬c.toNat=45:=by omega
   simp only[e1,e2,or_self,if_false,not_false_eq_true,true_and,false_and]
   rw[hu]
   simp only
   rw[if_neg (by simp;omega),show((n.toNat:Nat):Int)=n by omega]
theorem rdInt_itoa{n:Int}(h1: -9223372036854775808≤n)(h2:n≤9223372036854775807):rdInt (itoa n)=some n:=by
 rw[rdInt_ok (parse_itoa h1 h2),if_pos rfl]
theorem rdInt_inv{l:List UInt8}{n:Int}(h:rdInt l=some n):itoa n=l∧ -9223372036854775808≤n∧n≤9223372036854775807:=by
 by_cases hp:∃ m,parseIntB 64 l= .ok m
 ·obtain⟨m,hp⟩:=hp
  rw[rdInt_ok hp]at h
  split at h
  ·rename_i e
   cases h
   have hb:=parseIntB_bounds hp
   exact⟨e,hb.1,by have:=hb.2;omega⟩
  ·cases h
 ·rw[rdInt_no fun m hm=>hp ⟨m,hm⟩]at h
  cases h
theorem nDigits_le(k:Nat):∀ u,u<10 ^ (k+1)→nDigits u≤k+1:=by
 induction k with
 |zero=>intro u h;rw[nDigits_small (by simpa using h)];omega
 |succ k ih=>
  intro u h
  by_cases hu:u<10
  ·rw[nDigits_small hu];omega
  ·rw[nDigits_big hu]
   have:=ih (u / 10) (by rw[Nat.pow_succ]at h;omega)
   omega
theorem itoa_len{n:Int}(h1: -9223372036854775808≤n)(h2:n≤9223372036854775807):(itoa n).length≤20:=by
 unfold itoa
 split
 ·rw[List.length_cons,decDigits_length]
  have:=nDigits_le 18 n.natAbs (by simp;omega)
  omega
 ·rw[decDigits_length]
  have:=nDigits_le 18 n.toNat (by simp;omega)
  omega
theorem itoa_ne(n:Int):itoa n≠ []:=by
 unfold itoa
 split
 ·simp
 ·exact(dec_digits _).1
theorem itoa_head{n:Int}{c:UInt8}{r:List UInt8}(h:itoa n=c::r):(n<0∧c=45∧r=decDigits n.natAbs)∨(0≤n∧isDb c=true):=by
 unfold itoa at h
 split at h
 ·rename_i hn
  cases h
  exact .inl ⟨hn,rfl,rfl⟩
 ·rename_i hn
  exact .inr ⟨by omega,(dec_digits n.toNat).2.1 c (by rw[h];simp)⟩
theorem itoa_neg_small{n:Int}(h1:n<0)(h2: -10<n):itoa n=45::itoa (-n):=by
 unfold itoa
 rw[if_pos h1,if_neg (by omega)]
 congr 1
 have:n.natAbs=(-n).toNat:=by omega
 rw[this]
theorem itoa_neg_big{n:Int}(h:n≤ -10):itoa n=itoa (n.tdiv 10)++[UInt8.ofNat (48-n.tmod 10).toNat]:=by
 obtain⟨u,rfl⟩:∃ u:Nat,n= -(u:Int):=⟨n.natAbs,by omega⟩
 have e1:(-(u:Int)).tdiv 10= -((u / 10:Nat):Int):=by rw[Int.neg_tdiv];rfl
 have e2:(-(u:Int)).tmod 10= -((u % 10:Nat):Int):=by rw[Int.neg_tmod];rfl
 rw[e1,e2]
 unfold itoa
 rw[if_pos (by omega),if_pos (by omega),Int.natAbs_neg,Int.natAbs_neg,Int.natAbs_natCast,Int.natAbs_natCast]
 conv=>lhs;rw[decDigits,dif_neg (by omega)]
 rw[List.cons_append]
 have:(48- -((u % 10:Nat):Int)).toNat=48+u % 10:=by omega
 rw[this]
theorem itoa_small{n:Int}(h1:0≤n)(h2:n<10):itoa n=[UInt8.ofNat (48+n).toNat]:=by
 unfold itoa
 rw[if_neg (by omega),decDigits,dif_pos (by omega)]
 congr 2
 omega
theorem itoa_big{n:Int}(h:10≤n):itoa n=itoa (n.tdiv 10)++[UInt8.ofNat (48+n.tmod 10).toNat]:=by
 obtain⟨u,rfl⟩:∃ u:Nat,n=(u:Int):=⟨n.toNat,by omega⟩
 have e1:((u:Int)).tdiv 10=((u / 10:Nat):Int):=rfl
 have e2:((u:Int)).tmod 10=((u % 10:Nat):Int):=rfl
 rw[e1,e2]
 unfold itoa
 rw[if_neg (by omega),if_neg (by omega),Int.toNat_natCast,Int.toNat_natCast]
 conv=>lhs;rw[decDigits,dif_neg (by omega)]
 congr 3
theorem seg_cons{t:List UInt8}{i j:Nat}(h:i<j)(hj:j≤t.length):∃ c:UInt8,cI t i=(c.toNat:Int)∧seg t i j=c::seg t (i+1) j:=by
 have hi:i<t.length:=by omega
 refine⟨t[i],cI_get t i hi,?_⟩
 unfold seg
 rw[List.drop_eq_getElem_cons (by rw[List.length_take];omega),List.getElem_take]
theorem seg_nil(t:List UInt8)(i:Nat):seg t i i=[]:=by
 unfold seg
 exact List.drop_eq_nil_of_le (by rw[List.length_take];omega)
theorem seg_snoc{t:List UInt8}{i j:Nat}(h:i≤j)(hj:j<t.length):seg t i (j+1)=seg t i j++[t[j]]:=by
 unfold seg
 rw[List.take_succ_eq_append_getElem hj,List.drop_append_of_le_length (by rw[List.length_take];omega)]
theorem pid_digit{t:List UInt8}{i:Nat}(hi:i≤t.length)(h:¬isD (cI t i)=true):pid t i=none:=by
 unfold pid
 split
 ·rename_i n j hp
  rw[if_neg]
  intro hn
  have hle:=pint_le hi hp
  unfold pint at hp
  simp only[Option.map_eq_some_iff,Prod.mk.injEq]at hp
  obtain⟨m,hm,rfl,rfl⟩:=hp
  obtain⟨e,-,-⟩:=rdInt_inv hm
  revert e hle
  generalize hJ:skip isD t (if cI t i=45 then i+1 else i)=J
  intro hle e
  by_cases hlt:i<J
  ·obtain⟨c,hc,hs⟩:=seg_cons hlt hle.2
   rw[hs]at e
   rcases itoa_head e with⟨hneg,-,-⟩|⟨-,hd⟩
   ·omega
   ·exact h (by rw[hc];exact hd)
  ·have:J=i:=by omega
   rw[this,seg_nil]at e
   exact itoa_ne m e
 ·rfl
theorem wrapD{x d:Int}:IntKind.i64.wrap (IntKind.i64.wrap (IntKind.i64.wrap x*10)+d)=IntKind.i64.wrap (x*10+d):=by
 simp only[IntKind.wrap_i64];omega
theorem wrapN{x:Int}:IntKind.i64.wrap (-(IntKind.i64.wrap x))=IntKind.i64.wrap (-x):=by
 simp only[IntKind.wrap_i64];omega
theorem wrap_rng(x:Int): -9223372036854775808≤IntKind.i64.wrap x∧IntKind.i64.wrap x≤9223372036854775807:=by
 simp only[IntKind.wrap_i64];omega
theorem b_quo{k:IntKind}{a b:Int}(h:b≠0):binP .quo (.int k a) (.int k b)=some (.int k (k.wrap (a.tdiv b))):=by simp[binP,toVal,binOp,Op.intDiv,h,pureRun_pure,ofVal]
theorem b_rem{k:IntKind}{a b:Int}(h:b≠0):binP .rem (.int k a) (.int k b)=some (.int k (a.tmod b)):=by simp[binP,toVal,binOp,Op.intDiv,h,pureRun_pure,ofVal]
theorem b2sP_one{x:Int}{t:Tok}{st:St}:b2sP (.list 1 [U x] t) st=some (S [UInt8.ofNat x.toNat],st):=rfl
theorem tdiv10(n:Int):(0≤n→0≤n.tdiv 10∧n.tdiv 10*10≤n∧n<n.tdiv 10*10+10)∧(n≤0→n.tdiv 10≤0∧n≤n.tdiv 10*10∧n.tdiv 10*10-10<n)∧n=n.tdiv 10*10+n.tmod 10:=by
 have:=Int.mul_tdiv_add_tmod n 10
 rcases Int.le_total 0 n with h|h
 ·have h1:=Int.tmod_nonneg 10 h
  have h2:=Int.tmod_lt_of_pos n (show(0:Int)<10 by decide)
  have h3:=Int.tdiv_nonneg h (show(0:Int)≤10 by decide)
  omega
 ·obtain⟨u,rfl⟩:∃ u:Nat,n= -(u:Int):=⟨n.natAbs,by omega⟩
  have e1:(-(u:Int)).tdiv 10= -((u / 10:Nat):Int):=by rw[Int.neg_tdiv];rfl
  have e2:(-(u:Int)).tmod 10= -((u % 10:Nat):Int):=by rw[Int.neg_tmod];rfl
  rw[e1,e2]
  omega
end Go.PM
namespace Go.PM
open Go.Lib
variable {cf:CallF} {st:St} {mk:PV→St→Fr×St} {A:Fr×St→Prop} {s:Nat}
theorem c_dec(K:Env cf):∀ (k:Nat) (n:Int),2*n.natAbs+(if n<0 then 1 else 0)<k→ -9223372036854775808≤n→n≤9223372036854775807→∀ st,callP cf 98 [I n] [] st=some (S (itoa n),st)
 |0,_,h,_,_=>by omega
 |k+1,n,hk,h1,h2=>by
  intro st
  have ih:=c_dec K k
  refine c_val K.tab (F:=F98) (t:=2) rfl rfl rfl (lb rfl) (by simp[plainV_int]) (bare_str _) 1 ?_
  unfold F98 qr qd qm qc qb qk qo
  obtain⟨q1,q2,q3⟩:=tdiv10 n
  simp (disch:=omega)only[↓pa,pb,↓reduceIte,reduceCtorEq]
  refine Cnd_intro (fun h3=>?_) (fun h3=>?_)
  ·have ih1: -10<n→∀ st,callP cf 98 [I (-n)] [] st=some (S (itoa (-n)),st):=fun h=>ih (-n) (by rw[if_pos h3]at hk;rw[if_neg (by omega)];omega) (by omega) (by omega)
   have q2:=q2 (by omega)
   have ih2:n≤ -10→∀ st,callP cf 98 [I (n.tdiv 10)] [] st=some (S (itoa (n.tdiv 10)),st):=fun h=>ih (n.tdiv 10) (by rw[if_pos h3]at hk;split<;>omega) (by omega) (by omega)
   simp (disch:=omega)only[↓pa,pb,↓reduceIte,reduceCtorEq,h3]
   refine Cnd_intro (fun h4=>?_) (fun h4=>?_)
   ·have e1:=itoa_len (n:= -n) (by omega) (by omega)
    have e2:([45]:List UInt8).length=1:=rfl
    simp (disch:=omega)only[↓pa,pb,↓reduceIte,reduceCtorEq,h4,ih1 h4]
    rw[itoa_neg_small h3 h4];rfl
   ·have hb:n≤ -10:=by omega
    have e1:=itoa_len (n:=n.tdiv 10) (by omega) (by omega)
    have e2:([UInt8.ofNat (48-n.tmod 10).toNat]:List UInt8).length=1:=rfl
    simp (disch:=omega)only[↓pa,↓pmx,pb,pmy,↓reduceIte,Nat.reduceEqDiff,Nat.reduceAdd,Nat.reduceLeDiff,Nat.reduceLT,reduceCtorEq,h4,b_quo (show(10:Int)≠0 by decide),b_rem (show(10:Int)≠0 by decide),ih2 hb,b2sP_one]
    rw[itoa_neg_big (n:=n) hb]
  ·simp (disch:=omega)only[↓pa,pb,↓reduceIte,reduceCtorEq,h3]
   refine Cnd_intro (fun h4=>?_) (fun h4=>?_)
   ·simp (disch:=omega)only[↓pa,↓pmx,pb,pmy,↓reduceIte,Nat.reduceAdd,Nat.reduceLeDiff,Nat.reduceLT,reduceCtorEq,h4,b2sP_one]
    rw[itoa_small (n:=n) (by omega) h4]
   ·have q1:=q1 (by omega)
    have e1:=itoa_len (n:=n.tdiv 10) (by omega) (by omega)
    have e2:([UInt8.ofNat (48+n.tmod 10).toNat]:List UInt8).length=1:=rfl
    have ih3:=ih (n.tdiv 10) (by split at hk<;>split<;>omega) (by omega) (by omega)
    simp (disch:=omega)only[↓pa,↓pmx,pb,pmy,↓reduceIte,Nat.reduceEqDiff,Nat.reduceAdd,Nat.reduceLeDiff,Nat.reduceLT,reduceCtorEq,h4,b_quo (show(10:Int)≠0 by decide),b_rem (show(10:Int)≠0 by decide),ih3,b2sP_one]
    rw[itoa_big (n:=n) (by omega)]
theorem c_decS(K:Env cf){n:Int}(h1: -9223372036854775808≤n)(h2:n≤9223372036854775807):callP cf 98 [I n] [] st=some (S (itoa n),st):=c_dec K _ n (Nat.lt_succ_self _) h1 h2 st
theorem acc_step{t:List UInt8}{j0 j:Nat}(h0:j0≤j)(h:j<t.length)(hd:isD (cI t j)=true):((valD 0 (seg t j0 (j+1)):Nat):Int)=(valD 0 (seg t j0 j):Nat) *10+(cI t j-48):=by
 have hc:=isD_iff.1 hd
 rw[cI_get t j h]at hc ⊢
 rw[seg_snoc h0 h,valD_snoc]
 omega
def is6(p:PV):Prop:=∃ cs:List PV,p= .agg cs∧cs.length=6∧nps cs=true∧strips cs=cs
theorem spec_num{t:List UInt8}{i J:Nat}{a:Int}(hi:i≤J)(hJ:J≤t.length)(hj:i≠J→(cI t i=45→i+1≤J∧a=IntKind.i64.wrap (-(valD 0 (seg t (i+1) J):Nat)))∧(cI t i≠45→a=IntKind.i64.wrap (valD 0 (seg t i J):Nat))):
  ∀ n,rdInt (seg t i J)=some n→i≠J∧J-i≤20∧a=n:=by
 intro n hn
 obtain⟨e,r1,r2⟩:=rdInt_inv hn
 have hne:i≠J:=fun h=>by
  rw[←h,seg_nil]at e
  exact itoa_ne n e
 have hlen:=itoa_len r1 r2
 rw[e,seg_len hJ]at hlen
 refine⟨hne,hlen,?_⟩
 obtain⟨c,hc,hs⟩:=seg_cons (show i<J by omega) hJ
 obtain⟨hA,hB⟩:=hj hne
 rcases itoa_head (e.trans hs)with⟨hneg,rfl,hr⟩|⟨hpos,hd⟩
 ·obtain⟨-,ha⟩:=hA hc
  rw[ha,hr,(dec_digits _).2.2,wrap_i64 (by omega) (by omega)]
  omega
 ·have hcc:=isDb_iff.1 hd
  rw[hB (by omega),←e]
  unfold itoa
  rw[if_neg (by omega),(dec_digits _).2.2,wrap_i64 (by omega) (by omega)]
  omega
set_option maxHeartbeats 2000000 in
theorem c_number(K:Env cf){t:List UInt8}{i:Nat}{b:Bool}(hs:st.objs s=some [S t,I i,.bool b])(hi:i≤t.length)(hl:t.length≤2000000):
  ∃ r c',OutS t I (if b then none else pint t i) isI r c'∧∃ fl,callP cf 213 [.ptr s 0] [] st=some (r,setF (setO st s c') fl):=by
 refine c_ptrE K.tab (F:=F213) rfl rfl rfl (lb rfl) (lb rfl) (by simp) hs (plainVs_rd3 t i b) (t.length+1) ?_
 unfold F213 qr qd qm qi qb qk ql qf qo qe
 by_cases h45:cI t i=45
 ·have hlt:=cI_in (show cI t i≠0 by rw[h45];decide)
  have hJ:pint t i=(rdInt (seg t i (skip isD t (i+1)))).map fun n=>(n,skip isD t (i+1)):=by rw[pint,if_pos h45]
  have hle:skip isD t (i+1)≤t.length:=skip_le (by omega)
  have hge:i+1≤skip isD t (i+1):=skip_ge _ _ _
  revert hJ hle hge
  generalize hjJ:skip isD t (i+1)=J
  intro hJ hle hge
  have hiJ:i<J:=by omega
  simp (disch:=omega)only[↓pa,pb,pmy,natP,↓reduceIte,Nat.reduceEqDiff,Nat.reduceAdd,Nat.reduceLeDiff,reduceCtorEq,h45,hlt]
  refine Wp_rounds (fun k fr st=>∃ j:Nat,k=t.length-j∧i+1≤j∧j≤t.length∧fr 0= .ptr 0 0∧fr 3=I i∧fr 4=I (IntKind.i64.wrap (valD 0 (seg t (i+1) j):Nat))∧st.objs 0=some [S t,I j,.bool b]∧skip isD t j=J) (t.length- (i+1)) (by omega) ⟨i+1,rfl,by omega,by omega,by simp (disch:=omega)only[↓pa,↓reduceIte,reduceCtorEq],by simp (disch:=omega)only[↓pa,↓reduceIte,Nat.reduceEqDiff],by rw[seg_nil,valD_nil];simp (disch:=omega)only[↓pa,pb,↓reduceIte];rfl,by simp (disch:=omega)only[pb,↓reduceIte],hjJ⟩ ?_
  rintro k fr st ⟨j,rfl,hj0j,hj,f0,f3,f4,o0,hsk⟩
  simp (disch:=omega)only[↓pa,pb,pmy,natP,↓reduceIte,Nat.reduceEqDiff,Nat.reduceAdd,reduceCtorEq,f0,o0]
  by_cases hd:j<t.length∧isD (cI t j)=true
  ·obtain⟨h1,h2⟩:=hd
   have hd':=isD_iff.1 h2
   simp (disch:=omega)only[↓pa,pb,pmy,natP,↓reduceIte,Nat.reduceEqDiff,Nat.reduceAdd,Nat.reduceLeDiff,reduceCtorEq,f0,f3,f4,o0,c_digitS K.tab,h1,h2]
   refine⟨t.length- (j+1),by omega,j+1,rfl,by omega,by omega,?_,rfl,?_⟩
   ·rw[wrapD,acc_step hj0j h1 h2]
   ·rw[←skip_step h1 h2,hsk]
  have hjj:J=j:=by
   rw[←hsk]
   exact skip_stop fun h=>by
    cases hx:isD (cI t j)
    ·rfl
    ·exact absurd ⟨h,hx⟩ hd
  subst hjj
  have hq:∀ n,rdInt (seg t i J)=some n→i≠J∧J-i≤20∧IntKind.i64.wrap (-(IntKind.i64.wrap (valD 0 (seg t (i+1) J):Nat)))=n:=spec_num (by omega) hle fun _=>⟨fun _=>⟨by omega,wrapN⟩,fun h=>absurd h45 h⟩
  refine Cnd_intro (fun h1=>?_) (fun h1=>?_)
  ·simp (disch:=omega)only[↓pa,pb,pmy,↓reduceIte,Nat.reduceEqDiff,Nat.reduceAdd,reduceCtorEq,f0,o0,h1,c_digitS K.tab]
   refine Cnd_intro (fun h2=>?_) (fun h2=>?_)
   ·exact absurd ⟨h1,h2⟩ hd
   simp (disch:=omega)only[↓pa,↓pmw,pb,pmy,pmwk,natP,↓reduceIte,Nat.reduceEqDiff,Nat.reduceAdd,reduceCtorEq,f0,f3,f4,o0,h45,hiJ]
   have hne:¬i=J:=by omega
   have hno:∀ a,(∀ n,rdInt (seg t i J)=some n→i≠J∧J-i≤20∧a=n)→(J-i≤20→itoa a≠seg t i J)→pint t i=none:=fun a h1 h2=>by
    rw[hJ]
    cases hr:rdInt (seg t i J)with
    |none=>rfl
    |some n=>
     obtain⟨k1,k2,k3⟩:=h1 n hr
     exact absurd (by rw[k3];exact(rdInt_inv hr).1) (h2 k2)
   simp (disch:=omega)only[↓pa,↓pmw,pb,pmy,pmwk,↓reduceIte,Nat.reduceEqDiff,Nat.reduceAdd,reduceCtorEq,f0,f3,o0,hne]
   refine Cnd_intro (fun h20=>?_) (fun h20=>?_)
   ·have hnone:pint t i=none:=hno _ hq fun h=>by omega
    have hx:=h20
    simp (disch:=omega)only[↓pa,↓pmw,pb,pmy,pmwk,pmwa,pmz,List.getElem?_cons_zero,List.getElem?_cons_succ,↓reduceIte,Nat.reduceEqDiff,Nat.reduceAdd,Nat.reduceLeDiff,reduceCtorEq,f0,o0,hx]
    refine OutS_none (dm:=isI) ?_ ⟨_,rfl⟩ rfl hle
    rw[hnone]
    cases b<;>rfl
   ·have hr:=wrap_rng
    simp (disch:=omega)only[↓pa,↓pmw,pb,pmy,pmwk,pmwa,List.getElem?_cons_zero,List.getElem?_cons_succ,↓reduceIte,Nat.reduceEqDiff,Nat.reduceAdd,ne_eq,reduceCtorEq,f0,f3,o0,h20,c_decS K (hr _).1 (hr _).2,seg_eq]
    refine Cnd_intro (fun he=>?_) (fun he=>?_)
    ·have hJ':=congrArg rdInt he
     rw[rdInt_itoa (hr _).1 (hr _).2]at hJ'
     rw[←hJ']at hJ
     simp (disch:=omega)only[↓pa,pb,pmz,↓reduceIte,Nat.reduceEqDiff,o0,he]
     cases b
     ·exact OutS_val hJ rfl rfl hle
     ·exact OutS_none (dm:=isI) rfl ⟨_,rfl⟩ rfl hle
    ·have hnone:pint t i=none:=hno _ hq fun _=>he
     have hx:=he
     simp (disch:=omega)only[↓pa,pb,pmy,pmz,↓reduceIte,Nat.reduceEqDiff,Nat.reduceAdd,Nat.reduceLeDiff,reduceCtorEq,f0,o0,hx]
     refine OutS_none (dm:=isI) ?_ ⟨_,rfl⟩ rfl hle
     rw[hnone]
     cases b<;>rfl
  ·simp (disch:=omega)only[↓pa,↓pmw,pb,pmy,pmwk,natP,↓reduceIte,Nat.reduceEqDiff,Nat.reduceAdd,reduceCtorEq,f0,f3,f4,o0,h1,h45,hiJ]
   have hne:¬i=J:=by omega
   have hno:∀ a,(∀ n,rdInt (seg t i J)=some n→i≠J∧J-i≤20∧a=n)→(J-i≤20→itoa a≠seg t i J)→pint t i=none:=fun a h1 h2=>by
    rw[hJ]
    cases hr:rdInt (seg t i J)with
    |none=>rfl
    |some n=>
     obtain⟨k1,k2,k3⟩:=h1 n hr
     exact absurd (by rw[k3];exact(rdInt_inv hr).1) (h2 k2)
   simp (disch:=omega)only[↓pa,↓pmw,pb,pmy,pmwk,↓reduceIte,Nat.reduceEqDiff,Nat.reduceAdd,reduceCtorEq,f0,f3,o0,hne]
   refine Cnd_intro (fun h20=>?_) (fun h20=>?_)
   ·have hnone:pint t i=none:=hno _ hq fun h=>by omega
    have hx:=h20
    simp (disch:=omega)only[↓pa,↓pmw,pb,pmy,pmwk,pmwa,pmz,List.getElem?_cons_zero,List.getElem?_cons_succ,↓reduceIte,Nat.reduceEqDiff,Nat.reduceAdd,Nat.reduceLeDiff,reduceCtorEq,f0,o0,hx]
    refine OutS_none (dm:=isI) ?_ ⟨_,rfl⟩ rfl hle
    rw[hnone]
    cases b<;>rfl
   ·have hr:=wrap_rng
    simp (disch:=omega)only[↓pa,↓pmw,pb,pmy,pmwk,pmwa,List.getElem?_cons_zero,List.getElem?_cons_succ,↓reduceIte,Nat.reduceEqDiff,Nat.reduceAdd,ne_eq,reduceCtorEq,f0,f3,o0,h20,c_decS K (hr _).1 (hr _).2,seg_eq]
    refine Cnd_intro (fun he=>?_) (fun he=>?_)
    ·have hJ':=congrArg rdInt he
     rw[rdInt_itoa (hr _).1 (hr _).2]at hJ'
     rw[←hJ']at hJ
     simp (disch:=omega)only[↓pa,pb,pmz,↓reduceIte,Nat.reduceEqDiff,o0,he]
     cases b
     ·exact OutS_val hJ rfl rfl hle
     ·exact OutS_none (dm:=isI) rfl ⟨_,rfl⟩ rfl hle
    ·have hnone:pint t i=none:=hno _ hq fun _=>he
     have hx:=he
     simp (disch:=omega)only[↓pa,pb,pmy,pmz,↓reduceIte,Nat.reduceEqDiff,Nat.reduceAdd,Nat.reduceLeDiff,reduceCtorEq,f0,o0,hx]
     refine OutS_none (dm:=isI) ?_ ⟨_,rfl⟩ rfl hle
     rw[hnone]
     cases b<;>rfl
 ·have hJ:pint t i=(rdInt (seg t i (skip isD t i))).map fun n=>(n,skip isD t i):=by rw[pint,if_neg h45]
  have hle:skip isD t i≤t.length:=skip_le hi
  have hge:i≤skip isD t i:=skip_ge _ _ _
  revert hJ hle hge
  generalize hjJ:skip isD t i=J
  intro hJ hle hge
  by_cases hlt:i<t.length
  ·simp (disch:=omega)only[↓pa,pb,pmy,natP,↓reduceIte,Nat.reduceEqDiff,Nat.reduceAdd,reduceCtorEq,h45,hlt]
   refine Wp_rounds (fun k fr st=>∃ j:Nat,k=t.length-j∧i≤j∧j≤t.length∧fr 0= .ptr 0 0∧fr 3=I i∧fr 4=I (IntKind.i64.wrap (valD 0 (seg t i j):Nat))∧st.objs 0=some [S t,I j,.bool b]∧skip isD t j=J) (t.length-i) (by omega) ⟨i,rfl,by omega,by omega,by simp (disch:=omega)only[↓pa,↓reduceIte,reduceCtorEq],by simp (disch:=omega)only[↓pa,↓reduceIte,Nat.reduceEqDiff],by rw[seg_nil,valD_nil];simp (disch:=omega)only[↓pa,pb,↓reduceIte];rfl,by simp (disch:=omega)only[pb],hjJ⟩ ?_
   rintro k fr st ⟨j,rfl,hj0j,hj,f0,f3,f4,o0,hsk⟩
   simp (disch:=omega)only[↓pa,pb,pmy,natP,↓reduceIte,Nat.reduceEqDiff,Nat.reduceAdd,reduceCtorEq,f0,o0]
   by_cases hd:j<t.length∧isD (cI t j)=true
   ·obtain⟨h1,h2⟩:=hd
    have hd':=isD_iff.1 h2
    simp (disch:=omega)only[↓pa,pb,pmy,natP,↓reduceIte,Nat.reduceEqDiff,Nat.reduceAdd,Nat.reduceLeDiff,reduceCtorEq,f0,f3,f4,o0,c_digitS K.tab,h1,h2]
    refine⟨t.length- (j+1),by omega,j+1,rfl,by omega,by omega,?_,rfl,?_⟩
    ·rw[wrapD,acc_step hj0j h1 h2]
    ·rw[←skip_step h1 h2,hsk]
   have hjj:J=j:=by
    rw[←hsk]
    exact skip_stop fun h=>by
     cases hx:isD (cI t j)
     ·rfl
     ·exact absurd ⟨h,hx⟩ hd
   subst hjj
   have hq:∀ n,rdInt (seg t i J)=some n→i≠J∧J-i≤20∧IntKind.i64.wrap (valD 0 (seg t i J):Nat)=n:=spec_num (by omega) hle fun _=>⟨fun h=>absurd h h45,fun _=>rfl⟩
   by_cases hiJ:i<J
   ·refine Cnd_intro (fun h1=>?_) (fun h1=>?_)
    ·simp (disch:=omega)only[↓pa,pb,pmy,↓reduceIte,Nat.reduceEqDiff,Nat.reduceAdd,reduceCtorEq,f0,o0,h1,c_digitS K.tab]
     refine Cnd_intro (fun h2=>?_) (fun h2=>?_)
     ·exact absurd ⟨h1,h2⟩ hd
     simp (disch:=omega)only[↓pa,↓pmw,pb,pmy,pmwk,natP,↓reduceIte,Nat.reduceEqDiff,Nat.reduceAdd,reduceCtorEq,f0,f3,o0,h45,hiJ]
     have hne:¬i=J:=by omega
     have hno:∀ a,(∀ n,rdInt (seg t i J)=some n→i≠J∧J-i≤20∧a=n)→(J-i≤20→itoa a≠seg t i J)→pint t i=none:=fun a h1 h2=>by
      rw[hJ]
      cases hr:rdInt (seg t i J)with
      |none=>rfl
      |some n=>
       obtain⟨k1,k2,k3⟩:=h1 n hr
       exact absurd (by rw[k3];exact(rdInt_inv hr).1) (h2 k2)
     simp (disch:=omega)only[↓pa,↓pmw,pb,pmy,pmwk,↓reduceIte,Nat.reduceEqDiff,Nat.reduceAdd,reduceCtorEq,f0,f3,o0,hne]
     refine Cnd_intro (fun h20=>?_) (fun h20=>?_)
     ·have hnone:pint t i=none:=hno _ hq fun h=>by omega
      have hx:=h20
      simp (disch:=omega)only[↓pa,↓pmw,pb,pmy,pmwk,pmwa,pmz,List.getElem?_cons_zero,List.getElem?_cons_succ,↓reduceIte,Nat.reduceEqDiff,Nat.reduceAdd,Nat.reduceLeDiff,reduceCtorEq,f0,f4,o0,hx]
      refine OutS_none (dm:=isI) ?_ ⟨_,rfl⟩ rfl hle
      rw[hnone]
      cases b<;>rfl
     ·have hr:=wrap_rng
      simp (disch:=omega)only[↓pa,↓pmw,pb,pmy,pmwk,pmwa,List.getElem?_cons_zero,List.getElem?_cons_succ,↓reduceIte,Nat.reduceEqDiff,Nat.reduceAdd,ne_eq,reduceCtorEq,f0,f3,f4,o0,h20,c_decS K (hr _).1 (hr _).2,seg_eq]
      refine Cnd_intro (fun he=>?_) (fun he=>?_)
      ·have hJ':=congrArg rdInt he
       rw[rdInt_itoa (hr _).1 (hr _).2]at hJ'
       rw[←hJ']at hJ
       simp (disch:=omega)only[↓pa,pb,pmz,↓reduceIte,Nat.reduceEqDiff,f4,o0,he]
       cases b
       ·exact OutS_val hJ rfl rfl hle
       ·exact OutS_none (dm:=isI) rfl ⟨_,rfl⟩ rfl hle
      ·have hnone:pint t i=none:=hno _ hq fun _=>he
       have hx:=he
       simp (disch:=omega)only[↓pa,pb,pmy,pmz,↓reduceIte,Nat.reduceEqDiff,Nat.reduceAdd,Nat.reduceLeDiff,reduceCtorEq,f0,f4,o0,hx]
       refine OutS_none (dm:=isI) ?_ ⟨_,rfl⟩ rfl hle
       rw[hnone]
       cases b<;>rfl
    ·simp (disch:=omega)only[↓pa,↓pmw,pb,pmy,pmwk,natP,↓reduceIte,Nat.reduceEqDiff,Nat.reduceAdd,reduceCtorEq,f0,f3,o0,h1,h45,hiJ]
     have hne:¬i=J:=by omega
     have hno:∀ a,(∀ n,rdInt (seg t i J)=some n→i≠J∧J-i≤20∧a=n)→(J-i≤20→itoa a≠seg t i J)→pint t i=none:=fun a h1 h2=>by
      rw[hJ]
      cases hr:rdInt (seg t i J)with
      |none=>rfl
      |some n=>
       obtain⟨k1,k2,k3⟩:=h1 n hr
       exact absurd (by rw[k3];exact(rdInt_inv hr).1) (h2 k2)
     simp (disch:=omega)only[↓pa,↓pmw,pb,pmy,pmwk,↓reduceIte,Nat.reduceEqDiff,Nat.reduceAdd,reduceCtorEq,f0,f3,o0,hne]
     refine Cnd_intro (fun h20=>?_) (fun h20=>?_)
     ·have hnone:pint t i=none:=hno _ hq fun h=>by omega
      have hx:=h20
      simp (disch:=omega)only[↓pa,↓pmw,pb,pmy,pmwk,pmwa,pmz,List.getElem?_cons_zero,List.getElem?_cons_succ,↓reduceIte,Nat.reduceEqDiff,Nat.reduceAdd,Nat.reduceLeDiff,reduceCtorEq,f0,f4,o0,hx]
      refine OutS_none (dm:=isI) ?_ ⟨_,rfl⟩ rfl hle
      rw[hnone]
      cases b<;>rfl
     ·have hr:=wrap_rng
      simp (disch:=omega)only[↓pa,↓pmw,pb,pmy,pmwk,pmwa,List.getElem?_cons_zero,List.getElem?_cons_succ,↓reduceIte,Nat.reduceEqDiff,Nat.reduceAdd,ne_eq,reduceCtorEq,f0,f3,f4,o0,h20,c_decS K (hr _).1 (hr _).2,seg_eq]
      refine Cnd_intro (fun he=>?_) (fun he=>?_)
      ·have hJ':=congrArg rdInt he
       rw[rdInt_itoa (hr _).1 (hr _).2]at hJ'
       rw[←hJ']at hJ
       simp (disch:=omega)only[↓pa,pb,pmz,↓reduceIte,Nat.reduceEqDiff,f4,o0,he]
       cases b
       ·exact OutS_val hJ rfl rfl hle
       ·exact OutS_none (dm:=isI) rfl ⟨_,rfl⟩ rfl hle
      ·have hnone:pint t i=none:=hno _ hq fun _=>he
       have hx:=he
       simp (disch:=omega)only[↓pa,pb,pmy,pmz,↓reduceIte,Nat.reduceEqDiff,Nat.reduceAdd,Nat.reduceLeDiff,reduceCtorEq,f0,f4,o0,hx]
       refine OutS_none (dm:=isI) ?_ ⟨_,rfl⟩ rfl hle
       rw[hnone]
       cases b<;>rfl
   ·have hiJ':J=i:=by omega
    have hnone:pint t i=none:=by
     rw[hJ]
     cases hr:rdInt (seg t i J)with
     |none=>rfl
     |some n=>exact absurd hiJ'.symm (hq n hr).1
    subst hiJ'
    simp (disch:=omega)only[↓pa,pb,pmy,↓reduceIte,Nat.reduceEqDiff,Nat.reduceAdd,reduceCtorEq,f0,o0,hlt,c_digitS K.tab]
    refine Cnd_intro (fun h2=>?_) (fun h2=>?_)
    ·exact absurd ⟨hlt,h2⟩ hd
    simp (disch:=omega)only[↓pa,↓pmw,pb,pmy,pmwk,pmwa,pmz,natP,List.getElem?_cons_zero,List.getElem?_cons_succ,↓reduceIte,Nat.reduceEqDiff,Nat.reduceAdd,Nat.reduceLeDiff,reduceCtorEq,f0,f3,f4,o0,Nat.lt_irrefl,eq_self]
    refine OutS_none (dm:=isI) ?_ ⟨_,rfl⟩ rfl hle
    rw[hnone]
    cases b<;>rfl
  ·have hiJ:J=i:=by omega
   have hnone:pint t i=none:=by
    rw[hJ,hiJ,seg_nil]
    cases hr:rdInt []with
    |none=>rfl
    |some n=>exact absurd (rdInt_inv hr).1 (itoa_ne n)
   simp (disch:=omega)only[↓pa,pb,pmy,natP,↓reduceIte,Nat.reduceEqDiff,Nat.reduceAdd,reduceCtorEq,hlt]
   refine Wp_rounds (fun k fr st=>k=0∧fr 0= .ptr 0 0∧fr 3=I i∧fr 4=I 0∧st.objs 0=some [S t,I i,.bool b]) 0 (by omega) ⟨rfl,by simp (disch:=omega)only[↓pa,↓reduceIte,reduceCtorEq],by simp (disch:=omega)only[↓pa,↓reduceIte,Nat.reduceEqDiff],by simp (disch:=omega)only[↓pa,↓reduceIte],by simp (disch:=omega)only[pb]⟩ ?_
   rintro k fr st ⟨rfl,f0,f3,f4,o0⟩
   simp (disch:=omega)only[↓pa,pb,pmy,natP,↓reduceIte,Nat.reduceEqDiff,Nat.reduceAdd,reduceCtorEq,f0,f3,o0,hlt]
   simp (disch:=omega)only[↓pa,↓pmw,pb,pmy,pmwk,pmwa,pmz,List.getElem?_cons_zero,List.getElem?_cons_succ,↓reduceIte,Nat.reduceEqDiff,Nat.reduceAdd,Nat.reduceLeDiff,reduceCtorEq,f0,f3,f4,o0,Nat.lt_irrefl,eq_self]
   refine OutS_none (dm:=isI) ?_ ⟨_,rfl⟩ rfl hi
   rw[hnone]
   cases b<;>rfl
theorem rt_whole(K:Env cf){t:List UInt8}{i:Nat}(hs:st.objs s=some [S t,I i])(hi:i≤t.length)(hl:t.length≤2000000)
  (k1:∀ a j fl,pint t i=some (a,j)→j≤t.length→A (mk (.tup [I a,.bool true]) (setF (setO st s [S t,I (j:Nat)]) fl)))
  (k2:∀ (n:Int) j fl,pint t i=none→j≤t.length→A (mk (.tup [I n,.bool false]) (setF (setO st s [S t,I (j:Nat)]) fl))):RunsTo (callP cf 221 [.ptr s 0] [] st) mk A:=
 RunsTo_I (c_whole K hs hi hl) k1 fun p j fl h1 ⟨n,hn⟩ h3=>hn▸k2 n j fl h1 h3
theorem rt_number(K:Env cf){t:List UInt8}{i:Nat}{b:Bool}(hs:st.objs s=some [S t,I i,.bool b])(hi:i≤t.length)(hl:t.length≤2000000)
  (k1:∀ a j fl,b=false→pint t i=some (a,j)→j≤t.length→A (mk (I a) (setF (setO st s [S t,I (j:Nat),.bool false]) fl)))
  (k2:∀ (n:Int) j fl,(b=true∨pint t i=none)→j≤t.length→A (mk (I n) (setF (setO st s [S t,I (j:Nat),.bool true]) fl))):RunsTo (callP cf 213 [.ptr s 0] [] st) mk A:=by
 refine RunsTo_S (c_number K hs hi hl) ?_ ?_
 ·intro a j fl h1 h2
  cases b with
  |true=>cases h1
  |false=>exact k1 a j fl rfl h1 h2
 ·rintro p j fl h1 ⟨n,rfl⟩ h3
  refine k2 n j fl ?_ h3
  cases b with
  |true=>exact .inl rfl
  |false=>exact .inr h1
theorem c_id(K:Env cf){t:List UInt8}{i:Nat}(hs:st.objs s=some [S t,I i])(hi:i≤t.length)(hl:t.length≤2000000):
  ∃ r c',OutI t I (pid t i) isI r c'∧∃ fl,callP cf 242 [.ptr s 0] [] st=some (r,setF (setO st s c') fl):=by
 refine c_ptrE K.tab (F:=F242) rfl rfl rfl (lb rfl) (lb rfl) (by simp) hs (plainVs_rd t i) 1 ?_
 unfold F242 qr qd qm qi qc qo
 simp (disch:=omega)only[↓pa,pb,↓reduceIte,reduceCtorEq]
 refine(rt_peek K.tab (t:=t) (i:=i) (by simp only[pb])).2 ?_
 simp (disch:=omega)only[↓pa,pb,↓reduceIte,c_digit K.tab]
 refine Cnd_intro (fun h=>?_) (fun h=>?_)
 rotate_left
 ·simp (disch:=omega)only[↓pa,pb,pmz,↓reduceIte,Nat.reduceEqDiff,h]
  exact OutI_none (pid_digit hi h) ⟨_,rfl⟩ rfl rfl hi
 simp (disch:=omega)only[↓pa,pb,↓reduceIte,reduceCtorEq,h]
 refine rt_whole K (t:=t) (i:=i) (by simp only[pb]) hi hl (fun a j fl h1 h2=>?_) (fun n j fl h1 h2=>?_)
 ·simp (disch:=omega)only[↓pa,pb,List.getElem?_cons_zero,List.getElem?_cons_succ,↓reduceIte,Nat.reduceEqDiff]
  have hp:pid t i=if 1≤a∧a≤1000000000000 then some (a,j)else none:=by rw[pid,h1]
  refine Cnd_intro (fun h3=>?_) (fun h3=>?_)
  ·by_cases h4:a≤1000000000000
   ·simp (disch:=omega)only[↓pa,pb,pmy,pmz,↓reduceIte,Nat.reduceEqDiff,h3,h4]
    rw[if_pos ⟨h3,h4⟩]at hp
    exact OutI_val hp rfl rfl h2
   ·simp (disch:=omega)only[↓pa,pb,pmy,pmz,↓reduceIte,Nat.reduceEqDiff,h3,h4]
    rw[if_neg fun h=>h4 h.2]at hp
    exact OutI_none hp ⟨_,rfl⟩ rfl rfl h2
  ·simp (disch:=omega)only[↓pa,pb,pmy,pmz,↓reduceIte,Nat.reduceEqDiff,h3]
   rw[if_neg fun h=>h3 h.1]at hp
   exact OutI_none hp ⟨_,rfl⟩ rfl rfl h2
 ·simp (disch:=omega)only[↓pa,pb,pmy,pmz,List.getElem?_cons_zero,List.getElem?_cons_succ,↓reduceIte,Nat.reduceEqDiff]
  exact OutI_none (by rw[pid,h1]) ⟨_,rfl⟩ rfl rfl h2
theorem rt_id(K:Env cf){t:List UInt8}{i:Nat}(hs:st.objs s=some [S t,I i])(hi:i≤t.length)(hl:t.length≤2000000)
  (k1:∀ a j fl,pid t i=some (a,j)→j≤t.length→A (mk (.tup [I a,.bool true]) (setF (setO st s [S t,I (j:Nat)]) fl)))
  (k2:∀ (n:Int) j fl,pid t i=none→j≤t.length→A (mk (.tup [I n,.bool false]) (setF (setO st s [S t,I (j:Nat)]) fl))):RunsTo (callP cf 242 [.ptr s 0] [] st) mk A:=
 RunsTo_I (c_id K hs hi hl) k1 fun p j fl h1 ⟨n,hn⟩ h3=>hn▸k2 n j fl h1 h3
@[reducible] def VA (v:V):PV:= .agg v.ca
@[reducible] def VB (v:V):PV:= .agg v.cb
def pthingA(t:List UInt8)(i:Nat):Option (V×Nat):=
 if cI t i=101 then pthing t 9 (i+1)else if cI t i=110 then pthing t 8 (i+1)else none
theorem c_thing(K:Env cf){t:List UInt8}{i:Nat}(hs:st.objs s=some [S t,I i])(hi:i≤t.length)(hl:t.length≤2000000):
  ∃ r c',OutI t VA (pthingA t i) is6 r c'∧∃ fl,callP cf 227 [.ptr s 0] [] st=some (r,setF (setO st s c') fl):=by
 refine c_ptrE K.tab (F:=F227) rfl rfl rfl (lb rfl) (lb rfl) (by simp) hs (plainVs_rd t i) 1 ?_
 unfold F227 qr qd qm qi qc qk ql qf qo qe qN
 simp (disch:=omega)only[↓pa,pb,↓reduceIte,reduceCtorEq]
 refine(rt_peek K.tab (t:=t) (i:=i) (by simp only[pb,↓reduceIte,reduceCtorEq])).2 ?_
 simp (disch:=omega)only[↓pa,pb,↓reduceIte]
 refine Cnd_intro (fun h1=>?_) (fun h1=>?_)
 ·have hlt:=cI_in (show cI t i≠0 by rw[h1];decide)
  have hp:pthingA t i=pthing t 9 (i+1):=by rw[pthingA,if_pos h1]
  simp (disch:=omega)only[↓pa,pb,pmy,natP,↓reduceIte,Nat.reduceEqDiff,Nat.reduceAdd,Nat.reduceLeDiff,reduceCtorEq,h1]
  refine rt_id K (t:=t) (i:=i+1) (by simp only[pb,↓reduceIte]) hlt hl (fun a j fl h1 h2=>?_) (fun n j fl h1 h2=>?_)
  ·simp (disch:=omega)only[↓pa,↓pmx,pb,pmy,pmz,List.getElem?_cons_zero,List.getElem?_cons_succ,↓reduceIte,Nat.reduceEqDiff,Nat.reduceAdd,Nat.reduceLeDiff,reduceCtorEq]
   exact OutI_val (a:=V.mk 9 a 0 [] [] []) (by rw[hp,pthing,h1];rfl) rfl rfl h2
  ·simp (disch:=omega)only[↓pa,↓pmx,pb,pmy,pmz,List.getElem?_cons_zero,List.getElem?_cons_succ,↓reduceIte,Nat.reduceEqDiff,Nat.reduceAdd,Nat.reduceLeDiff,reduceCtorEq]
   exact OutI_none (by rw[hp,pthing,h1];rfl) ⟨_,rfl,rfl,by simp only[pmz,Bool.and_self],by simp only[pmz]⟩ rfl rfl h2
 ·simp (disch:=omega)only[↓pa,pb,↓reduceIte,reduceCtorEq,h1]
  refine(rt_peek K.tab (t:=t) (i:=i) (by simp only[pb,↓reduceIte,reduceCtorEq])).2 ?_
  simp (disch:=omega)only[↓pa,pb,↓reduceIte,ne_eq]
  refine Cnd_intro (fun h3=>?_) (fun h3=>?_)
  ·have hlt:=cI_in (show cI t i≠0 by rw[h3];decide)
   have hp:pthingA t i=pthing t 8 (i+1):=by rw[pthingA,if_neg h1,if_pos h3]
   simp (disch:=omega)only[↓pa,pb,pmy,natP,↓reduceIte,Nat.reduceEqDiff,Nat.reduceAdd,Nat.reduceLeDiff,reduceCtorEq,h3]
   refine rt_id K (t:=t) (i:=i+1) (by simp only[pb,↓reduceIte]) hlt hl (fun a j fl h1 h2=>?_) (fun n j fl h1 h2=>?_)
   ·simp (disch:=omega)only[↓pa,↓pmx,pb,pmy,pmz,List.getElem?_cons_zero,List.getElem?_cons_succ,↓reduceIte,Nat.reduceEqDiff,Nat.reduceAdd,Nat.reduceLeDiff,reduceCtorEq]
    exact OutI_val (a:=V.mk 8 a 0 [] [] []) (by rw[hp,pthing,h1];rfl) rfl rfl h2
   ·simp (disch:=omega)only[↓pa,↓pmx,pb,pmy,pmz,List.getElem?_cons_zero,List.getElem?_cons_succ,↓reduceIte,Nat.reduceEqDiff,Nat.reduceAdd,Nat.reduceLeDiff,reduceCtorEq]
    exact OutI_none (by rw[hp,pthing,h1];rfl) ⟨_,rfl,rfl,by simp only[pmz,Bool.and_self],by simp only[pmz]⟩ rfl rfl h2
  ·have hp:pthingA t i=none:=by rw[pthingA,if_neg h1,if_neg h3]
   simp (disch:=omega)only[↓pa,↓pmx,pb,pmy,pmz,↓reduceIte,Nat.reduceEqDiff,Nat.reduceAdd,Nat.reduceLeDiff,reduceCtorEq,h3]
   exact OutI_none hp ⟨_,rfl,rfl,by simp only[pmz,Bool.and_self],by simp only[pmz]⟩ rfl rfl hi
theorem c_thingS(K:Env cf){t:List UInt8}{i:Nat}{b:Bool}{k:Int}(hs:st.objs s=some [S t,I i,.bool b])(hi:i≤t.length)(hl:t.length≤2000000):
  ∃ r c',OutS t VB (if b then none else pthing t k i) is6 r c'∧∃ fl,callP cf 214 [.ptr s 0,I k] [] st=some (r,setF (setO st s c') fl):=by
 refine c_ptrE K.tab (F:=F214) rfl rfl rfl (lb rfl) (lb rfl) (by simp[plainV_int]) hs (plainVs_rd3 t i b) 1 ?_
 unfold F214 qr qd qm qk qf qo qe qN
 simp (disch:=omega)only[↓pa,pb,↓reduceIte,reduceCtorEq]
 refine rt_number K (t:=t) (i:=i) (b:=b) (by simp only[pb,↓reduceIte,reduceCtorEq]) hi hl (fun a j fl hb h1 h2=>?_) (fun n j fl h1 h2=>?_)
 ·subst hb
  have hp:pthing t k i=(if 1≤a∧a≤1000000000000 then some (a,j)else none).map fun q=>(V.mk k q.1 0 [] [] [],q.2):=by rw[pthing,pid,h1]
  simp (disch:=omega)only[↓pa,pb,↓reduceIte]
  refine Cnd_intro (fun h3=>?_) (fun h3=>?_)
  ·rw[if_neg fun h=>by omega]at hp
   simp (disch:=omega)only[↓pa,↓pmx,pb,pmy,pmz,↓reduceIte,Nat.reduceEqDiff,Nat.reduceAdd,Nat.reduceLeDiff,reduceCtorEq,h3]
   exact OutS_none (dm:=is6) (by rw[hp];rfl) ⟨_,rfl,rfl,by simp only[pmz,Bool.and_self],by simp only[pmz]⟩ rfl h2
  ·simp (disch:=omega)only[↓pa,pb,↓reduceIte,Nat.reduceEqDiff,h3]
   refine Cnd_intro (fun h4=>?_) (fun h4=>?_)
   ·rw[if_neg fun h=>by omega]at hp
    simp (disch:=omega)only[↓pa,↓pmx,pb,pmy,pmz,↓reduceIte,Nat.reduceEqDiff,Nat.reduceAdd,Nat.reduceLeDiff,reduceCtorEq,h4]
    exact OutS_none (dm:=is6) (by rw[hp];rfl) ⟨_,rfl,rfl,by simp only[pmz,Bool.and_self],by simp only[pmz]⟩ rfl h2
   ·rw[if_pos ⟨by omega,by omega⟩]at hp
    simp (disch:=omega)only[↓pa,↓pmx,pb,pmy,pmz,↓reduceIte,Nat.reduceEqDiff,Nat.reduceAdd,Nat.reduceLeDiff,reduceCtorEq,h4]
    exact OutS_val (a:=V.mk k a 0 [] [] []) hp rfl rfl h2
 ·have hp:(if b then none else pthing t k i)=none:=by
   cases b with
   |true=>rfl
   |false=>rcases h1 with h1|h1;cases h1;simp only[Bool.false_eq_true,if_false];rw[pthing,pid,h1];rfl
  simp (disch:=omega)only[↓pa,pb,↓reduceIte]
  refine Cnd_intro (fun h3=>?_) (fun h3=>?_)
  ·simp (disch:=omega)only[↓pa,↓pmx,pb,pmy,pmz,↓reduceIte,Nat.reduceEqDiff,Nat.reduceAdd,Nat.reduceLeDiff,reduceCtorEq,h3]
   exact OutS_none (dm:=is6) hp ⟨_,rfl,rfl,by simp only[pmz,Bool.and_self],by simp only[pmz]⟩ rfl h2
  ·simp (disch:=omega)only[↓pa,pb,↓reduceIte,Nat.reduceEqDiff,h3]
   refine Cnd_intro (fun h4=>?_) (fun h4=>?_)
   ·simp (disch:=omega)only[↓pa,↓pmx,pb,pmy,pmz,↓reduceIte,Nat.reduceEqDiff,Nat.reduceAdd,Nat.reduceLeDiff,reduceCtorEq,h4]
    exact OutS_none (dm:=is6) hp ⟨_,rfl,rfl,by simp only[pmz,Bool.and_self],by simp only[pmz]⟩ rfl h2
   ·simp (disch:=omega)only[↓pa,↓pmx,pb,pmy,pmz,↓reduceIte,Nat.reduceEqDiff,Nat.reduceAdd,Nat.reduceLeDiff,reduceCtorEq,h4]
    exact OutS_none (dm:=is6) hp ⟨_,rfl,rfl,by simp only[pmz,Bool.and_self],by simp only[pmz]⟩ rfl h2
def isS(p:PV):Prop:=∃ l,p=S l
theorem isC_cases{c:Int}:isC c=(isL c||isD c||decide (c=95)):=rfl
theorem skip_here{t:List UInt8}{j J:Nat}{p:Int→Bool}(hsk:skip p t j=J)(hd:¬ (j<t.length∧p (cI t j)=true)):J=j:=by
 rw[←hsk]
 exact skip_stop fun h=>by
  cases hx:p (cI t j)
  ·rfl
  ·exact absurd ⟨h,hx⟩ hd
set_option maxHeartbeats 1000000 in
theorem c_nameR(K:Env cf){t:List UInt8}{i:Nat}(hs:st.objs s=some [S t,I i])(hi:i≤t.length)(hl:t.length≤2000000):
  ∃ r c',OutI t S (pname t i) isS r c'∧∃ fl,callP cf 240 [.ptr s 0] [] st=some (r,setF (setO st s c') fl):=by
 refine c_ptrE K.tab (F:=F240) rfl rfl rfl (lb rfl) (lb rfl) (by simp) hs (plainVs_rd t i) (t.length+1) ?_
 unfold F240 qr qd qm qc qb qk ql qf qo qe
 have hJ:pname t i=if nameOk (seg t i (skip isC t i))then some (seg t i (skip isC t i),skip isC t i)else none:=rfl
 have hle:skip isC t i≤t.length:=skip_le hi
 have hge:i≤skip isC t i:=skip_ge _ _ _
 revert hJ hle hge
 generalize hjJ:skip isC t i=J
 intro hJ hle hge
 simp (disch:=omega)only[↓pa,pb,pmy,↓reduceIte,Nat.reduceAdd,reduceCtorEq]
 refine Wp_rounds (fun k fr st=>∃ j:Nat,k=t.length-j∧i≤j∧j≤t.length∧fr 0= .ptr 0 0∧fr 4=I i∧st.objs 0=some [S t,I j]∧skip isC t j=J) (t.length-i) (by omega) ⟨i,rfl,by omega,by omega,by simp (disch:=omega)only[↓pa,↓reduceIte,reduceCtorEq],by simp (disch:=omega)only[↓pa,↓reduceIte],by simp (disch:=omega)only[pb],hjJ⟩ ?_
 rintro k fr st ⟨j,rfl,hj0,hj,f0,f4,o0,hsk⟩
 simp (disch:=omega)only[↓pa,pb,pmy,natP,↓reduceIte,Nat.reduceEqDiff,Nat.reduceAdd,reduceCtorEq,f0,o0]
 refine Cnd_intro (fun h1=>?_) (fun h1=>?_)
 ·simp (disch:=omega)only[↓pa,pb,pmy,↓reduceIte,Nat.reduceEqDiff,Nat.reduceAdd,reduceCtorEq,f0,o0,h1,c_letter K.tab]
  refine Cnd_intro (fun h2=>?_) (fun h2=>?_)
  ·have hd:isC (cI t j)=true:=by rw[isC_cases,h2];rfl
   simp (disch:=omega)only[↓pa,pb,pmy,natP,↓reduceIte,Nat.reduceEqDiff,Nat.reduceAdd,Nat.reduceLeDiff,reduceCtorEq,f0,f4,o0,h2]
   refine⟨t.length- (j+1),by omega,j+1,rfl,by omega,by omega,rfl,?_⟩
   rw[←skip_step h1 hd,hsk]
  ·simp (disch:=omega)only[↓pa,pb,pmy,↓reduceIte,Nat.reduceEqDiff,Nat.reduceAdd,reduceCtorEq,f0,o0,h2,c_digit K.tab]
   refine Cnd_intro (fun h3=>?_) (fun h3=>?_)
   ·have hd:isC (cI t j)=true:=by rw[isC_cases,h3];simp
    simp (disch:=omega)only[↓pa,pb,pmy,natP,↓reduceIte,Nat.reduceEqDiff,Nat.reduceAdd,Nat.reduceLeDiff,reduceCtorEq,f0,f4,o0,h3]
    refine⟨t.length- (j+1),by omega,j+1,rfl,by omega,by omega,rfl,?_⟩
    rw[←skip_step h1 hd,hsk]
   ·simp (disch:=omega)only[↓pa,pb,pmy,↓reduceIte,Nat.reduceEqDiff,Nat.reduceAdd,reduceCtorEq,f0,o0,h3]
    refine Cnd_intro (fun h4=>?_) (fun h4=>?_)
    ·have hd:isC (cI t j)=true:=by rw[isC_cases,h4];rfl
     simp (disch:=omega)only[↓pa,pb,pmy,natP,↓reduceIte,Nat.reduceEqDiff,Nat.reduceAdd,Nat.reduceLeDiff,reduceCtorEq,f0,f4,o0,h4]
     refine⟨t.length- (j+1),by omega,j+1,rfl,by omega,by omega,rfl,?_⟩
     rw[←skip_step h1 hd,hsk]
    ·have hjj:=skip_here hsk fun h=>by rw[isC_cases]at h;simp[h2,h3,h4]at h
     subst hjj
     simp (disch:=omega)only[↓pa,↓pmw,pb,pmy,pmwk,↓reduceIte,Nat.reduceEqDiff,Nat.reduceAdd,reduceCtorEq,f0,f4,o0,h4]
     simp (disch:=omega)only[↓pa,↓pmw,pb,pmwk,pmwa,List.getElem?_cons_zero,List.getElem?_cons_succ,↓reduceIte,Nat.reduceEqDiff,seg_eq,c_name K.tab]
     by_cases hn:nameOk (seg t i J)=true
     ·simp (disch:=omega)only[↓pa,pb,pmz,↓reduceIte,Nat.reduceEqDiff,o0,hn]
      exact OutI_val (by rw[hJ,if_pos hn]) rfl rfl hle
     ·have hn':nameOk (seg t i J)=false:=by simpa using hn
      simp (disch:=omega)only[↓pa,pb,pmz,↓reduceIte,Nat.reduceEqDiff,o0,hn']
      exact OutI_none (by rw[hJ,if_neg hn]) ⟨_,rfl⟩ rfl rfl hle
 ·have hjj:=skip_here hsk fun h=>h1 h.1
  subst hjj
  simp (maxSteps:=1000000) (disch:=omega)only[↓pa,↓pmw,pb,pmy,pmwk,↓reduceIte,Nat.reduceEqDiff,Nat.reduceAdd,reduceCtorEq,f0,f4,o0,h1]
  simp (disch:=omega)only[↓pa,↓pmw,pb,pmwk,pmwa,List.getElem?_cons_zero,List.getElem?_cons_succ,↓reduceIte,Nat.reduceEqDiff,seg_eq,c_name K.tab]
  by_cases hn:nameOk (seg t i J)=true
  ·simp (disch:=omega)only[↓pa,pb,pmz,↓reduceIte,Nat.reduceEqDiff,o0,hn]
   exact OutI_val (by rw[hJ,if_pos hn]) rfl rfl hle
  ·have hn':nameOk (seg t i J)=false:=by simpa using hn
   simp (disch:=omega)only[↓pa,pb,pmz,↓reduceIte,Nat.reduceEqDiff,o0,hn']
   exact OutI_none (by rw[hJ,if_neg hn]) ⟨_,rfl⟩ rfl rfl hle
set_option maxHeartbeats 1000000 in
theorem c_nameRS(K:Env cf){t:List UInt8}{i:Nat}{b:Bool}(hs:st.objs s=some [S t,I i,.bool b])(hi:i≤t.length)(hl:t.length≤2000000):
  ∃ r c',OutS t S (if b then none else pname t i) isS r c'∧∃ fl,callP cf 235 [.ptr s 0] [] st=some (r,setF (setO st s c') fl):=by
 refine c_ptrE K.tab (F:=F235) rfl rfl rfl (lb rfl) (lb rfl) (by simp) hs (plainVs_rd3 t i b) (t.length+1) ?_
 unfold F235 qr qd qm qc qb qk ql qf qo qe
 have hJ:pname t i=if nameOk (seg t i (skip isC t i))then some (seg t i (skip isC t i),skip isC t i)else none:=rfl
 have hle:skip isC t i≤t.length:=skip_le hi
 have hge:i≤skip isC t i:=skip_ge _ _ _
 revert hJ hle hge
 generalize hjJ:skip isC t i=J
 intro hJ hle hge
 simp (disch:=omega)only[↓pa,pb,pmy,↓reduceIte,Nat.reduceAdd,reduceCtorEq]
 refine Wp_rounds (fun k fr st=>∃ j:Nat,k=t.length-j∧i≤j∧j≤t.length∧fr 0= .ptr 0 0∧fr 3=I i∧st.objs 0=some [S t,I j,.bool b]∧skip isC t j=J) (t.length-i) (by omega) ⟨i,rfl,by omega,by omega,by simp (disch:=omega)only[↓pa,↓reduceIte,reduceCtorEq],by simp (disch:=omega)only[↓pa,↓reduceIte],by simp (disch:=omega)only[pb],hjJ⟩ ?_
 rintro k fr st ⟨j,rfl,hj0,hj,f0,f3,o0,hsk⟩
 simp (disch:=omega)only[↓pa,pb,pmy,natP,↓reduceIte,Nat.reduceEqDiff,Nat.reduceAdd,reduceCtorEq,f0,o0]
 refine Cnd_intro (fun h1=>?_) (fun h1=>?_)
 ·simp (disch:=omega)only[↓pa,pb,pmy,↓reduceIte,Nat.reduceEqDiff,Nat.reduceAdd,reduceCtorEq,f0,o0,h1,c_letterS K.tab]
  refine Cnd_intro (fun h2=>?_) (fun h2=>?_)
  ·have hd:isC (cI t j)=true:=by rw[isC_cases,h2];rfl
   simp (disch:=omega)only[↓pa,pb,pmy,natP,↓reduceIte,Nat.reduceEqDiff,Nat.reduceAdd,Nat.reduceLeDiff,reduceCtorEq,f0,f3,o0,h2]
   refine⟨t.length- (j+1),by omega,j+1,rfl,by omega,by omega,rfl,?_⟩
   rw[←skip_step h1 hd,hsk]
  ·simp (disch:=omega)only[↓pa,pb,pmy,↓reduceIte,Nat.reduceEqDiff,Nat.reduceAdd,reduceCtorEq,f0,o0,h2,c_digitS K.tab]
   refine Cnd_intro (fun h3=>?_) (fun h3=>?_)
   ·have hd:isC (cI t j)=true:=by rw[isC_cases,h3];simp
    simp (disch:=omega)only[↓pa,pb,pmy,natP,↓reduceIte,Nat.reduceEqDiff,Nat.reduceAdd,Nat.reduceLeDiff,reduceCtorEq,f0,f3,o0,h3]
    refine⟨t.length- (j+1),by omega,j+1,rfl,by omega,by omega,rfl,?_⟩
    rw[←skip_step h1 hd,hsk]
   ·simp (disch:=omega)only[↓pa,pb,pmy,↓reduceIte,Nat.reduceEqDiff,Nat.reduceAdd,reduceCtorEq,f0,o0,h3]
    refine Cnd_intro (fun h4=>?_) (fun h4=>?_)
    ·have hd:isC (cI t j)=true:=by rw[isC_cases,h4];rfl
     simp (disch:=omega)only[↓pa,pb,pmy,natP,↓reduceIte,Nat.reduceEqDiff,Nat.reduceAdd,Nat.reduceLeDiff,reduceCtorEq,f0,f3,o0,h4]
     refine⟨t.length- (j+1),by omega,j+1,rfl,by omega,by omega,rfl,?_⟩
     rw[←skip_step h1 hd,hsk]
    ·have hjj:=skip_here hsk fun h=>by rw[isC_cases]at h;simp[h2,h3,h4]at h
     subst hjj
     simp (disch:=omega)only[↓pa,pb,pmy,↓reduceIte,Nat.reduceEqDiff,Nat.reduceAdd,reduceCtorEq,f0,f3,o0,h4]
     simp (disch:=omega)only[↓pa,pb,↓reduceIte,seg_eq,c_nameS K.tab]
     by_cases hn:nameOk (seg t i J)=true
     ·simp (disch:=omega)only[↓pa,pb,pmy,pmz,↓reduceIte,Nat.reduceEqDiff,Nat.reduceAdd,reduceCtorEq,f0,f3,o0,hn,seg_eq]
      cases b with
      |true=>exact OutS_none (dm:=isS) rfl ⟨_,rfl⟩ rfl hle
      |false=>exact OutS_val (dm:=isS) (by rw[hJ,if_pos hn];rfl) rfl rfl hle
     ·have hn':nameOk (seg t i J)=false:=by simpa using hn
      simp (disch:=omega)only[↓pa,pb,pmy,pmz,↓reduceIte,Nat.reduceEqDiff,Nat.reduceAdd,Nat.reduceLeDiff,reduceCtorEq,f0,f3,o0,hn',seg_eq]
      exact OutS_none (dm:=isS) (by rw[hJ,if_neg hn];cases b<;>rfl) ⟨_,rfl⟩ rfl hle
 ·have hjj:=skip_here hsk fun h=>h1 h.1
  subst hjj
  simp (maxSteps:=1000000) (disch:=omega)only[↓pa,pb,pmy,↓reduceIte,Nat.reduceEqDiff,Nat.reduceAdd,reduceCtorEq,f0,f3,o0,h1]
  simp (disch:=omega)only[↓pa,pb,↓reduceIte,seg_eq,c_nameS K.tab]
  by_cases hn:nameOk (seg t i J)=true
  ·simp (disch:=omega)only[↓pa,pb,pmy,pmz,↓reduceIte,Nat.reduceEqDiff,Nat.reduceAdd,reduceCtorEq,f0,f3,o0,hn,seg_eq]
   cases b with
   |true=>exact OutS_none (dm:=isS) rfl ⟨_,rfl⟩ rfl hle
   |false=>exact OutS_val (dm:=isS) (by rw[hJ,if_pos hn];rfl) rfl rfl hle
  ·have hn':nameOk (seg t i J)=false:=by simpa using hn
   simp (disch:=omega)only[↓pa,pb,pmy,pmz,↓reduceIte,Nat.reduceEqDiff,Nat.reduceAdd,Nat.reduceLeDiff,reduceCtorEq,f0,f3,o0,hn',seg_eq]
   exact OutS_none (dm:=isS) (by rw[hJ,if_neg hn];cases b<;>rfl) ⟨_,rfl⟩ rfl hle
theorem RunsTo_app{e sz bytes n m:Nat}{cs ds:List PV}{tk u:Tok}(h:Gr e st.nx st.cnt n tk)(h1:cs.length=n*sz)(h2:ds.length=m*sz)(h3:(n+m) *bytes≤140737488355328)(h4:n+m≤140737488355328)(h5:0<sz)
  (k:A (mk (.list (n+m) (cs++ds) (appT e tk st)) (appS tk st (n+m)))):RunsTo (appP e sz bytes (.list n cs tk) (.list m ds u) st) mk A:=by
 rw[appP_ok h h1 h2 h3 h4 h5,RunsTo_some];exact k
theorem bys_at(l:List UInt8)(t:List UInt8)(i:Nat):bys l++[U (cI t i)]=bys (l++[t.getD i 0]):=bys_snoc l _
theorem quoted_in{t:List UInt8}{n j:Nat}{acc:List UInt8}(hn:t.length-j<n)(h:j<t.length):quotedGo t n j acc=
  if cI t j=34 then some (acc,j+1)
  else if cI t j=92 then
   if cI t (j+1)=34∨cI t (j+1)=92 then quotedGo t (n-1) (j+2) (acc++[t.getD (j+1) 0])
   else if cI t (j+1)=110 then quotedGo t (n-1) (j+2) (acc++[10])else none
  else if cI t j<32 then none
  else quotedGo t (n-1) (j+1) (acc++[t.getD j 0]):=by
 obtain⟨m,rfl⟩:∃ m,n=m+1:=⟨n-1,by omega⟩
 rw[quotedGo,if_pos h];rfl
theorem quoted_end{t:List UInt8}{n j:Nat}{acc:List UInt8}(hn:t.length-j<n)(h:¬j<t.length):quotedGo t n j acc=none:=by
 obtain⟨m,rfl⟩:∃ m,n=m+1:=⟨n-1,by omega⟩
 rw[quotedGo,if_neg h]
theorem appd{n:Nat}{l:List UInt8}(h:n=l.length)(c:UInt8):n+1=(l++[c]).length:=by rw[List.length_append,h];rfl
set_option maxHeartbeats 2000000 in
theorem c_quoted(K:Env cf){t:List UInt8}{i:Nat}(hs:st.objs s=some [S t,I i])(hi:i≤t.length)(hl:t.length≤2000000)(h34:cI t i=34):
  ∃ r c',OutI t S (pquoted t (i+1)) isS r c'∧∃ fl,callP cf 219 [.ptr s 0] [] st=some (r,setF (setO st s c') fl):=by
 refine c_ptrE K.tab (F:=F219) rfl rfl rfl (lb rfl) (lb rfl) (by simp) hs (plainVs_rd t i) (t.length+1) ?_
 unfold F219 qr qd qm qc qb qk ql qf qo qe qN
 have hlt:=cI_in (show cI t i≠0 by rw[h34];decide)
 have h34':tk t i [34]=true:=by rw[tk_one (by decide),h34];rfl
 simp (disch:=omega)only[↓pa,pb,↓reduceIte,reduceCtorEq]
 refine(rt_eat K.tab (t:=t) (i:=i) (x:=[34]) (by simp only[pb]) hi hl (by decide)).2 ?_
 simp (disch:=omega)only[↓pa,pb,↓reduceIte,Nat.reduceAdd,h34',List.length_cons,List.length_nil]
 refine Wp_rounds (fun k fr st=>∃ (j n m:Nat) (acc:List UInt8) (tok:Tok),k=t.length-j∧j≤t.length∧acc.length≤j∧t.length-j<n∧m=acc.length∧fr 0= .ptr 0 0∧fr 4= .list m (bys acc) tok∧st.objs 0=some [S t,I j]∧Gr 5 st.nx st.cnt m tok∧quotedGo t n j acc=pquoted t (i+1)) (t.length- (i+1)) (by omega) ⟨i+1,t.length+1- (i+1),0,[],.nil,rfl,by omega,Nat.zero_le _,by omega,rfl,by simp (disch:=omega)only[↓pa,↓reduceIte,reduceCtorEq],by simp (disch:=omega)only[↓pa,↓reduceIte];rfl,by simp (disch:=omega)only[pb,↓reduceIte],rfl,rfl⟩ ?_
 rintro k fr st ⟨j,n,m,acc,tok,rfl,hj,hacc,hn,rfl,f0,f4,o0,hG,hQ⟩
 simp (disch:=omega)only[↓pa,pb,pmy,natP,↓reduceIte,Nat.reduceEqDiff,Nat.reduceAdd,reduceCtorEq,f0,o0]
 refine Cnd_intro (fun h1=>?_) (fun h1=>?_)
 rotate_left
 ·rw[quoted_end hn h1]at hQ
  simp (disch:=omega)only[↓pa,pb,pmz,↓reduceIte,Nat.reduceEqDiff,o0]
  exact OutI_none hQ.symm ⟨_,rfl⟩ rfl rfl hj
 rw[quoted_in hn h1]at hQ
 simp (disch:=omega)only[↓pa,pb,pmy,natP,↓reduceIte,Nat.reduceEqDiff,Nat.reduceAdd,Nat.reduceLeDiff,reduceCtorEq,f0,o0]
 refine Cnd_intro (fun h2=>?_) (fun h2=>?_)
 ·rw[if_pos h2]at hQ
  simp (disch:=omega)only[↓pa,↓pmx,pb,pmz,↓reduceIte,Nat.reduceEqDiff,f4,h2,b2sP_bys (l:=acc) rfl]
  exact OutI_val hQ.symm rfl rfl h1
 rw[if_neg h2]at hQ
 simp (disch:=omega)only[↓pa,pb,↓reduceIte,Nat.reduceEqDiff,h2]
 refine Cnd_intro (fun h3=>?_) (fun h3=>?_)
 ·rw[if_pos h3]at hQ
  simp (disch:=omega)only[↓pa,pb,↓reduceIte,reduceCtorEq,f0,h3]
  refine(rt_peek K.tab (t:=t) (i:=j+1) (by simp only[pb,↓reduceIte])).2 ?_
  simp (disch:=omega)only[↓pa,pb,↓reduceIte]
  by_cases h4:cI t (j+1)=34∨cI t (j+1)=92
  ·rw[if_pos h4]at hQ
   have hlt:=cI_in (show cI t (j+1)≠0 by rcases h4 with h|h<;>rw[h]<;>decide)
   rcases h4 with h4|h4
   all_goals
    simp (disch:=omega)only[↓pa,↓pmx,pb,pmy,↓reduceIte,Nat.reduceEqDiff,Nat.reduceAdd,Nat.reduceLeDiff,Nat.reduceLT,Int.reduceEq,reduceCtorEq,f0,f4,h4]
    refine RunsTo_app (n:=acc.length) (m:=1) hG (by rw[bys_length];omega) rfl (by omega) (by omega) (by decide) ?_
    simp (disch:=omega)only[↓pa,pb,pmy,natP,↓reduceIte,Nat.reduceEqDiff,Nat.reduceAdd,Nat.reduceLeDiff,reduceCtorEq,f0]
    rw[←h4]
    refine⟨t.length- (j+2),by omega,j+2,n-1,acc.length+1,acc++[t.getD (j+1) 0],_,rfl,by omega,by rw[List.length_append];simp;omega,by omega,appd rfl _,by rw[bys_at],rfl,Gr_app hG,hQ⟩
  ·rw[if_neg h4]at hQ
   have h4a:¬cI t (j+1)=34:=fun h=>h4 (.inl h)
   have h4b:¬cI t (j+1)=92:=fun h=>h4 (.inr h)
   simp (disch:=omega)only[↓pa,pb,↓reduceIte,Nat.reduceEqDiff,h4a,h4b]
   refine Cnd_intro (fun h5=>?_) (fun h5=>?_)
   ·rw[if_pos h5]at hQ
    have hlt:=cI_in (show cI t (j+1)≠0 by rw[h5];decide)
    simp (disch:=omega)only[↓pa,↓pmx,pb,pmy,↓reduceIte,Nat.reduceEqDiff,Nat.reduceAdd,Nat.reduceLeDiff,Nat.reduceLT,f4,h5]
    refine RunsTo_app (n:=acc.length) (m:=1) hG (by rw[bys_length];omega) rfl (by omega) (by omega) (by decide) ?_
    simp (disch:=omega)only[↓pa,pb,pmy,natP,↓reduceIte,Nat.reduceEqDiff,Nat.reduceAdd,Nat.reduceLeDiff,reduceCtorEq,f0]
    refine⟨t.length- (j+2),by omega,j+2,n-1,acc.length+1,acc++[10],_,rfl,by omega,by rw[List.length_append];simp;omega,by omega,appd rfl _,?_,rfl,Gr_app hG,hQ⟩
    rw[←bys_snoc];rfl
   ·rw[if_neg h5]at hQ
    simp (disch:=omega)only[↓pa,pb,pmz,↓reduceIte,Nat.reduceEqDiff,h5]
    exact OutI_none hQ.symm ⟨_,rfl⟩ rfl rfl h1
 rw[if_neg h3]at hQ
 simp (disch:=omega)only[↓pa,pb,↓reduceIte,Nat.reduceEqDiff,h3]
 refine Cnd_intro (fun h4=>?_) (fun h4=>?_)
 ·rw[if_pos h4]at hQ
  simp (disch:=omega)only[↓pa,pb,pmz,↓reduceIte,Nat.reduceEqDiff,h4]
  exact OutI_none hQ.symm ⟨_,rfl⟩ rfl rfl h1
 rw[if_neg h4]at hQ
 simp (disch:=omega)only[↓pa,↓pmx,pb,pmy,↓reduceIte,Nat.reduceEqDiff,Nat.reduceAdd,Nat.reduceLeDiff,Nat.reduceLT,f4,h4]
 refine RunsTo_app (n:=acc.length) (m:=1) hG (by rw[bys_length];omega) rfl (by omega) (by omega) (by decide) ?_
 simp (disch:=omega)only[↓pa,pb,pmy,↓reduceIte,reduceCtorEq,f0]
 exact⟨t.length- (j+1),by omega,j+1,n-1,acc.length+1,acc++[t.getD j 0],_,rfl,by omega,by rw[List.length_append];simp;omega,by omega,appd rfl _,by rw[bys_at],rfl,Gr_app hG,hQ⟩
set_option maxHeartbeats 2000000 in
theorem c_quotedS(K:Env cf){t:List UInt8}{i:Nat}(hs:st.objs s=some [S t,I i,.bool false])(hi:i≤t.length)(hl:t.length≤2000000):
  ∃ r c',OutS t S (pquoted t i) isS r c'∧∃ fl,callP cf 211 [.ptr s 0] [] st=some (r,setF (setO st s c') fl):=by
 refine c_ptrE K.tab (F:=F211) rfl rfl rfl (lb rfl) (lb rfl) (by simp) hs (plainVs_rd3 t i _) (t.length+1) ?_
 unfold F211 qr qd qm qc qb qk ql qf qo qe
 simp (disch:=omega)only[↓pa,↓pmx,pb,pmy,↓reduceIte,Nat.reduceAdd,Nat.reduceLT,List.replicate_zero,List.flatten_nil]
 refine Wp_rounds (fun k fr st=>∃ (j n m:Nat) (acc:List UInt8) (tok:Tok),k=t.length-j∧j≤t.length∧acc.length≤j∧t.length-j<n∧m=acc.length∧fr 0= .ptr 0 0∧fr 3= .list m (bys acc) tok∧st.objs 0=some [S t,I j,.bool false]∧Gr 5 st.nx st.cnt m tok∧quotedGo t n j acc=pquoted t i) (t.length-i) (by omega) ⟨i,t.length+1-i,0,[],.full 5,rfl,by omega,Nat.zero_le _,by omega,rfl,by simp (disch:=omega)only[↓pa,↓reduceIte,reduceCtorEq],by simp (disch:=omega)only[↓pa,↓reduceIte];rfl,by simp (disch:=omega)only[pb],Gr_full,rfl⟩ ?_
 rintro k fr st ⟨j,n,m,acc,tok,rfl,hj,hacc,hn,rfl,f0,f3,o0,hG,hQ⟩
 simp (disch:=omega)only[↓pa,pb,pmy,natP,↓reduceIte,Nat.reduceEqDiff,Nat.reduceAdd,reduceCtorEq,f0,o0]
 refine Cnd_intro (fun h1=>?_) (fun h1=>?_)
 rotate_left
 ·rw[quoted_end hn h1]at hQ
  simp (disch:=omega)only[↓pa,pb,pmy,pmz,↓reduceIte,Nat.reduceAdd,Nat.reduceLeDiff,reduceCtorEq,f0,o0]
  exact OutS_none (dm:=isS) hQ.symm ⟨_,rfl⟩ rfl hj
 rw[quoted_in hn h1]at hQ
 simp (disch:=omega)only[↓pa,pb,pmy,natP,↓reduceIte,Nat.reduceEqDiff,Nat.reduceAdd,Nat.reduceLeDiff,reduceCtorEq,f0,o0]
 refine Cnd_intro (fun h2=>?_) (fun h2=>?_)
 ·rw[if_pos h2]at hQ
  simp (disch:=omega)only[↓pa,↓pmx,pb,pmz,↓reduceIte,Nat.reduceEqDiff,f3,h2,b2sP_bys (l:=acc) rfl]
  exact OutS_val hQ.symm rfl rfl h1
 rw[if_neg h2]at hQ
 simp (disch:=omega)only[↓pa,pb,↓reduceIte,Nat.reduceEqDiff,h2]
 refine Cnd_intro (fun h3=>?_) (fun h3=>?_)
 ·rw[if_neg (by omega),if_pos h3]at hQ
  simp (disch:=omega)only[↓pa,pb,pmy,pmz,↓reduceIte,Nat.reduceAdd,Nat.reduceLeDiff,reduceCtorEq,f0,h3]
  exact OutS_none (dm:=isS) hQ.symm ⟨_,rfl⟩ rfl h1
 simp (disch:=omega)only[↓pa,pb,↓reduceIte,Nat.reduceEqDiff,h3]
 refine Cnd_intro (fun h4=>?_) (fun h4=>?_)
 ·rw[if_pos h4]at hQ
  simp (disch:=omega)only[↓pa,pb,pmy,natP,↓reduceIte,Nat.reduceEqDiff,Nat.reduceAdd,reduceCtorEq,f0,h4]
  refine Cnd_intro (fun h5=>?_) (fun h5=>?_)
  ·have h6:cI t (j+1)=0:=cI_end (by omega)
   rw[if_neg (by omega),if_neg (by omega)]at hQ
   simp (maxSteps:=1000000) (disch:=omega)only[↓pa,pb,pmy,pmz,↓reduceIte,Nat.reduceEqDiff,Nat.reduceAdd,Nat.reduceLeDiff,reduceCtorEq,f0,h5]
   exact OutS_none (dm:=isS) hQ.symm ⟨_,rfl⟩ rfl h1
  have hlt:j+1<t.length:=by omega
  simp (disch:=omega)only[↓pa,pb,pmy,↓reduceIte,Nat.reduceEqDiff,Nat.reduceAdd,ne_eq,reduceCtorEq,f0,h5]
  by_cases h6:cI t (j+1)=34∨cI t (j+1)=92
  ·rw[if_pos h6]at hQ
   rcases h6 with h6|h6
   all_goals
    simp (maxSteps:=1000000) (disch:=omega)only[↓pa,↓pmx,pb,pmy,natP,↓reduceIte,Nat.reduceEqDiff,Nat.reduceAdd,Nat.reduceLeDiff,Nat.reduceLT,Int.reduceEq,ne_eq,reduceCtorEq,f0,f3,h6]
    refine RunsTo_app (n:=acc.length) (m:=1) hG (by rw[bys_length];omega) rfl (by omega) (by omega) (by decide) ?_
    simp (disch:=omega)only[↓pa,pb,pmy,↓reduceIte,reduceCtorEq,f0]
    rw[←h6]
    refine⟨t.length- (j+2),by omega,j+2,n-1,acc.length+1,acc++[t.getD (j+1) 0],_,rfl,by omega,by rw[List.length_append];simp;omega,by omega,appd rfl _,by rw[bys_at],rfl,Gr_app hG,hQ⟩
  ·rw[if_neg h6]at hQ
   have h4a:¬cI t (j+1)=34:=fun h=>h6 (.inl h)
   have h4b:¬cI t (j+1)=92:=fun h=>h6 (.inr h)
   simp (maxSteps:=1000000) (disch:=omega)only[↓pa,pb,pmy,↓reduceIte,Nat.reduceEqDiff,Nat.reduceAdd,ne_eq,reduceCtorEq,f0,h4a,h4b]
   by_cases h7:cI t (j+1)=110
   ·rw[if_pos h7]at hQ
    simp (disch:=omega)only[↓pa,↓pmx,pb,pmy,natP,↓reduceIte,Nat.reduceEqDiff,Nat.reduceAdd,Nat.reduceLeDiff,Nat.reduceLT,reduceCtorEq,f0,f3,h7]
    refine RunsTo_app (n:=acc.length) (m:=1) hG (by rw[bys_length];omega) rfl (by omega) (by omega) (by decide) ?_
    simp (disch:=omega)only[↓pa,pb,pmy,↓reduceIte,reduceCtorEq,f0]
    refine⟨t.length- (j+2),by omega,j+2,n-1,acc.length+1,acc++[10],_,rfl,by omega,by rw[List.length_append];simp;omega,by omega,appd rfl _,?_,rfl,Gr_app hG,hQ⟩
    rw[←bys_snoc];rfl
   ·rw[if_neg h7]at hQ
    simp (disch:=omega)only[↓pa,pb,pmy,pmz,↓reduceIte,Nat.reduceAdd,Nat.reduceLeDiff,reduceCtorEq,f0,h7]
    exact OutS_none (dm:=isS) hQ.symm ⟨_,rfl⟩ rfl h1
 rw[if_neg h4,if_neg (by omega)]at hQ
 simp (disch:=omega)only[↓pa,↓pmx,pb,pmy,↓reduceIte,Nat.reduceEqDiff,Nat.reduceAdd,Nat.reduceLeDiff,Nat.reduceLT,f3,h4]
 refine RunsTo_app (n:=acc.length) (m:=1) hG (by rw[bys_length];omega) rfl (by omega) (by omega) (by decide) ?_
 simp (disch:=omega)only[↓pa,pb,pmy,↓reduceIte,reduceCtorEq,f0]
 exact⟨t.length- (j+1),by omega,j+1,n-1,acc.length+1,acc++[t.getD j 0],_,rfl,by omega,by rw[List.length_append];simp;omega,by omega,appd rfl _,by rw[bys_at],rfl,Gr_app hG,hQ⟩
theorem c_leap(K:Env cf)(y:Int):callP cf 245 [I y] [] st=some (.bool (leapY y),st):=by
 refine c_val K.tab (F:=F245) (t:=2) rfl rfl rfl (lb rfl) (by simp[plainV_int]) (bare_bool _) 1 ?_
 unfold F245 qr qm qc qk qo leapY
 have q1:=b_rem (k:= .i64) (a:=y) (show(4:Int)≠0 by decide)
 have q2:=b_rem (k:= .i64) (a:=y) (show(100:Int)≠0 by decide)
 have q3:=b_rem (k:= .i64) (a:=y) (show(400:Int)≠0 by decide)
 by_cases h1:y.tmod 4=0<;>by_cases h2:y.tmod 100=0<;>by_cases h3:y.tmod 400=0<;>simp (disch:=omega)only[↓pa,pb,↓reduceIte,Nat.reduceEqDiff,ne_eq,reduceCtorEq,q1,q2,q3,h1,h2,h3]
theorem c_leapS(K:Env cf)(y:Int):callP cf 244 [I y] [] st=some (.bool (leapY y),st):=by
 refine c_val K.tab (F:=F244) (t:=2) rfl rfl rfl (lb rfl) (by simp[plainV_int]) (bare_bool _) 1 ?_
 unfold F244 qr qm qc qk qo leapY
 have q1:=b_rem (k:= .i64) (a:=y) (show(4:Int)≠0 by decide)
 have q2:=b_rem (k:= .i64) (a:=y) (show(100:Int)≠0 by decide)
 have q3:=b_rem (k:= .i64) (a:=y) (show(400:Int)≠0 by decide)
 by_cases h1:y.tmod 4=0<;>by_cases h2:y.tmod 100=0<;>by_cases h3:y.tmod 400=0<;>simp (disch:=omega)only[↓pa,pb,↓reduceIte,Nat.reduceEqDiff,ne_eq,reduceCtorEq,q1,q2,q3,h1,h2,h3]
theorem c_month(K:Env cf)(y m:Int):callP cf 237 [I y,I m] [] st=some (I (mdays y m),st):=by
 refine c_val K.tab (F:=F237) (t:=4) rfl rfl rfl (lb rfl) (by simp[plainV_int]) (bare_int _ _) 1 ?_
 unfold F237 qr qd qm qi qk qo mdays
 by_cases h2:m=2
 ·cases hl:leapY y<;>simp (disch:=omega)only[↓pa,pb,↓reduceIte,Nat.reduceEqDiff,reduceCtorEq,c_leap K,h2,hl]<;>simp
 ·by_cases h4:m=4
  ·simp (disch:=omega)only[↓pa,pb,↓reduceIte,Nat.reduceEqDiff,Int.reduceEq,h4]
  by_cases h6:m=6
  ·simp (disch:=omega)only[↓pa,pb,↓reduceIte,Nat.reduceEqDiff,Int.reduceEq,h6]
  by_cases h9:m=9
  ·simp (disch:=omega)only[↓pa,pb,↓reduceIte,Nat.reduceEqDiff,Int.reduceEq,h9]
  by_cases h11:m=11
  ·simp (disch:=omega)only[↓pa,pb,↓reduceIte,Nat.reduceEqDiff,Int.reduceEq,h11]
  ·simp (disch:=omega)only[↓pa,pb,↓reduceIte,Nat.reduceEqDiff,h2,h4,h6,h9,h11]
theorem month_cases{m:Int}(h1:1≤m)(h2:m≤12):m=1∨m=2∨m=3∨m=4∨m=5∨m=6∨m=7∨m=8∨m=9∨m=10∨m=11∨m=12:=by omega
theorem rep12:(List.replicate 12 [I 0]).flatten=[I 0,I 0,I 0,I 0,I 0,I 0,I 0,I 0,I 0,I 0,I 0,I 0]:=rfl
theorem cast12:((12:Nat):Int)=12:=rfl
theorem c_monthS(K:Env cf)(y:Int){m:Int}(h1:1≤m)(h2:m≤12):callP cf 233 [I y,I m] [] st=some (I (mdays y m),st):=by
 refine c_val K.tab (F:=F233) (t:=4) rfl rfl rfl (lb rfl) (by simp[plainV_int]) (bare_int _ _) 1 ?_
 unfold F233 qr qd qm qi qk ql qo mdays
 rcases month_cases h1 h2 with rfl|rfl|rfl|rfl|rfl|rfl|rfl|rfl|rfl|rfl|rfl|rfl
 all_goals first
  |(simp (disch:=omega)only[↓pa,↓pmx,pb,pmy,↓reduceIte,Nat.reduceEqDiff,Nat.reduceAdd,Nat.reduceLeDiff,Nat.reduceLT,Int.reduceToNat,Int.reduceEq,Int.reduceLT,Int.reduceLE,Nat.reduceMul,reduceCtorEq,c_leapS K,rep12,iadP,cast12,Int.reduceToNat,Int.reduceSub,Nat.reduceMul];done)
  |(cases hl:leapY y<;>simp (disch:=omega)only[↓pa,↓pmx,pb,pmy,↓reduceIte,Nat.reduceEqDiff,Nat.reduceAdd,Nat.reduceLeDiff,Nat.reduceLT,Int.reduceToNat,Int.reduceLT,Int.reduceLE,Nat.reduceMul,reduceCtorEq,c_leapS K,rep12,hl,iadP,cast12,Int.reduceToNat,Int.reduceSub,Nat.reduceMul])
theorem mdays_rng(y m:Int):28≤mdays y m∧mdays y m≤31:=by
 unfold mdays
 repeat' split
 all_goals omega
theorem msum_rng(y:Int):∀ k:Nat,0≤msum y k∧msum y k≤31*k
 |0=>by simp[msum]
 |k+1=>by
  have h1:=msum_rng y k
  have h2:=mdays_rng y (k+1)
  rw[msum]
  omega
theorem tdiv_le{x d:Int}(hx:0≤x)(hd:0<d):0≤x.tdiv d∧x.tdiv d≤x:=⟨Int.tdiv_nonneg hx (by omega),Int.tdiv_le_self d hx⟩
theorem msum_next(y:Int){k:Int}(h:1≤k):msum y (k.toNat-1)+mdays y k=msum y ((k+1).toNat-1):=by
 obtain⟨n,rfl⟩:∃ n:Nat,k=(n:Int)+1:=⟨(k-1).toNat,by omega⟩
 have e1:((n:Int)+1).toNat-1=n:=by omega
 have e2:((n:Int)+1+1).toNat-1=n+1:=by omega
 rw[e1,e2,msum]
theorem c_daynum(K:Env cf){y m d:Int}(hy1:1≤y)(hy2:y≤9999)(hm1:1≤m)(hm2:m≤12)(hd1:1≤d)(hd2:d≤31):callP cf 238 [I y,I m,I d] [] st=some (I (dnum y m d),st):=by
 refine c_val K.tab (F:=F238) (t:=6) rfl rfl rfl (lb rfl) (by simp[plainV_int]) (bare_int _ _) 20 ?_
 unfold F238 qr qd qm qi qb qk qo dnum
 have q1:=b_quo (k:= .i64) (a:=y-1) (show(4:Int)≠0 by decide)
 have q2:=b_quo (k:= .i64) (a:=y-1) (show(100:Int)≠0 by decide)
 have q3:=b_quo (k:= .i64) (a:=y-1) (show(400:Int)≠0 by decide)
 have r1:=tdiv_le (x:=y-1) (d:=4) (by omega) (by decide)
 have r2:=tdiv_le (x:=y-1) (d:=100) (by omega) (by decide)
 have r3:=tdiv_le (x:=y-1) (d:=400) (by omega) (by decide)
 simp (disch:=omega)only[↓pa,pb,↓reduceIte,Nat.reduceEqDiff,reduceCtorEq,q1,q2,q3]
 revert r1 r2 r3
 generalize (y-1).tdiv 4=a1
 generalize (y-1).tdiv 100=a2
 generalize (y-1).tdiv 400=a3
 intro r1 r2 r3
 refine Wp_rounds (fun k fr st=>∃ j:Int,k=(m-j).toNat∧1≤j∧j≤m∧fr 0=I y∧fr 1=I m∧fr 2=I d∧fr 9=I j∧fr 8=I ((y-1) *365+a1-a2+a3+msum y (j.toNat-1))) (m-1).toNat (by omega) ⟨1,rfl,by omega,by omega,by simp (disch:=omega)only[↓pa,↓reduceIte,reduceCtorEq],by simp (disch:=omega)only[↓pa,↓reduceIte,Nat.reduceEqDiff],by simp (disch:=omega)only[↓pa,↓reduceIte,Nat.reduceEqDiff],by simp (disch:=omega)only[↓pa,↓reduceIte],by simp (disch:=omega)only[↓pa,↓reduceIte,Nat.reduceEqDiff,Int.reduceToNat];simp[msum]⟩ ?_
 rintro k fr st ⟨j,rfl,hj1,hj2,f0,f1,f2,f9,f8⟩
 have hs:=msum_rng y (j.toNat-1)
 have hr:=mdays_rng y j
 simp (disch:=omega)only[↓pa,pb,↓reduceIte,Nat.reduceEqDiff,f1,f9]
 refine Cnd_intro (fun h1=>?_) (fun h1=>?_)
 ·simp (disch:=omega)only[↓pa,pb,↓reduceIte,Nat.reduceEqDiff,reduceCtorEq,f0,f1,f2,f9,f8,h1,c_month K]
  refine⟨(m- (j+1)).toNat,by omega,j+1,rfl,by omega,by omega,rfl,?_⟩
  rw[←msum_next y hj1]
  simp only[Int.add_assoc]
 ·obtain rfl:j=m:=by omega
  simp (disch:=omega)only[↓pa,pb,↓reduceIte,Nat.reduceEqDiff,f2,f8,h1]
theorem c_days(K:Env cf){y:Int}(hy1:1≤y)(hy2:y≤9999):callP cf 234 [I y] [] st=some (I ((y-1) *365+(y-1).tdiv 4- (y-1).tdiv 100+(y-1).tdiv 400),st):=by
 refine c_val K.tab (F:=F234) (t:=2) rfl rfl rfl (lb rfl) (by simp[plainV_int]) (bare_int _ _) 1 ?_
 unfold F234 qr qm qi qb qk
 have q1:=b_quo (k:= .i64) (a:=y-1) (show(4:Int)≠0 by decide)
 have q2:=b_quo (k:= .i64) (a:=y-1) (show(100:Int)≠0 by decide)
 have q3:=b_quo (k:= .i64) (a:=y-1) (show(400:Int)≠0 by decide)
 have r1:=tdiv_le (x:=y-1) (d:=4) (by omega) (by decide)
 have r2:=tdiv_le (x:=y-1) (d:=100) (by omega) (by decide)
 have r3:=tdiv_le (x:=y-1) (d:=400) (by omega) (by decide)
 simp (disch:=omega)only[↓pa,pb,↓reduceIte,Nat.reduceEqDiff,reduceCtorEq,q1,q2,q3]
def numL:List UInt8→Int→Option Int
 | [],v=>some v
 |c::l,v=>if isDb c then numL l (v*10+((c.toNat:Int) -48))else none
theorem digs_seg{t:List UInt8}:∀ (n i:Nat) (v:Int),i+n≤t.length→digs t n i v=numL (seg t i (i+n)) v
 |0,i,v,h=>by rw[Nat.add_zero,seg_nil];rfl
 |n+1,i,v,h=>by
  obtain⟨c,hc,hs⟩:=seg_cons (t:=t) (i:=i) (j:=i+(n+1)) (by omega) h
  have hd:isDb c=isD (cI t i):=by rw[hc];rfl
  have ih:=digs_seg (t:=t) n (i+1) (v*10+(cI t i-48)) (by omega)
  rw[show i+1+n=i+(n+1) by omega]at ih
  rw[digs,hs,numL,hd,←hc]
  by_cases hx:isD (cI t i)=true
  ·have hi:i<t.length:=by omega
   rw[if_pos ⟨hi,hx⟩,if_pos hx,ih]
  ·rw[if_neg fun h=>hx h.2,if_neg hx]
theorem digs_short{t:List UInt8}:∀ (n i:Nat) (v:Int),t.length<i+n→i≤t.length→digs t n i v=none
 |0,i,v,h,h2=>by omega
 |n+1,i,v,h,h2=>by
  rw[digs]
  split
  ·rename_i hx
   exact digs_short n (i+1) _ (by omega) (by omega)
  ·rfl
theorem numL_rng:∀ (l:List UInt8) (v w b:Int),numL l v=some w→0≤v→v<b→0≤w∧w<b*10 ^ l.length
 | [],v,w,b,h,h0,h1=>by cases h;simpa using⟨h0,h1⟩
 |c::l,v,w,b,h,h0,h1=>by
  rw[numL]at h
  split at h
  ·rename_i hc
   have hc:=isDb_iff.1 hc
   have:=numL_rng l _ w (b*10) h (by omega) (by omega)
   rw[List.length_cons,Int.pow_succ]
   rw[show b* (10 ^ l.length*10)=b*10*10 ^ l.length by rw[Int.mul_comm (10 ^ l.length) 10,Int.mul_assoc]]
   exact this
  ·cases h
theorem digs_rng{t:List UInt8}:∀ (n i:Nat) (v w b:Int),digs t n i v=some w→0≤v→v<b→0≤w∧w<b*10 ^ n
 |0,i,v,w,b,h,h0,h1=>by cases h;simpa using⟨h0,h1⟩
 |n+1,i,v,w,b,h,h0,h1=>by
  rw[digs]at h
  split at h
  ·rename_i hc
   have hc:=isD_iff.1 hc.2
   have:=digs_rng n _ _ w (b*10) h (by omega) (by omega)
   rw[Int.pow_succ]
   rw[show b* (10 ^ n*10)=b*10*10 ^ n by rw[Int.mul_comm (10 ^ n) 10,Int.mul_assoc]]
   exact this
  ·cases h
def numZ(l:List UInt8):Int:=match numL l 0 with
 |some v=>v
 |none=> -1
theorem c_num(K:Env cf){l:List UInt8}(hl:l.length≤4):callP cf 236 [S l] [] st=some (I (numZ l),st):=by
 refine c_val K.tab (F:=F236) (t:=2) rfl rfl rfl (lb rfl) (by simp[plainV_str]) (bare_int _ _) 20 ?_
 unfold F236 qr qd qm qi qb qk qo
 simp (disch:=omega)only[↓pa,pb,↓reduceIte,reduceCtorEq]
 refine Wp_rounds (fun k fr st=>∃ (j:Nat) (v:Int),k=l.length-j∧j≤l.length∧fr 0=S l∧fr 6=I l.length∧fr 7=I j∧fr 3=I v∧0≤v∧v<10 ^ j∧numL (l.drop j) v=numL l 0) l.length (by omega) ⟨0,0,rfl,by omega,by simp (disch:=omega)only[↓pa,↓reduceIte,reduceCtorEq],by simp (disch:=omega)only[↓pa,↓reduceIte,Nat.reduceEqDiff],by simp (disch:=omega)only[↓pa,↓reduceIte];rfl,by simp (disch:=omega)only[↓pa,↓reduceIte,Nat.reduceEqDiff],by decide,by decide,rfl⟩ ?_
 rintro k fr st ⟨j,v,rfl,hj,f0,f6,f7,f3,hv0,hv1,hQ⟩
 have hp:(10:Int) ^ j≤10 ^ 4:=by
  have:j=0∨j=1∨j=2∨j=3∨j=4:=by omega
  rcases this with rfl|rfl|rfl|rfl|rfl<;>decide
 have hp4:(10:Int) ^ 4=10000:=rfl
 simp (disch:=omega)only[↓pa,pb,natP,↓reduceIte,f6,f7]
 refine Cnd_intro (fun h1=>?_) (fun h1=>?_)
 ·rw[List.drop_eq_getElem_cons h1]at hQ
  have hc:=cI_get l j h1
  have hdb:isDb l[j]=isD (cI l j):=by rw[hc];rfl
  rw[numL,hdb,←hc]at hQ
  simp (disch:=omega)only[↓pa,pb,↓reduceIte,Nat.reduceEqDiff,reduceCtorEq,f0,f7,h1,c_digit K.tab]
  refine Cnd_intro (fun h2=>?_) (fun h2=>?_)
  ·have hd':=isD_iff.1 h2
   rw[if_pos h2]at hQ
   simp (disch:=omega)only[↓pa,pb,natP,↓reduceIte,Nat.reduceEqDiff,reduceCtorEq,f0,f6,f7,f3,h2]
   exact⟨l.length- (j+1),by omega,j+1,v*10+(cI l j-48),rfl,by omega,rfl,rfl,by omega,by rw[Int.pow_succ];omega,hQ⟩
  ·rw[if_neg h2]at hQ
   simp (disch:=omega)only[↓pa,pb,↓reduceIte,h2]
   rw[numZ,←hQ]
 ·have:j=l.length:=by omega
  subst this
  rw[List.drop_length]at hQ
  simp (disch:=omega)only[↓pa,pb,↓reduceIte,Nat.reduceEqDiff,f3,h1]
  rw[numZ,←hQ];rfl
theorem ymd_ok{y m d:Int}(h:1≤y∧1≤m∧m≤12∧1≤d∧d≤mdays y m):ymd y m d=some (dnum y m d):=if_pos h
theorem ymd_no{y m d:Int}(h:¬ (1≤y∧1≤m∧m≤12∧1≤d∧d≤mdays y m)):ymd y m d=none:=if_neg h
theorem numZ_no{l:List UInt8}(h:numL l 0=none):numZ l= -1:=by rw[numZ,h]
theorem numZ_some{l:List UInt8}{v:Int}(h:numL l 0=some v):numZ l=v:=by rw[numZ,h]
theorem numZ_rng{l:List UInt8}(h:l.length≤4): -1≤numZ l∧numZ l≤9999:=by
 cases e:numL l 0 with
 |none=>rw[numZ_no e];omega
 |some v=>
  rw[numZ_some e]
  have:=numL_rng l 0 v 1 e (by decide) (by decide)
  have hp:(10:Int) ^ l.length≤10000:=by
   have:l.length=0∨l.length=1∨l.length=2∨l.length=3∨l.length=4:=by omega
   rcases this with h|h|h|h|h<;>rw[h]<;>decide
  omega
theorem pdate_eq{t:List UInt8}{i:Nat}(h:i+10≤t.length):pdate t i=if cI t (i+4)=45∧cI t (i+7)=45 then(ymd (numZ (seg t i (i+4))) (numZ (seg t (i+5) (i+7))) (numZ (seg t (i+8) (i+10)))).map fun n=>(n,i+10)else none:=by
 rw[pdate,digs_seg 4 i 0 (by omega),digs_seg 2 (i+5) 0 (by omega),digs_seg 2 (i+8) 0 (by omega)]
 cases e1:numL (seg t i (i+4)) 0 with
 |none=>
  rw[numZ_no e1,ymd_no (by omega)]
  simp
 |some y=>
  rw[numZ_some e1]
  cases e2:numL (seg t (i+5) (i+5+2)) 0 with
  |none=>
   rw[show i+7=i+5+2 by omega,numZ_no e2,ymd_no (by omega)]
   simp
  |some m=>
   rw[show i+7=i+5+2 by omega,numZ_some e2]
   cases e3:numL (seg t (i+8) (i+8+2)) 0 with
   |none=>
    rw[show i+10=i+8+2 by omega,numZ_no e3,ymd_no (by omega)]
    simp
   |some d=>
    rw[show i+10=i+8+2 by omega,numZ_some e3]
theorem pdate_short{t:List UInt8}{i:Nat}(h:t.length<i+10)(hi:i≤t.length):pdate t i=none:=by
 rw[pdate]
 by_cases h1:t.length<i+4
 ·rw[digs_short 4 i 0 h1 hi]
 by_cases h2:t.length<i+5+2
 ·by_cases h3:i+5≤t.length
  ·rw[digs_short 2 (i+5) 0 h2 h3]
   cases digs t 4 i 0<;>rfl
  ·have:cI t (i+4)=0:=cI_end (by omega)
   split
   ·rw[if_neg (by omega)]
   ·rfl
 by_cases h3:i+8≤t.length
 ·rw[digs_short 2 (i+8) 0 (by omega) h3]
  cases digs t 4 i 0<;>cases digs t 2 (i+5) 0<;>rfl
 ·have:cI t (i+7)=0:=cI_end (by omega)
  split
  ·rw[if_neg (by omega)]
  ·rfl
theorem seg_len4{t:List UInt8}{i j:Nat}(h:j≤i+4):(seg t i j).length≤4:=by
 unfold seg
 rw[List.length_drop,List.length_take]
 omega
theorem seg_seg{t:List UInt8}{i j a b:Nat}(h:i+b≤j):((seg t i j).take b).drop a=seg t (i+a) (i+b):=by
 unfold seg
 rw[List.take_drop,List.take_take,List.drop_drop,Nat.min_eq_left (by omega)]
theorem seg_take{t:List UInt8}{i j b:Nat}(h:i+b≤j):(seg t i j).take b=seg t i (i+b):=by
 have:=seg_seg (t:=t) (a:=0) h
 simpa using this
theorem seg_drop{t:List UInt8}{i j a:Nat}:(seg t i j).drop a=seg t (i+a) j:=by
 unfold seg
 rw[List.drop_drop]
set_option maxHeartbeats 1000000 in
theorem c_date(K:Env cf){t:List UInt8}{i:Nat}(hs:st.objs s=some [S t,I i])(hi:i≤t.length)(hl:t.length≤2000000)(h64:cI t i=64):
  ∃ r c',OutI t I (pdate t (i+1)) isI r c'∧∃ fl,callP cf 220 [.ptr s 0] [] st=some (r,setF (setO st s c') fl):=by
 refine c_ptrE K.tab (F:=F220) rfl rfl rfl (lb rfl) (lb rfl) (by simp) hs (plainVs_rd t i) 1 ?_
 unfold F220 qr qd qm qi qc qb qk ql qf qo qe
 have hlt:=cI_in (show cI t i≠0 by rw[h64];decide)
 have e5:((i:Int)+5)=((i+5:Nat):Int):=rfl
 have e8:((i:Int)+8)=((i+8:Nat):Int):=rfl
 have e11:((i:Int)+11)=((i+11:Nat):Int):=rfl
 simp (disch:=omega)only[↓pa,pb,pmy,↓reduceIte,Nat.reduceEqDiff,Nat.reduceAdd,reduceCtorEq]
 refine Cnd_intro (fun h1=>?_) (fun h1=>?_)
 ·simp (disch:=omega)only[↓pa,pb,pmz,↓reduceIte,Nat.reduceEqDiff,h1]
  exact OutI_none (pdate_short (by omega) (by omega)) ⟨_,rfl⟩ rfl rfl hi
 have hp:pdate t (i+1)=if cI t (i+5)=45∧cI t (i+8)=45 then(ymd (numZ (seg t (i+1) (i+5))) (numZ (seg t (i+6) (i+8))) (numZ (seg t (i+9) (i+11)))).map fun n=>(n,i+11)else none:=pdate_eq (by omega)
 simp (disch:=omega)only[↓pa,pb,pmy,↓reduceIte,Nat.reduceEqDiff,Nat.reduceAdd,ne_eq,reduceCtorEq,h1,h64,e5]
 refine Cnd_intro (fun h2=>?_) (fun h2=>?_)
 rotate_left
 ·simp (disch:=omega)only[↓pa,pb,pmz,↓reduceIte,Nat.reduceEqDiff,h2]
  exact OutI_none (by rw[hp,if_neg fun h=>h2 h.1]) ⟨_,rfl⟩ rfl rfl hi
 simp (disch:=omega)only[↓pa,pb,pmy,↓reduceIte,Nat.reduceEqDiff,Nat.reduceAdd,ne_eq,reduceCtorEq,h2,e8]
 refine Cnd_intro (fun h3=>?_) (fun h3=>?_)
 rotate_left
 ·simp (disch:=omega)only[↓pa,pb,pmz,↓reduceIte,Nat.reduceEqDiff,h3]
  exact OutI_none (by rw[hp,if_neg fun h=>h3 h.2]) ⟨_,rfl⟩ rfl rfl hi
 rw[if_pos ⟨h2,h3⟩]at hp
 have hsl:(seg t (i+1) (i+11)).length=10:=by rw[seg_len (by omega)];omega
 have l1:=seg_len4 (t:=t) (i:=i+1) (j:=i+5) (by omega)
 have l2:=seg_len4 (t:=t) (i:=i+6) (j:=i+8) (by omega)
 have l3:=seg_len4 (t:=t) (i:=i+9) (j:=i+11) (by omega)
 have c1:=fun st=>c_num (st:=st) K l1
 have c2:=fun st=>c_num (st:=st) K l2
 have c3:=fun st=>c_num (st:=st) K l3
 have r1:=numZ_rng l1
 have r2:=numZ_rng l2
 have r3:=numZ_rng l3
 simp (disch:=omega)only[↓pa,pb,pmy,natP,↓reduceIte,Nat.reduceEqDiff,Nat.reduceAdd,Nat.reduceLeDiff,Int.reduceToNat,reduceCtorEq,h3,e11,seg_eq,seg_take,seg_drop,Nat.add_assoc,c1,c2,c3]
 revert r1 r2 r3 hp
 generalize numZ (seg t (i+1) (i+5))=y
 generalize numZ (seg t (i+6) (i+8))=m
 generalize numZ (seg t (i+9) (i+11))=d
 intro hp r1 r2 r3
 refine Cnd_intro (fun k1=>?_) (fun k1=>?_)
 ·simp (disch:=omega)only[↓pa,pb,pmz,↓reduceIte,Nat.reduceEqDiff,k1]
  exact OutI_none (by rw[hp,ymd_no (by omega)];rfl) ⟨_,rfl⟩ rfl rfl (by omega)
 simp (disch:=omega)only[↓pa,pb,↓reduceIte,Nat.reduceEqDiff,k1]
 refine Cnd_intro (fun k2=>?_) (fun k2=>?_)
 ·simp (disch:=omega)only[↓pa,pb,pmz,↓reduceIte,Nat.reduceEqDiff,k2]
  exact OutI_none (by rw[hp,ymd_no (by omega)];rfl) ⟨_,rfl⟩ rfl rfl (by omega)
 simp (disch:=omega)only[↓pa,pb,↓reduceIte,Nat.reduceEqDiff,k2]
 refine Cnd_intro (fun k3=>?_) (fun k3=>?_)
 ·simp (disch:=omega)only[↓pa,pb,pmz,↓reduceIte,Nat.reduceEqDiff,k3]
  exact OutI_none (by rw[hp,ymd_no (by omega)];rfl) ⟨_,rfl⟩ rfl rfl (by omega)
 simp (disch:=omega)only[↓pa,pb,↓reduceIte,Nat.reduceEqDiff,k3]
 refine Cnd_intro (fun k4=>?_) (fun k4=>?_)
 ·simp (disch:=omega)only[↓pa,pb,pmz,↓reduceIte,Nat.reduceEqDiff,k4]
  exact OutI_none (by rw[hp,ymd_no (by omega)];rfl) ⟨_,rfl⟩ rfl rfl (by omega)
 simp (disch:=omega)only[↓pa,pb,↓reduceIte,Nat.reduceEqDiff,k4,c_month K]
 refine Cnd_intro (fun k5=>?_) (fun k5=>?_)
 ·simp (disch:=omega)only[↓pa,pb,pmz,↓reduceIte,Nat.reduceEqDiff,k5]
  exact OutI_none (by rw[hp,ymd_no (by omega)];rfl) ⟨_,rfl⟩ rfl rfl (by omega)
 have hr:=mdays_rng y m
 simp (disch:=omega)only[↓pa,pb,pmz,↓reduceIte,Nat.reduceEqDiff,k5,c_daynum K (y:=y) (m:=m) (d:=d) (by omega) (by omega) (by omega) (by omega) (by omega) (by omega)]
 exact OutI_val (by rw[hp,ymd_ok (by omega)];rfl) rfl rfl (by omega)
def dead:PV:= .agg [I (-1),I 0,I 0,S [],.list 0 [] .no,.list 0 [] .no]
theorem c_fail(K:Env cf){t:List UInt8}{i:Nat}{b:Bool}(hs:st.objs s=some [S t,I i,.bool b]):
  ∃ r c',(r=dead∧c'=[S t,I i,.bool true])∧∃ fl,callP cf 209 [.ptr s 0] [] st=some (r,setF (setO st s c') fl):=by
 refine c_ptrE K.tab (F:=F209) (Q:=fun r c'=>r=dead∧c'=[S t,I i,.bool true]) rfl rfl rfl (lb rfl) (lb rfl) (by simp) hs (plainVs_rd3 t i b) 1 ?_
 unfold F209 qr qm qf qo qe qN
 simp (disch:=omega)only[↓pa,↓pmx,pb,pmy,pmz,↓reduceIte,Nat.reduceEqDiff,Nat.reduceAdd,Nat.reduceLeDiff,reduceCtorEq]
 rfl
theorem rt_fail(K:Env cf){t:List UInt8}{i:Nat}{b:Bool}(hs:st.objs s=some [S t,I i,.bool b])
  (k:∀ fl,A (mk dead (setF (setO st s [S t,I i,.bool true]) fl))):RunsTo (callP cf 209 [.ptr s 0] [] st) mk A:=by
 refine RunsTo_E (c_fail K hs) ?_
 rintro r c' fl ⟨rfl,rfl⟩
 exact k fl
theorem c_digits(K:Env cf){t:List UInt8}{i n:Nat}{b:Bool}(hn:n≤4)(hs:st.objs s=some [S t,I i,.bool b])(hi:i≤t.length)(hl:t.length≤2000000):
  ∃ r c',OutS t I (if b then none else(digs t n i 0).map fun v=>(v,i+n)) isI r c'∧∃ fl,callP cf 232 [.ptr s 0,I n] [] st=some (r,setF (setO st s c') fl):=by
 refine c_ptrE K.tab (F:=F232) rfl rfl rfl (lb rfl) (lb rfl) (by simp[plainV_int]) hs (plainVs_rd3 t i b) 20 ?_
 unfold F232 qr qd qm qi qb qk ql qf qo qe
 simp (disch:=omega)only[↓pa]
 refine Wp_rounds (fun k fr st=>∃ (q:Nat) (v:Int),k=n-q∧q≤n∧i+q≤t.length∧fr 0= .ptr 0 0∧fr 1=I n∧fr 6=I q∧fr 5=I v∧st.objs 0=some [S t,I (i+q:Nat),.bool b]∧0≤v∧v<10 ^ q∧digs t (n-q) (i+q) v=digs t n i 0) n (by omega) ⟨0,0,rfl,by omega,by omega,by simp (disch:=omega)only[↓pa,↓reduceIte,reduceCtorEq],by simp (disch:=omega)only[↓pa,↓reduceIte,Nat.reduceEqDiff],by simp (disch:=omega)only[↓pa,↓reduceIte];rfl,by simp (disch:=omega)only[↓pa,↓reduceIte,Nat.reduceEqDiff],by simp (disch:=omega)only[pb];rfl,by decide,by decide,rfl⟩ ?_
 rintro k fr st ⟨q,v,rfl,hq,hiq,f0,f1,f6,f5,o0,hv0,hv1,hQ⟩
 have hp:(10:Int) ^ q≤10 ^ 4:=by
  have:q=0∨q=1∨q=2∨q=3∨q=4:=by omega
  rcases this with rfl|rfl|rfl|rfl|rfl<;>decide
 have hp4:(10:Int) ^ 4=10000:=rfl
 simp (disch:=omega)only[↓pa,pb,natP,↓reduceIte,Nat.reduceEqDiff,f1,f6]
 refine Cnd_intro (fun h1=>?_) (fun h1=>?_)
 rotate_left
 ·obtain rfl:q=n:=by omega
  rw[Nat.sub_self]at hQ
  simp (disch:=omega)only[↓pa,pb,pmz,↓reduceIte,Nat.reduceEqDiff,f5,o0,h1]
  rw[←hQ]
  cases b with
  |true=>exact OutS_none (dm:=isI) rfl ⟨_,rfl⟩ rfl hiq
  |false=>exact OutS_val (dm:=isI) rfl rfl rfl hiq
 obtain⟨m,hm⟩:∃ m,n-q=m+1:=⟨n-q-1,by omega⟩
 rw[hm,digs]at hQ
 simp (disch:=omega)only[↓pa,pb,pmy,natP,↓reduceIte,Nat.reduceEqDiff,Nat.reduceAdd,reduceCtorEq,f0,o0,h1]
 refine Cnd_intro (fun h2=>?_) (fun h2=>?_)
 ·rw[if_neg fun h=>by omega]at hQ
  simp (disch:=omega)only[↓pa,pb,pmy,pmz,↓reduceIte,Nat.reduceEqDiff,Nat.reduceAdd,Nat.reduceLeDiff,reduceCtorEq,f0,o0,h2]
  refine OutS_none (dm:=isI) ?_ ⟨_,rfl⟩ rfl hiq
  rw[←hQ]
  cases b<;>rfl
 simp (disch:=omega)only[↓pa,pb,pmy,↓reduceIte,Nat.reduceEqDiff,Nat.reduceAdd,reduceCtorEq,f0,o0,h2,c_digitS K.tab]
 have h2':i+q<t.length:=by omega
 refine Cnd_intro (fun h3=>?_) (fun h3=>?_)
 ·rw[if_pos ⟨h2',h3⟩]at hQ
  have hd':=isD_iff.1 h3
  simp (disch:=omega)only[↓pa,pb,pmy,natP,↓reduceIte,Nat.reduceEqDiff,Nat.reduceAdd,Nat.reduceLeDiff,reduceCtorEq,f0,f1,f6,f5,o0,h3]
  exact⟨n- (q+1),by omega,q+1,v*10+(cI t (i+q) -48),rfl,by omega,by omega,rfl,rfl,rfl,by omega,by rw[Int.pow_succ];omega,by rw[show n- (q+1)=m by omega];exact hQ⟩
 ·rw[if_neg fun h=>h3 h.2]at hQ
  simp (disch:=omega)only[↓pa,pb,pmy,pmz,↓reduceIte,Nat.reduceAdd,Nat.reduceLeDiff,reduceCtorEq,f0,o0,h3]
  refine OutS_none (dm:=isI) ?_ ⟨_,rfl⟩ rfl hiq
  rw[←hQ]
  cases b<;>rfl
theorem rt_digits(K:Env cf){t:List UInt8}{i n:Nat}{b:Bool}(hn:n≤4)(hs:st.objs s=some [S t,I i,.bool b])(hi:i≤t.length)(hl:t.length≤2000000)
  (k1:∀ v fl,b=false→digs t n i 0=some v→i+n≤t.length→A (mk (I v) (setF (setO st s [S t,I (i+n:Nat),.bool false]) fl)))
  (k2:∀ (v:Int) j fl,(b=true∨digs t n i 0=none)→j≤t.length→A (mk (I v) (setF (setO st s [S t,I (j:Nat),.bool true]) fl))):RunsTo (callP cf 232 [.ptr s 0,I n] [] st) mk A:=by
 refine RunsTo_S (c_digits K hn hs hi hl) ?_ ?_
 ·intro v j fl h1 h2
  cases b with
  |true=>cases h1
  |false=>
   simp only[Bool.false_eq_true,if_false,Option.map_eq_some_iff,Prod.mk.injEq]at h1
   obtain⟨v',h1,rfl,rfl⟩:=h1
   exact k1 v' fl rfl h1 h2
 ·rintro p j fl h1 ⟨v,rfl⟩ h3
  refine k2 v j fl ?_ h3
  cases b with
  |true=>exact .inl rfl
  |false=>
   simp only[Bool.false_eq_true,if_false,Option.map_eq_none_iff]at h1
   exact .inr h1
set_option maxHeartbeats 2000000 in
theorem c_dateS(K:Env cf){t:List UInt8}{i:Nat}(hs:st.objs s=some [S t,I i,.bool false])(hi:i≤t.length)(hl:t.length≤2000000):
  ∃ r c',OutS t VB ((pdate t i).map fun q=>(.mk 4 q.1 0 [] [] [],q.2)) is6 r c'∧∃ fl,callP cf 212 [.ptr s 0] [] st=some (r,setF (setO st s c') fl):=by
 refine c_ptrE K.tab (F:=F212) rfl rfl rfl (lb rfl) (lb rfl) (by simp) hs (plainVs_rd3 t i _) 20 ?_
 unfold F212 qr qd qm qi qb qk ql qf qo qe qN
 simp (disch:=omega)only[↓pa,pb,↓reduceIte,reduceCtorEq]
 refine rt_digits K (t:=t) (i:=i) (n:=4) (b:=false) (by decide) (by simp only[pb,↓reduceIte,reduceCtorEq]) hi hl (fun y fl _ hy hiy=>?_) (fun v j fl h hj=>?_)
 rotate_left
 ·have hy:digs t 4 i 0=none:=by rcases h with h|h;cases h;exact h
  have hno:(pdate t i).map (fun q=>(V.mk 4 q.1 0 [] [] [],q.2))=none:=by rw[pdate,hy];rfl
  simp (disch:=omega)only[↓pa,pb,pmy,↓reduceIte,Nat.reduceEqDiff,Nat.reduceAdd,Nat.reduceLeDiff,reduceCtorEq]
  refine rt_digits K (t:=t) (n:=2) (b:=true) (by decide) (by simp only[pb,↓reduceIte]<;>rfl) (by assumption) hl (fun _ _ h=>by cases h) (fun _ _ _ _ _=>?_)
  simp (disch:=omega)only[↓pa,pb,pmy,↓reduceIte,Nat.reduceEqDiff,Nat.reduceAdd,Nat.reduceLeDiff,reduceCtorEq]
  refine rt_digits K (t:=t) (n:=2) (b:=true) (by decide) (by simp only[pb,↓reduceIte]<;>rfl) (by assumption) hl (fun _ _ h=>by cases h) (fun _ _ _ _ _=>?_)
  simp (disch:=omega)only[↓pa,pb,pmy,↓reduceIte,Nat.reduceEqDiff,Nat.reduceAdd,reduceCtorEq]
  refine rt_fail K (t:=t) (by simp only[pb,pmy,↓reduceIte]<;>rfl) fun fl=>?_
  simp (disch:=omega)only[↓pa,pb,pmy,pmz,↓reduceIte,Nat.reduceEqDiff,Nat.reduceAdd,Nat.reduceLeDiff,reduceCtorEq,dead]
  exact OutS_none (dm:=is6) hno ⟨_,rfl,rfl,by simp only[pmz,Bool.and_self],by simp only[pmz]⟩ rfl (by omega)
 simp (disch:=omega)only[↓pa,pb,pmy,↓reduceIte,Nat.reduceEqDiff,Nat.reduceAdd,reduceCtorEq]
 refine(rt_takes K.tab (t:=t) (i:=i+4) (x:=[45]) (by simp only[pb,pmy,↓reduceIte]) hiy hl (by decide)).2 ?_
 rw[tk_one (by decide)]
 refine Cnd_intro (fun h4=>?_) (fun h4=>?_)
 rotate_left
 ·have hno:(pdate t i).map (fun q=>(V.mk 4 q.1 0 [] [] [],q.2))=none:=by
   rw[pdate]
   split
   ·rw[if_neg fun h=>h4 (decide_eq_true h.1)];rfl
   ·rfl
  simp (disch:=omega)only[↓pa,pb,pmy,↓reduceIte,Nat.reduceEqDiff,Nat.reduceAdd,Nat.reduceLeDiff,reduceCtorEq]
  refine rt_digits K (t:=t) (n:=2) (b:=true) (by decide) (by simp only[pb,↓reduceIte]<;>rfl) (by assumption) hl (fun _ _ h=>by cases h) (fun _ _ _ _ _=>?_)
  simp (disch:=omega)only[↓pa,pb,pmy,↓reduceIte,Nat.reduceEqDiff,Nat.reduceAdd,Nat.reduceLeDiff,reduceCtorEq]
  refine rt_digits K (t:=t) (n:=2) (b:=true) (by decide) (by simp only[pb,↓reduceIte]<;>rfl) (by assumption) hl (fun _ _ h=>by cases h) (fun _ _ _ _ _=>?_)
  simp (disch:=omega)only[↓pa,pb,pmy,↓reduceIte,Nat.reduceEqDiff,Nat.reduceAdd,reduceCtorEq]
  refine rt_fail K (t:=t) (by simp only[pb,pmy,↓reduceIte]<;>rfl) fun fl=>?_
  simp (disch:=omega)only[↓pa,pb,pmy,pmz,↓reduceIte,Nat.reduceEqDiff,Nat.reduceAdd,Nat.reduceLeDiff,reduceCtorEq,dead]
  exact OutS_none (dm:=is6) hno ⟨_,rfl,rfl,by simp only[pmz,Bool.and_self],by simp only[pmz]⟩ rfl (by omega)
 have h4':cI t (i+4)=45:=of_decide_eq_true h4
 have hi4:=cI_in (show cI t (i+4)≠0 by rw[h4'];decide)
 simp (disch:=omega)only[↓pa,pb,pmy,↓reduceIte,Nat.reduceEqDiff,Nat.reduceAdd,Nat.reduceLeDiff,reduceCtorEq,List.length_cons,List.length_nil]
 refine rt_digits K (t:=t) (i:=i+4+1) (n:=2) (b:=false) (by decide) (by simp only[pb,↓reduceIte]) hi4 hl (fun m fl _ hm him=>?_) (fun v j fl h hj=>?_)
 rotate_left
 ·have hm:digs t 2 (i+5) 0=none:=by rcases h with h|h;cases h;exact h
  have hno:(pdate t i).map (fun q=>(V.mk 4 q.1 0 [] [] [],q.2))=none:=by rw[pdate,hy,hm];rfl
  simp (disch:=omega)only[↓pa,pb,pmy,↓reduceIte,Nat.reduceEqDiff,Nat.reduceAdd,Nat.reduceLeDiff,reduceCtorEq]
  refine rt_digits K (t:=t) (n:=2) (b:=true) (by decide) (by simp only[pb,↓reduceIte]<;>rfl) (by assumption) hl (fun _ _ h=>by cases h) (fun _ _ _ _ _=>?_)
  simp (disch:=omega)only[↓pa,pb,pmy,↓reduceIte,Nat.reduceEqDiff,Nat.reduceAdd,reduceCtorEq]
  refine rt_fail K (t:=t) (by simp only[pb,pmy,↓reduceIte]<;>rfl) fun fl=>?_
  simp (disch:=omega)only[↓pa,pb,pmy,pmz,↓reduceIte,Nat.reduceEqDiff,Nat.reduceAdd,Nat.reduceLeDiff,reduceCtorEq,dead]
  exact OutS_none (dm:=is6) hno ⟨_,rfl,rfl,by simp only[pmz,Bool.and_self],by simp only[pmz]⟩ rfl (by omega)
 simp (disch:=omega)only[↓pa,pb,pmy,↓reduceIte,Nat.reduceEqDiff,Nat.reduceAdd,reduceCtorEq]
 refine(rt_takes K.tab (t:=t) (i:=i+4+1+2) (x:=[45]) (by simp only[pb,pmy,↓reduceIte]) him hl (by decide)).2 ?_
 rw[tk_one (by decide)]
 refine Cnd_intro (fun h7=>?_) (fun h7=>?_)
 rotate_left
 ·have hno:(pdate t i).map (fun q=>(V.mk 4 q.1 0 [] [] [],q.2))=none:=by
   rw[pdate]
   split
   ·rw[if_neg fun h=>h7 (decide_eq_true h.2)];rfl
   ·rfl
  simp (disch:=omega)only[↓pa,pb,pmy,↓reduceIte,Nat.reduceEqDiff,Nat.reduceAdd,Nat.reduceLeDiff,reduceCtorEq]
  refine rt_digits K (t:=t) (n:=2) (b:=true) (by decide) (by simp only[pb,↓reduceIte]<;>rfl) (by assumption) hl (fun _ _ h=>by cases h) (fun _ _ _ _ _=>?_)
  simp (disch:=omega)only[↓pa,pb,pmy,↓reduceIte,Nat.reduceEqDiff,Nat.reduceAdd,reduceCtorEq]
  refine rt_fail K (t:=t) (by simp only[pb,pmy,↓reduceIte]<;>rfl) fun fl=>?_
  simp (disch:=omega)only[↓pa,pb,pmy,pmz,↓reduceIte,Nat.reduceEqDiff,Nat.reduceAdd,Nat.reduceLeDiff,reduceCtorEq,dead]
  exact OutS_none (dm:=is6) hno ⟨_,rfl,rfl,by simp only[pmz,Bool.and_self],by simp only[pmz]⟩ rfl (by omega)
 have h7':cI t (i+7)=45:=of_decide_eq_true h7
 have hi7:=cI_in (show cI t (i+7)≠0 by rw[h7'];decide)
 simp (disch:=omega)only[↓pa,pb,pmy,↓reduceIte,Nat.reduceEqDiff,Nat.reduceAdd,Nat.reduceLeDiff,reduceCtorEq,List.length_cons,List.length_nil]
 refine rt_digits K (t:=t) (i:=i+4+1+2+1) (n:=2) (b:=false) (by decide) (by simp only[pb,↓reduceIte]) hi7 hl (fun d fl _ hd hid=>?_) (fun v j fl h hj=>?_)
 rotate_left
 ·have hd:digs t 2 (i+8) 0=none:=by rcases h with h|h;cases h;exact h
  have hno:(pdate t i).map (fun q=>(V.mk 4 q.1 0 [] [] [],q.2))=none:=by
   rw[pdate,hd]
   cases digs t 4 i 0<;>cases digs t 2 (i+5) 0<;>rfl
  simp (disch:=omega)only[↓pa,pb,pmy,↓reduceIte,Nat.reduceEqDiff,Nat.reduceAdd,reduceCtorEq]
  refine rt_fail K (t:=t) (by simp only[pb,pmy,↓reduceIte]<;>rfl) fun fl=>?_
  simp (disch:=omega)only[↓pa,pb,pmy,pmz,↓reduceIte,Nat.reduceEqDiff,Nat.reduceAdd,Nat.reduceLeDiff,reduceCtorEq,dead]
  exact OutS_none (dm:=is6) hno ⟨_,rfl,rfl,by simp only[pmz,Bool.and_self],by simp only[pmz]⟩ rfl (by omega)
 have hm':digs t 2 (i+5) 0=some m:=hm
 have hd':digs t 2 (i+8) 0=some d:=hd
 have hp:(pdate t i).map (fun q=>(V.mk 4 q.1 0 [] [] [],q.2))=(ymd y m d).map fun n=>(V.mk 4 n 0 [] [] [],i+10):=by
  rw[pdate,hy,hm',hd']
  simp only
  rw[if_pos ⟨h4',h7'⟩]
  cases ymd y m d<;>rfl
 have r1:=digs_rng 4 i 0 y 1 hy (by decide) (by decide)
 have r2:=digs_rng 2 (i+5) 0 m 1 hm' (by decide) (by decide)
 have r3:=digs_rng 2 (i+8) 0 d 1 hd' (by decide) (by decide)
 have e4:(1:Int) *10 ^ 4=10000:=rfl
 have e2:(1:Int) *10 ^ 2=100:=rfl
 rw[e4]at r1
 rw[e2]at r2 r3
 simp (disch:=omega)only[↓pa,pb,pmy,↓reduceIte,Nat.reduceEqDiff,Nat.reduceAdd,reduceCtorEq]
 refine Cnd_intro (fun k1=>?_) (fun k1=>?_)
 ·have hno:(pdate t i).map (fun q=>(V.mk 4 q.1 0 [] [] [],q.2))=none:=by rw[hp,ymd_no (by omega),Option.map_none]
  simp (disch:=omega)only[↓pa,pb,↓reduceIte,Nat.reduceEqDiff,reduceCtorEq,k1]
  refine rt_fail K (t:=t) (by simp only[pb,pmy,↓reduceIte]<;>rfl) fun fl=>?_
  simp (disch:=omega)only[↓pa,pb,pmy,pmz,↓reduceIte,Nat.reduceEqDiff,Nat.reduceAdd,Nat.reduceLeDiff,reduceCtorEq,dead]
  exact OutS_none (dm:=is6) hno ⟨_,rfl,rfl,by simp only[pmz,Bool.and_self],by simp only[pmz]⟩ rfl (by omega)
 simp (disch:=omega)only[↓pa,pb,↓reduceIte,Nat.reduceEqDiff,k1]
 refine Cnd_intro (fun k2=>?_) (fun k2=>?_)
 ·have hno:(pdate t i).map (fun q=>(V.mk 4 q.1 0 [] [] [],q.2))=none:=by rw[hp,ymd_no (by omega),Option.map_none]
  simp (disch:=omega)only[↓pa,pb,↓reduceIte,Nat.reduceEqDiff,reduceCtorEq,k2]
  refine rt_fail K (t:=t) (by simp only[pb,pmy,↓reduceIte]<;>rfl) fun fl=>?_
  simp (disch:=omega)only[↓pa,pb,pmy,pmz,↓reduceIte,Nat.reduceEqDiff,Nat.reduceAdd,Nat.reduceLeDiff,reduceCtorEq,dead]
  exact OutS_none (dm:=is6) hno ⟨_,rfl,rfl,by simp only[pmz,Bool.and_self],by simp only[pmz]⟩ rfl (by omega)
 simp (disch:=omega)only[↓pa,pb,↓reduceIte,Nat.reduceEqDiff,k2]
 refine Cnd_intro (fun k3=>?_) (fun k3=>?_)
 ·have hno:(pdate t i).map (fun q=>(V.mk 4 q.1 0 [] [] [],q.2))=none:=by rw[hp,ymd_no (by omega),Option.map_none]
  simp (disch:=omega)only[↓pa,pb,↓reduceIte,Nat.reduceEqDiff,reduceCtorEq,k3]
  refine rt_fail K (t:=t) (by simp only[pb,pmy,↓reduceIte]<;>rfl) fun fl=>?_
  simp (disch:=omega)only[↓pa,pb,pmy,pmz,↓reduceIte,Nat.reduceEqDiff,Nat.reduceAdd,Nat.reduceLeDiff,reduceCtorEq,dead]
  exact OutS_none (dm:=is6) hno ⟨_,rfl,rfl,by simp only[pmz,Bool.and_self],by simp only[pmz]⟩ rfl (by omega)
 simp (disch:=omega)only[↓pa,pb,↓reduceIte,Nat.reduceEqDiff,k3]
 refine Cnd_intro (fun k4=>?_) (fun k4=>?_)
 ·have hno:(pdate t i).map (fun q=>(V.mk 4 q.1 0 [] [] [],q.2))=none:=by rw[hp,ymd_no (by omega),Option.map_none]
  simp (disch:=omega)only[↓pa,pb,↓reduceIte,Nat.reduceEqDiff,reduceCtorEq,k4]
  refine rt_fail K (t:=t) (by simp only[pb,pmy,↓reduceIte]<;>rfl) fun fl=>?_
  simp (disch:=omega)only[↓pa,pb,pmy,pmz,↓reduceIte,Nat.reduceEqDiff,Nat.reduceAdd,Nat.reduceLeDiff,reduceCtorEq,dead]
  exact OutS_none (dm:=is6) hno ⟨_,rfl,rfl,by simp only[pmz,Bool.and_self],by simp only[pmz]⟩ rfl (by omega)
 have hmm:=fun st=>c_monthS (st:=st) K y (m:=m) (by omega) (by omega)
 simp (disch:=omega)only[↓pa,pb,↓reduceIte,Nat.reduceEqDiff,k4,hmm]
 refine Cnd_intro (fun k5=>?_) (fun k5=>?_)
 ·have hno:(pdate t i).map (fun q=>(V.mk 4 q.1 0 [] [] [],q.2))=none:=by rw[hp,ymd_no (by omega),Option.map_none]
  simp (disch:=omega)only[↓pa,pb,↓reduceIte,reduceCtorEq,k5]
  refine rt_fail K (t:=t) (by simp only[pb,pmy,↓reduceIte]<;>rfl) fun fl=>?_
  simp (disch:=omega)only[↓pa,pb,pmy,pmz,↓reduceIte,Nat.reduceEqDiff,Nat.reduceAdd,Nat.reduceLeDiff,reduceCtorEq,dead]
  exact OutS_none (dm:=is6) hno ⟨_,rfl,rfl,by simp only[pmz,Bool.and_self],by simp only[pmz]⟩ rfl (by omega)
 have hr:=mdays_rng y m
 rw[ymd_ok (by omega)]at hp
 have hdd:=fun st=>c_days (st:=st) K (y:=y) (by omega) (by omega)
 have q1:=tdiv_le (x:=y-1) (d:=4) (by omega) (by decide)
 have q2:=tdiv_le (x:=y-1) (d:=100) (by omega) (by decide)
 have q3:=tdiv_le (x:=y-1) (d:=400) (by omega) (by decide)
 have hdn:dnum y m d=(y-1) *365+(y-1).tdiv 4- (y-1).tdiv 100+(y-1).tdiv 400+d-1+msum y (m.toNat-1):=by unfold dnum;omega
 simp (disch:=omega)only[↓pa,pb,↓reduceIte,Nat.reduceEqDiff,k5,hdd]
 revert q1 q2 q3 hdn
 generalize (y-1).tdiv 4=a1
 generalize (y-1).tdiv 100=a2
 generalize (y-1).tdiv 400=a3
 intro q1 q2 q3 hdn
 refine Wp_rounds (fun k fr st=>∃ j:Int,k=(m-j).toNat∧1≤j∧j≤m∧fr 0= .ptr 0 0∧fr 2= .ptr 2 0∧fr 3=I y∧fr 4=I m∧fr 7=I j∧fr 6=I ((y-1) *365+a1-a2+a3+d-1+msum y (j.toNat-1))∧st.objs 0=some [S t,I (i+10:Nat),.bool false]∧st.objs 2=some [I 0,I 0,I 0,S [],.list 0 [] .nil,.list 0 [] .nil]) (m-1).toNat (by omega) ⟨1,rfl,by omega,by omega,by simp (disch:=omega)only[↓pa,pb,↓reduceIte,reduceCtorEq],by simp (disch:=omega)only[↓pa,↓reduceIte,Nat.reduceEqDiff],by simp (disch:=omega)only[↓pa,↓reduceIte,Nat.reduceEqDiff],by simp (disch:=omega)only[↓pa,↓reduceIte,Nat.reduceEqDiff],by simp (disch:=omega)only[↓pa,↓reduceIte],by simp (disch:=omega)only[↓pa,↓reduceIte,Nat.reduceEqDiff,Int.reduceToNat];simp[msum],by simp (disch:=omega)only[pb,pmy,↓reduceIte],by simp (disch:=omega)only[pb,pmy,↓reduceIte,reduceCtorEq]⟩ ?_
 rintro k fr st ⟨j,rfl,hj1,hj2,f0,f2,f3,f4,f7,f6,o0,o2⟩
 have hs:=msum_rng y (j.toNat-1)
 have hr:=mdays_rng y j
 have hms:=fun st=>c_monthS (st:=st) K y (m:=j) (by omega) (by omega)
 simp (disch:=omega)only[↓pa,pb,↓reduceIte,Nat.reduceEqDiff,f4,f7]
 refine Cnd_intro (fun h1=>?_) (fun h1=>?_)
 ·simp (disch:=omega)only[↓pa,pb,↓reduceIte,Nat.reduceEqDiff,reduceCtorEq,f0,f2,f3,f4,f7,f6,o0,o2,h1,hms]
  refine⟨(m- (j+1)).toNat,by omega,j+1,rfl,by omega,by omega,rfl,?_⟩
  rw[←msum_next y hj1]
  simp only[Int.add_assoc]
 ·obtain rfl:j=m:=by omega
  simp (disch:=omega)only[↓pa,↓pmx,pb,pmy,pmz,↓reduceIte,Nat.reduceEqDiff,Nat.reduceAdd,Nat.reduceLeDiff,reduceCtorEq,f2,f6,o0,o2,h1]
  refine OutS_val hp ?_ rfl (by omega)
  rw[hdn];rfl
theorem rt_eat1(K:Env cf){t:List UInt8}{i:Nat}{c:UInt8}(n:Int)(hc:(c.toNat:Int)=n)(hn:n≠0)(hs:st.objs s=some [S t,I i])(hi:i≤t.length)(hl:t.length≤2000000):
  RunsTo (callP cf 226 [.ptr s 0,S [c]] [] st) mk A↔Cnd (cI t i=n) (Later A (mk (.bool true) (setO st s [S t,I (i+1:Nat)]))) (Later A (mk (.bool false) st)):=by
 rw[rt_eat K.tab hs hi hl (show([c]:List UInt8).length≤2000000 by simp),tk_one (by rintro rfl;exact hn hc.symm),hc]
 simp only[decide_eq_true_eq]
 rfl
theorem rt_takes1(K:Env cf){t:List UInt8}{i:Nat}{c:UInt8}(n:Int)(hc:(c.toNat:Int)=n)(hn:n≠0)(hs:st.objs s=some [S t,I i,.bool false])(hi:i≤t.length)(hl:t.length≤2000000):
  RunsTo (callP cf 210 [.ptr s 0,S [c]] [] st) mk A↔Cnd (cI t i=n) (Later A (mk (.bool true) (setO st s [S t,I (i+1:Nat),.bool false]))) (Later A (mk (.bool false) st)):=by
 rw[rt_takes K.tab hs hi hl (show([c]:List UInt8).length≤2000000 by simp),tk_one (by rintro rfl;exact hn hc.symm),hc]
 simp only[decide_eq_true_eq]
 rfl
set_option maxHeartbeats 2000000 in
theorem c_point(K:Env cf){t:List UInt8}{i:Nat}(hs:st.objs s=some [S t,I i])(hi:i≤t.length)(hl:t.length≤2000000)(h40:cI t i=40):
  ∃ r c',OutI t VA (ppoint t (i+1)) is6 r c'∧∃ fl,callP cf 222 [.ptr s 0] [] st=some (r,setF (setO st s c') fl):=by
 refine c_ptrE K.tab (F:=F222) rfl rfl rfl (lb rfl) (lb rfl) (by simp) hs (plainVs_rd t i) 1 ?_
 unfold F222 qr qd qm qc qo qe qN
 have hlt:=cI_in (show cI t i≠0 by rw[h40];decide)
 simp (disch:=omega)only[↓pa,pb,↓reduceIte,reduceCtorEq]
 refine(rt_eat1 K (t:=t) (i:=i) 40 rfl (by decide) (by simp only[pb,↓reduceIte,reduceCtorEq]) hi hl).2 ?_
 simp (disch:=omega)only[↓pa,pb,↓reduceIte,reduceCtorEq,h40]
 refine rt_whole K (t:=t) (i:=i+1) (by simp only[pb,↓reduceIte]) hlt hl (fun a j fl ha hj=>?_) (fun n j fl ha hj=>?_)
 rotate_left
 ·have hno:ppoint t (i+1)=none:=by rw[ppoint,ha]
  simp (disch:=omega)only[↓pa,pb,List.getElem?_cons_zero,List.getElem?_cons_succ,↓reduceIte,Nat.reduceEqDiff,reduceCtorEq]
  refine(rt_eat1 K (t:=t) (i:=j) 32 rfl (by decide) (by simp only[pb,pmy,↓reduceIte]) hj hl).2 ?_
  refine Cnd_intro (fun h=>?_) (fun h=>?_)
  ·have:=cI_in (show cI t j≠0 by rw[h];decide)
   simp (disch:=omega)only[↓pa,↓pmx,pb,pmy,pmz,↓reduceIte,Nat.reduceEqDiff,Nat.reduceAdd,Nat.reduceLeDiff,reduceCtorEq]
   exact OutI_none hno ⟨_,rfl,rfl,by simp only[pmz,Bool.and_self],by simp only[pmz]⟩ rfl rfl (by omega)
  ·
   simp (disch:=omega)only[↓pa,↓pmx,pb,pmy,pmz,↓reduceIte,Nat.reduceEqDiff,Nat.reduceAdd,Nat.reduceLeDiff,reduceCtorEq]
   exact OutI_none hno ⟨_,rfl,rfl,by simp only[pmz,Bool.and_self],by simp only[pmz]⟩ rfl rfl (by omega)
 simp (disch:=omega)only[↓pa,pb,List.getElem?_cons_zero,List.getElem?_cons_succ,↓reduceIte,Nat.reduceEqDiff,reduceCtorEq]
 refine(rt_eat1 K (t:=t) (i:=j) 32 rfl (by decide) (by simp only[pb,pmy,↓reduceIte]) hj hl).2 ?_
 refine Cnd_intro (fun h32=>?_) (fun h32=>?_)
 rotate_left
 ·have hno:ppoint t (i+1)=none:=by rw[ppoint,ha];simp only;rw[if_neg h32]
  simp (disch:=omega)only[↓pa,↓pmx,pb,pmy,pmz,↓reduceIte,Nat.reduceEqDiff,Nat.reduceAdd,Nat.reduceLeDiff,reduceCtorEq]
  exact OutI_none hno ⟨_,rfl,rfl,by simp only[pmz,Bool.and_self],by simp only[pmz]⟩ rfl rfl (by omega)
 have hjl:=cI_in (show cI t j≠0 by rw[h32];decide)
 simp (disch:=omega)only[↓pa,pb,↓reduceIte,Nat.reduceEqDiff,reduceCtorEq]
 refine rt_whole K (t:=t) (i:=j+1) (by simp only[pb,↓reduceIte]) hjl hl (fun b k fl hb hk=>?_) (fun n k fl hb hk=>?_)
 rotate_left
 ·have hno:ppoint t (i+1)=none:=by rw[ppoint,ha];simp only;rw[if_pos h32,hb]
  simp (disch:=omega)only[↓pa,↓pmx,pb,pmy,pmz,List.getElem?_cons_zero,List.getElem?_cons_succ,↓reduceIte,Nat.reduceEqDiff,Nat.reduceAdd,Nat.reduceLeDiff,reduceCtorEq]
  exact OutI_none hno ⟨_,rfl,rfl,by simp only[pmz,Bool.and_self],by simp only[pmz]⟩ rfl rfl (by omega)
 have hp:ppoint t (i+1)=if cI t k=41∧big a=false∧big b=false then some (.mk 5 a b [] [] [],k+1)else none:=by rw[ppoint,ha];simp only;rw[if_pos h32,hb]
 simp (disch:=omega)only[↓pa,pb,List.getElem?_cons_zero,List.getElem?_cons_succ,↓reduceIte,Nat.reduceEqDiff,reduceCtorEq]
 refine(rt_eat1 K (t:=t) (i:=k) 41 rfl (by decide) (by simp only[pb,pmy,↓reduceIte]) hk hl).2 ?_
 refine Cnd_intro (fun h41=>?_) (fun h41=>?_)
 rotate_left
 ·have hno:ppoint t (i+1)=none:=by rw[hp,if_neg fun h=>h41 h.1]
  simp (disch:=omega)only[↓pa,↓pmx,pb,pmy,pmz,↓reduceIte,Nat.reduceEqDiff,Nat.reduceAdd,Nat.reduceLeDiff,reduceCtorEq]
  exact OutI_none hno ⟨_,rfl,rfl,by simp only[pmz,Bool.and_self],by simp only[pmz]⟩ rfl rfl (by omega)
 have hkl:=cI_in (show cI t k≠0 by rw[h41];decide)
 have hbig:∀ x,big x=true↔(x< -1000000∨1000000<x):=fun x=>by simp[big]
 simp (disch:=omega)only[↓pa,pb,↓reduceIte,Nat.reduceEqDiff]
 refine Cnd_intro (fun b1=>?_) (fun b1=>?_)
 ·have hno:ppoint t (i+1)=none:=by rw[hp,if_neg fun h=>by rw[(hbig a).2 (.inl b1)]at h;simp at h]
  simp (disch:=omega)only[↓pa,↓pmx,pb,pmy,↓reduceIte,Nat.reduceEqDiff,Nat.reduceAdd,Nat.reduceLeDiff,reduceCtorEq,b1]
  simp (disch:=omega)only[↓pa,pb,pmy,pmz,↓reduceIte,Nat.reduceEqDiff,Nat.reduceAdd,Nat.reduceLeDiff,reduceCtorEq]
  exact OutI_none hno ⟨_,rfl,rfl,by simp only[pmz,Bool.and_self],by simp only[pmz]⟩ rfl rfl (by omega)
 simp (disch:=omega)only[↓pa,pb,↓reduceIte,Nat.reduceEqDiff,b1]
 refine Cnd_intro (fun b2=>?_) (fun b2=>?_)
 ·have hno:ppoint t (i+1)=none:=by rw[hp,if_neg fun h=>by rw[(hbig a).2 (.inr b2)]at h;simp at h]
  simp (disch:=omega)only[↓pa,↓pmx,pb,pmy,↓reduceIte,Nat.reduceEqDiff,Nat.reduceAdd,Nat.reduceLeDiff,reduceCtorEq,b2]
  simp (disch:=omega)only[↓pa,pb,pmy,pmz,↓reduceIte,Nat.reduceEqDiff,Nat.reduceAdd,Nat.reduceLeDiff,reduceCtorEq]
  exact OutI_none hno ⟨_,rfl,rfl,by simp only[pmz,Bool.and_self],by simp only[pmz]⟩ rfl rfl (by omega)
 simp (disch:=omega)only[↓pa,pb,↓reduceIte,Nat.reduceEqDiff,b2]
 refine Cnd_intro (fun b3=>?_) (fun b3=>?_)
 ·have hno:ppoint t (i+1)=none:=by rw[hp,if_neg fun h=>by rw[(hbig b).2 (.inl b3)]at h;simp at h]
  simp (disch:=omega)only[↓pa,↓pmx,pb,pmy,↓reduceIte,Nat.reduceEqDiff,Nat.reduceAdd,Nat.reduceLeDiff,reduceCtorEq,b3]
  simp (disch:=omega)only[↓pa,pb,pmy,pmz,↓reduceIte,Nat.reduceEqDiff,Nat.reduceAdd,Nat.reduceLeDiff,reduceCtorEq]
  exact OutI_none hno ⟨_,rfl,rfl,by simp only[pmz,Bool.and_self],by simp only[pmz]⟩ rfl rfl (by omega)
 simp (disch:=omega)only[↓pa,pb,↓reduceIte,Nat.reduceEqDiff,b3]
 refine Cnd_intro (fun b4=>?_) (fun b4=>?_)
 ·have hno:ppoint t (i+1)=none:=by rw[hp,if_neg fun h=>by rw[(hbig b).2 (.inr b4)]at h;simp at h]
  simp (disch:=omega)only[↓pa,↓pmx,pb,pmy,pmz,↓reduceIte,Nat.reduceEqDiff,Nat.reduceAdd,Nat.reduceLeDiff,reduceCtorEq,b4]
  exact OutI_none hno ⟨_,rfl,rfl,by simp only[pmz,Bool.and_self],by simp only[pmz]⟩ rfl rfl (by omega)
 ·have ba:big a=false:=by cases h:big a;rfl;exact absurd ((hbig a).1 h) (by omega)
  have bb:big b=false:=by cases h:big b;rfl;exact absurd ((hbig b).1 h) (by omega)
  simp (disch:=omega)only[↓pa,↓pmx,pb,pmy,pmz,↓reduceIte,Nat.reduceEqDiff,Nat.reduceAdd,Nat.reduceLeDiff,reduceCtorEq,b4]
  exact OutI_val (by rw[hp,if_pos ⟨h41,ba,bb⟩]) rfl rfl hkl
theorem put6{a b c d e f:PV}{vs:List PV}(h:vs.length=6):putCells [a,b,c,d,e,f] 0 vs=vs:=putCells_all (by rw[h];rfl)
theorem take6{vs:List PV}(h:vs.length=6):vs.take 6=vs:=List.take_of_length_le (by omega)
theorem kindA{v:V}:partP v.ca 0 1 false=some (I v.kind):=by cases v;rfl
theorem kindB{v:V}:partP v.cb 0 1 false=some (I v.kind):=by cases v;rfl
theorem pthing_some{t:List UInt8}{k:Int}{i j:Nat}{v:V}(hi:i≤t.length)(h:pthing t k i=some (v,j)):v.kind=k∧i≤j∧j≤t.length:=by
 unfold pthing at h
 simp only[Option.map_eq_some_iff,Prod.mk.injEq]at h
 obtain⟨⟨n,j'⟩,h1,rfl,rfl⟩:=h
 exact⟨rfl,pid_le hi h1⟩
theorem pthingA_some{t:List UInt8}{i j:Nat}{v:V}(h:pthingA t i=some (v,j)):(v.kind=9∧cI t i=101∧pthing t 9 (i+1)=some (v,j)∨v.kind=8∧cI t i=110∧pthing t 8 (i+1)=some (v,j))∧i<j∧j≤t.length:=by
 unfold pthingA at h
 split at h
 ·rename_i hc
  have hlt:=cI_in (show cI t i≠0 by rw[hc];decide)
  obtain⟨h1,h2,h3⟩:=pthing_some hlt h
  exact⟨.inl ⟨h1,hc,h⟩,h2,h3⟩
 ·split at h
  ·rename_i hc
   have hlt:=cI_in (show cI t i≠0 by rw[hc];decide)
   obtain⟨h1,h2,h3⟩:=pthing_some hlt h
   exact⟨.inr ⟨h1,hc,h⟩,h2,h3⟩
  ·cases h
theorem app_len{vs:List V}{v:V}:(vs++[v]).length=vs.length+1:=by simp
theorem path_in{t:List UInt8}{n j:Nat}{node:Bool}{acc:List V}(hn:0<n):pathGo t n node j acc=
  if cI t j=(if node then 110 else 101)then match pthing t (if node then 8 else 9) (j+1)with
   |some (v,j)=>
    if node=true∧cI t j=62 then some (.mk 10 0 0 [] [] (acc++[v]),j+1)
    else if cI t j=32 then pathGo t (n-1) (!node) (j+1) (acc++[v])
    else none
   |none=>none
  else none:=by
 obtain⟨m,rfl⟩:∃ m,n=m+1:=⟨n-1,by omega⟩
 rw[pathGo];rfl
def wantK(node:Bool):Int:=if node then 8 else 9
theorem path_val{acc:List V}{v:V}:PV.agg [I 10,I 0,I 0,S [],.list 0 [] .no,.list (acc.length+1) (V.cas (acc++[v])) .no]=VA (.mk 10 0 0 [] [] (acc++[v])):=by
 rw[VA,V.ca,app_len];rfl
set_option maxHeartbeats 2000000 in
theorem c_path(K:Env cf){t:List UInt8}{i:Nat}(hs:st.objs s=some [S t,I i])(hi:i≤t.length)(hl:t.length≤2000000)(h60:cI t i=60):
  ∃ r c',OutI t VA (ppath t (i+1)) is6 r c'∧∃ fl,callP cf 225 [.ptr s 0] [] st=some (r,setF (setO st s c') fl):=by
 refine c_ptrE K.tab (F:=F225) rfl rfl rfl (lb rfl) (lb rfl) (by simp) hs (plainVs_rd t i) (t.length+1) ?_
 unfold F225 qr qd qm qi qc qk ql qf qo qe qN
 have hlt:=cI_in (show cI t i≠0 by rw[h60];decide)
 simp (disch:=omega)only[↓pa,↓pmx,pb,pmy,↓reduceIte,Nat.reduceEqDiff,Nat.reduceAdd,Nat.reduceLeDiff,reduceCtorEq]
 refine(rt_eat1 K (t:=t) (i:=i) 60 rfl (by decide) (by simp only[pb,↓reduceIte,reduceCtorEq]) hi hl).2 ?_
 simp (disch:=omega)only[↓pa,pb,↓reduceIte,h60]
 refine Wp_rounds (fun k fr st=>∃ (j n:Nat) (node:Bool) (acc:List V) (tok:Tok),k=t.length-j∧j≤t.length∧acc.length≤j∧t.length-j<n∧fr 0= .ptr 0 0∧fr 2= .ptr 2 0∧fr 4= .ptr 4 0∧fr 5=I (wantK node)∧st.objs 0=some [S t,I j]∧st.objs 2=some [I 0,I 0,I 0,S [],.list 0 [] .nil,.list 0 [] .nil]∧
  st.objs 4=some [I 10,I 0,I 0,S [],.list 0 [] .nil,.list acc.length (V.cas acc) tok]∧Gr 204 st.nx st.cnt acc.length tok∧pathGo t n node j acc=ppath t (i+1)) (t.length- (i+1)) (by omega)
  ⟨i+1,t.length+1- (i+1),true,[],.nil,rfl,by omega,Nat.zero_le _,by omega,by simp (disch:=omega)only[↓pa,pb,↓reduceIte,reduceCtorEq],by simp (disch:=omega)only[↓pa,pb,↓reduceIte,Nat.reduceEqDiff],by simp (disch:=omega)only[↓pa,↓reduceIte,Nat.reduceEqDiff],by simp (disch:=omega)only[↓pa,↓reduceIte];rfl,by simp (disch:=omega)only[pb,↓reduceIte],by simp (disch:=omega)only[pb,↓reduceIte,Nat.reduceEqDiff,reduceCtorEq],by simp (disch:=omega)only[pb,↓reduceIte,reduceCtorEq];rfl,rfl,rfl⟩ ?_
 rintro k fr st ⟨j,n,node,acc,tok,rfl,hj,hacc,hn,f0,f2,f4,f5,o0,o2,o4,hG,hQ⟩
 rw[path_in (by omega)]at hQ
 simp (disch:=omega)only[↓pa,pb,↓reduceIte,f0]
 refine RunsTo_I (c_thing K (t:=t) (i:=j) (by simp only[o0]) hj hl) (fun v j1 fl hv hj1=>?_) (fun p j1 fl hv hp hj1=>?_)
 rotate_left
 ·obtain⟨cs,rfl,hcs,hcn,hct⟩:=hp
  have hno:ppath t (i+1)=none:=by
   rw[←hQ]
   unfold pthingA at hv
   cases node
   ·simp only[Bool.false_eq_true,if_false]
    by_cases hc:cI t j=101
    ·rw[if_pos hc]at hv
     rw[if_pos hc,hv]
    ·rw[if_neg hc]
   ·simp only[if_true]
    by_cases hc:cI t j=110
    ·rw[if_neg (by omega),if_pos hc]at hv
     rw[if_pos hc,hv]
    ·rw[if_neg hc]
  simp (disch:=omega)only[↓pa,pb,pmy,pmz,pmV,List.getElem?_cons_zero,List.getElem?_cons_succ,↓reduceIte,Nat.reduceEqDiff,Nat.reduceAdd,Nat.reduceLeDiff,reduceCtorEq,f2,f4,o2,o4,hcs,put6]
  exact OutI_none hno ⟨_,rfl,rfl,by simp only[pmz,pmV,Bool.and_self],by simp only[pmz,pmV]⟩ rfl rfl hj1
 obtain⟨hk,hlt1,-⟩:=pthingA_some hv
 have hvl:=v.ca_len
 by_cases hw:v.kind=wantK node
 rotate_left
 ·have hno:ppath t (i+1)=none:=by
   rw[←hQ,if_neg]
   intro hc
   apply hw
   cases node
   ·have hc:cI t j=101:=hc
    rcases hk with⟨h1,-⟩|⟨-,h2,-⟩
    ·exact h1
    ·omega
   ·have hc:cI t j=110:=hc
    rcases hk with⟨-,h2,-⟩|⟨h1,-⟩
    ·omega
    ·exact h1
  simp (disch:=omega)only[↓pa,pb,pmy,pmz,pmV,List.getElem?_cons_zero,List.getElem?_cons_succ,↓reduceIte,Nat.reduceEqDiff,Nat.reduceAdd,Nat.reduceLeDiff,ne_eq,reduceCtorEq,f2,f4,f5,o2,o4,hvl,put6,kindA,hw]
  exact OutI_none hno ⟨_,rfl,rfl,by simp only[pmz,pmV,Bool.and_self],by simp only[pmz,pmV]⟩ rfl rfl hj1
 have hstep:ppath t (i+1)=if node=true∧cI t j1=62 then some (.mk 10 0 0 [] [] (acc++[v]),j1+1)else if cI t j1=32 then pathGo t (n-1) (!node) (j1+1) (acc++[v])else none:=by
  rw[←hQ]
  cases node
  ·rcases hk with⟨h1,h2,h3⟩|⟨h1,h2,h3⟩
   ·rw[if_pos (by exact h2)];simp only[Bool.false_eq_true,if_false];rw[h3]
   ·rw[h1]at hw;exact absurd hw (by decide)
  ·rcases hk with⟨h1,h2,h3⟩|⟨h1,h2,h3⟩
   ·rw[h1]at hw;exact absurd hw (by decide)
   ·rw[if_pos (by exact h2)];simp only[if_true];rw[h3]
 clear hQ
 simp (disch:=omega)only[↓pa,↓pmx,pb,pmy,List.getElem?_cons_zero,List.getElem?_cons_succ,↓reduceIte,Nat.reduceEqDiff,Nat.reduceAdd,Nat.reduceLeDiff,Nat.reduceLT,ne_eq,reduceCtorEq,f4,f5,o4,hvl,put6,take6,kindA,hw]
 refine RunsTo_app (n:=acc.length) (m:=1) hG (by rw[V.cas_len]) (by rw[hvl]) (by omega) (by omega) (by decide) ?_
 rw[V.cas_snoc]
 have hw8:wantK true=8:=rfl
 have hw9:wantK false=9:=rfl
 cases node
 ·rw[if_neg (by simp)]at hstep
  simp (disch:=omega)only[↓pa,pb,pmy,↓reduceIte,Nat.reduceEqDiff,Nat.reduceAdd,Nat.reduceLeDiff,Int.reduceEq,reduceCtorEq,f0,f4,f5,o4,hw9]
  refine(rt_eat1 K (t:=t) (i:=j1) 32 rfl (by decide) (by simp only[pb,pmy,↓reduceIte,reduceCtorEq]) hj1 hl).2 ?_
  refine Cnd_intro (fun h32=>?_) (fun h32=>?_)
  ·rw[if_pos h32]at hstep
   have hjl:=cI_in (show cI t j1≠0 by rw[h32];decide)
   simp (disch:=omega)only[↓pa,pb,pmy,↓reduceIte,Nat.reduceEqDiff,reduceCtorEq,f0,f2,f4,f5,o2,hw9]
   exact⟨t.length- (j1+1),by omega,j1+1,n-1,true,acc++[v],_,rfl,by omega,by rw[app_len];omega,by omega,rfl,rfl,by rw[app_len],by rw[app_len];exact Gr_app hG,hstep.symm⟩
  ·rw[if_neg h32]at hstep
   simp (disch:=omega)only[↓pa,pb,pmy,pmz,pmV,↓reduceIte,Nat.reduceEqDiff,Nat.reduceAdd,Nat.reduceLeDiff,reduceCtorEq,f2,f4,o2]
   exact OutI_none hstep ⟨_,rfl,rfl,by simp only[pmz,pmV,Bool.and_self],by simp only[pmz,pmV]⟩ rfl rfl hj1
 ·simp (disch:=omega)only[↓pa,pb,pmy,↓reduceIte,Nat.reduceEqDiff,Nat.reduceAdd,Nat.reduceLeDiff,reduceCtorEq,f0,f4,f5,o4,hw8]
  refine(rt_eat1 K (t:=t) (i:=j1) 62 rfl (by decide) (by simp only[pb,pmy,↓reduceIte,reduceCtorEq]) hj1 hl).2 ?_
  refine Cnd_intro (fun h62=>?_) (fun h62=>?_)
  ·rw[if_pos ⟨rfl,h62⟩]at hstep
   have hjl:=cI_in (show cI t j1≠0 by rw[h62];decide)
   simp (disch:=omega)only[↓pa,pb,pmy,pmz,pmV,↓reduceIte,Nat.reduceEqDiff,Nat.reduceAdd,Nat.reduceLeDiff,reduceCtorEq,f2,f4,o2]
   rw[path_val]
   exact OutI_val hstep rfl rfl hjl
  rw[if_neg fun h=>h62 h.2]at hstep
  simp (disch:=omega)only[↓pa,pb,↓reduceIte,Nat.reduceEqDiff,reduceCtorEq,f0]
  refine(rt_eat1 K (t:=t) (i:=j1) 32 rfl (by decide) (by simp only[pb,pmy,↓reduceIte,reduceCtorEq]) hj1 hl).2 ?_
  refine Cnd_intro (fun h32=>?_) (fun h32=>?_)
  ·rw[if_pos h32]at hstep
   have hjl:=cI_in (show cI t j1≠0 by rw[h32];decide)
   simp (disch:=omega)only[↓pa,pb,pmy,↓reduceIte,Nat.reduceEqDiff,reduceCtorEq,f0,f2,f4,f5,o2,hw8]
   exact⟨t.length- (j1+1),by omega,j1+1,n-1,false,acc++[v],_,rfl,by omega,by rw[app_len];omega,by omega,rfl,rfl,by rw[app_len],by rw[app_len];exact Gr_app hG,hstep.symm⟩
  ·rw[if_neg h32]at hstep
   simp (disch:=omega)only[↓pa,pb,pmy,pmz,pmV,↓reduceIte,Nat.reduceEqDiff,Nat.reduceAdd,Nat.reduceLeDiff,reduceCtorEq,f2,f4,o2]
   exact OutI_none hstep ⟨_,rfl,rfl,by simp only[pmz,pmV,Bool.and_self],by simp only[pmz,pmV]⟩ rfl rfl hj1
theorem pint_mono{t:List UInt8}{i j:Nat}{n:Int}(h:pint t i=some (n,j)):i≤j:=by
 unfold pint at h
 simp only[Option.map_eq_some_iff,Prod.mk.injEq]at h
 obtain⟨_,_,_,rfl⟩:=h
 split
 ·exact Nat.le_of_succ_le (skip_ge _ _ _)
 ·exact skip_ge _ _ _
theorem pthing_mono{t:List UInt8}{k:Int}{i j:Nat}{v:V}(h:pthing t k i=some (v,j)):i≤j:=by
 unfold pthing pid at h
 simp only[Option.map_eq_some_iff,Prod.mk.injEq]at h
 obtain⟨⟨n,j'⟩,h1,rfl,rfl⟩:=h
 split at h1
 ·rename_i hp
  split at h1
  ·cases h1;exact pint_mono hp
  ·cases h1
 ·cases h1
theorem quotedGo_mono{t:List UInt8}:∀ (n i:Nat) (acc:List UInt8) {r:List UInt8} {j:Nat},quotedGo t n i acc=some (r,j)→i≤j
 |0,_,_,_,_,h=>by cases h
 |n+1,i,acc,r,j,h=>by
  have ih:=fun i acc=>quotedGo_mono (t:=t) n i acc (r:=r) (j:=j)
  rw[quotedGo]at h
  repeat' split at h
  all_goals first
   |(cases h;done)
   |(have:=ih _ _ h;omega)
   |(cases h;omega)
theorem pathGo_mono{t:List UInt8}:∀ (n:Nat) (node:Bool) (i:Nat) (acc:List V) {v:V} {j:Nat},pathGo t n node i acc=some (v,j)→i≤j
 |0,_,_,_,_,_,h=>by cases h
 |n+1,node,i,acc,v,j,h=>by
  have ih:=fun node i acc=>pathGo_mono (t:=t) n node i acc (v:=v) (j:=j)
  rw[pathGo]at h
  by_cases hc:cI t i=(if node then 110 else 101)
  ·rw[if_pos hc]at h
   cases hv:pthing t (if node then 8 else 9) (i+1)with
   |none=>rw[hv]at h;cases h
   |some q=>
    obtain⟨w,j1⟩:=q
    rw[hv]at h
    simp only at h
    have:=pthing_mono hv
    split at h
    ·cases h;omega
    ·split at h
     ·have:=ih _ _ _ h;omega
     ·cases h
  ·rw[if_neg hc]at h;cases h
theorem listGo_mono{t:List UInt8}{rd:Nat→Option (V×Nat)}(hr:∀ i v j,rd i=some (v,j)→i≤j):∀ (n i:Nat) (acc:List V) {v:V} {j:Nat},listGo t rd n i acc=some (v,j)→i≤j
 |0,_,_,_,_,h=>by cases h
 |n+1,i,acc,v,j,h=>by
  have ih:=fun i acc=>listGo_mono (t:=t) hr n i acc (v:=v) (j:=j)
  rw[listGo]at h
  split at h
  ·rename_i hv
   have:=hr _ _ _ hv
   split at h
   ·cases h;omega
   ·split at h
    ·have:=ih _ _ h;omega
    ·cases h
  ·cases h
theorem pname_mono{t:List UInt8}{i j:Nat}{l:List UInt8}(h:pname t i=some (l,j)):i≤j:=by
 unfold pname at h
 split at h
 ·cases h;exact skip_ge _ _ _
 ·cases h
theorem mapGo_mono{t:List UInt8}{rd:Nat→Option (V×Nat)}(hr:∀ i v j,rd i=some (v,j)→i≤j):∀ (n i:Nat) (ns:List (List UInt8)) (acc:List V) {v:V} {j:Nat},mapGo t rd n i ns acc=some (v,j)→i≤j
 |0,_,_,_,_,_,h=>by cases h
 |n+1,i,ns,acc,v,j,h=>by
  have ih:=fun i ns acc=>mapGo_mono (t:=t) hr n i ns acc (v:=v) (j:=j)
  rw[mapGo]at h
  split at h
  ·rename_i hn
   have h1:=pname_mono hn
   split at h
   ·split at h
    ·rename_i hv
     have h2:=hr _ _ _ hv
     split at h
     ·split at h
      ·cases h;omega
      ·cases h
     ·split at h
      ·have:=ih _ _ _ h;omega
      ·cases h
    ·cases h
   ·cases h
  ·cases h
theorem pbody_mono{t:List UInt8}{o:Option (Nat→Option (V×Nat))}(hr:∀ rd,o=some rd→∀ i v j,rd i=some (v,j)→i≤j){i:Nat}{v:V}{j:Nat}(h:pbody t o i=some (v,j)):i≤j:=by
 unfold pbody at h
 by_cases c1:cI t i=34
 ·rw[if_pos c1]at h
  simp only[Option.map_eq_some_iff,Prod.mk.injEq]at h
  obtain⟨⟨l,j'⟩,h1,_,rfl⟩:=h
  have:=quotedGo_mono _ _ _ h1
  show i≤j'
  omega
 rw[if_neg c1]at h
 by_cases c2:cI t i=64
 ·rw[if_pos c2]at h
  simp only[Option.map_eq_some_iff,Prod.mk.injEq]at h
  obtain⟨⟨l,j'⟩,h1,_,rfl⟩:=h
  unfold pdate at h1
  split at h1
  ·split at h1
   ·simp only[Option.map_eq_some_iff,Prod.mk.injEq]at h1
    obtain⟨_,_,_,h2⟩:=h1
    show i≤j'
    omega
   ·cases h1
  ·cases h1
 rw[if_neg c2]at h
 by_cases c3:cI t i=45∨isD (cI t i)=true
 ·rw[if_pos c3]at h
  simp only[Option.map_eq_some_iff,Prod.mk.injEq]at h
  obtain⟨⟨l,j'⟩,h1,_,rfl⟩:=h
  exact pint_mono h1
 rw[if_neg c3]at h
 by_cases c4:cI t i=40
 ·rw[if_pos c4]at h
  unfold ppoint at h
  split at h
  ·rename_i h1
   have:=pint_mono h1
   split at h
   ·split at h
    ·rename_i h2
     have:=pint_mono h2
     split at h
     ·cases h;omega
     ·cases h
    ·cases h
   ·cases h
  ·cases h
 rw[if_neg c4]at h
 by_cases c5:cI t i=91
 ·rw[if_pos c5]at h
  cases o with
  |none=>cases h
  |some rd=>
   change plist t rd (i+1)=some (v,j)at h
   unfold plist at h
   split at h
   ·cases h;omega
   ·have:=listGo_mono (hr _ rfl) _ _ _ h;omega
 rw[if_neg c5]at h
 by_cases c6:cI t i=123
 ·rw[if_pos c6]at h
  cases o with
  |none=>cases h
  |some rd=>
   change pmap t rd (i+1)=some (v,j)at h
   unfold pmap at h
   split at h
   ·cases h;omega
   ·have:=mapGo_mono (hr _ rfl) _ _ _ _ h;omega
 rw[if_neg c6]at h
 by_cases c7:cI t i=60
 ·rw[if_pos c7]at h
  have:=pathGo_mono _ _ _ _ h;omega
 rw[if_neg c7]at h
 by_cases c8:tk t i [110,117,108,108]=true
 ·rw[if_pos c8]at h;cases h;omega
 rw[if_neg c8]at h
 by_cases c9:tk t i [116,114,117,101]=true
 ·rw[if_pos c9]at h;cases h;omega
 rw[if_neg c9]at h
 by_cases c10:tk t i [102,97,108,115,101]=true
 ·rw[if_pos c10]at h;cases h;omega
 rw[if_neg c10]at h
 by_cases c11:cI t i=110
 ·rw[if_pos c11]at h
  have:=pthing_mono h;omega
 rw[if_neg c11]at h
 by_cases c12:cI t i=101
 ·rw[if_pos c12]at h
  have:=pthing_mono h;omega
 rw[if_neg c12]at h
 cases h
theorem pval_mono{t:List UInt8}:∀ (b i:Nat) (v:V) (j:Nat),pval t b i=some (v,j)→i≤j
 |0,i,v,j,h=>pbody_mono (fun rd h=>by cases h) (show pbody t none i=some (v,j)from h)
 |b+1,i,v,j,h=>pbody_mono (fun rd h=>by cases h;exact pval_mono b) (show pbody t (some (pval t b)) i=some (v,j)from h)
def ValOk(cf:CallF)(t:List UInt8)(b:Nat):Prop:=∀ (st:St) (s i:Nat),st.objs s=some [S t,I i]→i≤t.length→
 ∃ r c',OutI t VA (pval t b i) is6 r c'∧∃ fl,callP cf 201 [.ptr s 0,I (5- (b:Int))] [] st=some (r,setF (setO st s c') fl)
theorem list_in{t:List UInt8}{rd:Nat→Option (V×Nat)}{n j:Nat}{acc:List V}(hn:0<n):listGo t rd n j acc=match rd j with
  |some (v,j)=>
   if cI t j=93 then some (.mk 6 0 0 [] [] (acc++[v]),j+1)
   else if cI t j=44 then listGo t rd (n-1) (j+1) (acc++[v])
   else none
  |none=>none:=by
 obtain⟨m,rfl⟩:∃ m,n=m+1:=⟨n-1,by omega⟩
 rw[listGo];rfl
theorem list_val{acc:List V}{v:V}:PV.agg [I 6,I 0,I 0,S [],.list 0 [] .no,.list (acc.length+1) (V.cas (acc++[v])) .no]=VA (.mk 6 0 0 [] [] (acc++[v])):=by
 rw[VA,V.ca,app_len];rfl
set_option maxHeartbeats 2000000 in
theorem c_list0(K:Env cf){t:List UInt8}{i:Nat}(hs:st.objs s=some [S t,I i])(hi:i≤t.length)(hl:t.length≤2000000)(h91:cI t i=91):
  ∃ r c',OutI t VA none is6 r c'∧∃ fl,callP cf 223 [.ptr s 0,I 5] [] st=some (r,setF (setO st s c') fl):=by
 refine c_ptrE K.tab (F:=F223) rfl rfl rfl (lb rfl) (lb rfl) (by simp[plainV_int]) hs (plainVs_rd t i) 1 ?_
 unfold F223 qr qd qm qc qk ql qf qo qe qN
 have hlt:=cI_in (show cI t i≠0 by rw[h91];decide)
 simp (disch:=omega)only[↓pa,↓pmx,pb,pmy,↓reduceIte,Nat.reduceEqDiff,Nat.reduceAdd,Nat.reduceLeDiff,reduceCtorEq]
 refine(rt_eat1 K (t:=t) (i:=i) 91 rfl (by decide) (by simp only[pb,↓reduceIte,reduceCtorEq]) hi hl).2 ?_
 simp (disch:=omega)only[↓pa,pb,pmy,↓reduceIte,Nat.reduceEqDiff,Nat.reduceAdd,Nat.reduceLeDiff,reduceCtorEq,h91]
 simp (disch:=omega)only[↓pa,pb,pmy,pmz,↓reduceIte,Nat.reduceEqDiff,Nat.reduceAdd,Nat.reduceLeDiff,reduceCtorEq]
 exact OutI_none rfl ⟨_,rfl,rfl,by simp only[pmz,Bool.and_self],by simp only[pmz]⟩ rfl rfl hlt
set_option maxHeartbeats 2000000 in
theorem c_list(K:Env cf){t:List UInt8}{i b:Nat}(hs:st.objs s=some [S t,I i])(hi:i≤t.length)(hl:t.length≤2000000)(hb:b<5)(h91:cI t i=91)(ih:ValOk cf t b):
  ∃ r c',OutI t VA (plist t (pval t b) (i+1)) is6 r c'∧∃ fl,callP cf 223 [.ptr s 0,I (5- ((b+1:Nat):Int))] [] st=some (r,setF (setO st s c') fl):=by
 refine c_ptrE K.tab (F:=F223) rfl rfl rfl (lb rfl) (lb rfl) (by simp[plainV_int]) hs (plainVs_rd t i) (t.length+1) ?_
 unfold F223 qr qd qm qc qk ql qf qo qe qN
 have hlt:=cI_in (show cI t i≠0 by rw[h91];decide)
 have hd5:¬ (5- ((b+1:Nat):Int)=5):=by omega
 have hdd:5- ((b+1:Nat):Int)+1=5- (b:Int):=by omega
 revert hd5 hdd
 generalize hdp:5- ((b+1:Nat):Int)=dp
 intro hd5 hdd
 simp (disch:=omega)only[↓pa,↓pmx,pb,pmy,↓reduceIte,Nat.reduceEqDiff,Nat.reduceAdd,Nat.reduceLeDiff,reduceCtorEq]
 refine(rt_eat1 K (t:=t) (i:=i) 91 rfl (by decide) (by simp only[pb,↓reduceIte,reduceCtorEq]) hi hl).2 ?_
 simp (disch:=omega)only[↓pa,pb,↓reduceIte,Nat.reduceEqDiff,reduceCtorEq,h91,hd5]
 refine(rt_eat1 K (t:=t) (i:=i+1) 93 rfl (by decide) (by simp only[pb,↓reduceIte]) hlt hl).2 ?_
 refine Cnd_intro (fun h93=>?_) (fun h93=>?_)
 ·have hlt2:=cI_in (show cI t (i+1)≠0 by rw[h93];decide)
  simp (disch:=omega)only[↓pa,pb,pmy,pmz,↓reduceIte,Nat.reduceEqDiff,Nat.reduceAdd,Nat.reduceLeDiff,reduceCtorEq]
  exact OutI_val (by rw[plist,if_pos h93]) (by rfl) rfl hlt2
 have hP:plist t (pval t b) (i+1)=listGo t (pval t b) (t.length+1- (i+1)) (i+1) []:=by rw[plist,if_neg h93]
 simp (disch:=omega)only[↓pa,pb,↓reduceIte]
 refine Wp_rounds (fun k fr st=>∃ (j n:Nat) (acc:List V) (tok:Tok),k=t.length-j∧j≤t.length∧acc.length≤j∧t.length-j<n∧fr 0= .ptr 0 0∧fr 1=I dp∧fr 4= .ptr 4 0∧fr 6= .ptr 6 0∧st.objs 0=some [S t,I j]∧st.objs 4=some [I 0,I 0,I 0,S [],.list 0 [] .nil,.list 0 [] .nil]∧
  st.objs 6=some [I 6,I 0,I 0,S [],.list 0 [] .nil,.list acc.length (V.cas acc) tok]∧Gr 204 st.nx st.cnt acc.length tok∧listGo t (pval t b) n j acc=plist t (pval t b) (i+1)) (t.length- (i+1)) (by omega)
  ⟨i+1,t.length+1- (i+1),[],.nil,rfl,by omega,Nat.zero_le _,by omega,by simp (disch:=omega)only[↓pa,pb,↓reduceIte,reduceCtorEq],by simp (disch:=omega)only[↓pa,pb,↓reduceIte,Nat.reduceEqDiff],by simp (disch:=omega)only[↓pa,pb,↓reduceIte,Nat.reduceEqDiff],by simp (disch:=omega)only[↓pa,↓reduceIte,Nat.reduceEqDiff],by simp (disch:=omega)only[pb,↓reduceIte],by simp (disch:=omega)only[pb,↓reduceIte,Nat.reduceEqDiff,reduceCtorEq],by simp (disch:=omega)only[pb,↓reduceIte,reduceCtorEq];rfl,rfl,hP.symm⟩ ?_
 rintro k fr st ⟨j,n,acc,tok,rfl,hj,hacc,hn,f0,f1,f4,f6,o0,o4,o6,hG,hQ⟩
 rw[list_in (by omega)]at hQ
 simp (disch:=omega)only[↓pa,pb,↓reduceIte,Nat.reduceEqDiff,f0,f1,hdd]
 refine RunsTo_I (ih _ 0 j (by simp only[o0]) hj) (fun v j1 fl hv hj1=>?_) (fun p j1 fl hv hp hj1=>?_)
 rotate_left
 ·obtain⟨cs,rfl,hcs,hcn,hct⟩:=hp
  rw[hv]at hQ
  simp (disch:=omega)only[↓pa,pb,pmy,pmz,pmV,List.getElem?_cons_zero,List.getElem?_cons_succ,↓reduceIte,Nat.reduceEqDiff,Nat.reduceAdd,Nat.reduceLeDiff,reduceCtorEq,f4,f6,o4,o6,hcs,put6]
  exact OutI_none hQ.symm ⟨_,rfl,rfl,by simp only[pmz,pmV,Bool.and_self],by simp only[pmz,pmV]⟩ rfl rfl hj1
 have hm:=pval_mono _ _ _ _ hv
 have hvl:=v.ca_len
 rw[hv]at hQ
 simp only at hQ
 simp (disch:=omega)only[↓pa,↓pmx,pb,pmy,List.getElem?_cons_zero,List.getElem?_cons_succ,↓reduceIte,Nat.reduceEqDiff,Nat.reduceAdd,Nat.reduceLeDiff,Nat.reduceLT,reduceCtorEq,f6,o6,hvl,put6,take6]
 refine RunsTo_app (n:=acc.length) (m:=1) hG (by rw[V.cas_len]) (by rw[hvl]) (by omega) (by omega) (by decide) ?_
 rw[V.cas_snoc]
 simp (disch:=omega)only[↓pa,pb,pmy,↓reduceIte,Nat.reduceEqDiff,Nat.reduceAdd,Nat.reduceLeDiff,reduceCtorEq,f0,f6,o6]
 refine(rt_eat1 K (t:=t) (i:=j1) 93 rfl (by decide) (by simp only[pb,pmy,↓reduceIte,reduceCtorEq]) hj1 hl).2 ?_
 refine Cnd_intro (fun h1=>?_) (fun h1=>?_)
 ·rw[if_pos h1]at hQ
  have hjl:=cI_in (show cI t j1≠0 by rw[h1];decide)
  simp (disch:=omega)only[↓pa,pb,pmy,pmz,pmV,↓reduceIte,Nat.reduceEqDiff,Nat.reduceAdd,Nat.reduceLeDiff,reduceCtorEq,f4,f6,o4]
  rw[list_val]
  exact OutI_val hQ.symm rfl rfl hjl
 rw[if_neg h1]at hQ
 simp (disch:=omega)only[↓pa,pb,↓reduceIte,reduceCtorEq,f0]
 refine(rt_eat1 K (t:=t) (i:=j1) 44 rfl (by decide) (by simp only[pb,pmy,↓reduceIte,reduceCtorEq]) hj1 hl).2 ?_
 refine Cnd_intro (fun h2=>?_) (fun h2=>?_)
 ·rw[if_pos h2]at hQ
  have hjl:=cI_in (show cI t j1≠0 by rw[h2];decide)
  simp (disch:=omega)only[↓pa,pb,pmy,↓reduceIte,Nat.reduceEqDiff,reduceCtorEq,f0,f1,f4,f6,o4]
  exact⟨t.length- (j1+1),by omega,j1+1,n-1,acc++[v],_,rfl,by omega,by rw[app_len];omega,by omega,rfl,by rw[app_len],by rw[app_len];exact Gr_app hG,hQ⟩
 ·rw[if_neg h2]at hQ
  simp (disch:=omega)only[↓pa,pb,pmy,pmz,pmV,↓reduceIte,Nat.reduceEqDiff,Nat.reduceAdd,Nat.reduceLeDiff,reduceCtorEq,f4,f6,o4]
  exact OutI_none hQ.symm ⟨_,rfl,rfl,by simp only[pmz,pmV,Bool.and_self],by simp only[pmz,pmV]⟩ rfl rfl hj1
end Go.PM
