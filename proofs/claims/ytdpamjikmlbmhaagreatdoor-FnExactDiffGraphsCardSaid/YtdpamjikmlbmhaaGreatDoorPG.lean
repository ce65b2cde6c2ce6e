/- A part of the proof: texts PhR, PhS, PhT, PhU, PhV, PhW, PhX, PhY, PhZ, joined. Conditions: none. -/
import Derived.Test.YtdpamjikmlbmhaaGreatDoorPF
namespace Go.PM
open Go.Lib
variable {cf:CallF} {st:St} {mk:PV→St→Fr×St} {A:Fr×St→Prop} {s:Nat}
theorem put_at:∀ (vs as cs bs:List PV),vs.length=cs.length→putCells (as++(cs++bs)) as.length vs=as++(vs++bs)
 | [],as,[],bs,_=>rfl
 |v::vs,as,c::cs,bs,h=>by
  rw[putCells_cons]
  have:(as++(c::cs++bs)).set as.length v=(as++[v])++(cs++bs):=by simp
  rw[this]
  have h2:=put_at vs (as++[v]) cs bs (by simpa using h)
  rw[List.length_append]at h2
  simp only[List.length_cons,List.length_nil,Nat.zero_add]at h2
  rw[h2]
  simp
def toBody(e sz by_ g:Nat)(zs:List PV):CC:=
 .seq (.reg [⟨none,(some 2),.mv (.k (.list 0 [] .nil))⟩] [])
 (.seq (.reg [⟨none,(some 5),.mv (.sl 0)⟩,
  ⟨none,(some 6),.len (.sl 5)⟩,
  ⟨none,(some 7),.mks e sz by_ zs (.sl 6) (.sl 6)⟩,
  ⟨none,(some 3),.mv (.sl 7)⟩] [])
 (.seq (.seq (.reg [⟨none,(some 4),.mv (.k (.int .i64 0))⟩] [])
 (.block 0 (.loop (.seq (.seq (.reg [⟨none,(some 8),.mv (.sl 4)⟩,
   ⟨none,(some 9),.mv (.sl 0)⟩,
   ⟨none,(some 10),.len (.sl 9)⟩,
   ⟨none,(some 11),.bin .lss (.sl 8) (.sl 10)⟩] [])
  (.cond (.sl 11) (.skip) (.exit 0)))
  (.seq (.block 1 (.reg [⟨none,(some 14),.mv (.sl 3)⟩,
    ⟨none,(some 15),.mv (.sl 4)⟩,
    ⟨none,(some 16),.mv (.sl 0)⟩,
    ⟨none,(some 17),.mv (.sl 4)⟩,
    ⟨none,(some 18),.iad sz (.sl 16) (.sl 17)⟩,
    ⟨none,(some 19),.load sz true (.sl 18)⟩,
    ⟨none,(some 20),.call g [(.sl 19)] []⟩,
    ⟨none,(some 21),.iad sz (.sl 14) (.sl 15)⟩,
    ⟨none,none,.store sz (.sl 21) (.sl 20)⟩] []))
  (.reg [⟨none,(some 12),.mv (.sl 4)⟩,
   ⟨none,(some 13),.bin .add (.sl 12) (.k (.int .i64 1))⟩,
   ⟨none,(some 4),.mv (.sl 13)⟩] []))))))
 (.seq (.reg [⟨none,(some 22),.mv (.sl 3)⟩,
  ⟨none,(some 2),.mv (.sl 22)⟩] [])
 (.ret))))
theorem tx_plains:∀ l:List (List UInt8),plainVs (l.map S)
 | []=>plainVs_nil
 |x::l=>plainVs_cons (plainV_str _) (tx_plains l)
theorem rep_succ(m:Nat)(zs:List PV):(List.replicate (m+1) zs).flatten=zs++(List.replicate m zs).flatten:=by simp[List.replicate_succ]
set_option maxHeartbeats 1000000 in
theorem c_toL(K:Env cf){f e sz by_ g:Nat}{zs:List PV}{F:CFn}(hT:T f=some F)(hF:F.body=toBody e sz by_ g zs∧F.res=[.tmp 2]∧F.own=true∧F.nk=0∧1≤F.nt)(hz:zs.length=sz)(hsz:0<sz)(hby:by_≤1000){α:Type}(enc:α→List PV)(hm:∀ a,(enc a).length=sz)(hp:∀ a,plainVs (enc a))(l:List α)(hl:l.length≤2000000)
  (he:∀ a∈l,∀ st,∃ r ns,callP cf g [.agg (enc a)] [] st=some (r,st.more ns)∧Fresh st.nx ns r∧strip r= .agg (enc a)):
  ∃ r ns,callP cf f [.list l.length (l.flatMap enc) .no] [] st=some (r,st.more ns)∧Fresh st.nx ns r∧strip r= .list l.length (l.flatMap enc) .no:=by
 obtain⟨h1,h2,h3,h5,h4⟩:=hF
 refine c_valR K.tab (F:=F) (t:=2) hT h2 h3 h5 (by simpa using h4) (by simp[plainV_list (flat_plain enc hp l)]) (l.length+1) ?_
 have hlen:=flat_len enc sz hm l
 have hby2:=Nat.mul_le_mul hby hl
 have hmks:=fun s st=> @mksP_ok e sz by_ s zs (l.length:Int) st (by omega) (by simp only[Int.toNat_natCast];omega) (by omega) hz hsz
 rw[h1,toBody]
 simp (disch:=omega)only[↓pa,pb,↓reduceIte,reduceCtorEq,pmj,hmks]
 refine Wp_rounds (fun k fr st=>∃ (i:Nat) (cs:List PV),k=l.length-i∧i≤l.length∧fr 0= .list l.length (l.flatMap enc) .no∧fr 3= .osl e sz 7 l.length∧fr 4=I i∧st.objs 7=some (cs++(List.replicate (l.length-i) zs).flatten)∧cs.length=i*sz∧strips cs=(l.take i).flatMap enc∧nps cs=true∧solids cs=true∧TokOK st (tokss cs)∧st.fl=0) l.length (by omega)
  ⟨0,[],by simp,by omega,by simp (disch:=omega)only[↓pa,pb,↓reduceIte,reduceCtorEq],by simp (disch:=omega)only[↓pa,↓reduceIte,Nat.reduceEqDiff]<;>simp,by simp (disch:=omega)only[↓pa,↓reduceIte]<;>rfl,by simp (disch:=omega)only[pb,pmy,↓reduceIte]<;>simp,by simp,rfl,rfl,rfl,TokOK_setO TokOK_nil,rfl⟩ ?_
 rintro k fr st ⟨i,cs,rfl,hi,f0,f3,f4,o7,hc1,hc2,hc3,hc4,hT2,hfl⟩
 simp (disch:=omega)only[↓pa,pb,natP,↓reduceIte,Nat.reduceEqDiff,reduceCtorEq,f0,f4]
 refine Cnd_intro (fun h=>?_) (fun h=>?_)
 ·have hlt:i<l.length:=h
  have hrep:l.length-i=(l.length- (i+1))+1:=by omega
  rw[hrep,rep_succ]at o7
  simp (disch:=omega)only[↓pa,pb,↓reduceIte,Nat.reduceEqDiff,reduceCtorEq,f0,f3,f4,h,partP_a hm hlt]
  refine RunsTo_OE (he _ (List.getElem_mem hlt) _) (fun r ns hFr hr=>?_)
  obtain⟨ds,rfl,hds⟩:=strip_agg_inv hr
  have hdl:ds.length=sz:=by rw[←hm l[i],←hds,strips_map,List.length_map]
  have hw:putCells (cs++(zs++(List.replicate (l.length- (i+1)) zs).flatten)) (i*sz) ds=(cs++ds)++(List.replicate (l.length- (i+1)) zs).flatten:=by
   rw[←hc1,put_at ds cs zs _ (by rw[hdl,hz]),List.append_assoc]
  have hle:(i*sz+sz≤(cs++(zs++(List.replicate (l.length- (i+1)) zs).flatten)).length)=True:=by
   refine eq_true ?_
   rw[List.length_append,List.length_append,hc1,hz];omega
  simp (disch:=omega)only[↓pa,pb,pmy,natP,↓reduceIte,Nat.reduceEqDiff,reduceCtorEq,f0,f3,f4,pmj,o7,hdl,hw,hle]
  refine⟨l.length- (i+1),by omega,i+1,cs++ds,rfl,by omega,rfl,rfl,?_,?_,?_,?_,?_,by rw[St.more_fl];exact hfl⟩
  ·rw[List.length_append,hc1,hdl,Nat.add_mul,Nat.one_mul]
  ·rw[strips_append,hc2,hds,List.take_succ_eq_append_getElem hlt,List.flatMap_append];simp
  ·exact nps_append hc3 hFr.np
  ·have:=hFr.so
   simp only[solid]at this
   rw[solids_append,hc4,this];rfl
  ·rw[tokss_append]
   have:=hFr.tk
   simp only[toks]at this
   rw[this]
   exact TokOK_setO (TokOK_more hT2 (by omega) ns)
 ·have hie:i=l.length:=by omega
  subst hie
  simp (disch:=omega)only[↓pa,pb,↓reduceIte,Nat.reduceEqDiff,f3,h]
  rw[Nat.sub_self]at o7
  refine⟨endOk_ret.2 trivial,e,sz,7,l.length,cs,by simp (disch:=omega)only[↓pa,↓reduceIte],by rw[o7];simp,hc1,by omega,hc3,hc4,hT2,hfl,?_⟩
  rw[hc2,List.take_of_length_le (Nat.le_refl _)]
set_option maxHeartbeats 1000000 in
theorem c_toT(K:Env cf)(l:List (List UInt8))(hl:l.length≤2000000):∃ r ns,callP cf 122 [TX l] [] st=some (r,st.more ns)∧Fresh st.nx ns r∧strip r=TX l:=by
 refine c_valR K.tab (F:=F122) (t:=2) rfl rfl rfl rfl (lb rfl) (by simp[plainV_tx]) (l.length+1) ?_
 have hlen:(l.map S).length=l.length:=by simp
 have hmks:=fun s st=> @mksP_ok 9 1 16 s [(PV.str ⟨#[]⟩)] (l.length:Int) st (by omega) (by simp only[Int.toNat_natCast];omega) (by omega) rfl (by decide)
 unfold F122 qr qd qm qi qc qb qk ql qo qe qN
 simp (disch:=omega)only[↓pa,pb,↓reduceIte,reduceCtorEq,pmj,hmks]
 refine Wp_rounds (fun k fr st=>∃ (i:Nat),k=l.length-i∧i≤l.length∧fr 0=TX l∧fr 3= .osl 9 1 7 l.length∧fr 4=I i∧st.objs 7=some ((l.take i).map S++List.replicate (l.length-i) (.str ⟨#[]⟩))∧TokOK st []∧st.fl=0) l.length (by omega)
  ⟨0,by simp,by omega,by simp (disch:=omega)only[↓pa,pb,↓reduceIte,reduceCtorEq],by simp (disch:=omega)only[↓pa,↓reduceIte,Nat.reduceEqDiff]<;>simp,by simp (disch:=omega)only[↓pa,↓reduceIte]<;>rfl,by simp (disch:=omega)only[pb,↓reduceIte]<;>simp,TokOK_setO TokOK_nil,rfl⟩ ?_
 rintro k fr st ⟨i,rfl,hi,f0,f3,f4,o7,hT2,hfl⟩
 simp (disch:=omega)only[↓pa,pb,natP,↓reduceIte,Nat.reduceEqDiff,reduceCtorEq,f0,f4]
 refine Cnd_intro (fun h=>?_) (fun h=>?_)
 ·have hlt:i<l.length:=h
  have ht:tAt l i=l[i]:=by simp[tAt,hlt]
  have hrep:l.length-i=(l.length- (i+1))+1:=by omega
  rw[hrep,List.replicate_succ]at o7
  have hc1:((l.take i).map S).length=i:=by simp;omega
  have hw:putCells ((l.take i).map S++(PV.str ⟨#[]⟩)::List.replicate (l.length- (i+1)) (.str ⟨#[]⟩)) i [S l[i]]=(l.take (i+1)).map S++List.replicate (l.length- (i+1)) (.str ⟨#[]⟩):=by
   have:=put_at [S l[i]] ((l.take i).map S) [(PV.str ⟨#[]⟩)] (List.replicate (l.length- (i+1)) (.str ⟨#[]⟩)) rfl
   rw[hc1]at this
   simp only[List.cons_append,List.nil_append]at this
   rw[this,List.take_succ_eq_append_getElem hlt,List.map_append]
   simp only[List.map_cons,List.map_nil,List.append_assoc,List.cons_append,List.nil_append]
  have hle:(i+1≤((l.take i).map S++(PV.str ⟨#[]⟩)::List.replicate (l.length- (i+1)) (.str ⟨#[]⟩)).length)=True:=by
   refine eq_true ?_
   rw[List.length_append,hc1,List.length_cons];omega
  simp (disch:=omega)only[↓pa,pb,pmy,natP,↓reduceIte,Nat.reduceEqDiff,Nat.reduceAdd,reduceCtorEq,f0,f3,f4,h,Nat.mul_one,partP_tx hlt,ht,o7,hw,hle]
  exact⟨l.length- (i+1),by omega,i+1,rfl,by omega,rfl,rfl,TokOK_setO hT2,hfl⟩
 ·have hie:i=l.length:=by omega
  subst hie
  simp (disch:=omega)only[↓pa,pb,↓reduceIte,Nat.reduceEqDiff,f3,h]
  rw[Nat.sub_self]at o7
  obtain⟨s1,s2⟩:=flat_so (cs:=l.map S) (by simp[flatP,S])
  have hpl:=tx_plains l
  refine⟨endOk_ret.2 trivial,9,1,7,l.length,l.map S,by simp (disch:=omega)only[↓pa,↓reduceIte],by rw[o7];simp,by simp,by omega,hpl.1,s1,by rw[s2];exact hT2,hfl,?_⟩
  rw[hpl.2.1]
theorem c_toFd(K:Env cf)(x:Fd):∃ r ns,callP cf 170 [.agg (fc x)] [] st=some (r,st.more ns)∧Fresh st.nx ns r∧strip r= .agg (fc x):=by
 refine c_valO K.tab (F:=F170) (Q:=fun r=>r= .agg (fc x)) rfl rfl rfl (lb rfl) (by have:=(fs_plain [x]);simp at this;simp[plainV_agg this]) 1 ?_
 unfold F170 qr ql qf qo qe
 simp (disch:=omega)only[↓pa,pb,pmy,↓reduceIte,Nat.reduceEqDiff,Nat.reduceAdd,Nat.reduceLeDiff,fc,pmj]
 exact⟨rfl,rfl,rfl,TokOK_setO (TokOK_setO (TokOK_setO (TokOK_setO (TokOK_setO (TokOK_setO TokOK_nil))))),rfl⟩
theorem c_toFs(K:Env cf)(l:List Fd)(hl:l.length≤2000000):∃ r ns,callP cf 123 [FX l] [] st=some (r,st.more ns)∧Fresh st.nx ns r∧strip r=FX l:=
 c_toL K (f:=123) (F:=F123) rfl ⟨rfl,rfl,rfl,rfl,(lb rfl)⟩ rfl (by decide) (by decide) fc (fun _=>rfl) (fun a=>by have:=fs_plain [a];simpa using this) l hl fun a _ st=>c_toFd K a
theorem c_toN(K:Env cf)(x:Nd)(h1:x.labels.length≤2000000)(h2:x.fields.length≤2000000):∃ r ns,callP cf 86 [.agg (nc x)] [] st=some (r,st.more ns)∧Fresh st.nx ns r∧strip r= .agg (nc x):=by
 refine c_valO K.tab (F:=F86) (Q:=fun r=>r= .agg (nc x)) rfl rfl rfl (lb rfl) (by simp[plainV_nd]) 1 ?_
 unfold F86 qr ql qf qo qe qN
 simp (disch:=omega)only[↓pa,pb,pmy,↓reduceIte,Nat.reduceEqDiff,Nat.reduceAdd,Nat.reduceLeDiff,nc]
 refine RunsTo_OE (c_toT K x.labels h1) (fun r ns hF hr=>?_)
 obtain⟨ds,u,rfl,hd,-⟩:=strip_list_inv hr
 simp (disch:=omega)only[↓pa,pb,pmy,↓reduceIte,Nat.reduceEqDiff,Nat.reduceAdd,Nat.reduceLeDiff,pmj]
 refine RunsTo_OE (c_toFs K x.fields h2) (fun r2 ns2 hF2 hr2=>?_)
 obtain⟨ds2,u2,rfl,hd2,-⟩:=strip_list_inv hr2
 simp (disch:=omega)only[↓pa,pb,pmy,↓reduceIte,Nat.reduceEqDiff,Nat.reduceAdd,Nat.reduceLeDiff,pmj]
 refine⟨rfl,?_,?_,?_,?_⟩
 ·simp only[pmz,Bool.true_and,Bool.and_true];have a:=hF.np;have b:=hF2.np;simp only[pmz]at a b;rw[a,b];rfl
 ·have a:=hF.so;have b:=hF2.so;simp only[solid,solids,Bool.true_and,Bool.and_true]at a b ⊢;rw[a,b];rfl
 ·have a:=hF.tk
  have b:=hF2.tk
  simp only[toks,tokss,List.nil_append,List.append_nil]at a b ⊢
  rw[a,b]
  exact TokOK_setO (TokOK_setO (TokOK_more (TokOK_setO (TokOK_more (TokOK_setO (TokOK_setO (TokOK_setO (TokOK_setO TokOK_nil)))) (Nat.zero_le _) ns)) (by simp only[setO,St.more_fl,stB];exact Nat.zero_le _) ns2))
 ·simp only[pmz,hd,hd2]
theorem c_toE(K:Env cf)(x:Eg)(h2:x.fields.length≤2000000):∃ r ns,callP cf 87 [.agg (ec x)] [] st=some (r,st.more ns)∧Fresh st.nx ns r∧strip r= .agg (ec x):=by
 refine c_valO K.tab (F:=F87) (Q:=fun r=>r= .agg (ec x)) rfl rfl rfl (lb rfl) (by simp[plainV_eg]) 1 ?_
 unfold F87 qr ql qf qo qe qN
 simp (disch:=omega)only[↓pa,pb,pmy,↓reduceIte,Nat.reduceEqDiff,Nat.reduceAdd,Nat.reduceLeDiff,ec]
 refine RunsTo_OE (c_toFs K x.fields h2) (fun r2 ns2 hF2 hr2=>?_)
 obtain⟨ds2,u2,rfl,hd2,-⟩:=strip_list_inv hr2
 simp (disch:=omega)only[↓pa,pb,pmy,↓reduceIte,Nat.reduceEqDiff,Nat.reduceAdd,Nat.reduceLeDiff,pmj]
 refine⟨rfl,?_,?_,?_,?_⟩
 ·simp only[pmz,Bool.true_and,Bool.and_true];have b:=hF2.np;simp only[pmz]at b;exact b
 ·have b:=hF2.so;simp only[solid,solids,Bool.true_and,Bool.and_true]at b ⊢;exact b
 ·have b:=hF2.tk
  simp only[toks,tokss,List.nil_append,List.append_nil]at b ⊢
  rw[b]
  refine TokOK_setO (TokOK_setO (TokOK_more (st:=setO _ _ _) (l:=[]) ?_ (Nat.zero_le _) ns2))
  exact TokOK_nil
 ·simp only[pmz,hd2]
theorem c_toG(K:Env cf)(g:Gph)(h:Fits g):∃ r ns,callP cf 10 [.agg (gc g)] [] st=some (r,st.more ns)∧Fresh st.nx ns r∧strip r= .agg (gc g):=by
 refine c_valO K.tab (F:=F10) (Q:=fun r=>r= .agg (gc g)) rfl rfl rfl (lb rfl) (by simp[plainV_gr]) 1 ?_
 unfold F10 qr ql qf qo qe qN
 simp (disch:=omega)only[↓pa,pb,pmy,↓reduceIte,Nat.reduceEqDiff,Nat.reduceAdd,gc]
 refine RunsTo_OE (c_toL K (f:=44) (F:=F44) rfl ⟨rfl,rfl,rfl,rfl,(lb rfl)⟩ rfl (by decide) (by decide) nc nc_len nc_plain g.nodes h.ns fun a ha st=>c_toN K a (h.nf a ha).2 (h.nf a ha).1) (fun r ns hF hr=>?_)
 obtain⟨ds,u,rfl,hd,-⟩:=strip_list_inv hr
 simp (disch:=omega)only[↓pa,pb,pmy,↓reduceIte,Nat.reduceEqDiff,Nat.reduceAdd,Nat.reduceLeDiff,pmj]
 refine RunsTo_OE (c_toL K (f:=45) (F:=F45) rfl ⟨rfl,rfl,rfl,rfl,(lb rfl)⟩ rfl (by decide) (by decide) ec ec_len ec_plain g.edges h.es fun a ha st=>c_toE K a (h.ef a ha)) (fun r2 ns2 hF2 hr2=>?_)
 obtain⟨ds2,u2,rfl,hd2,-⟩:=strip_list_inv hr2
 simp (disch:=omega)only[↓pa,pb,pmy,↓reduceIte,Nat.reduceEqDiff,Nat.reduceAdd,Nat.reduceLeDiff,pmj]
 refine⟨rfl,?_,?_,?_,?_⟩
 ·simp only[pmz,Bool.and_true];have a:=hF.np;have b:=hF2.np;simp only[pmz]at a b;rw[a,b];rfl
 ·have a:=hF.so;have b:=hF2.so;simp only[solid,solids,Bool.and_true]at a b ⊢;rw[a,b];rfl
 ·have a:=hF.tk
  have b:=hF2.tk
  simp only[toks,tokss,List.append_nil]at a b ⊢
  rw[a,b]
  refine TokOK_setO (TokOK_setO (TokOK_more (TokOK_setO (TokOK_more (st:=setO _ _ _) (l:=[]) ?_ (Nat.zero_le _) ns)) (by simp only[setO,St.more_fl,stB];exact Nat.zero_le _) ns2))
  exact TokOK_nil
 ·simp only[pmz,hd,hd2]
theorem own_of{n:Nat}{c:PV}{pre post:List PV}{tk:Tok}(h:solid (.list n (pre++c::post) tk)=true):∃ k e,tk= .own k e:=by
 cases tk with
 |own k e=>exact⟨k,e,rfl⟩
 |_=>simp[solid]at h
theorem mkT_next(k i:Nat):mkT k (i+1)=mkT k i++[mt (k+i)]:=by
 unfold mkT
 rw[List.range_succ,List.map_append];rfl
theorem mkF_next(k i:Nat):mkF k (i+1)=mkF k i++[(mt (k+2*i),mt (k+2*i+1))]:=by
 unfold mkF
 rw[List.range_succ,List.map_append];rfl
set_option maxHeartbeats 1000000 in
theorem c_markT(K:Env cf)(k n:Nat)(hk:k+n≤1000000000000){cs:List PV}{tk:Tok}(hs:solid (.list n cs tk)=true)(hn:nps cs=true)(hl:cs.length=n)(hT:TokOK st (toks (.list n cs tk))):
  ∃ p ns,uP cf 57 [.list n cs tk,I k] st=some (I (k+n:Nat),p,mvS ((toks (.list n cs tk)).map (·.1)) ns st)∧Fresh st.nx ns p∧strip p= .list n ((mkT k n).map S) .no∧takes [.list n cs tk,I k] [0] st=(toks (.list n cs tk)).map (·.1):=by
 refine c_valU K.tab (f:=57) (F:=FB57) (t:=4) rfl rfl rfl hs hn hT (lb rfl) (n+1) (fun cs0 tk0 ns h1 h2 h3 h4 h5=>?_)
 have hcl:cs0.length=n:=by rw[h2,hl]
 clear hs hn hT
 unfold FB57 qr qd qm qi qb qk qo qe
 simp (disch:=omega)only[↓pa]
 refine Wp_rounds (fun q fr st=>∃ (i:Nat) (ds rs:List PV),q=n-i∧i≤n∧fr 0= .list n (ds++rs) tk0∧fr 1=I (k+i:Nat)∧fr 5=I i∧ds.length=i∧rs.length=n-i∧strips ds=(mkT k i).map S∧nps (ds++rs)=true∧solid (.list n (ds++rs) tk0)=true∧TokOK st ([]++toks (.list n (ds++rs) tk0)++[])∧st.fl=0) n (by omega)
  ⟨0,[],cs0,by simp,by omega,by simp (disch:=omega)only[↓pa,pmy,↓reduceIte,reduceCtorEq]<;>simp,by simp (disch:=omega)only[↓pa,↓reduceIte,Nat.reduceEqDiff]<;>simp,by simp (disch:=omega)only[↓pa,↓reduceIte]<;>rfl,rfl,by omega,rfl,by simpa using h3,by simpa using h4,by simpa using h5,rfl⟩ ?_
 rintro q fr st ⟨i,ds,rs,rfl,hi,f0,f1,f5,hd1,hr1,hd2,hnp,hso,hTk,hfl⟩
 simp (disch:=omega)only[↓pa,pb,natP,↓reduceIte,Nat.reduceEqDiff,reduceCtorEq,f0,f5]
 refine Cnd_intro (fun h=>?_) (fun h=>?_)
 ·have hlt:i<n:=by omega
  obtain⟨c,rs',rfl⟩:∃ c rs',rs=c::rs':=by
   cases rs with
   |nil=>simp at hr1;omega
   |cons c rs'=>exact⟨c,rs',rfl⟩
  obtain⟨j,e,rfl⟩:=own_of hso
  have ht:=fun st=>c_markText (st:=st) K (k+i) (by omega)
  have hlen:(ds++c::rs').length=n:=by rw[List.length_append,hd1];simp at hr1 ⊢;omega
  simp (disch:=omega)only[↓pa,pb,pmy,↓reduceIte,Nat.reduceEqDiff,reduceCtorEq,f0,f1,f5,h,ht,pmu,Nat.mul_one]
  refine RunsTo_poke (X:=[]) (Y:=[]) hd1.symm (by omega) hso hnp hTk ⟨rfl,rfl,rfl⟩ (fun hso' hnp' hTk'=>?_)
  have hbk:=fun cs' E'=> @bk_poke n j e E' i ds rs' cs' c (S (mt (k+i))) hd1.symm
  simp (disch:=omega)only[↓pa,pb,natP,↓reduceIte,Nat.reduceEqDiff,reduceCtorEq,f0,f1,f5,pmu,hbk]
  have hcat:ds++[S (mt (k+i))]++rs'=ds++S (mt (k+i))::rs':=by simp
  refine⟨n- (i+1),by omega,i+1,ds++[S (mt (k+i))],rs',rfl,by omega,by rw[hcat],by congr 1,rfl,by simp[hd1],by simp at hr1;omega,?_,by rw[hcat];exact hnp',by rw[hcat];exact hso',by rw[hcat];exact hTk',hfl⟩
  rw[strips_append,hd2,mkT_next,List.map_append];rfl
 ·have hie:i=n:=by omega
  subst hie
  have hrn:rs=[]:=List.eq_nil_of_length_eq_zero (by omega)
  subst hrn
  rw[List.append_nil]at hnp hso hTk f0
  simp (disch:=omega)only[↓pa,pb,↓reduceIte,Nat.reduceEqDiff,reduceCtorEq,f0,f1,h,pmu]
  refine⟨_,rfl,rfl,hnp,hso,by simpa using hTk,rfl,?_⟩
  rw[strip_list,hd2]
set_option maxHeartbeats 2000000 in
theorem c_markF(K:Env cf)(k n:Nat)(hk:k+2*n≤1000000000000){cs:List PV}{tk:Tok}(hs:solid (.list n cs tk)=true)(hn:nps cs=true)(hl:cs.length=n*2)(hT:TokOK st (toks (.list n cs tk))):
  ∃ p ns,uP cf 58 [.list n cs tk,I k] st=some (I (k+2*n:Nat),p,mvS ((toks (.list n cs tk)).map (·.1)) ns st)∧Fresh st.nx ns p∧strip p= .list n ((mkF k n).flatMap fc) .no∧takes [.list n cs tk,I k] [0] st=(toks (.list n cs tk)).map (·.1):=by
 refine c_valU K.tab (f:=58) (F:=FB58) (t:=4) rfl rfl rfl hs hn hT (lb rfl) (n+1) (fun cs0 tk0 ns h1 h2 h3 h4 h5=>?_)
 have hcl:cs0.length=n*2:=by rw[h2,hl]
 clear hs hn hT
 unfold FB58 qr qd qm qi qb qk qf qo qe
 simp (disch:=omega)only[↓pa]
 refine Wp_rounds (fun q fr st=>∃ (i:Nat) (ds rs:List PV),q=n-i∧i≤n∧fr 0= .list n (ds++rs) tk0∧fr 1=I (k+2*i:Nat)∧fr 5=I i∧ds.length=i*2∧rs.length=(n-i) *2∧strips ds=(mkF k i).flatMap fc∧nps (ds++rs)=true∧solid (.list n (ds++rs) tk0)=true∧TokOK st ([]++toks (.list n (ds++rs) tk0)++[])∧st.fl=0) n (by omega)
  ⟨0,[],cs0,by simp,by omega,by simp (disch:=omega)only[↓pa,pmy,↓reduceIte,reduceCtorEq]<;>simp,by simp (disch:=omega)only[↓pa,↓reduceIte,Nat.reduceEqDiff,Nat.reduceMul]<;>simp,by simp (disch:=omega)only[↓pa,↓reduceIte]<;>rfl,rfl,by omega,rfl,by simpa using h3,by simpa using h4,by simpa using h5,rfl⟩ ?_
 rintro q fr st ⟨i,ds,rs,rfl,hi,f0,f1,f5,hd1,hr1,hd2,hnp,hso,hTk,hfl⟩
 simp (disch:=omega)only[↓pa,pb,natP,↓reduceIte,Nat.reduceEqDiff,reduceCtorEq,f0,f5]
 refine Cnd_intro (fun h=>?_) (fun h=>?_)
 ·have hlt:i<n:=by omega
  obtain⟨c,d,rs',rfl⟩:∃ c d rs',rs=c::d::rs':=by
   match rs,hr1 with
   | [],h=>simp at h;omega
   | [c],h=>simp at h;omega
   |c::d::rs',_=>exact⟨c,d,rs',rfl⟩
  obtain⟨j,e,rfl⟩:=own_of hso
  have ht:=fun st=>c_markText (st:=st) K (k+2*i) (by omega)
  have ht2:=fun st=>c_markText (st:=st) K (k+2*i+1) (by omega)
  have hr2:rs'.length+2=(n-i) *2:=by simpa using hr1
  have hlen:(ds++c::d::rs').length=n*2:=by rw[List.length_append,hd1];simp only[List.length_cons];omega
  simp (disch:=omega)only[↓pa,pb,pmy,↓reduceIte,Nat.reduceEqDiff,reduceCtorEq,f0,f1,f5,h,ht,pmu,Nat.add_zero]
  refine RunsTo_poke (X:=[]) (Y:=[]) hd1.symm (by omega) hso hnp hTk ⟨rfl,rfl,rfl⟩ (fun hso' hnp' hTk'=>?_)
  have hbk:=fun cs' E'=> @bk_poke n j e E' (i*2) ds (d::rs') cs' c (S (mt (k+2*i))) hd1.symm
  have hcat1:ds++S (mt (k+2*i))::d::rs'=(ds++[S (mt (k+2*i))])++d::rs':=by simp
  rw[hcat1]at hbk hso' hnp' hTk'
  have hlen2:(ds++[S (mt (k+2*i))]++d::rs').length=n*2:=by rw[List.length_append,List.length_append,hd1];simp only[List.length_cons,List.length_nil];omega
  have hoff:i*2+1=(ds++[S (mt (k+2*i))]).length:=by rw[List.length_append,hd1];rfl
  simp (disch:=omega)only[↓pa,pb,pmy,natP,↓reduceIte,Nat.reduceEqDiff,reduceCtorEq,f0,f1,f5,pmu,hbk,ht2]
  refine RunsTo_poke (X:=[]) (Y:=[]) hoff (by omega) hso' hnp' hTk' ⟨rfl,rfl,rfl⟩ (fun hso2 hnp2 hTk2=>?_)
  have hbk2:=fun cs' E'=> @bk_poke n j e E' (i*2+1) (ds++[S (mt (k+2*i))]) rs' cs' d (S (mt (k+2*i+1))) hoff
  simp (disch:=omega)only[↓pa,pb,natP,↓reduceIte,Nat.reduceEqDiff,reduceCtorEq,f0,f5,pmu,hbk,hbk2]
  have hcat:ds++[S (mt (k+2*i)),S (mt (k+2*i+1))]++rs'=ds++[S (mt (k+2*i))]++S (mt (k+2*i+1))::rs':=by simp
  refine⟨n- (i+1),by omega,i+1,ds++[S (mt (k+2*i)),S (mt (k+2*i+1))],rs',rfl,by omega,by rw[hcat],by congr 1,rfl,by simp only[List.length_append,hd1,List.length_cons,List.length_nil];omega,by omega,?_,by rw[hcat];exact hnp2,by rw[hcat];exact hso2,by rw[hcat];exact hTk2,hfl⟩
  rw[strips_append,hd2,mkF_next,List.flatMap_append];rfl
 ·have hie:i=n:=by omega
  subst hie
  have hrn:rs=[]:=List.eq_nil_of_length_eq_zero (by omega)
  subst hrn
  rw[List.append_nil]at hnp hso hTk f0
  simp (disch:=omega)only[↓pa,pb,↓reduceIte,Nat.reduceEqDiff,reduceCtorEq,f0,f1,h,pmu]
  refine⟨_,rfl,rfl,hnp,hso,by simpa using hTk,rfl,?_⟩
  rw[strip_list,hd2]
theorem mkN_snoc:∀ (l:List (Nat×Nat)) (a b k:Nat),mkN (l++[(a,b)]) k=mkN l k++[⟨endN l k,mkT (endN l k+1) a,mkF (endN l k+1+a) b⟩]∧endN (l++[(a,b)]) k=endN l k+1+a+2*b
 | [],a,b,k=>⟨rfl,rfl⟩
 |(x,y)::l,a,b,k=>by
  obtain⟨h1,h2⟩:=mkN_snoc l a b (k+1+x+2*y)
  exact⟨by simp only[List.cons_append,mkN,endN,h1],by simp only[List.cons_append,endN,h2]⟩
theorem mkE_snoc:∀ (l:List Nat) (b k:Nat),mkE (l++[b]) k=mkE l k++[⟨endE l k,mt (endE l k+1),(endE l k+2:Nat),(endE l k+3:Nat),mkF (endE l k+4) b⟩]∧endE (l++[b]) k=endE l k+4+2*b
 | [],b,k=>⟨rfl,rfl⟩
 |y::l,b,k=>by
  obtain⟨h1,h2⟩:=mkE_snoc l b (k+4+2*y)
  exact⟨by simp only[List.cons_append,mkE,endE,h1],by simp only[List.cons_append,endE,h2]⟩
theorem endN_app:∀ (l m:List (Nat×Nat)) (k:Nat),endN (l++m) k=endN m (endN l k)
 | [],_,_=>rfl
 |(x,y)::l,m,k=>by rw[List.cons_append,endN,endN,endN_app l m]
theorem endE_app:∀ (l m:List Nat) (k:Nat),endE (l++m) k=endE m (endE l k)
 | [],_,_=>rfl
 |y::l,m,k=>by rw[List.cons_append,endE,endE,endE_app l m]
theorem endN_len:∀ (l:List (Nat×Nat)) (k:Nat),k+l.length≤endN l k
 | [],_=>Nat.le_refl _
 |(a,b)::l,k=>by have:=endN_len l (k+1+a+2*b);rw[endN,List.length_cons];omega
theorem endE_len:∀ (l:List Nat) (k:Nat),k+l.length≤endE l k
 | [],_=>Nat.le_refl _
 |b::l,k=>by have:=endE_len l (k+4+2*b);rw[endE,List.length_cons];omega
def shp(x:Nd):Nat×Nat:=(x.labels.length,x.fields.length)
def she(x:Eg):Nat:=x.fields.length
theorem partP_at{pre post:List PV}{c:PV}{k:Nat}(h:pre.length=k):partP (pre++c::post) k 1 false=some c:=by
 have:= @partP_right pre (c::post) 0 1 false
 rw[Nat.add_zero,h]at this
 rw[this,partP_zero]
theorem TokOK_in{N K E:Nat}{pre post:List PV}{c:PV}{X Y:List (Nat×Nat)}(h:TokOK st (X++toks (.list N (pre++c::post) (.own K E))++Y)):TokOK st (toks c):=
 TokOK_of' h (fun k=>by simp only[toks,tokss_append,tokss,ck_append];omega) (fun q hq=>by simp only[toks,tokss_append,tokss,List.mem_append];simp[hq])
theorem solid_in{N:Nat}{pre post:List PV}{c:PV}{tk:Tok}(h:solid (.list N (pre++c::post) tk)=true):solid c=true:=by
 simp only[solid,solids_append,solids,Bool.and_eq_true]at h
 exact h.2.2.1
theorem np_in{pre post:List PV}{c:PV}(h:nps (pre++c::post)=true):np c=true:=nps_mem h (by simp)
set_option maxHeartbeats 4000000 in
theorem c_markN(K:Env cf)(k:Nat)(l:List Nd)(hk:endN (l.map shp) k≤1000000000000){cs:List PV}{tk:Tok}(hs:solid (.list l.length cs tk)=true)(hL:Like nc 3 l cs)(hT:TokOK st (toks (.list l.length cs tk))):
  ∃ p ns,uP cf 50 [.list l.length cs tk,I k] st=some (I (endN (l.map shp) k:Nat),p,mvS ((toks (.list l.length cs tk)).map (·.1)) ns st)∧Fresh st.nx ns p∧strip p= .list l.length ((mkN (l.map shp) k).flatMap nc) .no∧takes [.list l.length cs tk,I k] [0] st=(toks (.list l.length cs tk)).map (·.1):=by
 refine c_valU K.tab (f:=50) (F:=FB50) (t:=4) rfl rfl rfl hs hL.np hT (lb rfl) (l.length+1) (fun cs0 tk0 ns h1 h2 h3 h4 h5=>?_)
 have hcl:cs0.length=l.length*3:=by rw[h2,hL.len]
 have hst:strips cs0=l.flatMap nc:=by rw[h1,hL.st]
 have hN:l.length≤1000000000000:=by have:=endN_len (l.map shp) k;rw[List.length_map]at this;omega
 clear hs hL hT h1 h2
 unfold FB50 qr qd qm qi qb qk ql qf qo qe
 simp (disch:=omega)only[↓pa]
 refine Wp_rounds (fun q fr st=>∃ (i:Nat) (ds rs:List PV),q=l.length-i∧i≤l.length∧fr 0= .list l.length (ds++rs) tk0∧fr 1=I (endN ((l.take i).map shp) k:Nat)∧fr 5=I i∧ds.length=i*3∧strips ds=(mkN ((l.take i).map shp) k).flatMap nc∧strips rs=(l.drop i).flatMap nc∧nps (ds++rs)=true∧solid (.list l.length (ds++rs) tk0)=true∧TokOK st ([]++toks (.list l.length (ds++rs) tk0)++[])∧st.fl=0) l.length (by omega)
  ⟨0,[],cs0,by simp,by omega,by simp (disch:=omega)only[↓pa,pmy,↓reduceIte,reduceCtorEq]<;>simp,by simp (disch:=omega)only[↓pa,↓reduceIte,Nat.reduceEqDiff]<;>simp[endN],by simp (disch:=omega)only[↓pa,↓reduceIte]<;>rfl,rfl,rfl,hst,by simpa using h3,by simpa using h4,by simpa using h5,rfl⟩ ?_
 rintro q fr st ⟨i,ds,rs,rfl,hi,f0,f1,f5,hd1,hd2,hr2,hnp,hso,hTk,hfl⟩
 simp (disch:=omega)only[↓pa,pb,natP,↓reduceIte,Nat.reduceEqDiff,reduceCtorEq,f0,f5]
 refine Cnd_intro (fun h=>?_) (fun h=>?_)
 ·have hlt:i<l.length:=h
  rw[List.drop_eq_getElem_cons hlt,List.flatMap_cons]at hr2
  have hkk:endN ((l.take (i+1)).map shp) k=endN ((l.take i).map shp) k+1+l[i].labels.length+2*l[i].fields.length:=by
   rw[List.take_succ_eq_append_getElem hlt,List.map_append];exact(mkN_snoc _ _ _ _).2
  have hkm:mkN ((l.take (i+1)).map shp) k=mkN ((l.take i).map shp) k++[⟨endN ((l.take i).map shp) k,mkT (endN ((l.take i).map shp) k+1) l[i].labels.length,mkF (endN ((l.take i).map shp) k+1+l[i].labels.length) l[i].fields.length⟩]:=by
   rw[List.take_succ_eq_append_getElem hlt,List.map_append];exact(mkN_snoc _ _ _ _).1
  have hkl:endN ((l.take (i+1)).map shp) k≤endN (l.map shp) k:=by
   have e:l.map shp=(l.take (i+1)).map shp++(l.drop (i+1)).map shp:=by rw[←List.map_append,List.take_append_drop]
   rw[e,endN_app];exact endN_le _ _
  generalize hm:endN ((l.take i).map shp) k=m at*
  obtain⟨c,d,e,rs',rfl⟩:∃ c d e rs',rs=c::d::e::rs':=by
   have hlen:(strips rs).length=3+((l.drop (i+1)).flatMap nc).length:=by rw[hr2,List.length_append,nc_len]
   rw[strips_length]at hlen
   match rs,hlen with
   | [],h=>simp at h;omega
   | [c],h=>simp at h;omega
   | [c,d],h=>simp at h;omega
   |c::d::e::rs',_=>exact⟨c,d,e,rs',rfl⟩
  simp only[strips_map,List.map_cons,nc,List.cons_append,List.nil_append,List.cons.injEq]at hr2
  obtain⟨-,hr3,hr4,hr5⟩:=hr2
  rw[←strips_map]at hr5
  obtain⟨ca,ta,rfl,hca,-⟩:=strip_list_inv hr3
  obtain⟨cb,tb,rfl,hcb,-⟩:=strip_list_inv hr4
  have hrl:rs'.length+3=(l.length-i) *3:=by
   have:=congrArg List.length hr5
   rw[strips_length,flat_len nc 3 nc_len,List.length_drop]at this
   omega
  obtain⟨j,t0,rfl⟩:=own_of hso
  have hlen:∀ x y z:PV,(ds++x::y::z::rs').length=l.length*3:=fun x y z=>by rw[List.length_append,hd1];simp only[List.length_cons];omega
  have hl0:=hlen c (.list l[i].labels.length ca ta) (.list l[i].fields.length cb tb)
  have hl1:=hlen (I m) (.list l[i].labels.length ca ta) (.list l[i].fields.length cb tb)
  simp (disch:=omega)only[↓pa,pb,pmy,↓reduceIte,Nat.reduceEqDiff,reduceCtorEq,f0,f1,f5,h,pmu,Nat.add_zero]
  refine RunsTo_poke (X:=[]) (Y:=[]) hd1.symm (by omega) hso hnp hTk ⟨rfl,rfl,rfl⟩ (fun hso' hnp' hTk'=>?_)
  have hbk:=fun cs' E'=> @bk_poke l.length j t0 E' (i*3) ds (.list l[i].labels.length ca ta:: .list l[i].fields.length cb tb::rs') cs' c (I m) hd1.symm
  have hp1:partP (ds++I m:: .list l[i].labels.length ca ta:: .list l[i].fields.length cb tb::rs') (i*3+1) 1 false=some (.list l[i].labels.length ca ta):=by
   have:= @partP_at (ds++[I m]) (.list l[i].fields.length cb tb::rs') (.list l[i].labels.length ca ta) (i*3+1) (by rw[List.length_append,hd1];rfl)
   rw[List.append_assoc]at this
   exact this
  simp (disch:=omega)only[↓pa,pb,natP,↓reduceIte,Nat.reduceEqDiff,reduceCtorEq,f0,f1,f5,pmu,hbk,hp1]
  have hcat1:ds++I m:: .list l[i].labels.length ca ta:: .list l[i].fields.length cb tb::rs'=(ds++[I m])++ .list l[i].labels.length ca ta::(.list l[i].fields.length cb tb::rs'):=by simp
  rw[hcat1]at hso' hnp' hTk'
  have la:ca.length=l[i].labels.length:=by rw[←strips_length,hca,List.length_map]
  have lb:cb.length=l[i].fields.length*2:=by rw[←strips_length,hcb,fs_len]
  refine RunsTo_UIn (sz:=1) (X:=[]) (Y:=[]) (c_markT K (m+1) l[i].labels.length (by omega) (solid_in hso') (np_in hnp') la (TokOK_in hTk')) (by omega) (by decide) (fun e=>by rw[e];rfl) hso' hnp' hTk' hfl (fun p ns' q hu k1 k2 k3 k5 k6=>?_)
  rw[←hcat1]at k1
  have hl2:(ds++[I m]++q:: .list l[i].fields.length cb tb::rs').length=l.length*3:=by rw[List.length_append,List.length_append,hd1];simp only[List.length_cons,List.length_nil];omega
  have hcat2:ds++[I m]++q:: .list l[i].fields.length cb tb::rs'=(ds++[I m,q])++ .list l[i].fields.length cb tb::rs':=by simp
  have hp2:partP (ds++[I m]++q:: .list l[i].fields.length cb tb::rs') (i*3+2) 1 false=some (.list l[i].fields.length cb tb):=by
   rw[hcat2]
   exact partP_at (by rw[List.length_append,hd1];rfl)
  simp (disch:=omega)only[↓pa,pb,↓reduceIte,Nat.reduceEqDiff,reduceCtorEq,f0,f5,pmu,hbk,hu,k1,hp2]
  rw[hcat2]at k2 k3 k6
  refine RunsTo_UIn (sz:=2) (X:=[]) (Y:=[]) (c_markF K (m+1+l[i].labels.length) l[i].fields.length (by omega) (solid_in k2) (np_in k3) lb (TokOK_in k6)) lb (by decide) (fun e=>by rw[e];rfl) k2 k3 k6 hfl (fun p2 ns2 q2 hu2 j1 j2 j3 j5 j6=>?_)
  rw[←hcat2]at j1
  simp (disch:=omega)only[↓pa,pb,natP,↓reduceIte,Nat.reduceEqDiff,reduceCtorEq,f0,f5,pmu,hbk,k1,hu2,j1]
  have hcat:ds++[I m,q,q2]++rs'=ds++[I m,q]++q2::rs':=by simp
  refine⟨l.length- (i+1),by omega,i+1,ds++[I m,q,q2],rs',rfl,by omega,by rw[hcat],by rw[hkk],rfl,by simp only[List.length_append,hd1,List.length_cons,List.length_nil];omega,?_,hr5,by rw[hcat];exact j3,by rw[hcat];exact j2,by rw[hcat];exact j6,hfl⟩
  rw[strips_append,hd2,hkm,List.flatMap_append]
  simp only[pmz,k5,j5,nc,List.flatMap_cons,List.flatMap_nil,List.append_nil,TX,FX,mkT_len,mkF_len]
 ·have hie:l.take i=l:=List.take_of_length_le (by omega)
  have hdr:l.drop i=[]:=List.drop_of_length_le (by omega)
  rw[hdr]at hr2
  have hrn:rs=[]:=List.eq_nil_of_length_eq_zero (by rw[←strips_length,hr2];rfl)
  subst hrn
  rw[List.append_nil]at hnp hso hTk f0
  rw[hie]at hd2 f1
  simp (disch:=omega)only[↓pa,pb,↓reduceIte,Nat.reduceEqDiff,reduceCtorEq,f0,f1,h,pmu]
  refine⟨_,rfl,rfl,hnp,hso,by simpa using hTk,rfl,?_⟩
  rw[strip_list,hd2]
set_option maxHeartbeats 8000000 in
theorem c_markE(K:Env cf)(k:Nat)(l:List Eg)(hk:endE (l.map she) k≤1000000000000){cs:List PV}{tk:Tok}(hs:solid (.list l.length cs tk)=true)(hL:Like ec 5 l cs)(hT:TokOK st (toks (.list l.length cs tk))):
  ∃ p ns,uP cf 51 [.list l.length cs tk,I k] st=some (I (endE (l.map she) k:Nat),p,mvS ((toks (.list l.length cs tk)).map (·.1)) ns st)∧Fresh st.nx ns p∧strip p= .list l.length ((mkE (l.map she) k).flatMap ec) .no∧takes [.list l.length cs tk,I k] [0] st=(toks (.list l.length cs tk)).map (·.1):=by
 refine c_valU K.tab (f:=51) (F:=FB51) (t:=4) rfl rfl rfl hs hL.np hT (lb rfl) (l.length+1) (fun cs0 tk0 ns h1 h2 h3 h4 h5=>?_)
 have hcl:cs0.length=l.length*5:=by rw[h2,hL.len]
 have hst:strips cs0=l.flatMap ec:=by rw[h1,hL.st]
 have hN:l.length≤1000000000000:=by have:=endE_len (l.map she) k;rw[List.length_map]at this;omega
 clear hs hL hT h1 h2
 unfold FB51 qr qd qm qi qb qk ql qf qo qe
 simp (disch:=omega)only[↓pa]
 refine Wp_rounds (fun q fr st=>∃ (i:Nat) (ds rs:List PV),q=l.length-i∧i≤l.length∧fr 0= .list l.length (ds++rs) tk0∧fr 1=I (endE ((l.take i).map she) k:Nat)∧fr 5=I i∧ds.length=i*5∧strips ds=(mkE ((l.take i).map she) k).flatMap ec∧strips rs=(l.drop i).flatMap ec∧nps (ds++rs)=true∧solid (.list l.length (ds++rs) tk0)=true∧TokOK st ([]++toks (.list l.length (ds++rs) tk0)++[])∧st.fl=0) l.length (by omega)
  ⟨0,[],cs0,by simp,by omega,by simp (disch:=omega)only[↓pa,pmy,↓reduceIte,reduceCtorEq]<;>simp,by simp (disch:=omega)only[↓pa,↓reduceIte,Nat.reduceEqDiff]<;>simp[endE],by simp (disch:=omega)only[↓pa,↓reduceIte]<;>rfl,rfl,rfl,hst,by simpa using h3,by simpa using h4,by simpa using h5,rfl⟩ ?_
 rintro q fr st ⟨i,ds,rs,rfl,hi,f0,f1,f5,hd1,hd2,hr2,hnp,hso,hTk,hfl⟩
 simp (disch:=omega)only[↓pa,pb,natP,↓reduceIte,Nat.reduceEqDiff,reduceCtorEq,f0,f5]
 refine Cnd_intro (fun h=>?_) (fun h=>?_)
 ·have hlt:i<l.length:=h
  rw[List.drop_eq_getElem_cons hlt,List.flatMap_cons]at hr2
  have hkk:endE ((l.take (i+1)).map she) k=endE ((l.take i).map she) k+4+2*l[i].fields.length:=by
   rw[List.take_succ_eq_append_getElem hlt,List.map_append];exact(mkE_snoc _ _ _).2
  have hkm:mkE ((l.take (i+1)).map she) k=mkE ((l.take i).map she) k++[⟨endE ((l.take i).map she) k,mt (endE ((l.take i).map she) k+1),(endE ((l.take i).map she) k+2:Nat),(endE ((l.take i).map she) k+3:Nat),mkF (endE ((l.take i).map she) k+4) l[i].fields.length⟩]:=by
   rw[List.take_succ_eq_append_getElem hlt,List.map_append];exact(mkE_snoc _ _ _).1
  have hkl:endE ((l.take (i+1)).map she) k≤endE (l.map she) k:=by
   have e:l.map she=(l.take (i+1)).map she++(l.drop (i+1)).map she:=by rw[←List.map_append,List.take_append_drop]
   rw[e,endE_app];exact endE_le _ _
  generalize hm:endE ((l.take i).map she) k=m at*
  obtain⟨c0,c1,c2,c3,c4,rs',rfl⟩:∃ c0 c1 c2 c3 c4 rs',rs=c0::c1::c2::c3::c4::rs':=by
   have hlen:(strips rs).length=5+((l.drop (i+1)).flatMap ec).length:=by rw[hr2,List.length_append,ec_len]
   rw[strips_length]at hlen
   match rs,hlen with
   | [],h=>simp at h;omega
   | [_],h=>simp at h;omega
   | [_,_],h=>simp at h;omega
   | [_,_,_],h=>simp at h;omega
   | [_,_,_,_],h=>simp at h;omega
   |c0::c1::c2::c3::c4::rs',_=>exact⟨c0,c1,c2,c3,c4,rs',rfl⟩
  simp only[strips_map,List.map_cons,ec,List.cons_append,List.nil_append,List.cons.injEq]at hr2
  obtain⟨-,-,-,-,hr4,hr5⟩:=hr2
  rw[←strips_map]at hr5
  obtain⟨cb,tb,rfl,hcb,-⟩:=strip_list_inv hr4
  have hrl:rs'.length+5=(l.length-i) *5:=by
   have:=congrArg List.length hr5
   rw[strips_length,flat_len ec 5 ec_len,List.length_drop]at this
   omega
  obtain⟨j,t0,rfl⟩:=own_of hso
  have lb:cb.length=l[i].fields.length*2:=by rw[←strips_length,hcb,fs_len]
  have ht:=fun st=>c_markText (st:=st) K (m+1) (by omega)
  have len:∀ (a:List PV) (b:PV) (c:List PV),a.length+(c.length+1)=l.length*5→(a++b::c).length=l.length*5:=fun a b c h=>by rw[List.length_append,List.length_cons];exact h
  have l0:=len ds c0 (c1::c2::c3:: .list l[i].fields.length cb tb::rs') (by simp only[List.length_cons];omega)
  simp (disch:=omega)only[↓pa,pb,pmy,↓reduceIte,Nat.reduceEqDiff,reduceCtorEq,f0,f1,f5,h,pmu,Nat.add_zero]
  refine RunsTo_poke (X:=[]) (Y:=[]) hd1.symm (by omega) hso hnp hTk ⟨rfl,rfl,rfl⟩ (fun hso1 hnp1 hT1=>?_)
  have b1:=fun cs' E'=> @bk_poke l.length j t0 E' (i*5) ds (c1::c2::c3:: .list l[i].fields.length cb tb::rs') cs' c0 (I m) hd1.symm
  have e1:ds++I m::c1::c2::c3:: .list l[i].fields.length cb tb::rs'=(ds++[I m])++c1::c2::c3:: .list l[i].fields.length cb tb::rs':=by simp
  rw[e1]at b1 hso1 hnp1 hT1
  have o1:i*5+1=(ds++[I m]).length:=by rw[List.length_append,hd1];rfl
  have l1:=len (ds++[I m]) c1 (c2::c3:: .list l[i].fields.length cb tb::rs') (by simp only[List.length_append,List.length_cons,List.length_nil];omega)
  simp (disch:=omega)only[↓pa,pb,pmy,natP,↓reduceIte,Nat.reduceEqDiff,reduceCtorEq,f0,f1,f5,pmu,b1,ht]
  refine RunsTo_poke (X:=[]) (Y:=[]) o1 (by omega) hso1 hnp1 hT1 ⟨rfl,rfl,rfl⟩ (fun hso2 hnp2 hT2=>?_)
  have b2:=fun cs' E'=> @bk_poke l.length j t0 E' (i*5+1) (ds++[I m]) (c2::c3:: .list l[i].fields.length cb tb::rs') cs' c1 (S (mt (m+1))) o1
  have e2:ds++[I m]++S (mt (m+1))::c2::c3:: .list l[i].fields.length cb tb::rs'=(ds++[I m,S (mt (m+1))])++c2::c3:: .list l[i].fields.length cb tb::rs':=by simp
  rw[e2]at b2 hso2 hnp2 hT2
  have o2:i*5+2=(ds++[I m,S (mt (m+1))]).length:=by rw[List.length_append,hd1];rfl
  have l2:=len (ds++[I m,S (mt (m+1))]) c2 (c3:: .list l[i].fields.length cb tb::rs') (by simp only[List.length_append,List.length_cons,List.length_nil];omega)
  simp (disch:=omega)only[↓pa,pb,pmy,natP,↓reduceIte,Nat.reduceEqDiff,reduceCtorEq,f0,f5,pmu,b1,b2]
  refine RunsTo_poke (X:=[]) (Y:=[]) o2 (by omega) hso2 hnp2 hT2 ⟨rfl,rfl,rfl⟩ (fun hso3 hnp3 hT3=>?_)
  have b3:=fun cs' E'=> @bk_poke l.length j t0 E' (i*5+2) (ds++[I m,S (mt (m+1))]) (c3:: .list l[i].fields.length cb tb::rs') cs' c2 (I (m+2:Nat)) o2
  have e3:ds++[I m,S (mt (m+1))]++I (m+2:Nat)::c3:: .list l[i].fields.length cb tb::rs'=(ds++[I m,S (mt (m+1)),I (m+2:Nat)])++c3:: .list l[i].fields.length cb tb::rs':=by simp
  rw[e3]at b3 hso3 hnp3 hT3
  have o3:i*5+3=(ds++[I m,S (mt (m+1)),I (m+2:Nat)]).length:=by rw[List.length_append,hd1];rfl
  have l3:=len (ds++[I m,S (mt (m+1)),I (m+2:Nat)]) c3 (.list l[i].fields.length cb tb::rs') (by simp only[List.length_append,List.length_cons,List.length_nil];omega)
  simp (disch:=omega)only[↓pa,pb,pmy,natP,↓reduceIte,Nat.reduceEqDiff,reduceCtorEq,f0,f5,pmu,b1,b2,b3]
  refine RunsTo_poke (X:=[]) (Y:=[]) o3 (by omega) hso3 hnp3 hT3 ⟨rfl,rfl,rfl⟩ (fun hso4 hnp4 hT4=>?_)
  have b4:=fun cs' E'=> @bk_poke l.length j t0 E' (i*5+3) (ds++[I m,S (mt (m+1)),I (m+2:Nat)]) (.list l[i].fields.length cb tb::rs') cs' c3 (I (m+3:Nat)) o3
  have e4:ds++[I m,S (mt (m+1)),I (m+2:Nat)]++I (m+3:Nat):: .list l[i].fields.length cb tb::rs'=(ds++[I m,S (mt (m+1)),I (m+2:Nat),I (m+3:Nat)])++ .list l[i].fields.length cb tb::rs':=by simp
  rw[e4]at b4 hso4 hnp4 hT4
  have hp4:partP (ds++[I m,S (mt (m+1)),I (m+2:Nat),I (m+3:Nat)]++ .list l[i].fields.length cb tb::rs') (i*5+4) 1 false=some (.list l[i].fields.length cb tb):=partP_at (by rw[List.length_append,hd1];rfl)
  have l4:=len (ds++[I m,S (mt (m+1)),I (m+2:Nat),I (m+3:Nat)]) (.list l[i].fields.length cb tb) rs' (by simp only[List.length_append,List.length_cons,List.length_nil];omega)
  simp (disch:=omega)only[↓pa,pb,natP,↓reduceIte,Nat.reduceEqDiff,reduceCtorEq,f0,f5,pmu,b1,b2,b3,b4,hp4]
  refine RunsTo_UIn (sz:=2) (X:=[]) (Y:=[]) (c_markF K (m+4) l[i].fields.length (by omega) (solid_in hso4) (np_in hnp4) lb (TokOK_in hT4)) lb (by decide) (fun e=>by rw[e];rfl) hso4 hnp4 hT4 hfl (fun p2 ns2 q2 hu2 j1 j2 j3 j5 j6=>?_)
  simp (disch:=omega)only[↓pa,pb,natP,↓reduceIte,Nat.reduceEqDiff,reduceCtorEq,f0,f5,pmu,b1,b2,b3,b4,hu2,j1]
  have hcat:ds++[I m,S (mt (m+1)),I (m+2:Nat),I (m+3:Nat),q2]++rs'=ds++[I m,S (mt (m+1)),I (m+2:Nat),I (m+3:Nat)]++q2::rs':=by simp
  refine⟨l.length- (i+1),by omega,i+1,ds++[I m,S (mt (m+1)),I (m+2:Nat),I (m+3:Nat),q2],rs',rfl,by omega,by rw[hcat],by rw[hkk],rfl,by simp only[List.length_append,hd1,List.length_cons,List.length_nil];omega,?_,hr5,by rw[hcat];exact j3,by rw[hcat];exact j2,by rw[hcat];exact j6,hfl⟩
  rw[strips_append,hd2,hkm,List.flatMap_append]
  simp only[pmz,j5,ec,List.flatMap_cons,List.flatMap_nil,List.append_nil,FX,mkF_len]
 ·have hie:l.take i=l:=List.take_of_length_le (by omega)
  have hdr:l.drop i=[]:=List.drop_of_length_le (by omega)
  rw[hdr]at hr2
  have hrn:rs=[]:=List.eq_nil_of_length_eq_zero (by rw[←strips_length,hr2];rfl)
  subst hrn
  rw[List.append_nil]at hnp hso hTk f0
  rw[hie]at hd2 f1
  simp (disch:=omega)only[↓pa,pb,↓reduceIte,Nat.reduceEqDiff,reduceCtorEq,f0,f1,h,pmu]
  refine⟨_,rfl,rfl,hnp,hso,by simpa using hTk,rfl,?_⟩
  rw[strip_list,hd2]
def shg(g:Gph):List (Nat×Nat)×List Nat:=(g.nodes.map shp,g.edges.map she)
theorem mkN_len:∀ (l:List (Nat×Nat)) (k:Nat),(mkN l k).length=l.length
 | [],_=>rfl
 |(a,b)::l,k=>by rw[mkN,List.length_cons,mkN_len l,List.length_cons]
theorem mkE_len:∀ (l:List Nat) (k:Nat),(mkE l k).length=l.length
 | [],_=>rfl
 |b::l,k=>by rw[mkE,List.length_cons,mkE_len l,List.length_cons]
theorem mkG_snoc:∀ (l:List (List (Nat×Nat)×List Nat)) (a:List (Nat×Nat)) (b:List Nat) (k:Nat),mkG (l++[(a,b)]) k=mkG l k++[⟨mkN a (endG l k),mkE b (endN a (endG l k))⟩]∧endG (l++[(a,b)]) k=endE b (endN a (endG l k))
 | [],a,b,k=>⟨rfl,rfl⟩
 |(x,y)::l,a,b,k=>by
  obtain⟨h1,h2⟩:=mkG_snoc l a b (endE y (endN x k))
  exact⟨by simp only[List.cons_append,mkG,endG,h1],by simp only[List.cons_append,endG,h2]⟩
theorem endG_app:∀ (l m:List (List (Nat×Nat)×List Nat)) (k:Nat),endG (l++m) k=endG m (endG l k)
 | [],_,_=>rfl
 |(x,y)::l,m,k=>by rw[List.cons_append,endG,endG,endG_app l m]
theorem Like_of{α:Type}{enc:α→List PV}{m:Nat}(hm:∀ a,(enc a).length=m){l:List α}{cs:List PV}(h:strips cs=l.flatMap enc)(hn:nps cs=true):Like enc m l cs:=
 ⟨by rw[←strips_length,h,flat_len enc m hm],h,hn⟩
section
variable {f:Nat} {F:CFn} {cs rest:List PV} {rs:List CRes}
theorem movedAll_agg(hr:rest.all plainArg=true):movedAll [0] (.agg cs::rest) []=tokss cs:=by
 have h:boxToks (boxMv [0] 0 (.agg cs::rest)) []=[]:=by cases boxMv [0] 0 (.agg cs::rest)<;>rfl
 rw[movedAll,h,moved,moved_rest _ _ (by omega)]
 simp[toks]
theorem callP_mvA(hn:nps cs=true)(hk:TokOK st (tokss cs))(hr:rest.all plainArg=true)(hsp:spare ((tokss cs).map (·.1)) [0] 1 rest=true){r:PV}{ns:List Nat}
  (hc:cf f (ren (idxIn ((tokss cs).map (·.1))) false (.agg cs)::rest.map strip) ((tokss cs).map (·.2)) []=some (r,ns,[])) (hs:solid r=true):
  callP cf f (.agg cs::rest) [0] st=some (ren (fun k=>some (st.nx+k)) false r,mvS ((tokss cs).map (·.1)) ns st)∧takes (.agg cs::rest) [0] st=(tokss cs).map (·.1):=by
 have hn':np (.agg cs)=true:=hn
 have hkeys:keysOf (.agg cs::rest)=some []:=by
  rw[keysOf,if_pos hn']
  ·exact keysOf_plain hr
  ·intros;contradiction
 have hm:=movedAll_agg (cs:=cs) hr
 have hb:boxOn ((tokss cs).map (·.1)) (boxMv [0] 0 (.agg cs::rest)) []=[]:=by cases boxMv [0] 0 (.agg cs::rest)<;>rfl
 have hbs:∀ J l,boxSpare J l []=true:=by intro J l;cases l<;>rfl
 have hh:handOn ((tokss cs).map (·.1)) [0] 0 0 (.agg cs::rest)=ren (idxIn ((tokss cs).map (·.1))) false (.agg cs)::rest.map strip:=by
  rw[handOn,handOn_rest _ _ _ _ (by omega) hr]
  ·rfl
  ·intros;contradiction
 have hs2:spare ((tokss cs).map (·.1)) [0] 0 (.agg cs::rest)=true:=by rw[spare,hsp];rfl
 constructor
 ·simp only[callP,hkeys,getAll,hm,nodupB_ck hk.1,hk.ok,hs2,hbs,hb,Bool.and_self,if_true,hh,hc,solid_closed r hs,List.all_nil,List.length_nil,setAll]
  rfl
 ·simp only[takes,hkeys,getAll,hm]
theorem run_val{as:List PV}(hres:F.res=rs)(hown:F.own=false)(hnt:as.length≤F.nt)(N:Nat){ns:List Nat}{v:PV}(h:Wp cf N F.body (frame as,stB ns []) (EndsV rs (· =v))):runFn cf N F as ns []=some (v,[],[]):=by
 obtain⟨e,⟨fr,s1⟩,hev,he,ho⟩:=h
 subst hres
 revert ho
 generalize hps:ressP fr s1 F.res=o1
 intro ho
 match o1,ho with
 |some ps0,ho=>
  obtain⟨hp,-,hQ⟩:=ho
  have hf:=finish_gen (n:=0) (cs0:=[]) hown hps hp rfl rfl
  rw[hQ]at hf
  unfold runFn
  rw[if_pos ⟨hnt,Nat.zero_le _⟩,hev]
  cases e with
  |go=>exact hf
  |ret=>exact hf
  |exit i=>exact he.elim
end
set_option maxHeartbeats 4000000 in
theorem c_markG(K:Env cf)(k:Nat)(g:Gph)(hk:endE (g.edges.map she) (endN (g.nodes.map shp) k)≤1000000000000){cs:List PV}(hst:strips cs=gc g)(hs:solids cs=true)(hn:nps cs=true)(hT:TokOK st (tokss cs)):
  callP cf 14 [.agg cs,I k] [0] st=some (I (endE (g.edges.map she) (endN (g.nodes.map shp) k):Nat),mvS ((tokss cs).map (·.1)) [] st)∧takes [.agg cs,I k] [0] st=(tokss cs).map (·.1):=by
 have hF:=fresh_ren (r0:= .agg cs) (by simpa [solid]using hs) hn hT.1 0
 have hF0:=hF.2
 have hrr:ren (idxIn ((tokss cs).map (·.1))) false (.agg cs)= .agg (rens (idxIn ((tokss cs).map (·.1))) false cs):=by simp[ren]
 have htt:toks (.agg cs)=tokss cs:=by simp[toks]
 rw[htt,hrr]at hF0
 have hst0:strips (rens (idxIn ((tokss cs).map (·.1))) false cs)=gc g:=by rw[strips_rens];exact hst
 have hTB:TokOK (stB ((tokss cs).map (·.2)) []) (tokss (rens (idxIn ((tokss cs).map (·.1))) false cs)):=by
  have:=hF0.tk
  simp only[toks]at this
  rw[this]
  exact⟨fun j=>enum_ck j _,fun q hq=>by have:=enum_mem hq;exact⟨by simpa [stB]using this.2.1,by simpa [stB]using this.2.2,Nat.zero_le _⟩⟩
 have hso0:solids (rens (idxIn ((tokss cs).map (·.1))) false cs)=true:=by simpa [solid]using hF0.so
 have hnp0:nps (rens (idxIn ((tokss cs).map (·.1))) false cs)=true:=hF0.np
 generalize hc0:rens (idxIn ((tokss cs).map (·.1))) false cs=c0 at*
 have hrun:runFn cf 1 F14 [.agg c0,I k] ((tokss cs).map (·.2)) []=some (I (endE (g.edges.map she) (endN (g.nodes.map shp) k):Nat),[],[]):=by
  refine run_val (rs:=[.tmp 4]) rfl rfl (lb rfl) 1 ?_
  obtain⟨c,d,rfl⟩:∃ c d,c0=[c,d]:=by
   have:=congrArg List.length hst0
   rw[strips_length]at this
   match c0,this with
   | [c,d],_=>exact⟨c,d,rfl⟩
  simp only[strips_map,List.map_cons,List.map_nil,gc,List.cons.injEq,and_true]at hst0
  obtain⟨hr3,hr4⟩:=hst0
  obtain⟨ca,ta,rfl,hca,-⟩:=strip_list_inv hr3
  obtain⟨cb,tb,rfl,hcb,-⟩:=strip_list_inv hr4
  simp only[solids,Bool.and_true,Bool.and_eq_true]at hso0
  have hLa:Like nc 3 g.nodes ca:=Like_of nc_len hca (by simp only[pmz,Bool.and_true,Bool.and_eq_true]at hnp0;first|exact hnp0.1|exact hnp0.2)
  have hLb:Like ec 5 g.edges cb:=Like_of ec_len hcb (by simp only[pmz,Bool.and_true,Bool.and_eq_true]at hnp0;exact hnp0.2)
  have hnm:=endE_le (g.edges.map she) (endN (g.nodes.map shp) k)
  have hTB2:TokOK (stB ((tokss cs).map (·.2)) []) ([]++toks (.list g.nodes.length ca ta)++toks (.list g.edges.length cb tb)):=by
   simpa only[tokss,List.append_nil,List.nil_append]using hTB
  unfold F14 qr qm qi ql qf qo
  simp (disch:=omega)only[↓pa,pb,pmy,↓reduceIte,Nat.reduceEqDiff,Nat.reduceAdd,pmu]
  refine RunsTo_U (c_markN K k g.nodes (by omega) hso0.1 hLa (TokOK_setO (TokOK_of' hTB2 (fun j=>by simp only[ck_append];omega) (fun q hq=>by simp[hq])))) (fun p ns1 hu hF1 hv htk=>?_)
  have hap:=TokOK_apart' hTB2
  have hk1:killT ((toks (.list g.nodes.length ca ta)).map (·.1)) (.list g.edges.length cb tb)= .list g.edges.length cb tb:=killT_solid hso0.2 fun q hq=>hap q (by simp[hq])
  have hT2:=TokOK_mv (ns:=ns1) (TokOK_setO (s:=2) (c:=[.list g.nodes.length ca ta,.list g.edges.length cb tb]) hTB2) (Nat.zero_le _)
  simp (disch:=omega)only[↓pa,pb,pmy,↓reduceIte,Nat.reduceEqDiff,Nat.reduceAdd,pmu,pmm,hk1,hu]
  refine RunsTo_U (c_markE K (endN (g.nodes.map shp) k) g.edges hk hso0.2 hLb (TokOK_of' hT2 (fun j=>by simp only[ck_append];omega) (fun q hq=>by simp[hq]))) (fun p2 ns2 hu2 hF2 hv2 htk2=>?_)
  simp (disch:=omega)only[↓pa,pb,pmz,↓reduceIte,hu2]
 have hcf:=K.tab 14 F14 rfl 1 _ _ _ _ hrun
 rw[←hrr]at hcf
 obtain⟨a,b⟩:=callP_mvA (rest:=[I k]) hn hT rfl rfl hcf rfl
 exact⟨a,b⟩
theorem negN(n:Nat):(((n:Nat):Int)<0)=False:=eq_false (by omega)
theorem mkF_at{k n i:Nat}(h:i<(mkF k n).length):(mkF k n)[i]=(mt (k+2*i),mt (k+2*i+1)):=by simp[mkF]
theorem mkN_at:∀ (l:List (Nat×Nat)) (k i:Nat) (h:i<(mkN l k).length) (h':i<l.length),(mkN l k)[i]=⟨endN (l.take i) k,mkT (endN (l.take i) k+1) l[i].1,mkF (endN (l.take i) k+1+l[i].1) l[i].2⟩∧endN (l.take (i+1)) k=endN (l.take i) k+1+l[i].1+2*l[i].2
 |(a,b)::l,k,0,_,_=>⟨rfl,rfl⟩
 |(a,b)::l,k,i+1,h,h'=>mkN_at l (k+1+a+2*b) i (by simpa [mkN]using h) (by simpa using h')
theorem mkE_at:∀ (l:List Nat) (k i:Nat) (h:i<(mkE l k).length) (h':i<l.length),(mkE l k)[i]=⟨endE (l.take i) k,mt (endE (l.take i) k+1),(endE (l.take i) k+2:Nat),(endE (l.take i) k+3:Nat),mkF (endE (l.take i) k+4) l[i]⟩∧endE (l.take (i+1)) k=endE (l.take i) k+4+2*l[i]
 |b::l,k,0,_,_=>⟨rfl,rfl⟩
 |b::l,k,i+1,h,h'=>mkE_at l (k+4+2*b) i (by simpa [mkE]using h) (by simpa using h')
theorem mkG_at:∀ (l:List (List (Nat×Nat)×List Nat)) (k i:Nat) (h:i<(mkG l k).length) (h':i<l.length),(mkG l k)[i]=⟨mkN l[i].1 (endG (l.take i) k),mkE l[i].2 (endN l[i].1 (endG (l.take i) k))⟩∧endG (l.take (i+1)) k=endE l[i].2 (endN l[i].1 (endG (l.take i) k))
 |(a,b)::l,k,0,_,_=>⟨rfl,rfl⟩
 |(a,b)::l,k,i+1,h,h'=>mkG_at l (endE b (endN a k)) i (by simpa [mkG]using h) (by simpa using h')
theorem mkG_len:∀ (l:List (List (Nat×Nat)×List Nat)) (k:Nat),(mkG l k).length=l.length
 | [],_=>rfl
 |(a,b)::l,k=>by rw[mkG,List.length_cons,mkG_len l,List.length_cons]
set_option maxHeartbeats 1000000 in
theorem c_heldF(K:Env cf)(k n:Nat)(hk:k+2*n≤1000000000000):callP cf 61 [FX (mkF k n),I k] [] st=some (I (k+2*n:Nat),st):=by
 refine c_val K.tab (F:=F61) (t:=4) rfl rfl rfl (lb rfl) (by simp[plainV_FX,plainV_int]) (bare_int _ _) (n+1) ?_
 have hl:=mkF_len k n
 have hm:((mkF k n).flatMap fc).length=n*2:=by rw[fs_len,hl]
 unfold F61 qr qd qm qi qb qk ql qf qo
 simp (disch:=omega)only[↓pa]
 refine Wp_rounds (fun q fr st=>∃ i:Nat,q=n-i∧i≤n∧fr 0=FX (mkF k n)∧fr 1=I (k+2*i:Nat)∧fr 5=I i) n (by omega) ⟨0,by simp,by omega,by simp (disch:=omega)only[↓pa,↓reduceIte,reduceCtorEq],by simp (disch:=omega)only[↓pa,↓reduceIte,Nat.reduceEqDiff,Nat.reduceMul]<;>rfl,by simp (disch:=omega)only[↓pa,↓reduceIte]<;>rfl⟩ ?_
 rintro q fr st ⟨i,rfl,hi,f0,f1,f5⟩
 simp (disch:=omega)only[↓pa,pb,natP,↓reduceIte,Nat.reduceEqDiff,reduceCtorEq,f0,f5,hl]
 refine Cnd_intro (fun h=>?_) (fun h=>?_)
 ·have hlt:i<(mkF k n).length:=by omega
  have hp0:=partP_flat fc 2 (fun _=>rfl) 0 1 false (by decide) (mkF k n) i hlt
  have hp1:=partP_flat fc 2 (fun _=>rfl) 1 1 false (by decide) (mkF k n) i hlt
  rw[mkF_at hlt]at hp0 hp1
  rw[Nat.add_zero]at hp0
  have ht:=fun st=>c_markText (st:=st) K (k+2*i) (by omega)
  have ht2:=fun st=>c_markText (st:=st) K (k+2*i+1) (by omega)
  simp (disch:=omega)only[↓pa,↓pmw,pb,pmy,pmwk,pmwa,natP,List.getElem?_cons_zero,List.getElem?_cons_succ,↓reduceIte,Nat.reduceEqDiff,ne_eq,reduceCtorEq,f0,f1,f5,hl,h,Nat.add_zero,hp0,hp1,fc,ht,ht2]
  exact⟨n- (i+1),by omega,i+1,rfl,by omega,by congr 1,rfl⟩
 ·have:i=n:=by omega
  subst this
  simp (disch:=omega)only[↓pa,pb,↓reduceIte,Nat.reduceEqDiff,f1,h]
theorem szl_cons{α:Type}(m:α→Nat)(a:α)(l:List α):szl m (a::l)=1+m a+szl m l:=by simp[szl];omega
theorem szl_nil{α:Type}(m:α→Nat):szl m []=0:=rfl
theorem szl_append{α:Type}(m:α→Nat)(a b:List α):szl m (a++b)=szl m a+szl m b:=by simp[szl];omega
theorem shN_sz(es:List Eg)(n k:Int):∀ l:List Nd,szl szNd (shN es l n k)≤szl szNd l
 | []=>Nat.le_refl _
 |x::l=>by
  have ih:=shN_sz es n k l
  rw[shN_cons,szl_append,szl_cons]
  have:szl szNd (shN1 es n k x)≤1+szNd x:=by
   unfold shN1
   split
   ·rw[szl_cons,szl_nil];omega
   ·split
    ·have e:szNd (⟨x.id,[],[]⟩:Nd)=0:=rfl
     rw[szl_cons,szl_nil,e];omega
    ·exact Nat.zero_le _
  omega
theorem shards_mem(g:Gph)(n:Int):∀ (j:Nat) (x:Gph),x∈shards g n j→∃ k:Int,x=shard g n k
 |0,x,h=>by simp[shards]at h
 |j+1,x,h=>by
  rw[shards,List.mem_append]at h
  rcases h with h|h
  ·exact shards_mem g n j x h
  ·exact⟨j,by simpa using h⟩
theorem endN_sz:∀ (l:List Nd) (k:Nat),endN (l.map shp) k≤k+2*szl szNd l
 | [],k=>by simp[endN,szl]
 |x::l,k=>by
  have ih:=endN_sz l (k+1+x.labels.length+2*x.fields.length)
  have h1:= @szl_len _ List.length x.labels
  have h2:= @szl_len _ szFd x.fields
  rw[List.map_cons,shp,endN,szl_cons]
  have h3:szNd x=szl List.length x.labels+szl szFd x.fields:=rfl
  omega
theorem endE_sz:∀ (l:List Eg) (k:Nat),endE (l.map she) k≤k+4*szl szEg l
 | [],k=>by simp[endE,szl]
 |x::l,k=>by
  have ih:=endE_sz l (k+4+2*x.fields.length)
  have h2:= @szl_len _ szFd x.fields
  rw[List.map_cons,she,endE,szl_cons]
  have h3:szEg x=x.type.length+szl szFd x.fields:=rfl
  omega
theorem endG1_sz(g:Gph)(k:Nat):endE (g.edges.map she) (endN (g.nodes.map shp) k)≤k+4*szGr g:=by
 have h1:=endN_sz g.nodes k
 have h2:=endE_sz g.edges (endN (g.nodes.map shp) k)
 unfold szGr
 omega
theorem endG_sz(c:Nat):∀ (l:List Gph) (k:Nat),(∀ g∈l,szGr g≤c)→endG (l.map shg) k≤k+l.length* (4*c)
 | [],k,_=>by simp[endG]
 |g::l,k,h=>by
  have h1:=endG1_sz g k
  have h2:=h g List.mem_cons_self
  have ih:=endG_sz c l (endE (g.edges.map she) (endN (g.nodes.map shp) k)) fun x hx=>h x (List.mem_cons_of_mem _ hx)
  rw[List.map_cons,shg,endG,List.length_cons,Nat.add_mul]
  omega
theorem callP_fl{f:Nat}{as:List PV}{r:PV}{st':St}(h:callP cf f as [] st=some (r,st'))(hf:st.fl≤st.nx):st'.fl≤st'.nx:=by
 unfold callP at h
 split at h
 ·cases h
 ·split at h
  ·cases h
  ·simp only at h
   split at h
   ·split at h
    ·simp only[Option.some.injEq,Prod.mk.injEq]at h
     rw[←h.2]
     simp only[St.more_nx]
     split<;>omega
    ·cases h
   ·cases h
theorem RunsTo_EQf{f:Nat}{as:List PV}{p:PV}(h:∃ r,r=p∧∃ fl,callP cf f as [] st=some (r,setF st fl))(hf:st.fl≤st.nx)(k:∀ fl,fl≤st.nx→A (mk p (setF st fl))):RunsTo (callP cf f as [] st) mk A:=by
 obtain⟨r,rfl,fl,h⟩:=h
 exact⟨_,_,h,k fl (callP_fl h hf)⟩
theorem call_st{f:Nat}{as bs:List PV}(hm:as.map strip=bs)(hp:as.all plainArg=true)(hb:∀ p∈bs,plainV p):callP cf f as [] st=callP cf f bs [] st:=by
 subst hm
 obtain⟨q1,q2⟩:=plainVs_arg hb
 rw[callP_strip hp q1 q2]
theorem mvS_objs{J ns:List Nat}{st:St}{s:Nat}:(mvS J ns st).objs s=(st.objs s).map fun c=>c.map (killT J):=rfl
theorem strip_agg{cs:List PV}:strip (.agg cs)= .agg (strips cs):=by simp[strip,strips,ren]
def exGo(id:Int):List Eg→Nat→Int
 | [],_=> -1
 |e::l,k=>if e.id=id then k else exGo id l (k+1)
def edgeIx(l:List Eg)(id:Int):Int:=exGo id l 0
def edgeOf(l:List Eg)(id:Int):Option Eg:=l.find? fun e=>decide (e.id=id)
def nodeOf(l:List Nd)(id:Int):Option Nd:=l.find? fun e=>decide (e.id=id)
theorem exGo_spec(id:Int):∀ (l:List Eg) (k:Nat),(exGo id l k= -1∧edgeOf l id=none)∨∃ j,∃ h:j<l.length,exGo id l k=((k+j:Nat):Int)∧edgeOf l id=some l[j]
 | [],_=> .inl ⟨rfl,rfl⟩
 |e::l,k=>by
  by_cases h:e.id=id
  ·exact .inr ⟨0,by simp,by simp[exGo,h],by simp[edgeOf,h]⟩
  ·rcases exGo_spec id l (k+1)with⟨h1,h2⟩|⟨j,hj,h1,h2⟩
   ·exact .inl ⟨by simp[exGo,h,h1],by simpa [edgeOf,h]using h2⟩
   ·exact .inr ⟨j+1,by simp;omega,by rw[exGo,if_neg h,h1];congr 1;omega,by simpa [edgeOf,h]using h2⟩
theorem ixGo_spec(id:Int):∀ (l:List Nd) (k:Nat),(ixGo id l k= -1∧nodeOf l id=none)∨∃ j,∃ h:j<l.length,ixGo id l k=((k+j:Nat):Int)∧nodeOf l id=some l[j]
 | [],_=> .inl ⟨rfl,rfl⟩
 |e::l,k=>by
  by_cases h:e.id=id
  ·exact .inr ⟨0,by simp,by simp[ixGo,h],by simp[nodeOf,h]⟩
  ·rcases ixGo_spec id l (k+1)with⟨h1,h2⟩|⟨j,hj,h1,h2⟩
   ·exact .inl ⟨by simp[ixGo,h,h1],by simpa [nodeOf,h]using h2⟩
   ·exact .inr ⟨j+1,by simp;omega,by rw[ixGo,if_neg h,h1];congr 1;omega,by simpa [nodeOf,h]using h2⟩
theorem ex_spec(l:List Eg)(id:Int):(edgeIx l id= -1∧edgeOf l id=none)∨∃ j,∃ h:j<l.length,edgeIx l id=(j:Int)∧edgeOf l id=some l[j]:=by
 have:=exGo_spec id l 0
 simpa [edgeIx]using this
theorem nx_spec(l:List Nd)(id:Int):(nodeIx l id= -1∧nodeOf l id=none)∨∃ j,∃ h:j<l.length,nodeIx l id=(j:Int)∧nodeOf l id=some l[j]:=by
 have:=ixGo_spec id l 0
 simpa [nodeIx]using this
theorem partP_ety{l:List Eg}{j:Nat}(h:j<l.length):partP (l.flatMap ec) (j*5+1) 1 false=some (S l[j].type):=by
 have:=partP_flat ec 5 ec_len 1 1 false (by decide) l j h
 rw[this]
 rfl
theorem partP_efl{l:List Eg}{j:Nat}(h:j<l.length):partP (l.flatMap ec) (j*5+4) 1 false=some (FX l[j].fields):=by
 have:=partP_flat ec 5 ec_len 4 1 false (by decide) l j h
 rw[this]
 rfl
theorem partP_nlb{l:List Nd}{j:Nat}(h:j<l.length):partP (l.flatMap nc) (j*3+1) 1 false=some (TX l[j].labels):=by
 have:=partP_flat nc 3 nc_len 1 1 false (by decide) l j h
 rw[this]
 rfl
theorem partP_nfl{l:List Nd}{j:Nat}(h:j<l.length):partP (l.flatMap nc) (j*3+2) 1 false=some (FX l[j].fields):=by
 have:=partP_flat nc 3 nc_len 2 1 false (by decide) l j h
 rw[this]
 rfl
theorem c_edgeAtS(K:Env cf)(g:Gph)(id:Int)(hl:g.edges.length≤2000000):callP cf 99 [.agg (gc g),I id] [] st=some (I (edgeIx g.edges id),st):=by
 refine c_val K.tab (F:=F99) (t:=4) rfl rfl rfl (lb rfl) (by simp[plainV_gr,plainV_int]) (bare_int _ _) (g.edges.length+1) ?_
 have hm:=flat_len ec 5 ec_len g.edges
 unfold F99 qr qd qm qi qb qk ql qf qo
 simp (disch:=omega)only[↓pa,pmy,↓reduceIte,Nat.reduceAdd,gc]
 refine Wp_rounds (fun k fr st=>∃ i:Nat,k=g.edges.length-i∧i≤g.edges.length∧fr 1=I id∧fr 2= .ptr 2 0∧st.objs 2=some [NX g.nodes,EX g.edges]∧fr 5=I i∧exGo id (g.edges.drop i) i=edgeIx g.edges id) g.edges.length (by omega) ⟨0,by simp,by omega,by simp (disch:=omega)only[↓pa,pb,↓reduceIte,Nat.reduceEqDiff],by simp (disch:=omega)only[↓pa,↓reduceIte,Nat.reduceEqDiff],by simp (disch:=omega)only[pb,↓reduceIte],by simp (disch:=omega)only[↓pa,↓reduceIte];rfl,rfl⟩ ?_
 rintro k fr st ⟨i,rfl,hi,f1,f2,o2,f5,hQ⟩
 simp (disch:=omega)only[↓pa,pb,pmy,natP,↓reduceIte,Nat.reduceEqDiff,Nat.reduceAdd,f2,o2,f5]
 refine Cnd_intro (fun h1=>?_) (fun h1=>?_)
 ·rw[List.drop_eq_getElem_cons h1,exGo]at hQ
  simp (disch:=omega)only[↓pa,pb,pmy,↓reduceIte,Nat.reduceEqDiff,Nat.reduceAdd,f1,f2,o2,f5,Nat.add_zero,partP_eid h1]
  refine Cnd_intro (fun h2=>?_) (fun h2=>?_)
  ·rw[if_pos h2]at hQ
   simp (disch:=omega)only[↓pa,pb,↓reduceIte,Nat.reduceEqDiff,f5,h2]
   rw[←hQ]
  ·rw[if_neg h2]at hQ
   simp (disch:=omega)only[↓pa,pb,natP,↓reduceIte,Nat.reduceEqDiff,f1,f2,o2,f5,h2]
   exact⟨g.edges.length- (i+1),by omega,i+1,rfl,by omega,rfl,hQ⟩
 ·have:i=g.edges.length:=by omega
  rw[this,List.drop_length]at hQ
  simp (disch:=omega)only[↓pa,pb,↓reduceIte,h1]
  rw[←hQ];rfl
theorem c_edgeAt(K:Env cf)(g:Gph)(id:Int)(hl:g.edges.length≤2000000):callP cf 101 [.agg (gc g),I id] [] st=some (I (edgeIx g.edges id),st):=by
 refine c_val K.tab (F:=F101) (t:=4) rfl rfl rfl (lb rfl) (by simp[plainV_gr,plainV_int]) (bare_int _ _) (g.edges.length+1) ?_
 have hm:=flat_len ec 5 ec_len g.edges
 unfold F101 qr qd qm qi qb qk ql qf qo qe qN
 simp (disch:=omega)only[↓pa,pb,pmy,↓reduceIte,Nat.reduceEqDiff,Nat.reduceAdd,gc]
 refine Wp_rounds (fun k fr st=>∃ i:Nat,k=g.edges.length-i∧i≤g.edges.length∧fr 1=I id∧fr 8=EX g.edges∧fr 9=I g.edges.length∧fr 10=I i∧exGo id (g.edges.drop i) i=edgeIx g.edges id) g.edges.length (by omega) ⟨0,by simp,by omega,by simp (disch:=omega)only[↓pa,pb,↓reduceIte,Nat.reduceEqDiff],by simp (disch:=omega)only[↓pa,↓reduceIte,Nat.reduceEqDiff],by simp (disch:=omega)only[↓pa,↓reduceIte,Nat.reduceEqDiff],by simp (disch:=omega)only[↓pa,↓reduceIte];rfl,rfl⟩ ?_
 rintro k fr st ⟨i,rfl,hi,f1,f8,f9,f10,hQ⟩
 simp (disch:=omega)only[↓pa,pb,natP,↓reduceIte,f9,f10]
 refine Cnd_intro (fun h1=>?_) (fun h1=>?_)
 ·rw[List.drop_eq_getElem_cons h1,exGo]at hQ
  simp (disch:=omega)only[↓pa,pb,pmy,↓reduceIte,Nat.reduceEqDiff,Nat.reduceAdd,Nat.reduceLeDiff,f1,f8,f10,h1,partP_e h1,ec]
  refine Cnd_intro (fun h2=>?_) (fun h2=>?_)
  ·rw[if_pos h2]at hQ
   simp (disch:=omega)only[↓pa,pb,↓reduceIte,Nat.reduceEqDiff,h2]
   rw[←hQ]
  ·rw[if_neg h2]at hQ
   simp (disch:=omega)only[↓pa,pb,natP,↓reduceIte,Nat.reduceEqDiff,f1,f8,f9,f10,h2]
   exact⟨g.edges.length- (i+1),by omega,i+1,rfl,by omega,rfl,hQ⟩
 ·have:i=g.edges.length:=by omega
  rw[this,List.drop_length]at hQ
  simp (disch:=omega)only[↓pa,pb,↓reduceIte,h1]
  rw[←hQ];rfl
def same(x e:Eg):Bool:=decide (x.type=e.type) && (decide (x.src=e.src) && decide (x.dst=e.dst))
def staysB(l:List Eg)(e:Eg):Bool:=match edgeOf l e.id with
 |some x=>same x e
 |none=>false
def staysI(l:List Eg)(e:Eg):Int:=if staysB l e then edgeIx l e.id else-1
theorem staysI_neg(l:List Eg)(e:Eg):staysI l e<0↔staysB l e=false:=by
 unfold staysI
 cases h:staysB l e with
 |false=>simp
 |true=>
  rcases ex_spec l e.id with⟨h1,h2⟩|⟨j,hj,h1,h2⟩
  ·rw[staysB,h2]at h;cases h
  ·rw[if_pos rfl,h1];simp
theorem c_staysS(K:Env cf)(g:Gph)(e:Eg)(hl:g.edges.length≤2000000):callP cf 95 [.agg (gc g),.agg (ec e)] [] st=some (.bool (staysB g.edges e),st):=by
 refine c_val K.tab (F:=F95) (t:=4) rfl rfl rfl (lb rfl) (by simp[plainV_gr,plainV_eg]) (bare_bool _) 1 ?_
 have hm:=flat_len ec 5 ec_len g.edges
 have hea:∀ id st,callP cf 99 [.agg [NX g.nodes,EX g.edges],I id] [] st=some (I (edgeIx g.edges id),st):=fun id st=>c_edgeAtS K g id hl
 unfold F95 qr qm qc qk ql qf qo
 rw[staysB]
 rcases ex_spec g.edges e.id with⟨h1,h2⟩|⟨j,hj,h1,h2⟩
 ·rw[h2]
  simp (disch:=omega)only[↓pa,pb,pmy,↓reduceIte,Nat.reduceEqDiff,Nat.reduceAdd,Nat.reduceLeDiff,Int.reduceLE,gc,ec,hea,h1]
 ·rw[h2]
  have hj0:(0:Int)≤(j:Int):=by omega
  simp only[same]
  by_cases t1:g.edges[j].type=e.type
  ·by_cases t2:g.edges[j].src=e.src
   ·by_cases t3:g.edges[j].dst=e.dst
    ·simp (disch:=omega)only[↓pa,pb,pmy,↓reduceIte,Nat.reduceEqDiff,Nat.reduceAdd,Nat.reduceLeDiff,gc,ec,hea,h1,hj0,partP_ety hj,partP_esrc hj,partP_edst hj,t1,t2,t3,Bool.and_self]
    ·simp (disch:=omega)only[↓pa,pb,pmy,↓reduceIte,Nat.reduceEqDiff,Nat.reduceAdd,Nat.reduceLeDiff,gc,ec,hea,h1,hj0,partP_ety hj,partP_esrc hj,partP_edst hj,t1,t2,t3,Bool.and_self]
   ·simp (disch:=omega)only[↓pa,pb,pmy,↓reduceIte,Nat.reduceEqDiff,Nat.reduceAdd,Nat.reduceLeDiff,gc,ec,hea,h1,hj0,partP_ety hj,partP_esrc hj,t1,t2,Bool.and_self]
  ·simp (disch:=omega)only[↓pa,pb,pmy,↓reduceIte,Nat.reduceEqDiff,Nat.reduceAdd,Nat.reduceLeDiff,gc,ec,hea,h1,hj0,partP_ety hj,t1]
theorem c_stays(K:Env cf)(g:Gph)(e:Eg)(hl:g.edges.length≤2000000)(hs:st.objs s=some (gc g)):callP cf 100 [.agg (ec e),.ptr s 0] [] st=some (I (staysI g.edges e),st):=by
 refine c_ptrX K.tab (F:=F100) (t:=3) rfl rfl rfl (lb rfl) (lb rfl) (plainV_eg e) (bare_int _ _) hs (gc_plain g) 1 ?_
 have hm:=flat_len ec 5 ec_len g.edges
 have hea:∀ id st,callP cf 101 [.agg [NX g.nodes,EX g.edges],I id] [] st=some (I (edgeIx g.edges id),st):=fun id st=>c_edgeAt K g id hl
 unfold F100 qr qd qm qi qk ql qf qo
 rw[staysI,staysB]
 rcases ex_spec g.edges e.id with⟨h1,h2⟩|⟨j,hj,h1,h2⟩
 ·rw[h2]
  simp (disch:=omega)only[↓pa,pb,pmy,↓reduceIte,Nat.reduceEqDiff,Nat.reduceAdd,Nat.reduceLeDiff,Int.reduceLE,reduceCtorEq,gc,ec,hea,h1]
 ·rw[h2]
  have hj0:(0:Int)≤(j:Int):=by omega
  simp only[same]
  by_cases t1:g.edges[j].type=e.type
  ·by_cases t2:g.edges[j].src=e.src
   ·by_cases t3:g.edges[j].dst=e.dst
    ·simp (disch:=omega)only[↓pa,pb,pmy,↓reduceIte,Nat.reduceEqDiff,Nat.reduceAdd,Nat.reduceLeDiff,reduceCtorEq,gc,ec,hea,h1,hj0,partP_ety hj,partP_esrc hj,partP_edst hj,t1,t2,t3,Bool.and_self]
    ·simp (disch:=omega)only[↓pa,pb,pmy,↓reduceIte,Nat.reduceEqDiff,Nat.reduceAdd,Nat.reduceLeDiff,reduceCtorEq,gc,ec,hea,h1,hj0,partP_ety hj,partP_esrc hj,partP_edst hj,t1,t2,t3,Bool.and_self]
   ·simp (disch:=omega)only[↓pa,pb,pmy,↓reduceIte,Nat.reduceEqDiff,Nat.reduceAdd,Nat.reduceLeDiff,reduceCtorEq,gc,ec,hea,h1,hj0,partP_ety hj,partP_esrc hj,t1,t2,Bool.and_self]
  ·simp (disch:=omega)only[↓pa,pb,pmy,↓reduceIte,Nat.reduceEqDiff,Nat.reduceAdd,Nat.reduceLeDiff,reduceCtorEq,gc,ec,hea,h1,hj0,partP_ety hj,t1]
theorem same_len{α:Type}{a b:List α}(h:a.length≠b.length):a≠b:=fun e=>h (by rw[e])
theorem take_next{α:Type}{a b:List α}{i:Nat}(ha:i<a.length)(hb:i<b.length)(h:a.take i=b.take i)(he:a[i]=b[i]):a.take (i+1)=b.take (i+1):=by
 rw[List.take_succ_eq_append_getElem ha,List.take_succ_eq_append_getElem hb,h,he]
theorem c_sameTS(K:Env cf)(a b:List (List UInt8))(hl:a.length≤2000000):callP cf 96 [TX a,TX b] [] st=some (.bool (decide (a=b)),st):=by
 refine c_val K.tab (F:=F96) (t:=4) rfl rfl rfl (lb rfl) (by simp[plainV_tx]) (bare_bool _) (a.length+1) ?_
 have hm:(a.map S).length=a.length:=by simp
 have hm2:(b.map S).length=b.length:=by simp
 unfold F96 qr qd qm qi qc qb qk ql qo
 simp (disch:=omega)only[↓pa,pb,natP,↓reduceIte,Nat.reduceEqDiff,ne_eq,reduceCtorEq]
 refine Cnd_intro (fun h1=>?_) (fun h1=>?_)
 rotate_left
 ·simp (disch:=omega)only[↓pa,pb,↓reduceIte,h1]
  rw[decide_eq_false (same_len (by omega))]
 have h1:a.length=b.length:=by omega
 simp (disch:=omega)only[↓pa,pb,h1]
 refine Wp_rounds (fun k fr st=>∃ i:Nat,k=b.length-i∧i≤b.length∧fr 0=TX a∧fr 1=TX b∧fr 5=I i∧a.take i=b.take i) b.length (by omega) ⟨0,by simp,by omega,by simp (disch:=omega)only[↓pa,↓reduceIte,reduceCtorEq],by simp (disch:=omega)only[↓pa,↓reduceIte,Nat.reduceEqDiff],by simp (disch:=omega)only[↓pa,↓reduceIte];rfl,rfl⟩ ?_
 rintro k fr st ⟨i,rfl,hi,f0,f1,f5,hQ⟩
 simp (disch:=omega)only[↓pa,pb,natP,↓reduceIte,Nat.reduceEqDiff,reduceCtorEq,f0,f5,h1]
 refine Cnd_intro (fun h=>?_) (fun h=>?_)
 ·have ha:i<a.length:=by omega
  have hb:i<b.length:=by omega
  have ta:tAt a i=a[i]:=by simp[tAt,ha]
  have tb:tAt b i=b[i]:=by simp[tAt,hb]
  simp (disch:=omega)only[↓pa,pb,↓reduceIte,Nat.reduceEqDiff,ne_eq,reduceCtorEq,f0,f1,f5,h,h1,Nat.mul_one,partP_tx ha,partP_tx hb,ta,tb]
  refine Cnd_intro (fun h2=>?_) (fun h2=>?_)
  rotate_left
  ·simp (disch:=omega)only[↓pa,pb,↓reduceIte,h2]
   rw[decide_eq_false fun e=>h2 (by simp only[e])]
  ·simp (disch:=omega)only[↓pa,pb,natP,↓reduceIte,Nat.reduceEqDiff,reduceCtorEq,f0,f1,f5,h2]
   exact⟨b.length- (i+1),by omega,i+1,rfl,by omega,rfl,take_next ha hb hQ h2⟩
 ·simp (disch:=omega)only[↓pa,pb,↓reduceIte,h]
  have:i=b.length:=by omega
  rw[List.take_of_length_le (by omega),List.take_of_length_le (by omega)]at hQ
  rw[decide_eq_true hQ]
theorem c_sameT(K:Env cf)(a b:List (List UInt8))(hl:a.length≤2000000):callP cf 102 [TX a,TX b] [] st=some (.bool (decide (a=b)),st):=by
 refine c_val K.tab (F:=F102) (t:=4) rfl rfl rfl (lb rfl) (by simp[plainV_tx]) (bare_bool _) (a.length+1) ?_
 have hm:(a.map S).length=a.length:=by simp
 have hm2:(b.map S).length=b.length:=by simp
 unfold F102 qr qd qm qi qc qb qk ql qo
 simp (disch:=omega)only[↓pa,pb,natP,↓reduceIte,Nat.reduceEqDiff,ne_eq,reduceCtorEq]
 refine Cnd_intro (fun h1=>?_) (fun h1=>?_)
 rotate_left
 ·simp (disch:=omega)only[↓pa,pb,↓reduceIte,h1]
  rw[decide_eq_false (same_len (by omega))]
 have h1:a.length=b.length:=by omega
 simp (disch:=omega)only[↓pa,pb,↓reduceIte,reduceCtorEq,h1]
 refine Wp_rounds (fun k fr st=>∃ i:Nat,k=b.length-i∧i≤b.length∧fr 0=TX a∧fr 1=TX b∧fr 12=I b.length∧fr 13=I i∧a.take i=b.take i) b.length (by omega) ⟨0,by simp,by omega,by simp (disch:=omega)only[↓pa,↓reduceIte,reduceCtorEq],by simp (disch:=omega)only[↓pa,↓reduceIte,Nat.reduceEqDiff],by simp (disch:=omega)only[↓pa,↓reduceIte,Nat.reduceEqDiff],by simp (disch:=omega)only[↓pa,↓reduceIte];rfl,rfl⟩ ?_
 rintro k fr st ⟨i,rfl,hi,f0,f1,f12,f13,hQ⟩
 simp (disch:=omega)only[↓pa,pb,natP,↓reduceIte,f12,f13]
 refine Cnd_intro (fun h=>?_) (fun h=>?_)
 ·have ha:i<a.length:=by omega
  have hb:i<b.length:=by omega
  have ta:tAt a i=a[i]:=by simp[tAt,ha]
  have tb:tAt b i=b[i]:=by simp[tAt,hb]
  simp (disch:=omega)only[↓pa,pb,↓reduceIte,Nat.reduceEqDiff,ne_eq,reduceCtorEq,f0,f1,f13,h,h1,Nat.mul_one,partP_tx ha,partP_tx hb,ta,tb]
  refine Cnd_intro (fun h2=>?_) (fun h2=>?_)
  rotate_left
  ·simp (disch:=omega)only[↓pa,pb,↓reduceIte,h2]
   rw[decide_eq_false fun e=>h2 (by simp only[e])]
  ·simp (disch:=omega)only[↓pa,pb,natP,↓reduceIte,Nat.reduceEqDiff,reduceCtorEq,f0,f1,f12,f13,h2]
   exact⟨b.length- (i+1),by omega,i+1,rfl,by omega,rfl,take_next ha hb hQ h2⟩
 ·simp (disch:=omega)only[↓pa,pb,↓reduceIte,h]
  have:i=b.length:=by omega
  rw[List.take_of_length_le (by omega),List.take_of_length_le (by omega)]at hQ
  rw[decide_eq_true hQ]
def nullT:List UInt8:=[110,117,108,108]
def fieldV:List Fd→List UInt8→List UInt8
 | [],_=>nullT
 |f::l,n=>if f.1=n then f.2 else fieldV l n
theorem nullT_eq:(PV.str ⟨#[110,117,108,108]⟩)=S nullT:=rfl
theorem c_fieldS(K:Env cf)(l:List Fd)(n:List UInt8)(hl:l.length≤2000000):callP cf 131 [FX l,S n] [] st=some (S (fieldV l n),st):=by
 refine c_val K.tab (F:=F131) (t:=4) rfl rfl rfl (lb rfl) (by simp[plainV_FX,plainV_str]) (bare_str _) (l.length+1) ?_
 have hm:=fs_len l
 unfold F131 qr qd qm qi qc qb qk ql qf qo
 simp (disch:=omega)only[↓pa]
 refine Wp_rounds (fun k fr st=>∃ i:Nat,k=l.length-i∧i≤l.length∧fr 0=FX l∧fr 1=S n∧fr 5=I i∧fieldV (l.drop i) n=fieldV l n) l.length (by omega) ⟨0,by simp,by omega,by simp (disch:=omega)only[↓pa,↓reduceIte,reduceCtorEq],by simp (disch:=omega)only[↓pa,↓reduceIte,Nat.reduceEqDiff],by simp (disch:=omega)only[↓pa,↓reduceIte];rfl,rfl⟩ ?_
 rintro k fr st ⟨i,rfl,hi,f0,f1,f5,hQ⟩
 simp (disch:=omega)only[↓pa,pb,natP,↓reduceIte,Nat.reduceEqDiff,reduceCtorEq,f0,f5]
 refine Cnd_intro (fun h1=>?_) (fun h1=>?_)
 ·have hlt:i<l.length:=h1
  rw[List.drop_eq_getElem_cons hlt,fieldV]at hQ
  simp (disch:=omega)only[↓pa,pb,↓reduceIte,Nat.reduceEqDiff,reduceCtorEq,f0,f1,f5,h1,Nat.add_zero,partP_fn hlt]
  refine Cnd_intro (fun h2=>?_) (fun h2=>?_)
  ·rw[if_pos h2]at hQ
   simp (disch:=omega)only[↓pa,pb,↓reduceIte,Nat.reduceEqDiff,reduceCtorEq,f0,f5,h2,partP_fv hlt]
   rw[←hQ]
  ·rw[if_neg h2]at hQ
   simp (disch:=omega)only[↓pa,pb,natP,↓reduceIte,Nat.reduceEqDiff,reduceCtorEq,f0,f1,f5,h2]
   exact⟨l.length- (i+1),by omega,i+1,rfl,by omega,rfl,hQ⟩
 ·have:i=l.length:=by omega
  rw[this,List.drop_length]at hQ
  simp (disch:=omega)only[↓pa,pb,↓reduceIte,h1]
  rw[←hQ];rfl
theorem c_fieldOf(K:Env cf)(l:List Fd)(n:List UInt8)(hl:l.length≤2000000):callP cf 134 [FX l,S n] [] st=some (S (fieldV l n),st):=by
 refine c_val K.tab (F:=F134) (t:=4) rfl rfl rfl (lb rfl) (by simp[plainV_FX,plainV_str]) (bare_str _) (l.length+1) ?_
 have hm:=fs_len l
 unfold F134 qr qd qm qi qc qb qk ql qf qo qe
 simp (disch:=omega)only[↓pa,pb,↓reduceIte,reduceCtorEq]
 refine Wp_rounds (fun k fr st=>∃ i:Nat,k=l.length-i∧i≤l.length∧fr 1=S n∧fr 7=FX l∧fr 8=I l.length∧fr 9=I i∧fieldV (l.drop i) n=fieldV l n) l.length (by omega) ⟨0,by simp,by omega,by simp (disch:=omega)only[↓pa,↓reduceIte,Nat.reduceEqDiff],by simp (disch:=omega)only[↓pa,↓reduceIte,Nat.reduceEqDiff],by simp (disch:=omega)only[↓pa,↓reduceIte,Nat.reduceEqDiff],by simp (disch:=omega)only[↓pa,↓reduceIte];rfl,rfl⟩ ?_
 rintro k fr st ⟨i,rfl,hi,f1,f7,f8,f9,hQ⟩
 simp (disch:=omega)only[↓pa,pb,natP,↓reduceIte,f8,f9]
 refine Cnd_intro (fun h1=>?_) (fun h1=>?_)
 ·have hlt:i<l.length:=h1
  rw[List.drop_eq_getElem_cons hlt,fieldV]at hQ
  simp (disch:=omega)only[↓pa,pb,pmy,↓reduceIte,Nat.reduceEqDiff,Nat.reduceAdd,Nat.reduceLeDiff,f1,f7,f9,h1,partP_fs hlt]
  refine Cnd_intro (fun h2=>?_) (fun h2=>?_)
  ·rw[if_pos h2]at hQ
   simp (disch:=omega)only[↓pa,pb,pmy,↓reduceIte,Nat.reduceEqDiff,Nat.reduceAdd,h2]
   rw[←hQ]
  ·rw[if_neg h2]at hQ
   simp (disch:=omega)only[↓pa,pb,natP,↓reduceIte,Nat.reduceEqDiff,f1,f7,f8,f9,h2]
   exact⟨l.length- (i+1),by omega,i+1,rfl,by omega,rfl,hQ⟩
 ·have:i=l.length:=by omega
  rw[this,List.drop_length]at hQ
  simp (disch:=omega)only[↓pa,pb,↓reduceIte,h1]
  rw[←hQ];rfl
theorem c_numT(K:Env cf){n:Int}(h1: -9223372036854775808≤n)(h2:n≤9223372036854775807):callP cf 105 [I n] [] st=some (S (itoa n),st):=by
 refine c_val K.tab (F:=F105) (t:=2) rfl rfl rfl (lb rfl) (by simp[plainV_int]) (bare_str _) 1 ?_
 have hf:=fun st=>c_fmt (st:=st) K h1 h2
 unfold F105 qr qm qc qo
 simp (disch:=omega)only[↓pa,pb,↓reduceIte,reduceCtorEq,hf]
end Go.PM
namespace Go.PM
theorem sLt_nil(a:List UInt8):sLt a []=false:=by cases a<;>rfl
theorem sLt_nil_cons(b:UInt8)(l:List UInt8):sLt [] (b::l)=true:=rfl
theorem sLt_cons(a b:UInt8)(l m:List UInt8):sLt (a::l) (b::m)=(decide (a<b)||(a==b && sLt l m)):=rfl
theorem sLt_irrefl:∀ a:List UInt8,sLt a a=false
 | []=>rfl
 |a::l=>by rw[sLt_cons,sLt_irrefl l];simp
theorem sLt_trans:∀ {a b c:List UInt8},sLt a b=true→sLt b c=true→sLt a c=true
 |_,[],_,h,_=>by rw[sLt_nil]at h;cases h
 |_,_::_,[],_,h=>by rw[sLt_nil]at h;cases h
 | [],_::_,_::_,_,_=>rfl
 |a::l,b::m,c::n,h1,h2=>by
  rw[sLt_cons]at h1 h2 ⊢
  simp only[Bool.or_eq_true,decide_eq_true_eq,Bool.and_eq_true,beq_iff_eq]at h1 h2 ⊢
  rcases h1 with h1|⟨rfl,h1⟩
  ·rcases h2 with h2|⟨rfl,h2⟩
   ·exact .inl (UInt8.lt_trans h1 h2)
   ·exact .inl h1
  ·rcases h2 with h2|⟨rfl,h2⟩
   ·exact .inl h2
   ·exact .inr ⟨rfl,sLt_trans h1 h2⟩
theorem sLt_total:∀ {a b:List UInt8},sLt a b=false→sLt b a=false→a=b
 | [],[],_,_=>rfl
 | [],_::_,h,_=>by rw[sLt_nil_cons]at h;cases h
 |_::_,[],_,h=>by rw[sLt_nil_cons]at h;cases h
 |a::l,b::m,h1,h2=>by
  rw[sLt_cons]at h1 h2
  simp only[Bool.or_eq_false_iff,decide_eq_false_iff_not]at h1 h2
  have hab:a=b:=by
   have e1:=UInt8.not_lt.1 h1.1
   have e2:=UInt8.not_lt.1 h2.1
   exact UInt8.le_antisymm e2 e1
  subst hab
  simp only[beq_self_eq_true,Bool.true_and]at h1 h2
  rw[sLt_total h1.2 h2.2]
theorem sLt_asymm{a b:List UInt8}(h:sLt a b=true):sLt b a=false:=by
 cases h2:sLt b a with
 |false=>rfl
 |true=>rw[←sLt_irrefl a,←sLt_trans h h2]
def insT(x:List UInt8):List (List UInt8)→List (List UInt8)
 | []=>[x]
 |y::l=>if sLt y x=true then y::insT x l else if y=x then y::l else x::y::l
def inOrder(l:List (List UInt8)):Prop:=l.Pairwise fun a b=>sLt a b=true
theorem mem_insT{x y:List UInt8}:∀ {l:List (List UInt8)},y∈insT x l↔y=x∨y∈l
 | []=>by simp[insT]
 |z::l=>by
  rw[insT]
  split
  ·rw[List.mem_cons,mem_insT (l:=l),List.mem_cons]
   constructor
   ·rintro(h|h|h)<;>simp[h]
   ·rintro(h|h|h)<;>simp[h]
  ·split
   ·rename_i e;subst e;simp
   ·simp
theorem insT_order{x:List UInt8}:∀ {l:List (List UInt8)},inOrder l→inOrder (insT x l)
 | [],_=>List.pairwise_singleton _ _
 |y::l,h=>by
  have h2:=List.pairwise_cons.1 h
  rw[insT]
  split
  ·rename_i hy
   refine List.pairwise_cons.2 ⟨fun z hz=>?_,insT_order h2.2⟩
   rcases mem_insT.1 hz with rfl|hz
   ·exact hy
   ·exact h2.1 z hz
  ·rename_i hy
   split
   ·exact h
   ·rename_i hne
    have hxy:sLt x y=true:=by
     cases hc:sLt x y with
     |true=>rfl
     |false=>exact absurd (sLt_total (by simpa using hy) hc) hne
    refine List.pairwise_cons.2 ⟨fun z hz=>?_,h⟩
    rcases List.mem_cons.1 hz with rfl|hz
    ·exact hxy
    ·exact sLt_trans hxy (h2.1 z hz)
theorem order_ext:∀ {a b:List (List UInt8)},inOrder a→inOrder b→(∀ x,x∈a↔x∈b)→a=b
 | [],[],_,_,_=>rfl
 | [],y::b,_,_,h=>by have:=(h y).2 List.mem_cons_self;simp at this
 |x::a,[],_,_,h=>by have:=(h x).1 List.mem_cons_self;simp at this
 |x::a,y::b,ha,hb,h=>by
  have ha2:=List.pairwise_cons.1 ha
  have hb2:=List.pairwise_cons.1 hb
  have hxy:x=y:=by
   rcases List.mem_cons.1 ((h x).1 List.mem_cons_self)with e|hx
   ·exact e
   ·rcases List.mem_cons.1 ((h y).2 List.mem_cons_self)with e|hy
    ·exact e.symm
    ·have h1:=sLt_asymm (ha2.1 y hy)
     rw[hb2.1 x hx]at h1;cases h1
  subst hxy
  rw[order_ext ha2.2 hb2.2 fun z=>?_]
  constructor
  ·intro hz
   rcases List.mem_cons.1 ((h z).1 (List.mem_cons_of_mem _ hz))with e|hz'
   ·subst e;have:=ha2.1 z hz;rw[sLt_irrefl]at this;cases this
   ·exact hz'
  ·intro hz
   rcases List.mem_cons.1 ((h z).2 (List.mem_cons_of_mem _ hz))with e|hz'
   ·subst e;have:=hb2.1 z hz;rw[sLt_irrefl]at this;cases this
   ·exact hz'
theorem insT_left{x:List UInt8}:∀ {l:List (List UInt8)} {k:Nat},k≤l.length→(∀ j (h:j<l.length),j<k→sLt l[j] x=true)→(∀ h:k<l.length,sLt l[k] x=false)→
  (∀ h:k<l.length,l[k]=x→insT x l=l)∧((∀ h:k<l.length,l[k]≠x)→insT x l=l.take k++x::l.drop k)
 | [],k,hk,_,_=>by
  have:k=0:=by simpa using hk
  subst this
  exact⟨fun h=>by simp at h,fun _=>rfl⟩
 |y::l,0,_,_,h2=>by
  have hy:=h2 (by simp)
  have hy:sLt y x=false:=hy
  rw[insT,if_neg (by rw[hy];simp)]
  refine⟨fun _ e=>?_,fun hne=>?_⟩
  ·have e:y=x:=e
   rw[if_pos e]
  ·have hne:y≠x:=hne (by simp)
   rw[if_neg hne];rfl
 |y::l,k+1,hk,h1,h2=>by
  have hy:sLt y x=true:=h1 0 (by simp) (by omega)
  obtain⟨i1,i2⟩:=insT_left (x:=x) (l:=l) (k:=k) (by simpa using hk) (fun j h hj=>by have:=h1 (j+1) (by simpa using h) (by omega);simpa using this) (fun h=>by have:=h2 (by simpa using h);simpa using this)
  rw[insT,if_pos hy]
  refine⟨fun h e=>?_,fun hne=>?_⟩
  ·rw[i1 (by simpa using h) (by simpa using e)]
  ·rw[i2 fun h=>by have:=hne (by simpa using h);simpa using this];rfl
theorem insT_right{x:List UInt8}:∀ {l:List (List UInt8)} {k:Nat},inOrder l→x∉l→k≤l.length→(∀ j (h:j<l.length),k≤j→sLt x l[j]=true)→(k=0∨∃ h:k-1<l.length,sLt x l[k-1]=false)→insT x l=l.take k++x::l.drop k
 | [],k,_,_,hk,_,_=>by
  have:k=0:=by simpa using hk
  subst this;rfl
 |y::l,k,ho,hn,hk,h1,h2=>by
  have ho2:=List.pairwise_cons.1 ho
  have hne:y≠x:=fun e=>hn (by rw[e];exact List.mem_cons_self)
  rw[insT]
  by_cases hy:sLt y x=true
  ·rw[if_pos hy]
   cases k with
   |zero=>have:=h1 0 (by simp) (Nat.le_refl _);have:=sLt_asymm hy;simp_all
   |succ k=>
    rw[insT_right (k:=k) ho2.2 (fun h=>hn (List.mem_cons_of_mem _ h)) (by simpa using hk) (fun j h hj=>by have:=h1 (j+1) (by simpa using h) (by omega);simpa using this) ?_]
    ·rfl
    ·rcases Nat.eq_zero_or_pos k with h0|h0
     ·exact .inl h0
     ·right
      obtain⟨h,h3⟩:=h2.resolve_left (by omega)
      refine⟨by simp at hk;omega,?_⟩
      have e:(y::l)[k+1-1]=l[k-1]'(by simp at hk;omega):=by
       have:k=(k-1)+1:=by omega
       simp only[Nat.add_sub_cancel]
       conv=>lhs;arg 2;rw[this]
       rfl
      rw[e]at h3;exact h3
  ·have hxy:sLt x y=true:=by
    cases hc:sLt x y with
    |true=>rfl
    |false=>exact absurd (sLt_total (by simpa using hy) hc) hne
   rw[if_neg hy,if_neg hne]
   have hk0:k=0:=by
    rcases h2 with h|⟨h,h3⟩
    ·exact h
    ·exfalso
     rcases Nat.eq_zero_or_pos (k-1)with h0|h0
     ·simp only[h0,List.getElem_cons_zero]at h3;rw[hxy]at h3;cases h3
     ·have:(y::l)[k-1]∈l:=by
       have e:k-1=(k-1-1)+1:=by omega
       have h':k-1-1<l.length:=by simp at h;omega
       have:(y::l)[k-1]=l[k-1-1]:=by
        conv=>lhs;arg 2;rw[e]
        rfl
       rw[this];exact List.getElem_mem h'
      rw[sLt_trans hxy (ho2.1 _ this)]at h3;cases h3
   subst hk0
   rfl
def sortT(l:List (List UInt8)):List (List UInt8):=l.foldl (fun o x=>insT x o) []
theorem fold_order:∀ (l o:List (List UInt8)),inOrder o→inOrder (l.foldl (fun o x=>insT x o) o)
 | [],_,h=>h
 |_::l,_,h=>fold_order l _ (insT_order h)
theorem mem_fold{y:List UInt8}:∀ {l o:List (List UInt8)},y∈l.foldl (fun o x=>insT x o) o↔y∈l∨y∈o
 | [],o=>by simp
 |x::l,o=>by
  rw[List.foldl_cons,mem_fold (l:=l),mem_insT,List.mem_cons]
  constructor
  ·rintro(h|h|h)<;>simp[h]
  ·rintro((h|h)|h)<;>simp[h]
theorem sortT_order(l:List (List UInt8)):inOrder (sortT l):=fold_order l [] List.Pairwise.nil
theorem mem_sortT{y:List UInt8}{l:List (List UInt8)}:y∈sortT l↔y∈l:=by simp[sortT,mem_fold]
theorem insT_len{x:List UInt8}:∀ {l:List (List UInt8)},(insT x l).length≤l.length+1
 | []=>by simp[insT]
 |y::l=>by
  rw[insT]
  split
  ·have:=insT_len (x:=x) (l:=l);simp;omega
  ·split<;>simp
theorem fold_len:∀ {l o:List (List UInt8)},(l.foldl (fun o x=>insT x o) o).length≤l.length+o.length
 | [],o=>by simp
 |x::l,o=>by
  have h1:=fold_len (l:=l) (o:=insT x o)
  have h2:=insT_len (x:=x) (l:=o)
  rw[List.foldl_cons,List.length_cons];omega
theorem sortT_len(l:List (List UInt8)):(sortT l).length≤l.length:=by have:=fold_len (l:=l) (o:=[]);simpa [sortT]using this
theorem sortT_snoc(l:List (List UInt8))(x:List UInt8):sortT (l++[x])=insT x (sortT l):=by simp[sortT,List.foldl_append]
structure Ch where
 kind:Int
 node:Nd
 edge:Eg
 value:List UInt8
 name:List UInt8
 text:List UInt8
def nd0:Nd:=⟨0,[],[]⟩
def eg0:Eg:=⟨0,[],0,0,[]⟩
def chF(what n v:List UInt8):Ch:=⟨6,nd0,eg0,what,n,v⟩
def namesP(a b:List Fd):List (List UInt8):=(b.map (·.1)).foldl (fun o x=>insT x o) (sortT (a.map (·.1)))
def fcP1(goes:Bool)(what:List UInt8)(a b:List Fd)(s:List UInt8):List Ch:=if fieldV b s≠fieldV a s∧decide (fieldV b s=nullT)=goes then [chF what s (fieldV b s)]else []
def fcP(what:List UInt8)(a b:List Fd):List Ch:=(namesP a b).flatMap (fcP1 true what a b)++(namesP a b).flatMap (fcP1 false what a b)
def moreS(a b:List Fd):List (List UInt8):=(b.map (·.1)).filter fun n=>decide (fieldV a n=nullT)
def namesS(a b:List Fd):List (List UInt8):=sortT (a.map (·.1)++moreS a b)
def fcG1(what:List UInt8)(b:List Fd)(s:List UInt8):List Ch:=if fieldV b s=nullT then [chF what s (fieldV b s)]else []
def fcO1(what:List UInt8)(a b:List Fd)(s:List UInt8):List Ch:=if fieldV b s=nullT then []else if fieldV b s≠fieldV a s then [chF what s (fieldV b s)]else []
def fcS(what:List UInt8)(a b:List Fd):List Ch:=(namesS a b).flatMap (fcG1 what b)++(namesS a b).flatMap (fcO1 what a b)
structure FdOk (l:List Fd):Prop where
 ord:inOrder (l.map (·.1))
 val:∀ f∈l,f.2≠nullT
theorem fieldV_mem:∀ {l:List Fd} {n:List UInt8},n∈l.map (·.1)→∃ f∈l,fieldV l n=f.2
 | [],_,h=>by simp at h
 |f::l,n,h=>by
  rw[fieldV]
  by_cases e:f.1=n
  ·rw[if_pos e];exact⟨f,List.mem_cons_self,rfl⟩
  ·rw[if_neg e]
   obtain⟨g,hg,h2⟩:=fieldV_mem (l:=l) (n:=n) (by
    rw[List.map_cons,List.mem_cons]at h
    exact h.resolve_left fun x=>e x.symm)
   exact⟨g,List.mem_cons_of_mem _ hg,h2⟩
theorem fieldV_not:∀ {l:List Fd} {n:List UInt8},n∉l.map (·.1)→fieldV l n=nullT
 | [],_,_=>rfl
 |f::l,n,h=>by
  rw[List.map_cons,List.mem_cons,not_or]at h
  rw[fieldV,if_neg fun e=>h.1 e.symm,fieldV_not h.2]
theorem fieldV_iff{l:List Fd}(h:FdOk l){n:List UInt8}:fieldV l n=nullT↔n∉l.map (·.1):=by
 constructor
 ·intro e hm
  obtain⟨f,hf,h2⟩:=fieldV_mem hm
  exact h.val f hf (h2.symm.trans e)
 ·exact fieldV_not
theorem names_same{a b:List Fd}(ha:FdOk a):namesS a b=namesP a b:=by
 refine order_ext (sortT_order _) (fold_order _ _ (sortT_order _)) fun x=>?_
 rw[namesS,mem_sortT,namesP,mem_fold,mem_sortT,List.mem_append,moreS,List.mem_filter,decide_eq_true_eq,fieldV_iff ha]
 constructor
 ·rintro(h|h)
  ·exact .inr h
  ·exact .inl h.1
 ·rintro(h|h)
  ·by_cases hx:x∈a.map (·.1)
   ·exact .inl hx
   ·exact .inr ⟨h,hx⟩
  ·exact .inl h
theorem fc_same{what:List UInt8}{a b:List Fd}(ha:FdOk a)(hb:FdOk b):fcS what a b=fcP what a b:=by
 rw[fcS,fcP,names_same ha]
 have h0:∀ s∈namesP a b,fieldV b s=nullT→fieldV b s≠fieldV a s:=by
  intro s hs h e
  have hm:s∈a.map (·.1):=by
   rw[namesP,mem_fold,mem_sortT]at hs
   exact hs.resolve_left ((fieldV_iff hb).1 h)
  exact(fieldV_iff ha).1 (by rw[←e];exact h) hm
 have e1:(namesP a b).flatMap (fcG1 what b)=(namesP a b).flatMap (fcP1 true what a b):=by
  rw[List.flatMap_def,List.flatMap_def]
  congr 1
  refine List.map_congr_left fun s hs=>?_
  unfold fcG1 fcP1
  by_cases h:fieldV b s=nullT
  ·rw[if_pos h,if_pos ⟨h0 s hs h,by simp[h]⟩]
  ·rw[if_neg h,if_neg (by simp[h])]
 have e2:(namesP a b).flatMap (fcO1 what a b)=(namesP a b).flatMap (fcP1 false what a b):=by
  rw[List.flatMap_def,List.flatMap_def]
  congr 1
  refine List.map_congr_left fun s hs=>?_
  unfold fcO1 fcP1
  by_cases h:fieldV b s=nullT
  ·rw[if_pos h,if_neg (by simp[h])]
  ·rw[if_neg h]
   by_cases h2:fieldV b s=fieldV a s
   ·rw[if_neg (by simp[h2]),if_neg (by simp[h2])]
   ·rw[if_pos h2,if_pos ⟨h2,by simp[h]⟩]
 rw[e1,e2]
end Go.PM
