/- A part of the proof: texts PgR, PgS, PgT, PgU, PgV, PgW, PgX, PgY, PgZ, PhA, PhB, PhC, PhD, PhE, PhF, PhG, PhH, PhI, PhJ, PhK, PhL, PhM, PhN, PhO, PhP, PhQ, joined. Conditions: none. -/
import Derived.Test.YtdpamjikmlbmhaaGreatDoorPE
namespace Go.PM
open Go.Lib
variable {cf:CallF} {st:St} {mk:PV→St→Fr×St} {A:Fr×St→Prop} {s:Nat}
theorem tAt_old{ns:List (List UInt8)}{x:List UInt8}{i:Nat}(h:i<ns.length):tAt (ns++[x]) i=tAt ns i:=by
 unfold tAt
 rw[List.getD_eq_getElem?_getD,List.getD_eq_getElem?_getD,List.getElem?_append_left h]
theorem tAt_new{ns:List (List UInt8)}{x:List UInt8}:tAt (ns++[x]) ns.length=x:=by
 unfold tAt
 rw[List.getD_eq_getElem?_getD];simp
theorem rising_snoc(ns:List (List UInt8))(x:List UInt8):rising (ns++[x])=(rising ns && (decide (ns.length=0)||sLt (tAt ns (ns.length-1)) x)):=by
 have hlen:(ns++[x]).length=ns.length+1:=by simp
 have hold:∀ i,i<ns.length→rises (ns++[x]) i=rises ns i:=fun i hi=>by
  unfold rises
  rw[tAt_old hi]
  by_cases h0:i=0
  ·simp[h0]
  ·rw[tAt_old (show i-1<ns.length by omega)]
 have hnew:rises (ns++[x]) ns.length=(decide (ns.length=0)||sLt (tAt ns (ns.length-1)) x):=by
  unfold rises
  rw[tAt_new]
  by_cases h0:ns.length=0
  ·simp[h0]
  ·rw[tAt_old (show ns.length-1<ns.length by omega)]
 rw[Bool.eq_iff_iff,Bool.and_eq_true,rising,rising,hlen,alln_iff,alln_iff,←hnew]
 constructor
 ·intro h
  exact⟨fun j hj=>by rw[←hold j hj];exact h j (by omega),h _ (by omega)⟩
 ·rintro⟨h1,h2⟩ j hj
  by_cases hjn:j=ns.length
  ·rw[hjn];exact h2
  ·rw[hold j (by omega)];exact h1 j (by omega)
theorem rising_part{ns:List (List UInt8)}{x:List UInt8}(h:rising ns=false):rising (ns++[x])=false:=by rw[rising_snoc,h];rfl
theorem map_in{t:List UInt8}{rd:Nat→Option (V×Nat)}{n j:Nat}{ns:List (List UInt8)}{acc:List V}(hn:0<n):mapGo t rd n j ns acc=match pname t j with
  |some (x,j)=>if cI t j=58 then match rd (j+1)with
   |some (v,j)=>
    if cI t j=125 then(if rising (ns++[x])then some (.mk 7 0 0 [] (ns++[x]) (acc++[v]),j+1)else none)
    else if cI t j=44 then mapGo t rd (n-1) (j+1) (ns++[x]) (acc++[v])
    else none
   |none=>none
   else none
  |none=>none:=by
 obtain⟨m,rfl⟩:∃ m,n=m+1:=⟨n-1,by omega⟩
 rw[mapGo];rfl
theorem map_bad{t:List UInt8}{rd:Nat→Option (V×Nat)}:∀ (n j:Nat) (ns:List (List UInt8)) (acc:List V),rising ns=false→mapGo t rd n j ns acc=none
 |0,_,_,_,_=>rfl
 |n+1,j,ns,acc,h=>by
  have ih:=fun j acc x=>map_bad (t:=t) (rd:=rd) n j (ns++[x]) acc (rising_part h)
  rw[mapGo]
  split
  ·split
   ·split
    ·split
     ·rw[if_neg (by rw[rising_part h];simp)]
     ·split
      ·exact ih _ _ _
      ·rfl
    ·rfl
   ·rfl
  ·rfl
theorem apartT_symm{t u:Tok}(h:apartT t u):apartT u t:=by
 cases t<;>cases u<;>first|exact trivial|exact fun e=>h e.symm
theorem tx_snoc(ns:List (List UInt8))(x:List UInt8):ns.map S++[S x]=(ns++[x]).map S:=by simp
theorem ns_len{ns:List (List UInt8)}{x:List UInt8}:(ns++[x]).length=ns.length+1:=by simp
theorem map_val{ns:List (List UInt8)}{x:List UInt8}{acc:List V}{v:V}:PV.agg [I 7,I 0,I 0,S [],.list (ns.length+1) ((ns++[x]).map S) .no,.list (acc.length+1) (V.cas (acc++[v])) .no]=VA (.mk 7 0 0 [] (ns++[x]) (acc++[v])):=by
 rw[VA,V.ca,app_len,ns_len]
theorem RunsTo_app2{e e2 sz bytes n n2 m:Nat}{cs ds:List PV}{tk u w:Tok}(h:Gr e st.nx st.cnt n tk)(h1:cs.length=n*sz)(h2:ds.length=m*sz)(h3:(n+m) *bytes≤140737488355328)(h4:n+m≤140737488355328)(h5:0<sz)
  (h':Gr e2 st.nx st.cnt n2 u) (ha:apartT tk u) (k:∀ st' t',st'.objs=st.objs→Gr e st'.nx st'.cnt (n+m) t'→Gr e2 st'.nx st'.cnt n2 u→apartT t' u→A (mk (.list (n+m) (cs++ds) t') st')):RunsTo (appP e sz bytes (.list n cs tk) (.list m ds w) st) mk A:=by
 rw[appP_ok h h1 h2 h3 h4 h5,RunsTo_some]
 exact k _ _ appS_objs (Gr_app h) (Gr_other h h' ha).1 (Gr_other (m:=n+m) h h' ha).2
set_option maxHeartbeats 2000000 in
theorem c_map0(K:Env cf){t:List UInt8}{i:Nat}(hs:st.objs s=some [S t,I i])(hi:i≤t.length)(hl:t.length≤2000000)(h123:cI t i=123):
  ∃ r c',OutI t VA none is6 r c'∧∃ fl,callP cf 224 [.ptr s 0,I 5] [] st=some (r,setF (setO st s c') fl):=by
 refine c_ptrE K.tab (F:=F224) rfl rfl rfl (lb rfl) (lb rfl) (by simp[plainV_int]) hs (plainVs_rd t i) 1 ?_
 unfold F224 qr qd qm qc qk ql qf qo qe qN
 have hlt:=cI_in (show cI t i≠0 by rw[h123];decide)
 simp (disch:=omega)only[↓pa,↓pmx,pb,pmy,↓reduceIte,Nat.reduceEqDiff,Nat.reduceAdd,Nat.reduceLeDiff,reduceCtorEq]
 refine(rt_eat1 K (t:=t) (i:=i) 123 rfl (by decide) (by simp only[pb,↓reduceIte,reduceCtorEq]) hi hl).2 ?_
 simp (disch:=omega)only[↓pa,pb,pmy,↓reduceIte,Nat.reduceEqDiff,Nat.reduceAdd,Nat.reduceLeDiff,reduceCtorEq,h123]
 simp (disch:=omega)only[↓pa,pb,pmy,pmz,↓reduceIte,Nat.reduceEqDiff,Nat.reduceAdd,Nat.reduceLeDiff,reduceCtorEq]
 exact OutI_none rfl ⟨_,rfl,rfl,by simp only[pmz,Bool.and_self],by simp only[pmz]⟩ rfl rfl hlt
set_option maxHeartbeats 4000000 in
theorem c_map(K:Env cf){t:List UInt8}{i b:Nat}(hs:st.objs s=some [S t,I i])(hi:i≤t.length)(hl:t.length≤2000000)(hb:b<5)(h123:cI t i=123)(ih:ValOk cf t b):
  ∃ r c',OutI t VA (pmap t (pval t b) (i+1)) is6 r c'∧∃ fl,callP cf 224 [.ptr s 0,I (5- ((b+1:Nat):Int))] [] st=some (r,setF (setO st s c') fl):=by
 refine c_ptrE K.tab (F:=F224) rfl rfl rfl (lb rfl) (lb rfl) (by simp[plainV_int]) hs (plainVs_rd t i) (t.length+1) ?_
 unfold F224 qr qd qm qc qk ql qf qo qe qN
 have hlt:=cI_in (show cI t i≠0 by rw[h123];decide)
 have hd5:¬ (5- ((b+1:Nat):Int)=5):=by omega
 have hdd:5- ((b+1:Nat):Int)+1=5- (b:Int):=by omega
 revert hd5 hdd
 generalize hdp:5- ((b+1:Nat):Int)=dp
 intro hd5 hdd
 simp (disch:=omega)only[↓pa,↓pmx,pb,pmy,↓reduceIte,Nat.reduceEqDiff,Nat.reduceAdd,Nat.reduceLeDiff,reduceCtorEq]
 refine(rt_eat1 K (t:=t) (i:=i) 123 rfl (by decide) (by simp only[pb,↓reduceIte,reduceCtorEq]) hi hl).2 ?_
 simp (disch:=omega)only[↓pa,pb,↓reduceIte,Nat.reduceEqDiff,reduceCtorEq,h123,hd5]
 refine(rt_eat1 K (t:=t) (i:=i+1) 125 rfl (by decide) (by simp only[pb,↓reduceIte]) hlt hl).2 ?_
 refine Cnd_intro (fun h125=>?_) (fun h125=>?_)
 ·have hlt2:=cI_in (show cI t (i+1)≠0 by rw[h125];decide)
  simp (disch:=omega)only[↓pa,pb,pmy,pmz,↓reduceIte,Nat.reduceEqDiff,Nat.reduceAdd,Nat.reduceLeDiff,reduceCtorEq]
  exact OutI_val (by rw[pmap,if_pos h125]) (by rfl) rfl hlt2
 have hP:pmap t (pval t b) (i+1)=mapGo t (pval t b) (t.length+1- (i+1)) (i+1) [] []:=by rw[pmap,if_neg h125]
 simp (disch:=omega)only[↓pa,pb,↓reduceIte]
 refine Wp_rounds (fun k fr st=>∃ (j n:Nat) (ns:List (List UInt8)) (acc:List V) (tok tok2:Tok),k=t.length-j∧j≤t.length∧acc.length≤j∧ns.length=acc.length∧t.length-j<n∧rising ns=true∧fr 0= .ptr 0 0∧fr 1=I dp∧fr 4= .ptr 4 0∧fr 6= .ptr 6 0∧st.objs 0=some [S t,I j]∧st.objs 4=some [I 0,I 0,I 0,S [],.list 0 [] .nil,.list 0 [] .nil]∧
  st.objs 6=some [I 7,I 0,I 0,S [],.list ns.length (ns.map S) tok,.list acc.length (V.cas acc) tok2]∧Gr 9 st.nx st.cnt ns.length tok∧Gr 204 st.nx st.cnt acc.length tok2∧apartT tok tok2∧mapGo t (pval t b) n j ns acc=pmap t (pval t b) (i+1)) (t.length- (i+1)) (by omega)
  ⟨i+1,t.length+1- (i+1),[],[],.nil,.nil,rfl,by omega,Nat.zero_le _,rfl,by omega,rfl,by simp (disch:=omega)only[↓pa,pb,↓reduceIte,reduceCtorEq],by simp (disch:=omega)only[↓pa,pb,↓reduceIte,Nat.reduceEqDiff],by simp (disch:=omega)only[↓pa,pb,↓reduceIte,Nat.reduceEqDiff],by simp (disch:=omega)only[↓pa,↓reduceIte,Nat.reduceEqDiff],by simp (disch:=omega)only[pb,↓reduceIte],by simp (disch:=omega)only[pb,↓reduceIte,Nat.reduceEqDiff,reduceCtorEq],by simp (disch:=omega)only[pb,↓reduceIte,reduceCtorEq];rfl,rfl,rfl,trivial,hP.symm⟩ ?_
 rintro k fr st ⟨j,n,ns,acc,tok,tok2,rfl,hj,hacc,hnl,hn,hris,f0,f1,f4,f6,o0,o4,o6,hG,hG2,hap,hQ⟩
 have hm:(ns.map S).length=ns.length:=List.length_map _
 rw[map_in (by omega)]at hQ
 simp (disch:=omega)only[↓pa,pb,↓reduceIte,f0]
 refine RunsTo_I (c_nameR K (t:=t) (i:=j) (by simp only[o0]) hj hl) (fun x j1 fl hx hj1=>?_) (fun p j1 fl hx hp hj1=>?_)
 rotate_left
 ·obtain⟨l,rfl⟩:=hp
  have hno:pmap t (pval t b) (i+1)=none:=by rw[←hQ,hx]
  simp (disch:=omega)only[↓pa,pb,pmy,pmz,pmV,List.getElem?_cons_zero,List.getElem?_cons_succ,↓reduceIte,Nat.reduceEqDiff,Nat.reduceAdd,Nat.reduceLeDiff,reduceCtorEq,f4,f6,o4,o6]
  exact OutI_none hno ⟨_,rfl,rfl,by simp only[pmz,pmV,Bool.and_self],by simp only[pmz,pmV]⟩ rfl rfl (by omega)
 have hm1:=pname_mono hx
 rw[hx]at hQ
 simp only at hQ
 simp (disch:=omega)only[↓pa,pb,List.getElem?_cons_zero,List.getElem?_cons_succ,↓reduceIte,Nat.reduceEqDiff,reduceCtorEq,f0]
 refine(rt_eat1 K (t:=t) (i:=j1) 58 rfl (by decide) (by simp only[pb,pmy,↓reduceIte]) hj1 hl).2 ?_
 refine Cnd_intro (fun h58=>?_) (fun h58=>?_)
 rotate_left
 ·have hno:pmap t (pval t b) (i+1)=none:=by rw[←hQ,if_neg h58]
  simp (disch:=omega)only[↓pa,pb,pmy,pmz,pmV,↓reduceIte,Nat.reduceEqDiff,Nat.reduceAdd,Nat.reduceLeDiff,reduceCtorEq,f4,f6,o4,o6]
  exact OutI_none hno ⟨_,rfl,rfl,by simp only[pmz,pmV,Bool.and_self],by simp only[pmz,pmV]⟩ rfl rfl (by omega)
 rw[if_pos h58]at hQ
 have hj58:=cI_in (show cI t j1≠0 by rw[h58];decide)
 have hrs:=rising_snoc ns x
 rw[hris,Bool.true_and]at hrs
 simp (disch:=omega)only[↓pa,pb,pmy,↓reduceIte,Nat.reduceEqDiff,Nat.reduceAdd,reduceCtorEq,f6,o6]
 by_cases hup:rising (ns++[x])=true
 rotate_left
 ·have hup:rising (ns++[x])=false:=by simpa using hup
  have hno:pmap t (pval t b) (i+1)=none:=by
   rw[←hQ]
   split
   ·split
    ·first|rfl|rw[if_neg (by rw[hup];simp)]
    ·split
     ·exact map_bad _ _ _ _ hup
     ·rfl
   ·rfl
  rw[hup]at hrs
  have hrs:=hrs.symm
  rw[Bool.or_eq_false_iff]at hrs
  have hpos:0<ns.length:=by have:=hrs.1;simp only[decide_eq_false_iff_not]at this;omega
  have hpos':(0:Int)<(ns.length:Int):=by omega
  have hidx:((ns.length:Int) -1).toNat=ns.length-1:=by omega
  simp (disch:=omega)only[↓pa,pb,pmy,↓reduceIte,Nat.reduceEqDiff,Nat.reduceAdd,Nat.reduceLeDiff,reduceCtorEq,f4,f6,o4,o6,hpos',hidx,Nat.mul_one,partP_tx (show ns.length-1<ns.length by omega),hrs.2]
  simp (disch:=omega)only[↓pa,pb,pmy,pmz,pmV,↓reduceIte,Nat.reduceEqDiff,Nat.reduceAdd,Nat.reduceLeDiff,reduceCtorEq,f4]
  exact OutI_none hno ⟨_,rfl,rfl,by simp only[pmz,pmV,Bool.and_self],by simp only[pmz,pmV]⟩ rfl rfl (by omega)
 rw[hup]at hrs
 have hrs:=hrs.symm
 by_cases hz:ns.length=0
 ·have hz':¬ (0:Int)<(ns.length:Int):=by omega
  have hz'':¬0<ns.length:=by omega
  simp (disch:=omega)only[↓pa,pb,↓reduceIte,Nat.reduceEqDiff,reduceCtorEq,f0,f1,hz',hdd]
  refine RunsTo_I (ih _ 0 (j1+1) (by simp only[pb,↓reduceIte]) hj58) (fun v j2 fl hv hj2=>?_) (fun p j2 fl hv hp hj2=>?_)
  rotate_left
  ·obtain⟨cs,rfl,hcs,hcn,hct⟩:=hp
   have hno:pmap t (pval t b) (i+1)=none:=by rw[←hQ,hv]
   simp (disch:=omega)only[↓pa,pb,pmy,pmz,pmV,List.getElem?_cons_zero,List.getElem?_cons_succ,↓reduceIte,Nat.reduceEqDiff,Nat.reduceAdd,Nat.reduceLeDiff,reduceCtorEq,f4,f6,o4,o6,hcs,put6]
   exact OutI_none hno ⟨_,rfl,rfl,by simp only[pmz,pmV,Bool.and_self],by simp only[pmz,pmV]⟩ rfl rfl hj2
  have hm2:=pval_mono _ _ _ _ hv
  have hvl:=v.ca_len
  rw[hv]at hQ
  simp only at hQ
  simp (disch:=omega)only[↓pa,↓pmx,pb,pmy,List.getElem?_cons_zero,List.getElem?_cons_succ,↓reduceIte,Nat.reduceEqDiff,Nat.reduceAdd,Nat.reduceLeDiff,Nat.reduceLT,reduceCtorEq,f6,o6,hvl,put6]
  refine RunsTo_app2 (n:=ns.length) (m:=1) (e2:=204) (n2:=acc.length) (u:=tok2) hG (by rw[hm];omega) rfl (by omega) (by omega) (by decide) hG2 hap (fun st1 tok' ho hG' hG2' hap'=>?_)
  rw[tx_snoc]
  simp (disch:=omega)only[↓pa,↓pmx,pb,pmy,↓reduceIte,Nat.reduceEqDiff,Nat.reduceAdd,Nat.reduceLeDiff,Nat.reduceLT,reduceCtorEq,f6,o6,hvl,put6,take6,ho]
  refine RunsTo_app2 (n:=acc.length) (m:=1) (e2:=9) (n2:=ns.length+1) (u:=tok') hG2' (by rw[V.cas_len]) (by rw[hvl]) (by omega) (by omega) (by decide) hG' (apartT_symm hap') (fun st2 tok2' ho2 hG2'' hG'' hap''=>?_)
  rw[V.cas_snoc]
  simp (disch:=omega)only[↓pa,pb,pmy,↓reduceIte,Nat.reduceEqDiff,Nat.reduceAdd,Nat.reduceLeDiff,reduceCtorEq,f0,f6,ho2]
  refine(rt_eat1 K (t:=t) (i:=j2) 125 rfl (by decide) (by simp only[pb,pmy,↓reduceIte,reduceCtorEq,ho,ho2]) hj2 hl).2 ?_
  refine Cnd_intro (fun k1=>?_) (fun k1=>?_)
  ·rw[if_pos k1,if_pos hup]at hQ
   have hjl:=cI_in (show cI t j2≠0 by rw[k1];decide)
   simp (disch:=omega)only[↓pa,pb,pmy,pmz,pmV,↓reduceIte,Nat.reduceEqDiff,Nat.reduceAdd,Nat.reduceLeDiff,reduceCtorEq,f4,f6,o4,ho,ho2]
   rw[map_val]
   exact OutI_val hQ.symm rfl rfl hjl
  rw[if_neg k1]at hQ
  simp (disch:=omega)only[↓pa,pb,↓reduceIte,reduceCtorEq,f0]
  refine(rt_eat1 K (t:=t) (i:=j2) 44 rfl (by decide) (by simp only[pb,pmy,↓reduceIte,reduceCtorEq,ho,ho2]) hj2 hl).2 ?_
  refine Cnd_intro (fun k2=>?_) (fun k2=>?_)
  ·rw[if_pos k2]at hQ
   have hjl:=cI_in (show cI t j2≠0 by rw[k2];decide)
   simp (disch:=omega)only[↓pa,pb,pmy,↓reduceIte,Nat.reduceEqDiff,reduceCtorEq,f0,f1,f4,f6,o4,ho,ho2]
   exact⟨t.length- (j2+1),by omega,j2+1,n-1,ns++[x],acc++[v],tok',tok2',rfl,by omega,by rw[app_len];omega,by rw[app_len,ns_len];omega,by omega,hup,rfl,by rw[app_len,ns_len],by rw[ns_len];exact hG'',by rw[app_len];exact hG2'',apartT_symm hap'',hQ⟩
  ·rw[if_neg k2]at hQ
   simp (disch:=omega)only[↓pa,pb,pmy,pmz,pmV,↓reduceIte,Nat.reduceEqDiff,Nat.reduceAdd,Nat.reduceLeDiff,reduceCtorEq,f4,f6,o4,ho,ho2]
   exact OutI_none hQ.symm ⟨_,rfl,rfl,by simp only[pmz,pmV,Bool.and_self],by simp only[pmz,pmV]⟩ rfl rfl hj2
 ·have hs1:sLt (tAt ns (ns.length-1)) x=true:=by simpa [hz]using hrs
  have hpos:0<ns.length:=by omega
  have hpos':(0:Int)<(ns.length:Int):=by omega
  have hidx:((ns.length:Int) -1).toNat=ns.length-1:=by omega
  simp (disch:=omega)only[↓pa,pb,pmy,↓reduceIte,Nat.reduceEqDiff,Nat.reduceAdd,reduceCtorEq,f0,f1,f6,o6,hpos',hidx,hdd,Nat.mul_one,partP_tx (show ns.length-1<ns.length by omega),hs1]
  refine RunsTo_I (ih _ 0 (j1+1) (by simp only[pb,↓reduceIte]) hj58) (fun v j2 fl hv hj2=>?_) (fun p j2 fl hv hp hj2=>?_)
  rotate_left
  ·obtain⟨cs,rfl,hcs,hcn,hct⟩:=hp
   have hno:pmap t (pval t b) (i+1)=none:=by rw[←hQ,hv]
   simp (disch:=omega)only[↓pa,pb,pmy,pmz,pmV,List.getElem?_cons_zero,List.getElem?_cons_succ,↓reduceIte,Nat.reduceEqDiff,Nat.reduceAdd,Nat.reduceLeDiff,reduceCtorEq,f4,f6,o4,o6,hcs,put6]
   exact OutI_none hno ⟨_,rfl,rfl,by simp only[pmz,pmV,Bool.and_self],by simp only[pmz,pmV]⟩ rfl rfl hj2
  have hm2:=pval_mono _ _ _ _ hv
  have hvl:=v.ca_len
  rw[hv]at hQ
  simp only at hQ
  simp (disch:=omega)only[↓pa,↓pmx,pb,pmy,List.getElem?_cons_zero,List.getElem?_cons_succ,↓reduceIte,Nat.reduceEqDiff,Nat.reduceAdd,Nat.reduceLeDiff,Nat.reduceLT,reduceCtorEq,f6,o6,hvl,put6]
  refine RunsTo_app2 (n:=ns.length) (m:=1) (e2:=204) (n2:=acc.length) (u:=tok2) hG (by rw[hm];omega) rfl (by omega) (by omega) (by decide) hG2 hap (fun st1 tok' ho hG' hG2' hap'=>?_)
  rw[tx_snoc]
  simp (disch:=omega)only[↓pa,↓pmx,pb,pmy,↓reduceIte,Nat.reduceEqDiff,Nat.reduceAdd,Nat.reduceLeDiff,Nat.reduceLT,reduceCtorEq,f6,o6,hvl,put6,take6,ho]
  refine RunsTo_app2 (n:=acc.length) (m:=1) (e2:=9) (n2:=ns.length+1) (u:=tok') hG2' (by rw[V.cas_len]) (by rw[hvl]) (by omega) (by omega) (by decide) hG' (apartT_symm hap') (fun st2 tok2' ho2 hG2'' hG'' hap''=>?_)
  rw[V.cas_snoc]
  simp (disch:=omega)only[↓pa,pb,pmy,↓reduceIte,Nat.reduceEqDiff,Nat.reduceAdd,Nat.reduceLeDiff,reduceCtorEq,f0,f6,ho2]
  refine(rt_eat1 K (t:=t) (i:=j2) 125 rfl (by decide) (by simp only[pb,pmy,↓reduceIte,reduceCtorEq,ho,ho2]) hj2 hl).2 ?_
  refine Cnd_intro (fun k1=>?_) (fun k1=>?_)
  ·rw[if_pos k1,if_pos hup]at hQ
   have hjl:=cI_in (show cI t j2≠0 by rw[k1];decide)
   simp (disch:=omega)only[↓pa,pb,pmy,pmz,pmV,↓reduceIte,Nat.reduceEqDiff,Nat.reduceAdd,Nat.reduceLeDiff,reduceCtorEq,f4,f6,o4,ho,ho2]
   rw[map_val]
   exact OutI_val hQ.symm rfl rfl hjl
  rw[if_neg k1]at hQ
  simp (disch:=omega)only[↓pa,pb,↓reduceIte,reduceCtorEq,f0]
  refine(rt_eat1 K (t:=t) (i:=j2) 44 rfl (by decide) (by simp only[pb,pmy,↓reduceIte,reduceCtorEq,ho,ho2]) hj2 hl).2 ?_
  refine Cnd_intro (fun k2=>?_) (fun k2=>?_)
  ·rw[if_pos k2]at hQ
   have hjl:=cI_in (show cI t j2≠0 by rw[k2];decide)
   simp (disch:=omega)only[↓pa,pb,pmy,↓reduceIte,Nat.reduceEqDiff,reduceCtorEq,f0,f1,f4,f6,o4,ho,ho2]
   exact⟨t.length- (j2+1),by omega,j2+1,n-1,ns++[x],acc++[v],tok',tok2',rfl,by omega,by rw[app_len];omega,by rw[app_len,ns_len];omega,by omega,hup,rfl,by rw[app_len,ns_len],by rw[ns_len];exact hG'',by rw[app_len];exact hG2'',apartT_symm hap'',hQ⟩
  ·rw[if_neg k2]at hQ
   simp (disch:=omega)only[↓pa,pb,pmy,pmz,pmV,↓reduceIte,Nat.reduceEqDiff,Nat.reduceAdd,Nat.reduceLeDiff,reduceCtorEq,f4,f6,o4,ho,ho2]
   exact OutI_none hQ.symm ⟨_,rfl,rfl,by simp only[pmz,pmV,Bool.and_self],by simp only[pmz,pmV]⟩ rfl rfl hj2
def plistO(t:List UInt8)(o:Option (Nat→Option (V×Nat)))(i:Nat):Option (V×Nat):=match o with
 |some rd=>plist t rd i
 |none=>none
def pmapO(t:List UInt8)(o:Option (Nat→Option (V×Nat)))(i:Nat):Option (V×Nat):=match o with
 |some rd=>pmap t rd i
 |none=>none
theorem pbody_eq(t:List UInt8)(o:Option (Nat→Option (V×Nat)))(i:Nat):pbody t o i=
 if cI t i=34 then(pquoted t (i+1)).map fun q=>(.mk 3 0 0 q.1 [] [],q.2)
 else if cI t i=64 then(pdate t (i+1)).map fun q=>(.mk 4 q.1 0 [] [] [],q.2)
 else if cI t i=45∨isD (cI t i)=true then(pint t i).map fun q=>(.mk 2 q.1 0 [] [] [],q.2)
 else if cI t i=40 then ppoint t (i+1)
 else if cI t i=91 then plistO t o (i+1)
 else if cI t i=123 then pmapO t o (i+1)
 else if cI t i=60 then ppath t (i+1)
 else if tk t i [110,117,108,108]then some (.mk 0 0 0 [] [] [],i+4)
 else if tk t i [116,114,117,101]then some (.mk 1 1 0 [] [] [],i+4)
 else if tk t i [102,97,108,115,101]then some (.mk 1 0 0 [] [] [],i+5)
 else if cI t i=110 then pthing t 8 (i+1)
 else if cI t i=101 then pthing t 9 (i+1)
 else none:=by cases o<;>rfl
theorem tk_le{t x:List UInt8}{i:Nat}(hi:i≤t.length)(h:tk t i x=true):i+x.length≤t.length:=by
 by_cases hx:t.length-i<x.length
 ·rw[tk_short hi hx]at h;cases h
 ·omega
set_option maxHeartbeats 4000000 in
theorem c_valueStep(K:Env cf){t:List UInt8}(hl:t.length≤2000000){b:Nat}{o:Option (Nat→Option (V×Nat))}(hV:∀ i,pval t b i=pbody t o i)
  (hL:∀ (st:St) (s i:Nat),st.objs s=some [S t,I i]→i≤t.length→cI t i=91→∃ r c',OutI t VA (plistO t o (i+1)) is6 r c'∧∃ fl,callP cf 223 [.ptr s 0,I (5- (b:Int))] [] st=some (r,setF (setO st s c') fl))
  (hM:∀ (st:St) (s i:Nat),st.objs s=some [S t,I i]→i≤t.length→cI t i=123→∃ r c',OutI t VA (pmapO t o (i+1)) is6 r c'∧∃ fl,callP cf 224 [.ptr s 0,I (5- (b:Int))] [] st=some (r,setF (setO st s c') fl)):ValOk cf t b:=by
 intro st s i hs hi
 revert hL hM
 generalize 5- (b:Int)=dp
 intro hL hM
 refine c_ptrE K.tab (F:=F201) rfl rfl rfl (lb rfl) (lb rfl) (by simp[plainV_int]) hs (plainVs_rd t i) 1 ?_
 unfold F201 qr qd qm qc qo qe qN
 have hp:=(hV i).trans (pbody_eq t o i)
 simp (disch:=omega)only[↓pa,pb,↓reduceIte,reduceCtorEq]
 refine(rt_peek K.tab (t:=t) (i:=i) (by simp only[pb,↓reduceIte,reduceCtorEq])).2 ?_
 simp (disch:=omega)only[↓pa,pb,↓reduceIte]
 refine Cnd_intro (fun c1=>?_) (fun c1=>?_)
 ·rw[if_pos c1]at hp
  simp (disch:=omega)only[↓pa,pb,↓reduceIte,reduceCtorEq,c1]
  refine RunsTo_I (c_quoted K (t:=t) (i:=i) (by simp only[pb,↓reduceIte,reduceCtorEq]) hi hl c1) (fun v j fl hv hj=>?_) (fun p j fl hv hx hj=>?_)
  ·rw[hv]at hp
   simp (disch:=omega)only[↓pa,↓pmx,pb,pmy,pmz,List.getElem?_cons_zero,List.getElem?_cons_succ,↓reduceIte,Nat.reduceEqDiff,Nat.reduceAdd,Nat.reduceLeDiff,reduceCtorEq]
   exact OutI_val hp rfl rfl hj
  ·obtain⟨l,rfl⟩:=hx
   rw[hv]at hp
   simp (disch:=omega)only[↓pa,↓pmx,pb,pmy,pmz,List.getElem?_cons_zero,List.getElem?_cons_succ,↓reduceIte,Nat.reduceEqDiff,Nat.reduceAdd,Nat.reduceLeDiff,reduceCtorEq]
   exact OutI_none hp ⟨_,rfl,rfl,by simp only[pmz,Bool.and_self],by simp only[pmz]⟩ rfl rfl hj
 rw[if_neg c1]at hp
 simp (disch:=omega)only[↓pa,pb,↓reduceIte,Nat.reduceEqDiff,c1]
 refine Cnd_intro (fun c2=>?_) (fun c2=>?_)
 ·rw[if_pos c2]at hp
  simp (disch:=omega)only[↓pa,pb,↓reduceIte,reduceCtorEq,c2]
  refine RunsTo_I (c_date K (t:=t) (i:=i) (by simp only[pb,↓reduceIte,reduceCtorEq]) hi hl c2) (fun v j fl hv hj=>?_) (fun p j fl hv hx hj=>?_)
  ·rw[hv]at hp
   simp (disch:=omega)only[↓pa,↓pmx,pb,pmy,pmz,List.getElem?_cons_zero,List.getElem?_cons_succ,↓reduceIte,Nat.reduceEqDiff,Nat.reduceAdd,Nat.reduceLeDiff,reduceCtorEq]
   exact OutI_val hp rfl rfl hj
  ·obtain⟨l,rfl⟩:=hx
   rw[hv]at hp
   simp (disch:=omega)only[↓pa,↓pmx,pb,pmy,pmz,List.getElem?_cons_zero,List.getElem?_cons_succ,↓reduceIte,Nat.reduceEqDiff,Nat.reduceAdd,Nat.reduceLeDiff,reduceCtorEq]
   exact OutI_none hp ⟨_,rfl,rfl,by simp only[pmz,Bool.and_self],by simp only[pmz]⟩ rfl rfl hj
 rw[if_neg c2]at hp
 by_cases c3:cI t i=45∨isD (cI t i)=true
 ·rw[if_pos c3]at hp
  have c45:cI t i=45∨(¬cI t i=45∧isD (cI t i)=true):=by
   by_cases h:cI t i=45
   ·exact .inl h
   ·exact .inr ⟨h,c3.resolve_left h⟩
  rcases c45 with c45|⟨c45,cd⟩
  ·simp (disch:=omega)only[↓pa,pb,↓reduceIte,Nat.reduceEqDiff,Int.reduceEq,reduceCtorEq,c45]
   refine rt_whole K (t:=t) (i:=i) (by simp only[pb,↓reduceIte,reduceCtorEq]) hi hl (fun a j fl hv hj=>?_) (fun n j fl hv hj=>?_)
   ·rw[hv]at hp
    simp (disch:=omega)only[↓pa,↓pmx,pb,pmy,pmz,List.getElem?_cons_zero,List.getElem?_cons_succ,↓reduceIte,Nat.reduceEqDiff,Nat.reduceAdd,Nat.reduceLeDiff,reduceCtorEq]
    exact OutI_val hp rfl rfl hj
   ·rw[hv]at hp
    simp (disch:=omega)only[↓pa,↓pmx,pb,pmy,pmz,List.getElem?_cons_zero,List.getElem?_cons_succ,↓reduceIte,Nat.reduceEqDiff,Nat.reduceAdd,Nat.reduceLeDiff,reduceCtorEq]
    exact OutI_none hp ⟨_,rfl,rfl,by simp only[pmz,Bool.and_self],by simp only[pmz]⟩ rfl rfl hj
  ·simp (disch:=omega)only[↓pa,pb,↓reduceIte,Nat.reduceEqDiff,reduceCtorEq,c2,c45,c_digit K.tab,cd]
   refine rt_whole K (t:=t) (i:=i) (by simp only[pb,↓reduceIte,reduceCtorEq]) hi hl (fun a j fl hv hj=>?_) (fun n j fl hv hj=>?_)
   ·rw[hv]at hp
    simp (disch:=omega)only[↓pa,↓pmx,pb,pmy,pmz,List.getElem?_cons_zero,List.getElem?_cons_succ,↓reduceIte,Nat.reduceEqDiff,Nat.reduceAdd,Nat.reduceLeDiff,reduceCtorEq]
    exact OutI_val hp rfl rfl hj
   ·rw[hv]at hp
    simp (disch:=omega)only[↓pa,↓pmx,pb,pmy,pmz,List.getElem?_cons_zero,List.getElem?_cons_succ,↓reduceIte,Nat.reduceEqDiff,Nat.reduceAdd,Nat.reduceLeDiff,reduceCtorEq]
    exact OutI_none hp ⟨_,rfl,rfl,by simp only[pmz,Bool.and_self],by simp only[pmz]⟩ rfl rfl hj
 rw[if_neg c3]at hp
 have c3a:¬cI t i=45:=fun h=>c3 (.inl h)
 have c3b:isD (cI t i)=false:=by cases h:isD (cI t i);rfl;exact absurd (.inr h) c3
 simp (disch:=omega)only[↓pa,pb,↓reduceIte,Nat.reduceEqDiff,c2,c3a,c_digit K.tab,c3b]
 refine Cnd_intro (fun c4=>?_) (fun c4=>?_)
 ·rw[if_pos c4]at hp
  simp (disch:=omega)only[↓pa,pb,↓reduceIte,reduceCtorEq,c4]
  refine RunsTo_I (c_point K (t:=t) (i:=i) (by simp only[pb,↓reduceIte,reduceCtorEq]) hi hl c4) (fun v j fl hv hj=>?_) (fun p j fl hv hx hj=>?_)
  ·have hvl:=v.ca_len
   simp (disch:=omega)only[↓pa,pb,pmy,pmz,pmV,List.getElem?_cons_zero,List.getElem?_cons_succ,↓reduceIte,Nat.reduceEqDiff,Nat.reduceAdd,Nat.reduceLeDiff,reduceCtorEq,hvl,put6,take6]
   exact OutI_val (hp.trans hv) rfl rfl hj
  ·obtain⟨cs,rfl,hcs,hcn,hct⟩:=hx
   simp (disch:=omega)only[↓pa,pb,pmy,pmz,List.getElem?_cons_zero,List.getElem?_cons_succ,↓reduceIte,Nat.reduceEqDiff,Nat.reduceAdd,Nat.reduceLeDiff,reduceCtorEq,hcs,hcn,hct,put6,take6]
   exact OutI_none (hp.trans hv) ⟨_,rfl,hcs,hcn,hct⟩ rfl rfl hj
 rw[if_neg c4]at hp
 simp (disch:=omega)only[↓pa,pb,↓reduceIte,Nat.reduceEqDiff,c4]
 refine Cnd_intro (fun c5=>?_) (fun c5=>?_)
 ·rw[if_pos c5]at hp
  simp (disch:=omega)only[↓pa,pb,↓reduceIte,Nat.reduceEqDiff,reduceCtorEq,c5]
  refine RunsTo_I (hL _ 0 i (by simp only[pb,↓reduceIte,reduceCtorEq]) hi c5) (fun v j fl hv hj=>?_) (fun p j fl hv hx hj=>?_)
  ·have hvl:=v.ca_len
   simp (disch:=omega)only[↓pa,pb,pmy,pmz,pmV,List.getElem?_cons_zero,List.getElem?_cons_succ,↓reduceIte,Nat.reduceEqDiff,Nat.reduceAdd,Nat.reduceLeDiff,reduceCtorEq,hvl,put6,take6]
   exact OutI_val (hp.trans hv) rfl rfl hj
  ·obtain⟨cs,rfl,hcs,hcn,hct⟩:=hx
   simp (disch:=omega)only[↓pa,pb,pmy,pmz,List.getElem?_cons_zero,List.getElem?_cons_succ,↓reduceIte,Nat.reduceEqDiff,Nat.reduceAdd,Nat.reduceLeDiff,reduceCtorEq,hcs,hcn,hct,put6,take6]
   exact OutI_none (hp.trans hv) ⟨_,rfl,hcs,hcn,hct⟩ rfl rfl hj
 rw[if_neg c5]at hp
 simp (disch:=omega)only[↓pa,pb,↓reduceIte,Nat.reduceEqDiff,c5]
 refine Cnd_intro (fun c6=>?_) (fun c6=>?_)
 ·rw[if_pos c6]at hp
  simp (disch:=omega)only[↓pa,pb,↓reduceIte,Nat.reduceEqDiff,reduceCtorEq,c6]
  refine RunsTo_I (hM _ 0 i (by simp only[pb,↓reduceIte,reduceCtorEq]) hi c6) (fun v j fl hv hj=>?_) (fun p j fl hv hx hj=>?_)
  ·have hvl:=v.ca_len
   simp (disch:=omega)only[↓pa,pb,pmy,pmz,pmV,List.getElem?_cons_zero,List.getElem?_cons_succ,↓reduceIte,Nat.reduceEqDiff,Nat.reduceAdd,Nat.reduceLeDiff,reduceCtorEq,hvl,put6,take6]
   exact OutI_val (hp.trans hv) rfl rfl hj
  ·obtain⟨cs,rfl,hcs,hcn,hct⟩:=hx
   simp (disch:=omega)only[↓pa,pb,pmy,pmz,List.getElem?_cons_zero,List.getElem?_cons_succ,↓reduceIte,Nat.reduceEqDiff,Nat.reduceAdd,Nat.reduceLeDiff,reduceCtorEq,hcs,hcn,hct,put6,take6]
   exact OutI_none (hp.trans hv) ⟨_,rfl,hcs,hcn,hct⟩ rfl rfl hj
 rw[if_neg c6]at hp
 simp (disch:=omega)only[↓pa,pb,↓reduceIte,Nat.reduceEqDiff,c6]
 refine Cnd_intro (fun c7=>?_) (fun c7=>?_)
 ·rw[if_pos c7]at hp
  simp (disch:=omega)only[↓pa,pb,↓reduceIte,reduceCtorEq,c7]
  refine RunsTo_I (c_path K (t:=t) (i:=i) (by simp only[pb,↓reduceIte,reduceCtorEq]) hi hl c7) (fun v j fl hv hj=>?_) (fun p j fl hv hx hj=>?_)
  ·have hvl:=v.ca_len
   simp (disch:=omega)only[↓pa,pb,pmy,pmz,pmV,List.getElem?_cons_zero,List.getElem?_cons_succ,↓reduceIte,Nat.reduceEqDiff,Nat.reduceAdd,Nat.reduceLeDiff,reduceCtorEq,hvl,put6,take6]
   exact OutI_val (hp.trans hv) rfl rfl hj
  ·obtain⟨cs,rfl,hcs,hcn,hct⟩:=hx
   simp (disch:=omega)only[↓pa,pb,pmy,pmz,List.getElem?_cons_zero,List.getElem?_cons_succ,↓reduceIte,Nat.reduceEqDiff,Nat.reduceAdd,Nat.reduceLeDiff,reduceCtorEq,hcs,hcn,hct,put6,take6]
   exact OutI_none (hp.trans hv) ⟨_,rfl,hcs,hcn,hct⟩ rfl rfl hj
 rw[if_neg c7]at hp
 simp (disch:=omega)only[↓pa,pb,↓reduceIte,reduceCtorEq,c7]
 refine(rt_eat K.tab (t:=t) (i:=i) (x:=[110,117,108,108]) (by simp only[pb,↓reduceIte,reduceCtorEq]) hi hl (by decide)).2 ?_
 refine Cnd_intro (fun c8=>?_) (fun c8=>?_)
 ·rw[if_pos c8]at hp
  have:=tk_le hi c8
  simp (disch:=omega)only[↓pa,↓pmx,pb,pmy,pmz,↓reduceIte,Nat.reduceEqDiff,Nat.reduceAdd,Nat.reduceLeDiff,reduceCtorEq]
  exact OutI_val hp rfl rfl this
 rw[if_neg c8]at hp
 simp (disch:=omega)only[↓pa,pb,↓reduceIte,reduceCtorEq]
 refine(rt_eat K.tab (t:=t) (i:=i) (x:=[116,114,117,101]) (by simp only[pb,↓reduceIte,reduceCtorEq]) hi hl (by decide)).2 ?_
 refine Cnd_intro (fun c9=>?_) (fun c9=>?_)
 ·rw[if_pos c9]at hp
  have:=tk_le hi c9
  simp (disch:=omega)only[↓pa,↓pmx,pb,pmy,pmz,↓reduceIte,Nat.reduceEqDiff,Nat.reduceAdd,Nat.reduceLeDiff,reduceCtorEq]
  exact OutI_val hp rfl rfl this
 rw[if_neg c9]at hp
 simp (disch:=omega)only[↓pa,pb,↓reduceIte,reduceCtorEq]
 refine(rt_eat K.tab (t:=t) (i:=i) (x:=[102,97,108,115,101]) (by simp only[pb,↓reduceIte,reduceCtorEq]) hi hl (by decide)).2 ?_
 refine Cnd_intro (fun c10=>?_) (fun c10=>?_)
 ·rw[if_pos c10]at hp
  have:=tk_le hi c10
  simp (disch:=omega)only[↓pa,↓pmx,pb,pmy,pmz,↓reduceIte,Nat.reduceEqDiff,Nat.reduceAdd,Nat.reduceLeDiff,reduceCtorEq]
  exact OutI_val hp rfl rfl this
 rw[if_neg c10]at hp
 simp (disch:=omega)only[↓pa,pb,↓reduceIte,Nat.reduceEqDiff]
 refine Cnd_intro (fun c11=>?_) (fun c11=>?_)
 ·rw[if_pos c11]at hp
  have hA:pthingA t i=pthing t 8 (i+1):=by rw[pthingA,if_neg (by omega),if_pos c11]
  rw[←hA]at hp
  simp (disch:=omega)only[↓pa,pb,↓reduceIte,Nat.reduceEqDiff,reduceCtorEq,c11]
  refine RunsTo_I (c_thing K (t:=t) (i:=i) (by simp only[pb,↓reduceIte,reduceCtorEq]) hi hl) (fun v j fl hv hj=>?_) (fun p j fl hv hx hj=>?_)
  ·have hvl:=v.ca_len
   simp (disch:=omega)only[↓pa,pb,pmy,pmz,pmV,List.getElem?_cons_zero,List.getElem?_cons_succ,↓reduceIte,Nat.reduceEqDiff,Nat.reduceAdd,Nat.reduceLeDiff,reduceCtorEq,hvl,put6,take6]
   exact OutI_val (hp.trans hv) rfl rfl hj
  ·obtain⟨cs,rfl,hcs,hcn,hct⟩:=hx
   simp (disch:=omega)only[↓pa,pb,pmy,pmz,List.getElem?_cons_zero,List.getElem?_cons_succ,↓reduceIte,Nat.reduceEqDiff,Nat.reduceAdd,Nat.reduceLeDiff,reduceCtorEq,hcs,hcn,hct,put6,take6]
   exact OutI_none (hp.trans hv) ⟨_,rfl,hcs,hcn,hct⟩ rfl rfl hj
 rw[if_neg c11]at hp
 simp (disch:=omega)only[↓pa,pb,↓reduceIte,Nat.reduceEqDiff,c11]
 refine Cnd_intro (fun c12=>?_) (fun c12=>?_)
 ·rw[if_pos c12]at hp
  have hA:pthingA t i=pthing t 9 (i+1):=by rw[pthingA,if_pos c12]
  rw[←hA]at hp
  simp (disch:=omega)only[↓pa,pb,↓reduceIte,reduceCtorEq,c12]
  refine RunsTo_I (c_thing K (t:=t) (i:=i) (by simp only[pb,↓reduceIte,reduceCtorEq]) hi hl) (fun v j fl hv hj=>?_) (fun p j fl hv hx hj=>?_)
  ·have hvl:=v.ca_len
   simp (disch:=omega)only[↓pa,pb,pmy,pmz,pmV,List.getElem?_cons_zero,List.getElem?_cons_succ,↓reduceIte,Nat.reduceEqDiff,Nat.reduceAdd,Nat.reduceLeDiff,reduceCtorEq,hvl,put6,take6]
   exact OutI_val (hp.trans hv) rfl rfl hj
  ·obtain⟨cs,rfl,hcs,hcn,hct⟩:=hx
   simp (disch:=omega)only[↓pa,pb,pmy,pmz,List.getElem?_cons_zero,List.getElem?_cons_succ,↓reduceIte,Nat.reduceEqDiff,Nat.reduceAdd,Nat.reduceLeDiff,reduceCtorEq,hcs,hcn,hct,put6,take6]
   exact OutI_none (hp.trans hv) ⟨_,rfl,hcs,hcn,hct⟩ rfl rfl hj
 rw[if_neg c12]at hp
 simp (disch:=omega)only[↓pa,↓pmx,pb,pmy,pmz,↓reduceIte,Nat.reduceEqDiff,Nat.reduceAdd,Nat.reduceLeDiff,reduceCtorEq,c12]
 exact OutI_none hp ⟨_,rfl,rfl,by simp only[pmz,Bool.and_self],by simp only[pmz]⟩ rfl rfl hi
theorem c_value(K:Env cf){t:List UInt8}(hl:t.length≤2000000):∀ b,b≤5→ValOk cf t b
 |0,_=>c_valueStep K hl (o:=none) (fun _=>rfl) (fun _ _ _ hs hi h=>c_list0 K hs hi hl h) (fun _ _ _ hs hi h=>c_map0 K hs hi hl h)
 |b+1,hb=>c_valueStep K hl (o:=some (pval t b)) (fun _=>rfl) (fun _ _ _ hs hi h=>c_list K hs hi hl (by omega) h (c_value K hl b (by omega))) (fun _ _ _ hs hi h=>c_map K hs hi hl (by omega) h (c_value K hl b (by omega)))
theorem pmk1:(∀ {s:Nat},keysOf [.ptr s 0]=some [s])∧(∀ {s:Nat} {k:IntKind} {n:Int},keysOf [.ptr s 0,.int k n]=some [s])∧(∀ {s:Nat} {x:ByteArray},keysOf [.ptr s 0,.str x]=some [s]):=by
 refine⟨?_,?_,?_⟩<;>intros<;>rfl
theorem is6_dead':is6 dead:=⟨_,rfl,rfl,by simp only[pmz,Bool.and_self],by simp only[pmz]⟩
theorem path_valS{acc:List V}{v:V}:PV.agg [I 10,I 0,I 0,S [],.list (acc.length+1) (V.cbs (acc++[v])) .no,.list 0 [] .no]=VB (.mk 10 0 0 [] [] (acc++[v])):=by
 rw[VB,V.cb,app_len];rfl
theorem list_valS{acc:List V}{v:V}:PV.agg [I 6,I 0,I 0,S [],.list (acc.length+1) (V.cbs (acc++[v])) .no,.list 0 [] .no]=VB (.mk 6 0 0 [] [] (acc++[v])):=by
 rw[VB,V.cb,app_len];rfl
theorem rt_thingS(K:Env cf){t:List UInt8}{i:Nat}{k:Int}(hs:st.objs s=some [S t,I i,.bool false])(hi:i≤t.length)(hl:t.length≤2000000)
  (k1:∀ v j fl,pthing t k i=some (v,j)→j≤t.length→A (mk (VB v) (setF (setO st s [S t,I (j:Nat),.bool false]) fl)))
  (k2:∀ cs j fl,pthing t k i=none→cs.length=6→nps cs=true→strips cs=cs→j≤t.length→A (mk (.agg cs) (setF (setO st s [S t,I (j:Nat),.bool true]) fl))):RunsTo (callP cf 214 [.ptr s 0,I k] [] st) mk A:=by
 refine RunsTo_S (c_thingS K hs hi hl) k1 ?_
 rintro p j fl h1 ⟨cs,rfl,h2,h3,h4⟩ h5
 exact k2 cs j fl h1 h2 h3 h4 h5
set_option maxHeartbeats 4000000 in
theorem c_pathS(K:Env cf){t:List UInt8}{i:Nat}(hs:st.objs s=some [S t,I i,.bool false])(hi:i≤t.length)(hl:t.length≤2000000):
  ∃ r c',OutS t VB (ppath t i) is6 r c'∧∃ fl,callP cf 215 [.ptr s 0] [] st=some (r,setF (setO st s c') fl):=by
 refine c_ptrE K.tab (F:=F215) rfl rfl rfl (lb rfl) (lb rfl) (by simp) hs (plainVs_rd3 t i _) (t.length+1) ?_
 unfold F215 qr qd qm qi qc qk ql qf qo qe qN
 simp (disch:=omega)only[↓pa,↓pmx,pb,pmy,↓reduceIte,Nat.reduceEqDiff,Nat.reduceAdd,Nat.reduceLeDiff]
 refine Wp_rounds (fun k fr st=>∃ (j n:Nat) (node:Bool) (acc:List V) (tok:Tok),k=t.length-j∧j≤t.length∧acc.length≤j∧t.length-j<n∧(acc.length:Int).tmod 2=(if node then 0 else 1)∧fr 0= .ptr 0 0∧fr 2= .ptr 2 0∧fr 3= .ptr 3 0∧st.objs 0=some [S t,I j,.bool false]∧st.objs 2=some [I 0,I 0,I 0,S [],.list 0 [] .nil,.list 0 [] .nil]∧
  st.objs 3=some [I 10,I 0,I 0,S [],.list acc.length (V.cbs acc) tok,.list 0 [] .nil]∧Gr 199 st.nx st.cnt acc.length tok∧pathGo t n node j acc=ppath t i) (t.length-i) (by omega)
  ⟨i,t.length+1-i,true,[],.nil,rfl,by omega,Nat.zero_le _,by omega,rfl,by simp (disch:=omega)only[↓pa,pb,↓reduceIte,reduceCtorEq],by simp (disch:=omega)only[↓pa,pb,↓reduceIte,Nat.reduceEqDiff],by simp (disch:=omega)only[↓pa,↓reduceIte],by simp (disch:=omega)only[pb,↓reduceIte,reduceCtorEq],by simp (disch:=omega)only[pb,↓reduceIte,Nat.reduceEqDiff],by simp (disch:=omega)only[pb,↓reduceIte];rfl,rfl,rfl⟩ ?_
 rintro k fr st ⟨j,n,node,acc,tok,rfl,hj,hacc,hn,hpar,f0,f2,f3,o0,o2,o3,hG,hQ⟩
 have hrem:=b_rem (k:= .i64) (a:=(acc.length:Int)) (show(2:Int)≠0 by decide)
 rw[path_in (by omega)]at hQ
 cases node
 ·have hpar:(acc.length:Int).tmod 2=1:=hpar
  have hpar':((acc++[V.mk 0 0 0 [] [] []]).length:Int).tmod 2=0:=by
   rw[app_len]
   have e:((acc.length:Nat):Int).tmod 2=((acc.length % 2:Nat):Int):=rfl
   have e2:((acc.length+1:Nat):Int).tmod 2=(((acc.length+1) % 2:Nat):Int):=rfl
   rw[e]at hpar
   rw[e2]
   omega
  rw[app_len]at hpar'
  simp only[Bool.false_eq_true,if_false,false_and]at hQ
  simp (disch:=omega)only[↓pa,pb,pmy,↓reduceIte,Nat.reduceEqDiff,Nat.reduceAdd,reduceCtorEq,f0,f3,o0,o3,hrem,hpar]
  refine(rt_takes1 K (t:=t) (i:=j) 101 rfl (by decide) (by simp only[o0]) hj hl).2 ?_
  refine Cnd_intro (fun hw=>?_) (fun hw=>?_)
  rotate_left
  ·rw[if_neg hw]at hQ
   simp (disch:=omega)only[↓pa,pb,↓reduceIte,reduceCtorEq,f0]
   refine rt_fail K (t:=t) (i:=j) (b:=false) (by simp only[o0]) fun fl=>?_
   simp (disch:=omega)only[↓pa,pb,pmy,pmz,↓reduceIte,Nat.reduceEqDiff,Nat.reduceAdd,Nat.reduceLeDiff,reduceCtorEq,f2,o2,dead]
   exact OutS_none (dm:=is6) hQ.symm is6_dead' rfl hj
  rw[if_pos hw]at hQ
  have hjl:=cI_in (show cI t j≠0 by rw[hw];decide)
  simp (disch:=omega)only[↓pa,↓pmw,pb,pmy,pmwk,↓reduceIte,Nat.reduceEqDiff,Nat.reduceAdd,reduceCtorEq,f0,f3,o3]
  refine rt_thingS K (t:=t) (i:=j+1) (by simp only[pb,↓reduceIte]) hjl hl (fun v j1 fl hv hj1=>?_) (fun cs j1 fl hv hcs hcn hct hj1=>?_)
  rotate_left
  ·rw[hv]at hQ
   simp (disch:=omega)only[↓pa,↓pmx,↓pmw,pb,pmy,pmwk,↓reduceIte,Nat.reduceEqDiff,Nat.reduceAdd,Nat.reduceLeDiff,Nat.reduceLT,hcs,put6,pmk1]
   refine RunsTo_app (n:=acc.length) (m:=1) hG (by rw[V.cbs_len]) (by rw[hcs]) (by omega) (by omega) (by decide) ?_
   simp (disch:=omega)only[↓pa,↓pmw,pb,pmy,pmwk,pmwa,List.getElem?_cons_zero,List.getElem?_cons_succ,↓reduceIte,Nat.reduceEqDiff,Nat.reduceAdd,Nat.reduceLeDiff,Int.reduceEq,reduceCtorEq,f0,f3,o3]
   refine(rt_takesB K.tab (t:=t) (i:=j1) (by simp only[pb,pmy,↓reduceIte,reduceCtorEq]) hj1 hl).2 ?_
   simp (disch:=omega)only[↓pa,pb,↓reduceIte,reduceCtorEq,f0]
   refine rt_fail K (t:=t) (i:=j1) (b:=true) (by simp only[pb,pmy,↓reduceIte,reduceCtorEq]) fun fl=>?_
   simp (disch:=omega)only[↓pa,pb,pmy,pmz,↓reduceIte,Nat.reduceEqDiff,Nat.reduceAdd,Nat.reduceLeDiff,reduceCtorEq,f2,o2,dead]
   exact OutS_none (dm:=is6) hQ.symm is6_dead' rfl hj1
  have hm:=pthing_mono hv
  have hvl:=v.cb_len
  rw[hv]at hQ
  simp only at hQ
  simp (disch:=omega)only[↓pa,↓pmx,↓pmw,pb,pmy,pmwk,↓reduceIte,Nat.reduceEqDiff,Nat.reduceAdd,Nat.reduceLeDiff,Nat.reduceLT,hvl,put6,pmk1]
  refine RunsTo_app (n:=acc.length) (m:=1) hG (by rw[V.cbs_len]) (by rw[hvl]) (by omega) (by omega) (by decide) ?_
  rw[V.cbs_snoc]
  simp (disch:=omega)only[↓pa,↓pmw,pb,pmy,pmwk,pmwa,List.getElem?_cons_zero,List.getElem?_cons_succ,↓reduceIte,Nat.reduceEqDiff,Nat.reduceAdd,Nat.reduceLeDiff,Int.reduceEq,reduceCtorEq,f0,f3,o3]
  refine(rt_takes1 K (t:=t) (i:=j1) 32 rfl (by decide) (by simp only[pb,pmy,↓reduceIte,reduceCtorEq]) hj1 hl).2 ?_
  refine Cnd_intro (fun h32=>?_) (fun h32=>?_)
  ·rw[if_pos h32]at hQ
   have hjl2:=cI_in (show cI t j1≠0 by rw[h32];decide)
   simp (disch:=omega)only[↓pa,pb,pmy,↓reduceIte,Nat.reduceEqDiff,reduceCtorEq,f0,f2,f3,o2]
   exact⟨t.length- (j1+1),by omega,j1+1,n-1,true,acc++[v],_,rfl,by omega,by rw[app_len];omega,by omega,by rw[app_len];exact hpar',rfl,by rw[app_len],by rw[app_len];exact Gr_app hG,hQ⟩
  ·rw[if_neg h32]at hQ
   simp (disch:=omega)only[↓pa,pb,↓reduceIte,reduceCtorEq,f0]
   refine rt_fail K (t:=t) (i:=j1) (b:=false) (by simp only[pb,pmy,↓reduceIte,reduceCtorEq]) fun fl=>?_
   simp (disch:=omega)only[↓pa,pb,pmy,pmz,↓reduceIte,Nat.reduceEqDiff,Nat.reduceAdd,Nat.reduceLeDiff,reduceCtorEq,f2,o2,dead]
   exact OutS_none (dm:=is6) hQ.symm is6_dead' rfl hj1
 ·have hpar:(acc.length:Int).tmod 2=0:=hpar
  have hpar':((acc.length+1:Nat):Int).tmod 2=1:=by
   have e:((acc.length:Nat):Int).tmod 2=((acc.length % 2:Nat):Int):=rfl
   have e2:((acc.length+1:Nat):Int).tmod 2=(((acc.length+1) % 2:Nat):Int):=rfl
   rw[e]at hpar
   rw[e2]
   omega
  simp only[if_true,true_and]at hQ
  simp (disch:=omega)only[↓pa,pb,pmy,↓reduceIte,Nat.reduceEqDiff,Nat.reduceAdd,Int.reduceEq,reduceCtorEq,f0,f3,o0,o3,hrem,hpar]
  refine(rt_takes1 K (t:=t) (i:=j) 110 rfl (by decide) (by simp only[o0]) hj hl).2 ?_
  refine Cnd_intro (fun hw=>?_) (fun hw=>?_)
  rotate_left
  ·rw[if_neg hw]at hQ
   simp (disch:=omega)only[↓pa,pb,↓reduceIte,reduceCtorEq,f0]
   refine rt_fail K (t:=t) (i:=j) (b:=false) (by simp only[o0]) fun fl=>?_
   simp (disch:=omega)only[↓pa,pb,pmy,pmz,↓reduceIte,Nat.reduceEqDiff,Nat.reduceAdd,Nat.reduceLeDiff,reduceCtorEq,f2,o2,dead]
   exact OutS_none (dm:=is6) hQ.symm is6_dead' rfl hj
  rw[if_pos hw]at hQ
  have hjl:=cI_in (show cI t j≠0 by rw[hw];decide)
  simp (disch:=omega)only[↓pa,↓pmw,pb,pmy,pmwk,↓reduceIte,Nat.reduceEqDiff,Nat.reduceAdd,reduceCtorEq,f0,f3,o3]
  refine rt_thingS K (t:=t) (i:=j+1) (by simp only[pb,↓reduceIte]) hjl hl (fun v j1 fl hv hj1=>?_) (fun cs j1 fl hv hcs hcn hct hj1=>?_)
  rotate_left
  ·rw[hv]at hQ
   simp (disch:=omega)only[↓pa,↓pmx,↓pmw,pb,pmy,pmwk,↓reduceIte,Nat.reduceEqDiff,Nat.reduceAdd,Nat.reduceLeDiff,Nat.reduceLT,hcs,put6,pmk1]
   refine RunsTo_app (n:=acc.length) (m:=1) hG (by rw[V.cbs_len]) (by rw[hcs]) (by omega) (by omega) (by decide) ?_
   simp (disch:=omega)only[↓pa,↓pmw,pb,pmy,pmwk,pmwa,List.getElem?_cons_zero,List.getElem?_cons_succ,↓reduceIte,Nat.reduceEqDiff,Nat.reduceAdd,Nat.reduceLeDiff,reduceCtorEq,f0,f3,o3]
   refine(rt_takesB K.tab (t:=t) (i:=j1) (by simp only[pb,pmy,↓reduceIte,reduceCtorEq]) hj1 hl).2 ?_
   simp (disch:=omega)only[↓pa,pb,↓reduceIte,Nat.reduceEqDiff,reduceCtorEq,f0]
   refine(rt_takesB K.tab (t:=t) (i:=j1) (by simp only[pb,pmy,↓reduceIte,reduceCtorEq]) hj1 hl).2 ?_
   simp (disch:=omega)only[↓pa,pb,↓reduceIte,reduceCtorEq,f0]
   refine rt_fail K (t:=t) (i:=j1) (b:=true) (by simp only[pb,pmy,↓reduceIte,reduceCtorEq]) fun fl=>?_
   simp (disch:=omega)only[↓pa,pb,pmy,pmz,↓reduceIte,Nat.reduceEqDiff,Nat.reduceAdd,Nat.reduceLeDiff,reduceCtorEq,f2,o2,dead]
   exact OutS_none (dm:=is6) hQ.symm is6_dead' rfl hj1
  have hm:=pthing_mono hv
  have hvl:=v.cb_len
  rw[hv]at hQ
  simp only at hQ
  simp (disch:=omega)only[↓pa,↓pmx,↓pmw,pb,pmy,pmwk,↓reduceIte,Nat.reduceEqDiff,Nat.reduceAdd,Nat.reduceLeDiff,Nat.reduceLT,hvl,put6,pmk1]
  refine RunsTo_app (n:=acc.length) (m:=1) hG (by rw[V.cbs_len]) (by rw[hvl]) (by omega) (by omega) (by decide) ?_
  rw[V.cbs_snoc]
  simp (disch:=omega)only[↓pa,↓pmw,pb,pmy,pmwk,pmwa,List.getElem?_cons_zero,List.getElem?_cons_succ,↓reduceIte,Nat.reduceEqDiff,Nat.reduceAdd,Nat.reduceLeDiff,reduceCtorEq,f0,f3,o3]
  refine(rt_takes1 K (t:=t) (i:=j1) 62 rfl (by decide) (by simp only[pb,pmy,↓reduceIte,reduceCtorEq]) hj1 hl).2 ?_
  refine Cnd_intro (fun h62=>?_) (fun h62=>?_)
  ·rw[if_pos h62]at hQ
   have hjl2:=cI_in (show cI t j1≠0 by rw[h62];decide)
   simp (disch:=omega)only[↓pa,pb,pmy,pmz,pmV,↓reduceIte,Nat.reduceEqDiff,Nat.reduceAdd,Nat.reduceLeDiff,reduceCtorEq,f2,f3,o2]
   rw[path_valS]
   exact OutS_val hQ.symm rfl rfl hjl2
  rw[if_neg h62]at hQ
  simp (disch:=omega)only[↓pa,pb,↓reduceIte,Nat.reduceEqDiff,reduceCtorEq,f0]
  refine(rt_takes1 K (t:=t) (i:=j1) 32 rfl (by decide) (by simp only[pb,pmy,↓reduceIte,reduceCtorEq]) hj1 hl).2 ?_
  refine Cnd_intro (fun h32=>?_) (fun h32=>?_)
  ·rw[if_pos h32]at hQ
   have hjl2:=cI_in (show cI t j1≠0 by rw[h32];decide)
   simp (disch:=omega)only[↓pa,pb,pmy,↓reduceIte,Nat.reduceEqDiff,reduceCtorEq,f0,f2,f3,o2]
   exact⟨t.length- (j1+1),by omega,j1+1,n-1,false,acc++[v],_,rfl,by omega,by rw[app_len];omega,by omega,by rw[app_len];exact hpar',rfl,by rw[app_len],by rw[app_len];exact Gr_app hG,hQ⟩
  ·rw[if_neg h32]at hQ
   simp (disch:=omega)only[↓pa,pb,↓reduceIte,reduceCtorEq,f0]
   refine rt_fail K (t:=t) (i:=j1) (b:=false) (by simp only[pb,pmy,↓reduceIte,reduceCtorEq]) fun fl=>?_
   simp (disch:=omega)only[↓pa,pb,pmy,pmz,↓reduceIte,Nat.reduceEqDiff,Nat.reduceAdd,Nat.reduceLeDiff,reduceCtorEq,f2,o2,dead]
   exact OutS_none (dm:=is6) hQ.symm is6_dead' rfl hj1
def ValOkS(cf:CallF)(t:List UInt8)(b:Nat):Prop:=∀ (st:St) (s i:Nat),st.objs s=some [S t,I i,.bool false]→i≤t.length→
 ∃ r c',OutS t VB (pval t b i) is6 r c'∧∃ fl,callP cf 200 [.ptr s 0,I (5- (b:Int))] [] st=some (r,setF (setO st s c') fl)
set_option maxHeartbeats 4000000 in
theorem c_listS(K:Env cf){t:List UInt8}{i b:Nat}(hs:st.objs s=some [S t,I i,.bool false])(hi:i≤t.length)(hl:t.length≤2000000)(hb:b<5)(ih:ValOkS cf t b):
  ∃ r c',OutS t VB (plist t (pval t b) i) is6 r c'∧∃ fl,callP cf 216 [.ptr s 0,I (5- ((b+1:Nat):Int))] [] st=some (r,setF (setO st s c') fl):=by
 refine c_ptrE K.tab (F:=F216) rfl rfl rfl (lb rfl) (lb rfl) (by simp[plainV_int]) hs (plainVs_rd3 t i _) (t.length+1) ?_
 unfold F216 qr qd qm qk ql qf qo qe qN
 have hdd:5- ((b+1:Nat):Int)+1=5- (b:Int):=by omega
 have hd0:0≤5- ((b+1:Nat):Int)∧5- ((b+1:Nat):Int)≤5:=by omega
 revert hdd hd0
 generalize hdp:5- ((b+1:Nat):Int)=dp
 intro hdd hd0
 simp (disch:=omega)only[↓pa,↓pmx,pb,pmy,↓reduceIte,Nat.reduceEqDiff,Nat.reduceAdd,Nat.reduceLeDiff,reduceCtorEq]
 refine(rt_takes1 K (t:=t) (i:=i) 93 rfl (by decide) (by simp only[pb,↓reduceIte,reduceCtorEq]) hi hl).2 ?_
 refine Cnd_intro (fun h93=>?_) (fun h93=>?_)
 ·have hlt2:=cI_in (show cI t i≠0 by rw[h93];decide)
  simp (disch:=omega)only[↓pa,pb,pmy,pmz,↓reduceIte,Nat.reduceEqDiff,Nat.reduceAdd,Nat.reduceLeDiff,reduceCtorEq]
  exact OutS_val (by rw[plist,if_pos h93]) (by rfl) rfl hlt2
 have hP:plist t (pval t b) i=listGo t (pval t b) (t.length+1-i) i []:=by rw[plist,if_neg h93]
 simp (disch:=omega)only[↓pa,pb,↓reduceIte]
 refine Wp_rounds (fun k fr st=>∃ (j n:Nat) (acc:List V) (tok:Tok),k=t.length-j∧j≤t.length∧acc.length≤j∧t.length-j<n∧fr 0= .ptr 0 0∧fr 1=I dp∧fr 4= .ptr 4 0∧fr 5= .ptr 5 0∧st.objs 0=some [S t,I j,.bool false]∧st.objs 4=some [I 0,I 0,I 0,S [],.list 0 [] .nil,.list 0 [] .nil]∧
  st.objs 5=some [I 6,I 0,I 0,S [],.list acc.length (V.cbs acc) tok,.list 0 [] .nil]∧Gr 199 st.nx st.cnt acc.length tok∧listGo t (pval t b) n j acc=plist t (pval t b) i) (t.length-i) (by omega)
  ⟨i,t.length+1-i,[],.nil,rfl,by omega,Nat.zero_le _,by omega,by simp (disch:=omega)only[↓pa,pb,↓reduceIte,reduceCtorEq],by simp (disch:=omega)only[↓pa,pb,↓reduceIte,Nat.reduceEqDiff],by simp (disch:=omega)only[↓pa,pb,↓reduceIte,Nat.reduceEqDiff],by simp (disch:=omega)only[↓pa,↓reduceIte,Nat.reduceEqDiff],by simp (disch:=omega)only[pb,↓reduceIte,reduceCtorEq],by simp (disch:=omega)only[pb,↓reduceIte,Nat.reduceEqDiff],by simp (disch:=omega)only[pb,↓reduceIte];rfl,rfl,hP.symm⟩ ?_
 rintro k fr st ⟨j,n,acc,tok,rfl,hj,hacc,hn,f0,f1,f4,f5,o0,o4,o5,hG,hQ⟩
 rw[list_in (by omega)]at hQ
 simp (disch:=omega)only[↓pa,↓pmw,pb,pmy,pmwk,↓reduceIte,Nat.reduceEqDiff,Nat.reduceAdd,reduceCtorEq,f0,f1,f5,o0,o5,hdd]
 refine RunsTo_S (ih _ 0 j (by simp only[o0]) hj) (fun v j1 fl hv hj1=>?_) (fun p j1 fl hv hp hj1=>?_)
 rotate_left
 ·obtain⟨cs,rfl,hcs,hcn,hct⟩:=hp
  rw[hv]at hQ
  simp (disch:=omega)only[↓pa,↓pmx,↓pmw,pb,pmy,pmwk,↓reduceIte,Nat.reduceEqDiff,Nat.reduceAdd,Nat.reduceLeDiff,Nat.reduceLT,hcs,put6,pmk1]
  refine RunsTo_app (n:=acc.length) (m:=1) hG (by rw[V.cbs_len]) (by rw[hcs]) (by omega) (by omega) (by decide) ?_
  simp (disch:=omega)only[↓pa,↓pmw,pb,pmy,pmwk,pmwa,List.getElem?_cons_zero,List.getElem?_cons_succ,↓reduceIte,Nat.reduceEqDiff,Nat.reduceAdd,Nat.reduceLeDiff,reduceCtorEq,f0,f5,o5]
  refine(rt_takesB K.tab (t:=t) (i:=j1) (by simp only[pb,pmy,↓reduceIte,reduceCtorEq]) hj1 hl).2 ?_
  simp (disch:=omega)only[↓pa,pb,↓reduceIte,reduceCtorEq,f0]
  refine(rt_takesB K.tab (t:=t) (i:=j1) (by simp only[pb,pmy,↓reduceIte,reduceCtorEq]) hj1 hl).2 ?_
  simp (disch:=omega)only[↓pa,pb,↓reduceIte,reduceCtorEq,f0]
  refine rt_fail K (t:=t) (i:=j1) (b:=true) (by simp only[pb,pmy,↓reduceIte,reduceCtorEq]) fun fl=>?_
  simp (disch:=omega)only[↓pa,pb,pmy,pmz,↓reduceIte,Nat.reduceEqDiff,Nat.reduceAdd,Nat.reduceLeDiff,reduceCtorEq,f4,o4,dead]
  exact OutS_none (dm:=is6) hQ.symm is6_dead' rfl hj1
 have hm:=pval_mono _ _ _ _ hv
 have hvl:=v.cb_len
 rw[hv]at hQ
 simp only at hQ
 simp (disch:=omega)only[↓pa,↓pmx,↓pmw,pb,pmy,pmwk,↓reduceIte,Nat.reduceEqDiff,Nat.reduceAdd,Nat.reduceLeDiff,Nat.reduceLT,hvl,put6,pmk1]
 refine RunsTo_app (n:=acc.length) (m:=1) hG (by rw[V.cbs_len]) (by rw[hvl]) (by omega) (by omega) (by decide) ?_
 rw[V.cbs_snoc]
 simp (disch:=omega)only[↓pa,↓pmw,pb,pmy,pmwk,pmwa,List.getElem?_cons_zero,List.getElem?_cons_succ,↓reduceIte,Nat.reduceEqDiff,Nat.reduceAdd,Nat.reduceLeDiff,reduceCtorEq,f0,f5,o5]
 refine(rt_takes1 K (t:=t) (i:=j1) 93 rfl (by decide) (by simp only[pb,pmy,↓reduceIte,reduceCtorEq]) hj1 hl).2 ?_
 refine Cnd_intro (fun h1=>?_) (fun h1=>?_)
 ·rw[if_pos h1]at hQ
  have hjl:=cI_in (show cI t j1≠0 by rw[h1];decide)
  simp (disch:=omega)only[↓pa,pb,pmy,pmz,pmV,↓reduceIte,Nat.reduceEqDiff,Nat.reduceAdd,Nat.reduceLeDiff,reduceCtorEq,f4,f5,o4]
  rw[list_valS]
  exact OutS_val hQ.symm rfl rfl hjl
 rw[if_neg h1]at hQ
 simp (disch:=omega)only[↓pa,pb,↓reduceIte,reduceCtorEq,f0]
 refine(rt_takes1 K (t:=t) (i:=j1) 44 rfl (by decide) (by simp only[pb,pmy,↓reduceIte,reduceCtorEq]) hj1 hl).2 ?_
 refine Cnd_intro (fun h2=>?_) (fun h2=>?_)
 ·rw[if_pos h2]at hQ
  have hjl:=cI_in (show cI t j1≠0 by rw[h2];decide)
  simp (disch:=omega)only[↓pa,pb,pmy,↓reduceIte,Nat.reduceEqDiff,reduceCtorEq,f0,f1,f4,f5,o4]
  exact⟨t.length- (j1+1),by omega,j1+1,n-1,acc++[v],_,rfl,by omega,by rw[app_len];omega,by omega,rfl,by rw[app_len],by rw[app_len];exact Gr_app hG,hQ⟩
 ·rw[if_neg h2]at hQ
  simp (disch:=omega)only[↓pa,pb,↓reduceIte,reduceCtorEq,f0]
  refine rt_fail K (t:=t) (i:=j1) (b:=false) (by simp only[pb,pmy,↓reduceIte,reduceCtorEq]) fun fl=>?_
  simp (disch:=omega)only[↓pa,pb,pmy,pmz,↓reduceIte,Nat.reduceEqDiff,Nat.reduceAdd,Nat.reduceLeDiff,reduceCtorEq,f4,o4,dead]
  exact OutS_none (dm:=is6) hQ.symm is6_dead' rfl hj1
theorem callP_list1{f n:Nat}{cs:List PV}{t:Tok}(h:plainVs cs):callP cf f [.list n cs t] [] st=callP cf f [.list n cs .no] [] st:=by
 have h1:[PV.list n cs t].all plainArg=true:=by
  have:nps cs=true:=h.1
  simp only[List.all_cons,List.all_nil,plainArg,pmz,this,Bool.and_self]
 have h2:[PV.list n cs .no].all plainArg=true:=by
  have:nps cs=true:=h.1
  simp only[List.all_cons,List.all_nil,plainArg,pmz,this,Bool.and_self]
 simp only[callP,keysOf_plain h1,keysOf_plain h2,getAll,handOn_plain 0 0 h1,handOn_plain 0 0 h2,List.map_cons,List.map_nil,strip_list,freeC,List.isEmpty_nil,Bool.not_true,Bool.false_and,Bool.or_false]
theorem map_valS{ns:List (List UInt8)}{x:List UInt8}{acc:List V}{v:V}:PV.agg [I 7,I 0,I 0,S [],.list (acc.length+1) (V.cbs (acc++[v])) .no,.list (ns.length+1) ((ns++[x]).map S) .no]=VB (.mk 7 0 0 [] (ns++[x]) (acc++[v])):=by
 rw[VB,V.cb,app_len,ns_len]
set_option maxHeartbeats 4000000 in
theorem c_mapS(K:Env cf){t:List UInt8}{i b:Nat}(hs:st.objs s=some [S t,I i,.bool false])(hi:i≤t.length)(hl:t.length≤2000000)(hb:b<5)(ih:ValOkS cf t b):
  ∃ r c',OutS t VB (pmap t (pval t b) i) is6 r c'∧∃ fl,callP cf 217 [.ptr s 0,I (5- ((b+1:Nat):Int))] [] st=some (r,setF (setO st s c') fl):=by
 refine c_ptrE K.tab (F:=F217) rfl rfl rfl (lb rfl) (lb rfl) (by simp[plainV_int]) hs (plainVs_rd3 t i _) (t.length+1) ?_
 unfold F217 qr qd qm qk ql qf qo qe qN
 have hdd:5- ((b+1:Nat):Int)+1=5- (b:Int):=by omega
 have hd0:0≤5- ((b+1:Nat):Int)∧5- ((b+1:Nat):Int)≤5:=by omega
 revert hdd hd0
 generalize hdp:5- ((b+1:Nat):Int)=dp
 intro hdd hd0
 simp (disch:=omega)only[↓pa,↓pmx,pb,pmy,↓reduceIte,Nat.reduceEqDiff,Nat.reduceAdd,Nat.reduceLeDiff,reduceCtorEq]
 refine(rt_takes1 K (t:=t) (i:=i) 125 rfl (by decide) (by simp only[pb,↓reduceIte,reduceCtorEq]) hi hl).2 ?_
 refine Cnd_intro (fun h125=>?_) (fun h125=>?_)
 ·have hlt2:=cI_in (show cI t i≠0 by rw[h125];decide)
  simp (disch:=omega)only[↓pa,pb,pmy,pmz,↓reduceIte,Nat.reduceEqDiff,Nat.reduceAdd,Nat.reduceLeDiff,reduceCtorEq]
  exact OutS_val (by rw[pmap,if_pos h125]) (by rfl) rfl hlt2
 have hP:pmap t (pval t b) i=mapGo t (pval t b) (t.length+1-i) i [] []:=by rw[pmap,if_neg h125]
 simp (disch:=omega)only[↓pa,pb,↓reduceIte]
 refine Wp_rounds (fun k fr st=>∃ (j n:Nat) (ns:List (List UInt8)) (acc:List V) (tok tok2:Tok),k=t.length-j∧j≤t.length∧acc.length≤j∧ns.length=acc.length∧t.length-j<n∧fr 0= .ptr 0 0∧fr 1=I dp∧fr 4= .ptr 4 0∧fr 5= .ptr 5 0∧st.objs 0=some [S t,I j,.bool false]∧st.objs 4=some [I 0,I 0,I 0,S [],.list 0 [] .nil,.list 0 [] .nil]∧
  st.objs 5=some [I 7,I 0,I 0,S [],.list acc.length (V.cbs acc) tok2,.list ns.length (ns.map S) tok]∧Gr 9 st.nx st.cnt ns.length tok∧Gr 199 st.nx st.cnt acc.length tok2∧apartT tok tok2∧mapGo t (pval t b) n j ns acc=pmap t (pval t b) i) (t.length-i) (by omega)
  ⟨i,t.length+1-i,[],[],.nil,.nil,rfl,by omega,Nat.zero_le _,rfl,by omega,by simp (disch:=omega)only[↓pa,pb,↓reduceIte,reduceCtorEq],by simp (disch:=omega)only[↓pa,pb,↓reduceIte,Nat.reduceEqDiff],by simp (disch:=omega)only[↓pa,pb,↓reduceIte,Nat.reduceEqDiff],by simp (disch:=omega)only[↓pa,↓reduceIte,Nat.reduceEqDiff],by simp (disch:=omega)only[pb,↓reduceIte,reduceCtorEq],by simp (disch:=omega)only[pb,↓reduceIte,Nat.reduceEqDiff],by simp (disch:=omega)only[pb,↓reduceIte];rfl,rfl,rfl,trivial,hP.symm⟩ ?_
 rintro k fr st ⟨j,n,ns,acc,tok,tok2,rfl,hj,hacc,hnl,hn,f0,f1,f4,f5,o0,o4,o5,hG,hG2,hap,hQ⟩
 have hm:(ns.map S).length=ns.length:=List.length_map _
 rw[map_in (by omega)]at hQ
 simp (disch:=omega)only[↓pa,↓pmw,pb,pmy,pmwk,↓reduceIte,Nat.reduceEqDiff,Nat.reduceAdd,reduceCtorEq,f0,f5,o0,o5]
 refine RunsTo_S (c_nameRS K (t:=t) (i:=j) (b:=false) (by simp only[o0]) hj hl) (fun x j1 fl hx hj1=>?_) (fun p j1 fl hx hp hj1=>?_)
 rotate_left
 ·obtain⟨l,rfl⟩:=hp
  have hx:pname t j=none:=hx
  have hno:pmap t (pval t b) i=none:=by rw[←hQ,hx]
  simp (disch:=omega)only[↓pa,↓pmx,↓pmw,pb,pmy,pmwk,↓reduceIte,Nat.reduceEqDiff,Nat.reduceAdd,Nat.reduceLeDiff,Nat.reduceLT,pmk1]
  refine RunsTo_app2 (n:=ns.length) (m:=1) (e2:=199) (n2:=acc.length) (u:=tok2) hG (by rw[hm];omega) rfl (by omega) (by omega) (by decide) hG2 hap (fun st1 tok' ho hG' hG2' hap'=>?_)
  simp (disch:=omega)only[↓pa,↓pmw,pb,pmy,pmwk,pmwa,List.getElem?_cons_zero,List.getElem?_cons_succ,↓reduceIte,Nat.reduceEqDiff,Nat.reduceAdd,Nat.reduceLeDiff,reduceCtorEq,f0,f5,o5,ho]
  refine(rt_takesB K.tab (t:=t) (i:=j1) (by simp only[pb,pmy,↓reduceIte,reduceCtorEq,ho]) hj1 hl).2 ?_
  simp (disch:=omega)only[↓pa,pb,↓reduceIte,reduceCtorEq,f0]
  refine rt_fail K (t:=t) (i:=j1) (b:=true) (by simp only[pb,pmy,↓reduceIte,reduceCtorEq,ho]) fun fl=>?_
  simp (disch:=omega)only[↓pa,pb,pmy,pmz,↓reduceIte,Nat.reduceEqDiff,Nat.reduceAdd,Nat.reduceLeDiff,reduceCtorEq,f4,o4,ho,dead]
  exact OutS_none (dm:=is6) hno is6_dead' rfl hj1
 have hx:pname t j=some (x,j1):=hx
 have hm1:=pname_mono hx
 rw[hx]at hQ
 simp only at hQ
 simp (disch:=omega)only[↓pa,↓pmx,↓pmw,pb,pmy,pmwk,↓reduceIte,Nat.reduceEqDiff,Nat.reduceAdd,Nat.reduceLeDiff,Nat.reduceLT,pmk1]
 refine RunsTo_app2 (n:=ns.length) (m:=1) (e2:=199) (n2:=acc.length) (u:=tok2) hG (by rw[hm];omega) rfl (by omega) (by omega) (by decide) hG2 hap (fun st1 tok' ho hG' hG2' hap'=>?_)
 rw[tx_snoc]
 simp (disch:=omega)only[↓pa,↓pmw,pb,pmy,pmwk,pmwa,List.getElem?_cons_zero,List.getElem?_cons_succ,↓reduceIte,Nat.reduceEqDiff,Nat.reduceAdd,Nat.reduceLeDiff,reduceCtorEq,f0,f5,o5,ho]
 refine(rt_takes1 K (t:=t) (i:=j1) 58 rfl (by decide) (by simp only[pb,pmy,↓reduceIte,reduceCtorEq,ho]) hj1 hl).2 ?_
 refine Cnd_intro (fun h58=>?_) (fun h58=>?_)
 rotate_left
 ·have hno:pmap t (pval t b) i=none:=by rw[←hQ,if_neg h58]
  simp (disch:=omega)only[↓pa,pb,↓reduceIte,reduceCtorEq,f0]
  refine rt_fail K (t:=t) (i:=j1) (b:=false) (by simp only[pb,pmy,↓reduceIte,reduceCtorEq,ho]) fun fl=>?_
  simp (disch:=omega)only[↓pa,pb,pmy,pmz,↓reduceIte,Nat.reduceEqDiff,Nat.reduceAdd,Nat.reduceLeDiff,reduceCtorEq,f4,o4,ho,dead]
  exact OutS_none (dm:=is6) hno is6_dead' rfl hj1
 rw[if_pos h58]at hQ
 have hj58:=cI_in (show cI t j1≠0 by rw[h58];decide)
 simp (disch:=omega)only[↓pa,↓pmw,pb,pmy,pmwk,↓reduceIte,Nat.reduceEqDiff,Nat.reduceAdd,reduceCtorEq,f0,f1,f5,hdd]
 refine RunsTo_S (ih _ 0 (j1+1) (by simp only[pb,↓reduceIte]) hj58) (fun v j2 fl hv hj2=>?_) (fun p j2 fl hv hp hj2=>?_)
 rotate_left
 ·obtain⟨cs,rfl,hcs,hcn,hct⟩:=hp
  have hno:pmap t (pval t b) i=none:=by rw[←hQ,hv]
  simp (disch:=omega)only[↓pa,↓pmx,↓pmw,pb,pmy,pmwk,↓reduceIte,Nat.reduceEqDiff,Nat.reduceAdd,Nat.reduceLeDiff,Nat.reduceLT,hcs,put6,pmk1]
  refine RunsTo_app (n:=acc.length) (m:=1) hG2' (by rw[V.cbs_len]) (by rw[hcs]) (by omega) (by omega) (by decide) ?_
  simp (disch:=omega)only[↓pa,↓pmw,pb,pmy,pmwk,pmwa,List.getElem?_cons_zero,List.getElem?_cons_succ,↓reduceIte,Nat.reduceEqDiff,Nat.reduceAdd,Nat.reduceLeDiff,reduceCtorEq,f0,f5]
  refine(rt_takesB K.tab (t:=t) (i:=j2) (by simp only[pb,pmy,↓reduceIte,reduceCtorEq]) hj2 hl).2 ?_
  simp (disch:=omega)only[↓pa,pb,↓reduceIte,reduceCtorEq,f0]
  refine(rt_takesB K.tab (t:=t) (i:=j2) (by simp only[pb,pmy,↓reduceIte,reduceCtorEq]) hj2 hl).2 ?_
  simp (disch:=omega)only[↓pa,pb,↓reduceIte,reduceCtorEq,f0]
  refine rt_fail K (t:=t) (i:=j2) (b:=true) (by simp only[pb,pmy,↓reduceIte,reduceCtorEq]) fun fl=>?_
  simp (disch:=omega)only[↓pa,pb,pmy,pmz,↓reduceIte,Nat.reduceEqDiff,Nat.reduceAdd,Nat.reduceLeDiff,reduceCtorEq,f4,o4,ho,dead]
  exact OutS_none (dm:=is6) hno is6_dead' rfl hj2
 have hm2:=pval_mono _ _ _ _ hv
 have hvl:=v.cb_len
 rw[hv]at hQ
 simp only at hQ
 simp (disch:=omega)only[↓pa,↓pmx,↓pmw,pb,pmy,pmwk,↓reduceIte,Nat.reduceEqDiff,Nat.reduceAdd,Nat.reduceLeDiff,Nat.reduceLT,hvl,put6,pmk1]
 refine RunsTo_app2 (n:=acc.length) (m:=1) (e2:=9) (n2:=ns.length+1) (u:=tok') hG2' (by rw[V.cbs_len]) (by rw[hvl]) (by omega) (by omega) (by decide) hG' (apartT_symm hap') (fun st2 tok2' ho2 hG2'' hG'' hap''=>?_)
 rw[V.cbs_snoc]
 simp (disch:=omega)only[↓pa,↓pmw,pb,pmy,pmwk,pmwa,List.getElem?_cons_zero,List.getElem?_cons_succ,↓reduceIte,Nat.reduceEqDiff,Nat.reduceAdd,Nat.reduceLeDiff,reduceCtorEq,f0,f5,ho2]
 refine(rt_takes1 K (t:=t) (i:=j2) 125 rfl (by decide) (by simp only[pb,pmy,↓reduceIte,reduceCtorEq,ho2]) hj2 hl).2 ?_
 refine Cnd_intro (fun h1=>?_) (fun h1=>?_)
 ·rw[if_pos h1]at hQ
  have hjl:=cI_in (show cI t j2≠0 by rw[h1];decide)
  simp (disch:=omega)only[↓pa,pb,pmy,↓reduceIte,Nat.reduceEqDiff,Nat.reduceAdd,reduceCtorEq,f5]
  rw[callP_list1 (plainVs_tx _),←ns_len (x:=x),c_rising K.tab (ns++[x]) (by rw[ns_len];omega)]
  simp (disch:=omega)only[↓pa,pb,↓reduceIte]
  refine Cnd_intro (fun hr=>?_) (fun hr=>?_)
  ·rw[if_pos hr]at hQ
   simp (disch:=omega)only[↓pa,pb,pmy,pmz,pmV,↓reduceIte,Nat.reduceEqDiff,Nat.reduceAdd,Nat.reduceLeDiff,reduceCtorEq,f4,f5,o4,ho,ho2]
   rw[ns_len,map_valS]
   exact OutS_val hQ.symm rfl rfl hjl
  ·rw[if_neg hr]at hQ
   simp (disch:=omega)only[↓pa,pb,↓reduceIte,reduceCtorEq,f0]
   refine rt_fail K (t:=t) (i:=j2+1) (b:=false) (by simp only[pb,↓reduceIte]) fun fl=>?_
   simp (disch:=omega)only[↓pa,pb,pmy,pmz,↓reduceIte,Nat.reduceEqDiff,Nat.reduceAdd,Nat.reduceLeDiff,reduceCtorEq,f4,o4,ho,ho2,dead]
   exact OutS_none (dm:=is6) hQ.symm is6_dead' rfl hjl
 rw[if_neg h1]at hQ
 simp (disch:=omega)only[↓pa,pb,↓reduceIte,reduceCtorEq,f0]
 refine(rt_takes1 K (t:=t) (i:=j2) 44 rfl (by decide) (by simp only[pb,pmy,↓reduceIte,reduceCtorEq,ho2]) hj2 hl).2 ?_
 refine Cnd_intro (fun h2=>?_) (fun h2=>?_)
 ·rw[if_pos h2]at hQ
  have hjl:=cI_in (show cI t j2≠0 by rw[h2];decide)
  simp (disch:=omega)only[↓pa,pb,pmy,↓reduceIte,Nat.reduceEqDiff,reduceCtorEq,f0,f1,f4,f5,o4,ho,ho2]
  exact⟨t.length- (j2+1),by omega,j2+1,n-1,ns++[x],acc++[v],tok',tok2',rfl,by omega,by rw[app_len];omega,by rw[app_len,ns_len];omega,by omega,rfl,by rw[app_len,ns_len],by rw[ns_len];exact hG'',by rw[app_len];exact hG2'',apartT_symm hap'',hQ⟩
 ·rw[if_neg h2]at hQ
  simp (disch:=omega)only[↓pa,pb,↓reduceIte,reduceCtorEq,f0]
  refine rt_fail K (t:=t) (i:=j2) (b:=false) (by simp only[pb,pmy,↓reduceIte,reduceCtorEq,ho2]) fun fl=>?_
  simp (disch:=omega)only[↓pa,pb,pmy,pmz,↓reduceIte,Nat.reduceEqDiff,Nat.reduceAdd,Nat.reduceLeDiff,reduceCtorEq,f4,o4,ho,ho2,dead]
  exact OutS_none (dm:=is6) hQ.symm is6_dead' rfl hj2
theorem tk_head{t:List UInt8}{i:Nat}{c:UInt8}{l:List UInt8}(h:tk t i (c::l)=true):cI t i=(c.toNat:Int):=by
 have h:(t.drop i).take (l.length+1)=c::l:=of_decide_eq_true h
 by_cases hi:i<t.length
 ·rw[List.drop_eq_getElem_cons hi,List.take_succ_cons]at h
  rw[cI_get t i hi,(List.cons.inj h).1]
 ·rw[List.drop_eq_nil_of_le (by omega)]at h
  cases h
theorem pint_no{t:List UInt8}{i:Nat}(h1:¬cI t i=45)(h2:isD (cI t i)=false):pint t i=none:=by
 unfold pint
 rw[if_neg h1,skip_stop fun _=>h2,seg_nil]
 cases hr:rdInt []with
 |none=>rfl
 |some n=>exact absurd (rdInt_inv hr).1 (itoa_ne n)
theorem pbody_end{t:List UInt8}{o:Option (Nat→Option (V×Nat))}{i:Nat}(h:t.length≤i):pbody t o i=none:=by
 have h0:=cI_end h
 have ht:∀ c l,(c.toNat:Int)≠0→tk t i (c::l)=false:=fun c l hc=>by
  cases hk:tk t i (c::l)
  ·rfl
  ·exact absurd ((tk_head hk).symm.trans h0) hc
 rw[pbody_eq]
 simp[h0,isD,ht]
theorem pbody_eqS(t:List UInt8)(o:Option (Nat→Option (V×Nat)))(i:Nat):pbody t o i=
 if tk t i [110,117,108,108]=true then some (.mk 0 0 0 [] [] [],i+4)
 else if tk t i [116,114,117,101]=true then some (.mk 1 1 0 [] [] [],i+4)
 else if tk t i [102,97,108,115,101]=true then some (.mk 1 0 0 [] [] [],i+5)
 else if cI t i=34 then(pquoted t (i+1)).map fun q=>(.mk 3 0 0 q.1 [] [],q.2)
 else if cI t i=64 then(pdate t (i+1)).map fun q=>(.mk 4 q.1 0 [] [] [],q.2)
 else if cI t i=40 then ppoint t (i+1)
 else if cI t i=110 then pthing t 8 (i+1)
 else if cI t i=101 then pthing t 9 (i+1)
 else if cI t i=60 then ppath t (i+1)
 else if cI t i=91 then plistO t o (i+1)
 else if cI t i=123 then pmapO t o (i+1)
 else(pint t i).map fun q=>(.mk 2 q.1 0 [] [] [],q.2):=by
 rw[pbody_eq]
 by_cases a1:tk t i [110,117,108,108]=true
 ·have c:cI t i=110:=tk_head a1
  simp[c,isD,a1]
 by_cases a2:tk t i [116,114,117,101]=true
 ·have c:cI t i=116:=tk_head a2
  simp[c,isD,a1,a2]
 by_cases a3:tk t i [102,97,108,115,101]=true
 ·have c:cI t i=102:=tk_head a3
  simp[c,isD,a1,a2,a3]
 by_cases c1:cI t i=34
 ·simp[c1,a1,a2,a3]
 by_cases c2:cI t i=64
 ·simp[c2,a1,a2,a3]
 by_cases c3:cI t i=40
 ·simp[c3,isD,a1,a2,a3]
 by_cases c4:cI t i=110
 ·simp[c4,isD,a1,a2,a3]
 by_cases c5:cI t i=101
 ·simp[c5,isD,a1,a2,a3]
 by_cases c6:cI t i=60
 ·simp[c6,isD,a1,a2,a3]
 by_cases c7:cI t i=91
 ·simp[c7,isD,a1,a2,a3]
 by_cases c8:cI t i=123
 ·simp[c8,isD,a1,a2,a3]
 by_cases c9:cI t i=45
 ·simp[c9,isD,a1,a2,a3]
 by_cases c10:isD (cI t i)=true
 ·simp[c1,c2,c3,c4,c5,c6,c7,c8,c10,a1,a2,a3]
 ·have c10':isD (cI t i)=false:=by simpa using c10
  rw[pint_no c9 c10']
  simp[c1,c2,c3,c4,c5,c6,c7,c8,c9,c10,a1,a2,a3]
set_option maxHeartbeats 4000000 in
theorem c_valueStepS(K:Env cf){t:List UInt8}(hl:t.length≤2000000){b:Nat}{o:Option (Nat→Option (V×Nat))}(hV:∀ i,pval t b i=pbody t o i)
  (hd:(5- (b:Int)<5∧
   (∀ (st:St) (s i:Nat),st.objs s=some [S t,I i,.bool false]→i≤t.length→∃ r c',OutS t VB (plistO t o i) is6 r c'∧∃ fl,callP cf 216 [.ptr s 0,I (5- (b:Int))] [] st=some (r,setF (setO st s c') fl))∧
   (∀ (st:St) (s i:Nat),st.objs s=some [S t,I i,.bool false]→i≤t.length→∃ r c',OutS t VB (pmapO t o i) is6 r c'∧∃ fl,callP cf 217 [.ptr s 0,I (5- (b:Int))] [] st=some (r,setF (setO st s c') fl)))∨
   (¬5- (b:Int)<5∧o=none)):ValOkS cf t b:=by
 intro st s i hs hi
 revert hd
 generalize 5- (b:Int)=dp
 intro hd
 refine c_ptrE K.tab (F:=F200) rfl rfl rfl (lb rfl) (lb rfl) (by simp[plainV_int]) hs (plainVs_rd3 t i _) 1 ?_
 unfold F200 qr qd qm qk ql qf qo qe qN
 simp (disch:=omega)only[↓pa,pb,pmy,natP,↓reduceIte,Nat.reduceEqDiff,Nat.reduceAdd,reduceCtorEq]
 refine Cnd_intro (fun h0=>?_) (fun h0=>?_)
 ·have hno:pval t b i=none:=(hV i).trans (pbody_end h0)
  simp (disch:=omega)only[↓pa,pb,↓reduceIte,reduceCtorEq,h0]
  refine rt_fail K (t:=t) (i:=i) (b:=false) (by simp only[pb,↓reduceIte,reduceCtorEq]) fun fl=>?_
  simp (disch:=omega)only[↓pa,pb,pmy,pmz,↓reduceIte,Nat.reduceEqDiff,Nat.reduceAdd,Nat.reduceLeDiff,reduceCtorEq,dead]
  exact OutS_none (dm:=is6) hno is6_dead' rfl (by omega)
 have hp:=(hV i).trans (pbody_eqS t o i)
 simp (disch:=omega)only[↓pa,pb,↓reduceIte,reduceCtorEq,h0]
 refine(rt_takes K.tab (t:=t) (i:=i) (x:=[110,117,108,108]) (by simp only[pb,↓reduceIte,reduceCtorEq]) hi hl (by decide)).2 ?_
 refine Cnd_intro (fun a1=>?_) (fun a1=>?_)
 ·rw[if_pos a1]at hp
  have:=tk_le hi a1
  simp (disch:=omega)only[↓pa,↓pmx,pb,pmy,pmz,↓reduceIte,Nat.reduceEqDiff,Nat.reduceAdd,Nat.reduceLeDiff,reduceCtorEq]
  exact OutS_val hp rfl rfl this
 rw[if_neg a1]at hp
 simp (disch:=omega)only[↓pa,pb,↓reduceIte,reduceCtorEq]
 refine(rt_takes K.tab (t:=t) (i:=i) (x:=[116,114,117,101]) (by simp only[pb,↓reduceIte,reduceCtorEq]) hi hl (by decide)).2 ?_
 refine Cnd_intro (fun a2=>?_) (fun a2=>?_)
 ·rw[if_pos a2]at hp
  have:=tk_le hi a2
  simp (disch:=omega)only[↓pa,↓pmx,pb,pmy,pmz,↓reduceIte,Nat.reduceEqDiff,Nat.reduceAdd,Nat.reduceLeDiff,reduceCtorEq]
  exact OutS_val hp rfl rfl this
 rw[if_neg a2]at hp
 simp (disch:=omega)only[↓pa,pb,↓reduceIte,reduceCtorEq]
 refine(rt_takes K.tab (t:=t) (i:=i) (x:=[102,97,108,115,101]) (by simp only[pb,↓reduceIte,reduceCtorEq]) hi hl (by decide)).2 ?_
 refine Cnd_intro (fun a3=>?_) (fun a3=>?_)
 ·rw[if_pos a3]at hp
  have:=tk_le hi a3
  simp (disch:=omega)only[↓pa,↓pmx,pb,pmy,pmz,↓reduceIte,Nat.reduceEqDiff,Nat.reduceAdd,Nat.reduceLeDiff,reduceCtorEq]
  exact OutS_val hp rfl rfl this
 rw[if_neg a3]at hp
 simp (disch:=omega)only[↓pa,pb,↓reduceIte,reduceCtorEq]
 refine(rt_takes1 K (t:=t) (i:=i) 34 rfl (by decide) (by simp only[pb,↓reduceIte,reduceCtorEq]) hi hl).2 ?_
 refine Cnd_intro (fun c1=>?_) (fun c1=>?_)
 ·have hlt:=cI_in (show cI t i≠0 by rw[c1];decide)
  rw[if_pos c1]at hp
  simp (disch:=omega)only[↓pa,pb,↓reduceIte,reduceCtorEq]
  refine RunsTo_S (c_quotedS K (t:=t) (i:=i+1) (by simp only[pb,↓reduceIte]) hlt hl) (fun v j fl hv hj=>?_) (fun p j fl hv hx hj=>?_)
  ·rw[hv]at hp
   simp (disch:=omega)only[↓pa,↓pmx,pb,pmy,pmz,↓reduceIte,Nat.reduceEqDiff,Nat.reduceAdd,Nat.reduceLeDiff,reduceCtorEq]
   exact OutS_val hp rfl rfl hj
  ·obtain⟨l,rfl⟩:=hx
   rw[hv]at hp
   simp (disch:=omega)only[↓pa,↓pmx,pb,pmy,pmz,↓reduceIte,Nat.reduceEqDiff,Nat.reduceAdd,Nat.reduceLeDiff,reduceCtorEq]
   exact OutS_none (dm:=is6) hp ⟨_,rfl,rfl,by simp only[pmz,Bool.and_self],by simp only[pmz]⟩ rfl hj
 rw[if_neg c1]at hp
 simp (disch:=omega)only[↓pa,pb,↓reduceIte,reduceCtorEq]
 refine(rt_takes1 K (t:=t) (i:=i) 64 rfl (by decide) (by simp only[pb,↓reduceIte,reduceCtorEq]) hi hl).2 ?_
 refine Cnd_intro (fun c2=>?_) (fun c2=>?_)
 ·have hlt:=cI_in (show cI t i≠0 by rw[c2];decide)
  rw[if_pos c2]at hp
  simp (disch:=omega)only[↓pa,pb,↓reduceIte,reduceCtorEq]
  refine RunsTo_S (c_dateS K (t:=t) (i:=i+1) (by simp only[pb,↓reduceIte]) hlt hl) (fun v j fl hv hj=>?_) (fun p j fl hv hx hj=>?_)
  ·have hvl:=v.cb_len
   simp (disch:=omega)only[↓pa,pb,pmy,pmz,pmV,↓reduceIte,Nat.reduceEqDiff,Nat.reduceAdd,Nat.reduceLeDiff,reduceCtorEq,hvl,put6,take6]
   exact OutS_val (hp.trans hv) rfl rfl hj
  ·obtain⟨cs,rfl,hcs,hcn,hct⟩:=hx
   simp (disch:=omega)only[↓pa,pb,pmy,pmz,↓reduceIte,Nat.reduceEqDiff,Nat.reduceAdd,Nat.reduceLeDiff,reduceCtorEq,hcs,hcn,hct,put6,take6]
   exact OutS_none (dm:=is6) (hp.trans hv) ⟨_,rfl,hcs,hcn,hct⟩ rfl hj
 rw[if_neg c2]at hp
 simp (disch:=omega)only[↓pa,pb,↓reduceIte,reduceCtorEq]
 refine(rt_takes1 K (t:=t) (i:=i) 40 rfl (by decide) (by simp only[pb,↓reduceIte,reduceCtorEq]) hi hl).2 ?_
 refine Cnd_intro (fun c3=>?_) (fun c3=>?_)
 ·have hlt:=cI_in (show cI t i≠0 by rw[c3];decide)
  rw[if_pos c3]at hp
  simp (disch:=omega)only[↓pa,pb,↓reduceIte,reduceCtorEq]
  refine rt_number K (t:=t) (i:=i+1) (b:=false) (by simp only[pb,↓reduceIte]) hlt hl (fun a j fl _ ha hj=>?_) (fun n j fl h hj=>?_)
  rotate_left
  ·have ha:pint t (i+1)=none:=by rcases h with h|h;cases h;exact h
   have hno:pval t b i=none:=by rw[hp,ppoint,ha]
   simp (disch:=omega)only[↓pa,pb,pmy,↓reduceIte,Nat.reduceEqDiff,Nat.reduceAdd,Nat.reduceLeDiff,reduceCtorEq]
   refine rt_number K (t:=t) (b:=true) (by simp only[pb,↓reduceIte]<;>rfl) (by assumption) hl (fun _ _ _ h=>by cases h) (fun _ _ _ _ _=>?_)
   simp (disch:=omega)only[↓pa,pb,pmy,↓reduceIte,Nat.reduceEqDiff,Nat.reduceAdd,reduceCtorEq]
   refine rt_fail K (t:=t) (by simp only[pb,pmy,↓reduceIte]<;>rfl) fun fl=>?_
   simp (disch:=omega)only[↓pa,pb,pmy,pmz,↓reduceIte,Nat.reduceEqDiff,Nat.reduceAdd,Nat.reduceLeDiff,reduceCtorEq,dead]
   exact OutS_none (dm:=is6) hno is6_dead' rfl (by omega)
  simp (disch:=omega)only[↓pa,pb,pmy,↓reduceIte,Nat.reduceEqDiff,Nat.reduceAdd,reduceCtorEq]
  refine(rt_takes1 K (t:=t) (i:=j) 32 rfl (by decide) (by simp only[pb,pmy,↓reduceIte]) hj hl).2 ?_
  refine Cnd_intro (fun h32=>?_) (fun h32=>?_)
  rotate_left
  ·have hno:pval t b i=none:=by rw[hp,ppoint,ha];simp only;rw[if_neg h32]
   simp (disch:=omega)only[↓pa,pb,pmy,↓reduceIte,Nat.reduceEqDiff,Nat.reduceAdd,Nat.reduceLeDiff,reduceCtorEq]
   refine rt_number K (t:=t) (b:=true) (by simp only[pb,↓reduceIte]<;>rfl) (by assumption) hl (fun _ _ _ h=>by cases h) (fun _ _ _ _ _=>?_)
   simp (disch:=omega)only[↓pa,pb,pmy,↓reduceIte,Nat.reduceEqDiff,Nat.reduceAdd,reduceCtorEq]
   refine rt_fail K (t:=t) (by simp only[pb,pmy,↓reduceIte]<;>rfl) fun fl=>?_
   simp (disch:=omega)only[↓pa,pb,pmy,pmz,↓reduceIte,Nat.reduceEqDiff,Nat.reduceAdd,Nat.reduceLeDiff,reduceCtorEq,dead]
   exact OutS_none (dm:=is6) hno is6_dead' rfl (by omega)
  have hjl:=cI_in (show cI t j≠0 by rw[h32];decide)
  simp (disch:=omega)only[↓pa,pb,pmy,↓reduceIte,Nat.reduceEqDiff,Nat.reduceAdd,Nat.reduceLeDiff,reduceCtorEq]
  refine rt_number K (t:=t) (i:=j+1) (b:=false) (by simp only[pb,↓reduceIte]) hjl hl (fun b' k fl _ hb hk=>?_) (fun n k fl h hk=>?_)
  rotate_left
  ·have hb:pint t (j+1)=none:=by rcases h with h|h;cases h;exact h
   have hno:pval t b i=none:=by rw[hp,ppoint,ha];simp only;rw[if_pos h32,hb]
   simp (disch:=omega)only[↓pa,pb,pmy,↓reduceIte,Nat.reduceEqDiff,Nat.reduceAdd,reduceCtorEq]
   refine rt_fail K (t:=t) (by simp only[pb,pmy,↓reduceIte]<;>rfl) fun fl=>?_
   simp (disch:=omega)only[↓pa,pb,pmy,pmz,↓reduceIte,Nat.reduceEqDiff,Nat.reduceAdd,Nat.reduceLeDiff,reduceCtorEq,dead]
   exact OutS_none (dm:=is6) hno is6_dead' rfl (by omega)
  have hpp:pval t b i=if cI t k=41∧big a=false∧big b'=false then some (.mk 5 a b' [] [] [],k+1)else none:=by rw[hp,ppoint,ha];simp only;rw[if_pos h32,hb]
  simp (disch:=omega)only[↓pa,pb,pmy,↓reduceIte,Nat.reduceEqDiff,Nat.reduceAdd,reduceCtorEq]
  refine(rt_takes1 K (t:=t) (i:=k) 41 rfl (by decide) (by simp only[pb,pmy,↓reduceIte]) hk hl).2 ?_
  refine Cnd_intro (fun h41=>?_) (fun h41=>?_)
  rotate_left
  ·have hno:pval t b i=none:=by rw[hpp,if_neg fun h=>h41 h.1]
   simp (disch:=omega)only[↓pa,pb,↓reduceIte,Nat.reduceEqDiff,reduceCtorEq]
   refine rt_fail K (t:=t) (by simp only[pb,pmy,↓reduceIte]<;>rfl) fun fl=>?_
   simp (disch:=omega)only[↓pa,pb,pmy,pmz,↓reduceIte,Nat.reduceEqDiff,Nat.reduceAdd,Nat.reduceLeDiff,reduceCtorEq,dead]
   exact OutS_none (dm:=is6) hno is6_dead' rfl (by omega)
  have hkl:=cI_in (show cI t k≠0 by rw[h41];decide)
  have hbig:∀ x,big x=true↔(x< -1000000∨1000000<x):=fun x=>by simp[big]
  simp (disch:=omega)only[↓pa,pb,↓reduceIte,Nat.reduceEqDiff]
  refine Cnd_intro (fun b1=>?_) (fun b1=>?_)
  ·have hno:pval t b i=none:=by rw[hpp,if_neg fun h=>by rw[(hbig a).2 (.inl b1)]at h;simp at h]
   simp (disch:=omega)only[↓pa,pb,↓reduceIte,Nat.reduceEqDiff,reduceCtorEq,b1]
   refine rt_fail K (t:=t) (by simp only[pb,↓reduceIte]<;>rfl) fun fl=>?_
   simp (disch:=omega)only[↓pa,pb,pmy,pmz,↓reduceIte,Nat.reduceEqDiff,Nat.reduceAdd,Nat.reduceLeDiff,reduceCtorEq,dead]
   exact OutS_none (dm:=is6) hno is6_dead' rfl (by omega)
  simp (disch:=omega)only[↓pa,pb,↓reduceIte,Nat.reduceEqDiff,b1]
  refine Cnd_intro (fun b2=>?_) (fun b2=>?_)
  ·have hno:pval t b i=none:=by rw[hpp,if_neg fun h=>by rw[(hbig a).2 (.inr b2)]at h;simp at h]
   simp (disch:=omega)only[↓pa,pb,↓reduceIte,Nat.reduceEqDiff,reduceCtorEq,b2]
   refine rt_fail K (t:=t) (by simp only[pb,↓reduceIte]<;>rfl) fun fl=>?_
   simp (disch:=omega)only[↓pa,pb,pmy,pmz,↓reduceIte,Nat.reduceEqDiff,Nat.reduceAdd,Nat.reduceLeDiff,reduceCtorEq,dead]
   exact OutS_none (dm:=is6) hno is6_dead' rfl (by omega)
  simp (disch:=omega)only[↓pa,pb,↓reduceIte,Nat.reduceEqDiff,b2]
  refine Cnd_intro (fun b3=>?_) (fun b3=>?_)
  ·have hno:pval t b i=none:=by rw[hpp,if_neg fun h=>by rw[(hbig b').2 (.inl b3)]at h;simp at h]
   simp (disch:=omega)only[↓pa,pb,↓reduceIte,Nat.reduceEqDiff,reduceCtorEq,b3]
   refine rt_fail K (t:=t) (by simp only[pb,↓reduceIte]<;>rfl) fun fl=>?_
   simp (disch:=omega)only[↓pa,pb,pmy,pmz,↓reduceIte,Nat.reduceEqDiff,Nat.reduceAdd,Nat.reduceLeDiff,reduceCtorEq,dead]
   exact OutS_none (dm:=is6) hno is6_dead' rfl (by omega)
  simp (disch:=omega)only[↓pa,pb,↓reduceIte,Nat.reduceEqDiff,b3]
  refine Cnd_intro (fun b4=>?_) (fun b4=>?_)
  ·have hno:pval t b i=none:=by rw[hpp,if_neg fun h=>by rw[(hbig b').2 (.inr b4)]at h;simp at h]
   simp (disch:=omega)only[↓pa,pb,↓reduceIte,reduceCtorEq,b4]
   refine rt_fail K (t:=t) (by simp only[pb,↓reduceIte]<;>rfl) fun fl=>?_
   simp (disch:=omega)only[↓pa,pb,pmy,pmz,↓reduceIte,Nat.reduceEqDiff,Nat.reduceAdd,Nat.reduceLeDiff,reduceCtorEq,dead]
   exact OutS_none (dm:=is6) hno is6_dead' rfl (by omega)
  ·have ba:big a=false:=by cases h:big a;rfl;exact absurd ((hbig a).1 h) (by omega)
   have bb:big b'=false:=by cases h:big b';rfl;exact absurd ((hbig b').1 h) (by omega)
   simp (disch:=omega)only[↓pa,↓pmx,pb,pmy,pmz,↓reduceIte,Nat.reduceEqDiff,Nat.reduceAdd,Nat.reduceLeDiff,reduceCtorEq,b4]
   exact OutS_val (by rw[hpp,if_pos ⟨h41,ba,bb⟩]) rfl rfl hkl
 rw[if_neg c3]at hp
 simp (disch:=omega)only[↓pa,pb,↓reduceIte,reduceCtorEq]
 refine(rt_takes1 K (t:=t) (i:=i) 110 rfl (by decide) (by simp only[pb,↓reduceIte,reduceCtorEq]) hi hl).2 ?_
 refine Cnd_intro (fun c4=>?_) (fun c4=>?_)
 ·have hlt:=cI_in (show cI t i≠0 by rw[c4];decide)
  rw[if_pos c4]at hp
  simp (disch:=omega)only[↓pa,pb,↓reduceIte,reduceCtorEq]
  refine RunsTo_S (c_thingS K (t:=t) (i:=i+1) (b:=false) (by simp only[pb,↓reduceIte]) hlt hl) (fun v j fl hv hj=>?_) (fun p j fl hv hx hj=>?_)
  ·have hvl:=v.cb_len
   simp (disch:=omega)only[↓pa,pb,pmy,pmz,pmV,↓reduceIte,Nat.reduceEqDiff,Nat.reduceAdd,Nat.reduceLeDiff,reduceCtorEq,hvl,put6,take6]
   exact OutS_val (hp.trans hv) rfl rfl hj
  ·obtain⟨cs,rfl,hcs,hcn,hct⟩:=hx
   simp (disch:=omega)only[↓pa,pb,pmy,pmz,↓reduceIte,Nat.reduceEqDiff,Nat.reduceAdd,Nat.reduceLeDiff,reduceCtorEq,hcs,hcn,hct,put6,take6]
   exact OutS_none (dm:=is6) (hp.trans hv) ⟨_,rfl,hcs,hcn,hct⟩ rfl hj
 rw[if_neg c4]at hp
 simp (disch:=omega)only[↓pa,pb,↓reduceIte,reduceCtorEq]
 refine(rt_takes1 K (t:=t) (i:=i) 101 rfl (by decide) (by simp only[pb,↓reduceIte,reduceCtorEq]) hi hl).2 ?_
 refine Cnd_intro (fun c5=>?_) (fun c5=>?_)
 ·have hlt:=cI_in (show cI t i≠0 by rw[c5];decide)
  rw[if_pos c5]at hp
  simp (disch:=omega)only[↓pa,pb,↓reduceIte,reduceCtorEq]
  refine RunsTo_S (c_thingS K (t:=t) (i:=i+1) (b:=false) (by simp only[pb,↓reduceIte]) hlt hl) (fun v j fl hv hj=>?_) (fun p j fl hv hx hj=>?_)
  ·have hvl:=v.cb_len
   simp (disch:=omega)only[↓pa,pb,pmy,pmz,pmV,↓reduceIte,Nat.reduceEqDiff,Nat.reduceAdd,Nat.reduceLeDiff,reduceCtorEq,hvl,put6,take6]
   exact OutS_val (hp.trans hv) rfl rfl hj
  ·obtain⟨cs,rfl,hcs,hcn,hct⟩:=hx
   simp (disch:=omega)only[↓pa,pb,pmy,pmz,↓reduceIte,Nat.reduceEqDiff,Nat.reduceAdd,Nat.reduceLeDiff,reduceCtorEq,hcs,hcn,hct,put6,take6]
   exact OutS_none (dm:=is6) (hp.trans hv) ⟨_,rfl,hcs,hcn,hct⟩ rfl hj
 rw[if_neg c5]at hp
 simp (disch:=omega)only[↓pa,pb,↓reduceIte,reduceCtorEq]
 refine(rt_takes1 K (t:=t) (i:=i) 60 rfl (by decide) (by simp only[pb,↓reduceIte,reduceCtorEq]) hi hl).2 ?_
 refine Cnd_intro (fun c6=>?_) (fun c6=>?_)
 ·have hlt:=cI_in (show cI t i≠0 by rw[c6];decide)
  rw[if_pos c6]at hp
  simp (disch:=omega)only[↓pa,pb,↓reduceIte,reduceCtorEq]
  refine RunsTo_S (c_pathS K (t:=t) (i:=i+1) (by simp only[pb,↓reduceIte]) hlt hl) (fun v j fl hv hj=>?_) (fun p j fl hv hx hj=>?_)
  ·have hvl:=v.cb_len
   simp (disch:=omega)only[↓pa,pb,pmy,pmz,pmV,↓reduceIte,Nat.reduceEqDiff,Nat.reduceAdd,Nat.reduceLeDiff,reduceCtorEq,hvl,put6,take6]
   exact OutS_val (hp.trans hv) rfl rfl hj
  ·obtain⟨cs,rfl,hcs,hcn,hct⟩:=hx
   simp (disch:=omega)only[↓pa,pb,pmy,pmz,↓reduceIte,Nat.reduceEqDiff,Nat.reduceAdd,Nat.reduceLeDiff,reduceCtorEq,hcs,hcn,hct,put6,take6]
   exact OutS_none (dm:=is6) (hp.trans hv) ⟨_,rfl,hcs,hcn,hct⟩ rfl hj
 rw[if_neg c6]at hp
 rcases hd with⟨h5,hL,hM⟩|⟨h5,ho⟩
 ·simp (disch:=omega)only[↓pa,pb,↓reduceIte,Nat.reduceEqDiff,reduceCtorEq,h5]
  refine(rt_takes1 K (t:=t) (i:=i) 91 rfl (by decide) (by simp only[pb,↓reduceIte,reduceCtorEq]) hi hl).2 ?_
  refine Cnd_intro (fun c7=>?_) (fun c7=>?_)
  ·have hlt:=cI_in (show cI t i≠0 by rw[c7];decide)
   rw[if_pos c7]at hp
   simp (disch:=omega)only[↓pa,pb,↓reduceIte,Nat.reduceEqDiff,reduceCtorEq]
   refine RunsTo_S (hL _ 0 (i+1) (by simp only[pb,↓reduceIte]) hlt) (fun v j fl hv hj=>?_) (fun p j fl hv hx hj=>?_)
   ·have hvl:=v.cb_len
    simp (disch:=omega)only[↓pa,pb,pmy,pmz,pmV,↓reduceIte,Nat.reduceEqDiff,Nat.reduceAdd,Nat.reduceLeDiff,reduceCtorEq,hvl,put6,take6]
    exact OutS_val (hp.trans hv) rfl rfl hj
   ·obtain⟨cs,rfl,hcs,hcn,hct⟩:=hx
    simp (disch:=omega)only[↓pa,pb,pmy,pmz,↓reduceIte,Nat.reduceEqDiff,Nat.reduceAdd,Nat.reduceLeDiff,reduceCtorEq,hcs,hcn,hct,put6,take6]
    exact OutS_none (dm:=is6) (hp.trans hv) ⟨_,rfl,hcs,hcn,hct⟩ rfl hj
  rw[if_neg c7]at hp
  simp (disch:=omega)only[↓pa,pb,↓reduceIte,Nat.reduceEqDiff,reduceCtorEq,h5]
  refine(rt_takes1 K (t:=t) (i:=i) 123 rfl (by decide) (by simp only[pb,↓reduceIte,reduceCtorEq]) hi hl).2 ?_
  refine Cnd_intro (fun c8=>?_) (fun c8=>?_)
  ·have hlt:=cI_in (show cI t i≠0 by rw[c8];decide)
   rw[if_pos c8]at hp
   simp (disch:=omega)only[↓pa,pb,↓reduceIte,Nat.reduceEqDiff,reduceCtorEq]
   refine RunsTo_S (hM _ 0 (i+1) (by simp only[pb,↓reduceIte]) hlt) (fun v j fl hv hj=>?_) (fun p j fl hv hx hj=>?_)
   ·have hvl:=v.cb_len
    simp (disch:=omega)only[↓pa,pb,pmy,pmz,pmV,↓reduceIte,Nat.reduceEqDiff,Nat.reduceAdd,Nat.reduceLeDiff,reduceCtorEq,hvl,put6,take6]
    exact OutS_val (hp.trans hv) rfl rfl hj
   ·obtain⟨cs,rfl,hcs,hcn,hct⟩:=hx
    simp (disch:=omega)only[↓pa,pb,pmy,pmz,↓reduceIte,Nat.reduceEqDiff,Nat.reduceAdd,Nat.reduceLeDiff,reduceCtorEq,hcs,hcn,hct,put6,take6]
    exact OutS_none (dm:=is6) (hp.trans hv) ⟨_,rfl,hcs,hcn,hct⟩ rfl hj
  rw[if_neg c8]at hp
  simp (disch:=omega)only[↓pa,pb,↓reduceIte,Nat.reduceEqDiff,reduceCtorEq]
  refine rt_number K (t:=t) (i:=i) (b:=false) (by simp only[pb,↓reduceIte,reduceCtorEq]) hi hl (fun a j fl _ ha hj=>?_) (fun n j fl h hj=>?_)
  ·rw[ha]at hp
   simp (disch:=omega)only[↓pa,↓pmx,pb,pmy,pmz,↓reduceIte,Nat.reduceEqDiff,Nat.reduceAdd,Nat.reduceLeDiff,reduceCtorEq]
   exact OutS_val hp rfl rfl hj
  ·have ha:pint t i=none:=by rcases h with h|h;cases h;exact h
   rw[ha]at hp
   simp (disch:=omega)only[↓pa,↓pmx,pb,pmy,pmz,↓reduceIte,Nat.reduceEqDiff,Nat.reduceAdd,Nat.reduceLeDiff,reduceCtorEq]
   exact OutS_none (dm:=is6) hp ⟨_,rfl,rfl,by simp only[pmz,Bool.and_self],by simp only[pmz]⟩ rfl hj
 ·subst ho
  have hp:pval t b i=(pint t i).map fun q=>(.mk 2 q.1 0 [] [] [],q.2):=by
   rw[hp]
   by_cases c7:cI t i=91
   ·rw[if_pos c7,pint_no (by omega) (by rw[c7];rfl)];rfl
   rw[if_neg c7]
   by_cases c8:cI t i=123
   ·rw[if_pos c8,pint_no (by omega) (by rw[c8];rfl)];rfl
   rw[if_neg c8]
  simp (disch:=omega)only[↓pa,pb,↓reduceIte,Nat.reduceEqDiff,reduceCtorEq,h5]
  refine rt_number K (t:=t) (i:=i) (b:=false) (by simp only[pb,↓reduceIte,reduceCtorEq]) hi hl (fun a j fl _ ha hj=>?_) (fun n j fl h hj=>?_)
  ·rw[ha]at hp
   simp (disch:=omega)only[↓pa,↓pmx,pb,pmy,pmz,↓reduceIte,Nat.reduceEqDiff,Nat.reduceAdd,Nat.reduceLeDiff,reduceCtorEq]
   exact OutS_val hp rfl rfl hj
  ·have ha:pint t i=none:=by rcases h with h|h;cases h;exact h
   rw[ha]at hp
   simp (disch:=omega)only[↓pa,↓pmx,pb,pmy,pmz,↓reduceIte,Nat.reduceEqDiff,Nat.reduceAdd,Nat.reduceLeDiff,reduceCtorEq]
   exact OutS_none (dm:=is6) hp ⟨_,rfl,rfl,by simp only[pmz,Bool.and_self],by simp only[pmz]⟩ rfl hj
theorem c_valueS(K:Env cf){t:List UInt8}(hl:t.length≤2000000):∀ b,b≤5→ValOkS cf t b
 |0,_=>c_valueStepS K hl (o:=none) (fun _=>rfl) (.inr ⟨by decide,rfl⟩)
 |b+1,hb=>c_valueStepS K hl (o:=some (pval t b)) (fun _=>rfl) (.inl ⟨by omega,fun _ _ _ hs hi=>c_listS K hs hi hl (by omega) (c_valueS K hl b (by omega)),fun _ _ _ hs hi=>c_mapS K hs hi hl (by omega) (c_valueS K hl b (by omega))⟩)
end Go.PM
namespace Go.PM
mutual
def V.wild:V→Bool
 | .mk k _ _ _ _ vs=>decide (8≤k)||V.wilds vs
def V.wilds:List V→Bool
 | []=>false
 |v::vs=>v.wild||V.wilds vs
end
mutual
def V.plain:V→Bool
 | .mk k _ _ _ _ vs=>!(decide (k<0)||decide (8≤k)) && V.plains vs
def V.plains:List V→Bool
 | []=>true
 |v::vs=>(decide (v.kind=0)||v.plain) && V.plains vs
end
mutual
def V.good:V→Bool
 | .mk k _ _ _ _ vs=>decide (0≤k) && (decide (k≠0)||vs.isEmpty) && (decide (vs.length≤2000000) && V.goods vs)
def V.goods:List V→Bool
 | []=>true
 |v::vs=>v.good && V.goods vs
end
mutual
theorem V.plain_wild:∀ v:V,v.good=true→v.plain=!v.wild
 | .mk k n m s ns vs,h=>by
  rw[V.good,Bool.and_eq_true,Bool.and_eq_true]at h
  obtain⟨⟨h1,h2⟩,h3⟩:=h
  rw[Bool.and_eq_true]at h3
  have h3:=h3.2
  have h1:=of_decide_eq_true h1
  rw[V.plain,V.wild,V.plains_wilds vs h3]
  have:decide (k<0)=false:=decide_eq_false (by omega)
  rw[this]
  cases decide (8≤k)<;>cases V.wilds vs<;>rfl
theorem V.plains_wilds:∀ vs:List V,V.goods vs=true→V.plains vs=!V.wilds vs
 | [],_=>rfl
 |v::vs,h=>by
  rw[V.goods,Bool.and_eq_true]at h
  have ih:=V.plain_wild v h.1
  have hz:v.kind=0→v.wild=false:=fun hk=>by
   match v,h.1,hk with
   | .mk k n m s ns ws,hg,hk=>
    have hk:k=0:=hk
    subst hk
    rw[V.good,Bool.and_eq_true,Bool.and_eq_true]at hg
    have h2:(decide ((0:Int)≠0)||ws.isEmpty)=true:=hg.1.2
    have:ws=[]:=by simpa using h2
    subst this
    rfl
  rw[V.plains,V.wilds,V.plains_wilds vs h.2,ih]
  by_cases hk:v.kind=0
  ·rw[hz hk]
   simp[hk]
  ·simp[hk]
end
theorem V.goods_snoc:∀ (vs:List V) (v:V),V.goods vs=true→v.good=true→V.goods (vs++[v])=true
 | [],v,_,h=>by simp[V.goods,h]
 |w::vs,v,h,k=>by
  rw[V.goods,Bool.and_eq_true]at h
  rw[List.cons_append,V.goods,h.1,V.goods_snoc vs v h.2 k];rfl
theorem good_one{k n m:Int}{s:List UInt8}(h:0≤k):(V.mk k n m s [] []).good=true:=by
 rw[V.good,decide_eq_true h];simp[V.goods]
theorem good_many{k n m:Int}{s:List UInt8}{ns:List (List UInt8)}{vs:List V}(h:0<k)(hl:vs.length≤2000000)(g:V.goods vs=true):(V.mk k n m s ns vs).good=true:=by
 rw[V.good,decide_eq_true (show 0≤k by omega),decide_eq_true (show k≠0 by omega),decide_eq_true hl,g];rfl
theorem pthing_good{t:List UInt8}{k:Int}{i j:Nat}{v:V}(hk:0≤k)(h:pthing t k i=some (v,j)):v.good=true:=by
 unfold pthing at h
 simp only[Option.map_eq_some_iff,Prod.mk.injEq]at h
 obtain⟨_,_,rfl,_⟩:=h
 exact good_one hk
theorem pathGo_good{t:List UInt8}:∀ (n:Nat) (node:Bool) (i:Nat) (acc:List V) {v:V} {j:Nat},acc.length+n≤2000000→V.goods acc=true→pathGo t n node i acc=some (v,j)→v.good=true
 |0,_,_,_,_,_,_,_,h=>by cases h
 |n+1,node,i,acc,v,j,hb,g,h=>by
  have ih:=fun node i acc hb g=>pathGo_good (t:=t) n node i acc (v:=v) (j:=j) hb g
  rw[pathGo]at h
  by_cases hc:cI t i=(if node then 110 else 101)
  ·rw[if_pos hc]at h
   cases hv:pthing t (if node then 8 else 9) (i+1)with
   |none=>rw[hv]at h;cases h
   |some q=>
    obtain⟨w,j1⟩:=q
    rw[hv]at h
    simp only at h
    have hw:=pthing_good (by split<;>decide) hv
    split at h
    ·cases h;exact good_many (by decide) (by rw[app_len];omega) (V.goods_snoc _ _ g hw)
    ·split at h
     ·exact ih _ _ _ (by rw[app_len];omega) (V.goods_snoc _ _ g hw) h
     ·cases h
  ·rw[if_neg hc]at h;cases h
theorem listGo_good{t:List UInt8}{rd:Nat→Option (V×Nat)}(hr:∀ i v j,rd i=some (v,j)→v.good=true):∀ (n i:Nat) (acc:List V) {v:V} {j:Nat},acc.length+n≤2000000→V.goods acc=true→listGo t rd n i acc=some (v,j)→v.good=true
 |0,_,_,_,_,_,_,h=>by cases h
 |n+1,i,acc,v,j,hb,g,h=>by
  have ih:=fun i acc hb g=>listGo_good (t:=t) hr n i acc (v:=v) (j:=j) hb g
  rw[listGo]at h
  split at h
  ·rename_i hv
   have hw:=hr _ _ _ hv
   split at h
   ·cases h;exact good_many (by decide) (by rw[app_len];omega) (V.goods_snoc _ _ g hw)
   ·split at h
    ·exact ih _ _ (by rw[app_len];omega) (V.goods_snoc _ _ g hw) h
    ·cases h
  ·cases h
theorem mapGo_good{t:List UInt8}{rd:Nat→Option (V×Nat)}(hr:∀ i v j,rd i=some (v,j)→v.good=true):∀ (n i:Nat) (ns:List (List UInt8)) (acc:List V) {v:V} {j:Nat},acc.length+n≤2000000→V.goods acc=true→mapGo t rd n i ns acc=some (v,j)→v.good=true
 |0,_,_,_,_,_,_,_,h=>by cases h
 |n+1,i,ns,acc,v,j,hb,g,h=>by
  have ih:=fun i ns acc hb g=>mapGo_good (t:=t) hr n i ns acc (v:=v) (j:=j) hb g
  rw[mapGo]at h
  split at h
  ·split at h
   ·split at h
    ·rename_i hv
     have hw:=hr _ _ _ hv
     split at h
     ·split at h
      ·cases h;exact good_many (by decide) (by rw[app_len];omega) (V.goods_snoc _ _ g hw)
      ·cases h
     ·split at h
      ·exact ih _ _ _ (by rw[app_len];omega) (V.goods_snoc _ _ g hw) h
      ·cases h
    ·cases h
   ·cases h
  ·cases h
theorem pbody_good{t:List UInt8}(hl:t.length≤999999){o:Option (Nat→Option (V×Nat))}(hr:∀ rd,o=some rd→∀ i v j,rd i=some (v,j)→v.good=true){i:Nat}{v:V}{j:Nat}(h:pbody t o i=some (v,j)):v.good=true:=by
 rw[pbody_eqS]at h
 have hm:∀ {α:Type} {q:Option (α×Nat)} {f:α→V},(∀ a,(f a).good=true)→(q.map fun p=>(f p.1,p.2))=some (v,j)→v.good=true:=fun hf h=>by
  simp only[Option.map_eq_some_iff,Prod.mk.injEq]at h
  obtain⟨_,_,rfl,_⟩:=h
  exact hf _
 by_cases a1:tk t i [110,117,108,108]=true
 ·rw[if_pos a1]at h;cases h;rfl
 rw[if_neg a1]at h
 by_cases a2:tk t i [116,114,117,101]=true
 ·rw[if_pos a2]at h;cases h;rfl
 rw[if_neg a2]at h
 by_cases a3:tk t i [102,97,108,115,101]=true
 ·rw[if_pos a3]at h;cases h;rfl
 rw[if_neg a3]at h
 by_cases c1:cI t i=34
 ·rw[if_pos c1]at h
  exact hm (f:=fun a=>V.mk 3 0 0 a [] []) (fun a=>good_one (by decide)) h
 rw[if_neg c1]at h
 by_cases c2:cI t i=64
 ·rw[if_pos c2]at h
  exact hm (f:=fun a=>V.mk 4 a 0 [] [] []) (fun a=>good_one (by decide)) h
 rw[if_neg c2]at h
 by_cases c3:cI t i=40
 ·rw[if_pos c3]at h
  unfold ppoint at h
  split at h
  ·split at h
   ·split at h
    ·split at h
     ·cases h;exact good_one (by decide)
     ·cases h
    ·cases h
   ·cases h
  ·cases h
 rw[if_neg c3]at h
 by_cases c4:cI t i=110
 ·rw[if_pos c4]at h;exact pthing_good (by decide) h
 rw[if_neg c4]at h
 by_cases c5:cI t i=101
 ·rw[if_pos c5]at h;exact pthing_good (by decide) h
 rw[if_neg c5]at h
 by_cases c6:cI t i=60
 ·rw[if_pos c6]at h;exact pathGo_good _ _ _ _ (by simp only[List.length_nil];omega) rfl h
 rw[if_neg c6]at h
 by_cases c7:cI t i=91
 ·rw[if_pos c7]at h
  cases o with
  |none=>cases h
  |some rd=>
   change plist t rd (i+1)=some (v,j)at h
   unfold plist at h
   split at h
   ·cases h;exact good_one (by decide)
   ·exact listGo_good (hr _ rfl) _ _ _ (by simp only[List.length_nil];omega) rfl h
 rw[if_neg c7]at h
 by_cases c8:cI t i=123
 ·rw[if_pos c8]at h
  cases o with
  |none=>cases h
  |some rd=>
   change pmap t rd (i+1)=some (v,j)at h
   unfold pmap at h
   split at h
   ·cases h;exact good_one (by decide)
   ·exact mapGo_good (hr _ rfl) _ _ _ _ (by simp only[List.length_nil];omega) rfl h
 rw[if_neg c8]at h
 exact hm (f:=fun a=>V.mk 2 a 0 [] [] []) (fun a=>good_one (by decide)) h
theorem pval_good{t:List UInt8}(hl:t.length≤999999):∀ (b i:Nat) (v:V) (j:Nat),pval t b i=some (v,j)→v.good=true
 |0,i,v,j,h=>pbody_good hl (fun rd h=>by cases h) (show pbody t none i=some (v,j)from h)
 |b+1,i,v,j,h=>pbody_good hl (fun rd h=>by cases h;exact pval_good hl b) (show pbody t (some (pval t b)) i=some (v,j)from h)
theorem pread_good{t:List UInt8}{v:V}(h:pread t=some v):v.good=true:=by
 unfold pread at h
 split at h
 ·rename_i hlen
  split at h
  ·rename_i hv
   split at h
   ·cases h;exact pval_good (by omega) _ _ _ _ hv
   ·cases h
  ·cases h
 ·cases h
def fieldOk(t:List UInt8):Bool:=match pread t with
 |some v=>decide (v.kind≠0) && !v.wild
 |none=>false
end Go.PM
namespace Go.PM
open Go.Lib
variable {cf:CallF} {st:St} {mk:PV→St→Fr×St} {A:Fr×St→Prop} {s:Nat}
theorem partP_left{as bs:List PV}{off sz:Nat}{ag:Bool}(h:off+sz≤as.length):partP (as++bs) off sz ag=partP as off sz ag:=by
 unfold partP
 rw[List.length_append,if_pos (by omega),if_pos h]
 cases ag with
 |true=>
  simp only[if_true]
  rw[List.drop_append_of_le_length (by omega),List.take_append_of_le_length (by rw[List.length_drop];omega)]
 |false=>
  simp only[Bool.false_eq_true,if_false]
  split
  ·rw[List.getElem?_append_left (by omega)]
  ·rfl
theorem partP_right{as bs:List PV}{off sz:Nat}{ag:Bool}:partP (as++bs) (as.length+off) sz ag=partP bs off sz ag:=by
 unfold partP
 have:as.length+off+sz≤(as++bs).length↔off+sz≤bs.length:=by rw[List.length_append];omega
 simp only[this]
 split
 ·split
  ·rw[List.drop_append,List.drop_eq_nil_of_le (by omega),List.nil_append,show as.length+off-as.length=off by omega]
  ·split
   ·rw[List.getElem?_append_right (by omega),show as.length+off-as.length=off by omega]
   ·rfl
 ·rfl
theorem partP_flat{α:Type}(enc:α→List PV)(m:Nat)(henc:∀ a,(enc a).length=m)(off sz:Nat)(ag:Bool)(h:off+sz≤m):∀ (l:List α) (j:Nat) (hj:j<l.length),partP (l.flatMap enc) (j*m+off) sz ag=partP (enc l[j]) off sz ag
 |a::l,0,_=>by
  rw[List.flatMap_cons,Nat.zero_mul,Nat.zero_add,partP_left (by rw[henc];exact h)]
  rfl
 |a::l,j+1,hj=>by
  have hj':j<l.length:=by simpa using hj
  rw[List.flatMap_cons,show(j+1) *m+off=(enc a).length+(j*m+off) by rw[henc,Nat.succ_mul];omega,partP_right,partP_flat enc m henc off sz ag h l j hj']
  rfl
theorem cas_flat(vs:List V):V.cas vs=vs.flatMap V.ca:=by
 induction vs with
 |nil=>rfl
 |cons v vs ih=>rw[V.cas,ih];rfl
theorem cbs_flat(vs:List V):V.cbs vs=vs.flatMap V.cb:=by
 induction vs with
 |nil=>rfl
 |cons v vs ih=>rw[V.cbs,ih];rfl
theorem partP_cas{vs:List V}{j:Nat}(h:j<vs.length):partP (V.cas vs) (j*6) 6 true=some (VA vs[j]):=by
 have:=partP_flat V.ca 6 V.ca_len 0 6 true (by decide) vs j h
 rw[cas_flat,show j*6=j*6+0 from rfl,this]
 exact partP_all (V.ca_len _)
theorem partP_cbs{vs:List V}{j:Nat}(h:j<vs.length):partP (V.cbs vs) (j*6) 6 true=some (VB vs[j]):=by
 have:=partP_flat V.cb 6 V.cb_len 0 6 true (by decide) vs j h
 rw[cbs_flat,show j*6=j*6+0 from rfl,this]
 exact partP_all (V.cb_len _)
theorem partP_cbsK{vs:List V}{j:Nat}(h:j<vs.length):partP (V.cbs vs) (j*6) 1 false=some (I vs[j].kind):=by
 have:=partP_flat V.cb 6 V.cb_len 0 1 false (by decide) vs j h
 rw[cbs_flat,show j*6=j*6+0 from rfl,this]
 exact kindB
def ReadI(t:List UInt8)(r:PV):Prop:=match pread t with
 |some v=>r= .tup [VA v,.bool true]
 |none=>∃ p,is6 p∧r= .tup [p,.bool false]
theorem ReadI_some{t:List UInt8}{r:PV}{v:V}(h:pread t=some v)(k:r= .tup [VA v,.bool true]):ReadI t r:=by
 unfold ReadI;rw[h];exact k
theorem ReadI_none{t:List UInt8}{r p:PV}(h:pread t=none)(k:is6 p)(e:r= .tup [p,.bool false]):ReadI t r:=by
 unfold ReadI;rw[h];exact⟨p,k,e⟩
theorem c_read(K:Env cf){t:List UInt8}:∃ r,ReadI t r∧∃ fl,callP cf 188 [S t] [] st=some (r,setF st fl):=by
 refine c_valE K.tab (F:=F188) rfl rfl rfl (lb rfl) (by simp[plainV_str]) 1 ?_
 unfold F188 qr qd qm qc qk ql qo qe qN
 simp (disch:=omega)only[↓pa,pb,↓reduceIte,reduceCtorEq]
 refine Cnd_intro (fun h=>?_) (fun h=>?_)
 ·simp (disch:=omega)only[↓pa,↓pmx,pb,pmy,pmz,↓reduceIte,Nat.reduceEqDiff,Nat.reduceAdd,Nat.reduceLeDiff,h]
  exact ReadI_none (by rw[pread,if_neg (by omega)]) ⟨_,rfl,rfl,by simp only[pmz,Bool.and_self],by simp only[pmz]⟩ rfl
 have hr:pread t=match pval t 5 0 with
  |some (v,j)=>if j=t.length then some v else none
  |none=>none:=by rw[pread,if_pos (by omega)];rfl
 have hv5:=c_value K (t:=t) (by omega) 5 (Nat.le_refl 5)
 have e5:5- ((5:Nat):Int)=0:=rfl
 unfold ValOk at hv5
 rw[e5]at hv5
 simp (disch:=omega)only[↓pa,↓pmx,pb,pmy,↓reduceIte,Nat.reduceAdd,Nat.reduceLeDiff,reduceCtorEq,h]
 refine RunsTo_I (hv5 _ 13 0 (by simp (disch:=omega)only[pb,↓reduceIte];rfl) (Nat.zero_le _)) (fun v j fl hv hj=>?_) (fun p j fl hv hx hj=>?_)
 ·rw[hv]at hr
  have hvl:=v.ca_len
  by_cases hjl:j=t.length
  ·have hr:pread t=some v:=by rw[hr];exact if_pos hjl
   simp (disch:=omega)only[↓pa,↓pmw,pb,pmy,pmwk,pmwa,pmz,pmV,List.getElem?_cons_zero,List.getElem?_cons_succ,↓reduceIte,Nat.reduceEqDiff,Nat.reduceAdd,Nat.reduceLeDiff,reduceCtorEq,hvl,put6,take6,hjl]
   exact ReadI_some hr rfl
  ·have hr:pread t=none:=by rw[hr];exact if_neg hjl
   simp (disch:=omega)only[↓pa,↓pmw,pb,pmy,pmwk,pmwa,pmz,natP,pmV,List.getElem?_cons_zero,List.getElem?_cons_succ,↓reduceIte,Nat.reduceEqDiff,Nat.reduceAdd,Nat.reduceLeDiff,reduceCtorEq,hvl,put6,take6,hjl]
   exact ReadI_none hr ⟨_,rfl,hvl,v.ca_plain.1,v.ca_plain.2.1⟩ rfl
 ·obtain⟨cs,rfl,hcs,hcn,hct⟩:=hx
  rw[hv]at hr
  simp (disch:=omega)only[↓pa,↓pmw,pb,pmy,pmwk,pmwa,pmz,List.getElem?_cons_zero,List.getElem?_cons_succ,↓reduceIte,Nat.reduceEqDiff,Nat.reduceAdd,Nat.reduceLeDiff,hcs,hcn,hct,put6,take6]
  exact ReadI_none hr ⟨_,rfl,hcs,hcn,hct⟩ rfl
def ReadS(t:List UInt8)(r:PV):Prop:=match pread t with
 |some v=>r=VB v
 |none=>r=dead
theorem ReadS_some{t:List UInt8}{r:PV}{v:V}(h:pread t=some v)(k:r=VB v):ReadS t r:=by
 unfold ReadS;rw[h];exact k
theorem ReadS_none{t:List UInt8}{r:PV}(h:pread t=none)(e:r=dead):ReadS t r:=by
 unfold ReadS;rw[h];exact e
theorem c_readS(K:Env cf){t:List UInt8}:∃ r,ReadS t r∧∃ fl,callP cf 186 [S t] [] st=some (r,setF st fl):=by
 refine c_valE K.tab (F:=F186) rfl rfl rfl (lb rfl) (by simp[plainV_str]) 1 ?_
 unfold F186 qr qd qm qk ql qf qo qe qN
 simp (disch:=omega)only[↓pa,pb,↓reduceIte,reduceCtorEq]
 refine Cnd_intro (fun h=>?_) (fun h=>?_)
 ·simp (disch:=omega)only[↓pa,↓pmx,pb,pmy,pmz,↓reduceIte,Nat.reduceEqDiff,Nat.reduceAdd,Nat.reduceLeDiff,h]
  exact ReadS_none (by rw[pread,if_neg (by omega)]) rfl
 have hr:pread t=match pval t 5 0 with
  |some (v,j)=>if j=t.length then some v else none
  |none=>none:=by rw[pread,if_pos (by omega)];rfl
 have hv5:=c_valueS K (t:=t) (by omega) 5 (Nat.le_refl 5)
 have e5:5- ((5:Nat):Int)=0:=rfl
 unfold ValOkS at hv5
 rw[e5]at hv5
 simp (disch:=omega)only[↓pa,↓pmx,pb,pmy,↓reduceIte,Nat.reduceAdd,Nat.reduceLeDiff,reduceCtorEq,h]
 refine RunsTo_S (hv5 _ 11 0 (by simp (disch:=omega)only[pb,↓reduceIte];rfl) (Nat.zero_le _)) (fun v j fl hv hj=>?_) (fun p j fl hv hx hj=>?_)
 ·rw[hv]at hr
  have hvl:=v.cb_len
  by_cases hjl:j=t.length
  ·have hr:pread t=some v:=by rw[hr];exact if_pos hjl
   simp (disch:=omega)only[↓pa,pb,pmy,pmz,pmV,↓reduceIte,Nat.reduceEqDiff,Nat.reduceAdd,Nat.reduceLeDiff,ne_eq,reduceCtorEq,hvl,put6,take6,hjl]
   exact ReadS_some hr rfl
  ·have hr:pread t=none:=by rw[hr];exact if_neg hjl
   simp (disch:=omega)only[↓pa,↓pmx,pb,pmy,pmz,natP,↓reduceIte,Nat.reduceEqDiff,Nat.reduceAdd,Nat.reduceLeDiff,ne_eq,reduceCtorEq,hvl,put6,hjl]
   exact ReadS_none hr rfl
 ·obtain⟨cs,rfl,hcs,hcn,hct⟩:=hx
  rw[hv]at hr
  simp (disch:=omega)only[↓pa,↓pmx,pb,pmy,pmz,↓reduceIte,Nat.reduceEqDiff,Nat.reduceAdd,Nat.reduceLeDiff,hcs,put6]
  exact ReadS_none hr rfl
theorem plainV_VA(v:V):plainV (VA v):=plainV_agg v.ca_plain
theorem plainV_VB(v:V):plainV (VB v):=plainV_agg v.cb_plain
theorem wilds_some{vs:List V}{j:Nat}(h:j<vs.length)(k:vs[j].wild=true):V.wilds vs=true:=by
 induction vs generalizing j with
 |nil=>simp at h
 |cons v vs ih=>
  rw[V.wilds]
  cases j with
  |zero=>have k:v.wild=true:=k;rw[k];rfl
  |succ j=>rw[ih (by simpa using h) (by simpa using k)];simp
theorem wilds_none{vs:List V}(h:∀ j,(hj:j<vs.length)→vs[j].wild=false):V.wilds vs=false:=by
 induction vs with
 |nil=>rfl
 |cons v vs ih=>
  have h0:v.wild=false:=h 0 (by simp)
  rw[V.wilds,h0,ih fun j hj=>h (j+1) (by simpa using hj)];rfl
theorem plains_no{vs:List V}{j:Nat}(h:j<vs.length)(k:(decide (vs[j].kind=0)||vs[j].plain)=false):V.plains vs=false:=by
 induction vs generalizing j with
 |nil=>simp at h
 |cons v vs ih=>
  rw[V.plains]
  cases j with
  |zero=>have k:(decide (v.kind=0)||v.plain)=false:=k;rw[k];rfl
  |succ j=>rw[ih (by simpa using h) (by simpa using k)];simp
theorem plains_yes{vs:List V}(h:∀ j,(hj:j<vs.length)→(decide (vs[j].kind=0)||vs[j].plain)=true):V.plains vs=true:=by
 induction vs with
 |nil=>rfl
 |cons v vs ih=>
  have h0:(decide (v.kind=0)||v.plain)=true:=h 0 (by simp)
  rw[V.plains,h0,ih fun j hj=>h (j+1) (by simpa using hj)];rfl
mutual
theorem c_wild(K:Env cf):∀ (v:V),v.good=true→∀ st,callP cf 192 [VA v] [] st=some (.bool v.wild,st)
 | .mk k n m s ns vs,hg=>by
  intro st
  rw[V.good,Bool.and_eq_true,Bool.and_eq_true,Bool.and_eq_true]at hg
  have hlen:=of_decide_eq_true hg.2.1
  have ih:=c_wilds K vs hg.2.2
  have hvl:(V.mk k n m s ns vs).ca.length=6:=rfl
  refine c_val K.tab (F:=F192) (t:=2) rfl rfl rfl (lb rfl) (by simp[plainV_VA]) (bare_bool _) (vs.length+1) ?_
  unfold F192 qr qd qm qi qc qb qk ql qf qo qe qN
  rw[V.wild]
  have hca:(V.mk k n m s ns vs).ca=[I k,I n,I m,S s,.list ns.length (ns.map S) .no,.list vs.length (V.cas vs) .no]:=by rw[V.ca]
  have hcl:=V.cas_len vs
  simp (disch:=omega)only[↓pa,pb,pmy,↓reduceIte,Nat.reduceEqDiff,Nat.reduceAdd,VA,hca]
  refine Cnd_intro (fun h8=>?_) (fun h8=>?_)
  ·simp (disch:=omega)only[↓pa,pb,↓reduceIte,h8]
  simp (disch:=omega)only[↓pa,pb,pmy,↓reduceIte,Nat.reduceEqDiff,Nat.reduceAdd,h8]
  refine Wp_rounds (fun k' fr st=>∃ j:Nat,k'=vs.length-j∧j≤vs.length∧fr 9= .list vs.length (V.cas vs) .no∧fr 10=I vs.length∧fr 11=I j∧∀ q,q<j→(hq:q<vs.length)→vs[q].wild=false) vs.length (by omega) ⟨0,rfl,by omega,by simp (disch:=omega)only[↓pa,↓reduceIte,Nat.reduceEqDiff],by simp (disch:=omega)only[↓pa,↓reduceIte,Nat.reduceEqDiff],by simp (disch:=omega)only[↓pa,↓reduceIte];rfl,fun q hq=>by omega⟩ ?_
  rintro k' fr st ⟨j,rfl,hj,f9,f10,f11,hall⟩
  simp (disch:=omega)only[↓pa,pb,natP,↓reduceIte,f10,f11]
  refine Cnd_intro (fun h1=>?_) (fun h1=>?_)
  ·have hw:=ih vs[j] (List.getElem_mem h1)
   have hvj:=vs[j].ca_len
   simp (disch:=omega)only[↓pa,pb,pmy,↓reduceIte,Nat.reduceEqDiff,Nat.reduceAdd,Nat.reduceLeDiff,f9,f11,h1,partP_cas h1,hvj,put6,take6,hw]
   refine Cnd_intro (fun h2=>?_) (fun h2=>?_)
   ·simp (disch:=omega)only[↓pa,pb,↓reduceIte,h2]
    rw[wilds_some h1 h2]
   ·simp (disch:=omega)only[↓pa,pb,natP,↓reduceIte,Nat.reduceEqDiff,f9,f10,f11,h2]
    refine⟨vs.length- (j+1),by omega,j+1,rfl,by omega,rfl,fun q hq hq'=>?_⟩
    by_cases e:q=j
    ·subst e;simpa using h2
    ·simpa using hall q (by omega) hq'
  ·simp (disch:=omega)only[↓pa,pb,↓reduceIte,h1]
   rw[wilds_none fun q hq=>hall q (by omega) hq]
theorem c_wilds(K:Env cf):∀ (vs:List V),V.goods vs=true→∀ w∈vs,∀ st,callP cf 192 [VA w] [] st=some (.bool w.wild,st)
 | [],_,w,hw=>by cases hw
 |v::vs,hg,w,hw=>by
  rw[V.goods,Bool.and_eq_true]at hg
  intro st
  rcases List.mem_cons.1 hw with hw|hw
  ·rw[hw];exact c_wild K v hg.1 st
  ·exact c_wilds K vs hg.2 w hw st
end
mutual
theorem c_plain(K:Env cf):∀ (v:V),v.good=true→∀ st,callP cf 191 [VB v] [] st=some (.bool v.plain,st)
 | .mk k n m s ns vs,hg=>by
  intro st
  rw[V.good,Bool.and_eq_true,Bool.and_eq_true,Bool.and_eq_true]at hg
  have hlen:=of_decide_eq_true hg.2.1
  have ih:=c_plains K vs hg.2.2
  have hvl:(V.mk k n m s ns vs).cb.length=6:=rfl
  refine c_val K.tab (F:=F191) (t:=2) rfl rfl rfl (lb rfl) (by simp[plainV_VB]) (bare_bool _) (vs.length+1) ?_
  unfold F191 qr qd qm qi qc qb qk ql qf qo
  rw[V.plain]
  have hcb:(V.mk k n m s ns vs).cb=[I k,I n,I m,S s,.list vs.length (V.cbs vs) .no,.list ns.length (ns.map S) .no]:=by rw[V.cb]
  have hcl:=V.cbs_len vs
  simp (disch:=omega)only[↓pa,pb,pmy,↓reduceIte,Nat.reduceEqDiff,Nat.reduceAdd,VB,hcb]
  refine Cnd_intro (fun h0=>?_) (fun h0=>?_)
  ·simp (disch:=omega)only[↓pa,pb,↓reduceIte,Nat.reduceEqDiff,h0]
  simp (disch:=omega)only[↓pa,pb,pmy,↓reduceIte,Nat.reduceEqDiff,Nat.reduceAdd,h0]
  refine Cnd_intro (fun h8=>?_) (fun h8=>?_)
  ·simp (disch:=omega)only[↓pa,pb,↓reduceIte,h8]
  simp (disch:=omega)only[↓pa,pb,h8]
  refine Wp_rounds (fun k' fr st=>∃ j:Nat,k'=vs.length-j∧j≤vs.length∧fr 1= .ptr 1 0∧st.objs 1=some [I k,I n,I m,S s,.list vs.length (V.cbs vs) .no,.list ns.length (ns.map S) .no]∧fr 3=I j∧∀ q,q<j→(hq:q<vs.length)→(decide (vs[q].kind=0)||vs[q].plain)=true) vs.length (by omega) ⟨0,rfl,by omega,by simp (disch:=omega)only[↓pa,↓reduceIte,Nat.reduceEqDiff],by simp (disch:=omega)only[pb,↓reduceIte],by simp (disch:=omega)only[↓pa,↓reduceIte];rfl,fun q hq=>by omega⟩ ?_
  rintro k' fr st ⟨j,rfl,hj,f1,o1,f3,hall⟩
  simp (disch:=omega)only[↓pa,pb,pmy,natP,↓reduceIte,Nat.reduceEqDiff,Nat.reduceAdd,f1,o1,f3]
  refine Cnd_intro (fun h1=>?_) (fun h1=>?_)
  ·have hw:=ih vs[j] (List.getElem_mem h1)
   have hvj:=vs[j].cb_len
   have next:(decide (vs[j].kind=0)||vs[j].plain)=true→∀ q,q<j+1→(hq:q<vs.length)→(decide (vs[q].kind=0)||vs[q].plain)=true:=fun h q hq hq'=>by
    by_cases e:q=j
    ·subst e;exact h
    ·exact hall q (by omega) hq'
   simp (disch:=omega)only[↓pa,pb,pmy,↓reduceIte,Nat.reduceEqDiff,Nat.reduceAdd,ne_eq,f1,o1,f3,h1,partP_cbsK h1,Nat.add_zero]
   refine Cnd_intro (fun h2=>?_) (fun h2=>?_)
   ·simp (disch:=omega)only[↓pa,pb,natP,↓reduceIte,Nat.reduceEqDiff,f1,o1,f3,h2]
    exact⟨vs.length- (j+1),by omega,j+1,rfl,by omega,rfl,by simpa using next (by rw[h2];rfl)⟩
   ·simp (disch:=omega)only[↓pa,pb,pmy,↓reduceIte,Nat.reduceEqDiff,Nat.reduceAdd,f1,o1,f3,h2,partP_cbs h1,hw]
    refine Cnd_intro (fun h3=>?_) (fun h3=>?_)
    ·simp (disch:=omega)only[↓pa,pb,natP,↓reduceIte,Nat.reduceEqDiff,f1,o1,f3,h3]
     exact⟨vs.length- (j+1),by omega,j+1,rfl,by omega,rfl,by simpa using next (by rw[h3];simp)⟩
    ·simp (disch:=omega)only[↓pa,pb,↓reduceIte,h3]
     rw[plains_no h1 (by simp[h2];simpa using h3)]
  ·simp (disch:=omega)only[↓pa,pb,↓reduceIte,h1]
   rw[plains_yes fun q hq=>hall q (by omega) hq]
theorem c_plains(K:Env cf):∀ (vs:List V),V.goods vs=true→∀ w∈vs,∀ st,callP cf 191 [VB w] [] st=some (.bool w.plain,st)
 | [],_,w,hw=>by cases hw
 |v::vs,hg,w,hw=>by
  rw[V.goods,Bool.and_eq_true]at hg
  intro st
  rcases List.mem_cons.1 hw with hw|hw
  ·rw[hw];exact c_plain K v hg.1 st
  ·exact c_plains K vs hg.2 w hw st
end
theorem c_fieldValue(K:Env cf)(t:List UInt8):callP cf 171 [S t] [] st=some (.bool (fieldOk t),st):=by
 refine c_val K.tab (F:=F171) (t:=2) rfl rfl rfl (lb rfl) (by simp[plainV_str]) (bare_bool _) 1 ?_
 unfold F171 qr qm qc qo qe qN
 simp (disch:=omega)only[↓pa,pb,↓reduceIte,reduceCtorEq]
 refine RunsTo_EV (c_read K) (fun r fl hr=>?_)
 unfold ReadI at hr
 cases h:pread t with
 |some v=>
  rw[h]at hr
  have hr:r= .tup [VA v,.bool true]:=hr
  subst hr
  have hvl:=v.ca_len
  have hw:=c_wild K v (pread_good h)
  have hf:fieldOk t=(decide (v.kind≠0) && !v.wild):=by rw[fieldOk,h]
  simp (disch:=omega)only[↓pa,pb,pmy,List.getElem?_cons_zero,List.getElem?_cons_succ,↓reduceIte,Nat.reduceEqDiff,Nat.reduceAdd,Nat.reduceLeDiff,ne_eq,hvl,put6,kindA]
  by_cases hk:v.kind=0
  ·simp (disch:=omega)only[↓pa,pb,↓reduceIte,Nat.reduceEqDiff,ne_eq,hk,hf]
  ·simp (disch:=omega)only[↓pa,pb,pmy,↓reduceIte,Nat.reduceEqDiff,Nat.reduceLeDiff,ne_eq,hvl,take6,hk,hf,hw]
 |none=>
  rw[h]at hr
  obtain⟨p,⟨cs,rfl,hcs,hcn,hct⟩,rfl⟩:=hr
  have hf:fieldOk t=false:=by rw[fieldOk,h]
  simp (disch:=omega)only[↓pa,pb,pmy,List.getElem?_cons_zero,List.getElem?_cons_succ,↓reduceIte,Nat.reduceEqDiff,Nat.reduceAdd,Nat.reduceLeDiff,hcs,put6,hf]
theorem c_plainDead(K:Env cf):callP cf 191 [dead] [] st=some (.bool false,st):=by
 have hd:dead=VB (.mk (-1) 0 0 [] [] []):=by rw[VB,V.cb];rfl
 refine c_val K.tab (F:=F191) (t:=2) rfl rfl rfl (lb rfl) (by rw[hd];simp[plainV_VB]) (bare_bool _) 1 ?_
 unfold F191 qr qd qm qi qc qb qk ql qf qo
 simp (disch:=omega)only[↓pa,pb,pmy,↓reduceIte,Nat.reduceEqDiff,Nat.reduceAdd,Int.reduceLT,dead]
theorem c_fieldValueS(K:Env cf)(t:List UInt8):callP cf 167 [S t] [] st=some (.bool (fieldOk t),st):=by
 refine c_val K.tab (F:=F167) (t:=2) rfl rfl rfl (lb rfl) (by simp[plainV_str]) (bare_bool _) 1 ?_
 unfold F167 qr qm qc qk ql qf qo qe qN
 simp (disch:=omega)only[↓pa,pb,↓reduceIte,reduceCtorEq]
 refine RunsTo_EV (c_readS K) (fun r fl hr=>?_)
 unfold ReadS at hr
 cases h:pread t with
 |some v=>
  rw[h]at hr
  have hr:r=VB v:=hr
  subst hr
  have hvl:=v.cb_len
  have hg:=pread_good h
  have hw:=c_plain K v hg
  have hf:fieldOk t=(decide (v.kind≠0) && v.plain):=by rw[fieldOk,h,V.plain_wild v hg]
  by_cases hk:v.kind=0
  ·simp (disch:=omega)only[↓pa,pb,pmy,↓reduceIte,Nat.reduceEqDiff,Nat.reduceAdd,Nat.reduceLeDiff,ne_eq,hvl,put6,kindB,hk,hf]
  ·simp (disch:=omega)only[↓pa,pb,pmy,↓reduceIte,Nat.reduceEqDiff,Nat.reduceAdd,Nat.reduceLeDiff,ne_eq,hvl,put6,take6,kindB,hk,hf,hw]
 |none=>
  rw[h]at hr
  have hr:r=dead:=hr
  subst hr
  have hf:fieldOk t=false:=by rw[fieldOk,h]
  simp (disch:=omega)only[↓pa,pb,pmy,↓reduceIte,Nat.reduceEqDiff,Nat.reduceAdd,Nat.reduceLeDiff,ne_eq,reduceCtorEq,dead]
  rw[←dead]
  simp (disch:=omega)only[↓pa,pb,↓reduceIte,Nat.reduceEqDiff,c_plainDead K,hf]
abbrev Fd:=List UInt8×List UInt8
def fc(f:Fd):List PV:=[S f.1,S f.2]
@[reducible] def FX (l:List Fd):PV:= .list l.length (l.flatMap fc) .no
theorem fc_len(f:Fd):(fc f).length=2:=rfl
theorem fs_len(l:List Fd):(l.flatMap fc).length=l.length*2:=by
 induction l with
 |nil=>rfl
 |cons f l ih=>rw[List.flatMap_cons,List.length_append,ih,fc_len,List.length_cons];omega
theorem fc_plain(f:Fd):plainVs (fc f):=plainVs_cons (plainV_str _) (plainVs_cons (plainV_str _) plainVs_nil)
theorem fs_plain(l:List Fd):plainVs (l.flatMap fc):=by
 induction l with
 |nil=>exact plainVs_nil
 |cons f l ih=>rw[List.flatMap_cons];exact plainVs_append (fc_plain f) ih
theorem plainV_FX(l:List Fd):plainV (FX l):=plainV_list (fs_plain l)
theorem partP_fs{l:List Fd}{j:Nat}(h:j<l.length):partP (l.flatMap fc) (j*2) 2 true=some (.agg [S l[j].1,S l[j].2]):=by
 have:=partP_flat fc 2 fc_len 0 2 true (by decide) l j h
 rw[show j*2=j*2+0 from rfl,this]
 rfl
theorem partP_fn{l:List Fd}{j:Nat}(h:j<l.length):partP (l.flatMap fc) (j*2) 1 false=some (S l[j].1):=by
 have:=partP_flat fc 2 fc_len 0 1 false (by decide) l j h
 rw[show j*2=j*2+0 from rfl,this]
 rfl
theorem partP_fv{l:List Fd}{j:Nat}(h:j<l.length):partP (l.flatMap fc) (j*2+1) 1 false=some (S l[j].2):=by
 have:=partP_flat fc 2 fc_len 1 1 false (by decide) l j h
 rw[this]
 rfl
def fAt(l:List Fd)(i:Nat):Fd:=l.getD i ([],[])
theorem fAt_eq{l:List Fd}{i:Nat}(h:i<l.length):fAt l i=l[i]:=by simp[fAt,h]
def frises(l:List Fd)(i:Nat):Bool:=decide (i=0)||sLt (fAt l (i-1)).1 (fAt l i).1
def fieldOkAt(l:List Fd)(i:Nat):Bool:=nameOk (fAt l i).1 && (frises l i && fieldOk (fAt l i).2)
def fieldsOk(l:List Fd):Bool:=decide ((l.length:Int)≤20) && alln l.length (fieldOkAt l)
set_option maxHeartbeats 1000000 in
theorem c_fields(K:Env cf)(l:List Fd):callP cf 126 [FX l] [] st=some (.bool (fieldsOk l),st):=by
 refine c_val K.tab (F:=F126) (t:=2) rfl rfl rfl (lb rfl) (by simp[plainV_FX]) (bare_bool _) (l.length+1) ?_
 have hm:=fs_len l
 unfold F126 qr qd qm qi qc qb qk ql qf qo qe
 simp (disch:=omega)only[↓pa,pb,↓reduceIte,reduceCtorEq]
 refine Cnd_intro (fun h1=>?_) (fun h1=>?_)
 ·simp (disch:=omega)only[↓pa,pb,↓reduceIte,h1]
  have:¬ ((l.length:Int)≤20):=by omega
  simp only[fieldsOk,this,decide_false,Bool.false_and]
 have h1':(l.length:Int)≤20:=by omega
 simp (disch:=omega)only[↓pa,pb,↓reduceIte,reduceCtorEq,h1]
 refine Wp_rounds (fun k fr st=>∃ i:Nat,k=l.length-i∧i≤l.length∧fr 0=FX l∧fr 8=FX l∧fr 9=I l.length∧fr 10=I i∧∀ j,j<i→fieldOkAt l j=true) l.length (by omega) ⟨0,by simp,by omega,by simp (disch:=omega)only[↓pa,↓reduceIte,reduceCtorEq],by simp (disch:=omega)only[↓pa,↓reduceIte,Nat.reduceEqDiff],by simp (disch:=omega)only[↓pa,↓reduceIte,Nat.reduceEqDiff],by simp (disch:=omega)only[↓pa,↓reduceIte];rfl,fun j hj=>by omega⟩ ?_
 rintro k fr st ⟨i,rfl,hi,f0,f8,f9,f10,hall⟩
 simp (disch:=omega)only[↓pa,pb,natP,↓reduceIte,f9,f10]
 refine Cnd_intro (fun h4=>?_) (fun h4=>?_)
 rotate_left
 ·simp (disch:=omega)only[↓pa,pb,↓reduceIte,h4]
  have ha:alln l.length (fieldOkAt l)=true:=alln_true fun j hj=>hall j (by omega)
  simp only[fieldsOk,decide_eq_true h1',ha,Bool.and_self]
 have hlt:i<l.length:=h4
 have bad:fieldOkAt l i=false→fieldsOk l=false:=fun h=>by rw[fieldsOk,alln_false hlt h,Bool.and_false]
 have ea:fAt l i=l[i]:=fAt_eq hlt
 simp (disch:=omega)only[↓pa,pb,pmy,↓reduceIte,Nat.reduceEqDiff,Nat.reduceAdd,Nat.reduceLeDiff,f8,f10,partP_fs hlt,c_name K.tab]
 refine Cnd_intro (fun h5=>?_) (fun h5=>?_)
 rotate_left
 ·simp (disch:=omega)only[↓pa,pb,↓reduceIte,Nat.reduceEqDiff,h5]
  rw[bad (by rw[fieldOkAt,ea];simp[h5])]
 simp (disch:=omega)only[↓pa,pb,↓reduceIte,Nat.reduceEqDiff,h5]
 refine Cnd_intro (fun h6=>?_) (fun h6=>?_)
 ·have h6':0<i:=by omega
  have hp:((i:Int) -1).toNat=i-1:=by omega
  have eb:fAt l (i-1)=l[i-1]:=fAt_eq (by omega)
  have er:frises l i=sLt l[i-1].1 l[i].1:=by rw[frises,ea,eb,decide_eq_false (by omega),Bool.false_or]
  simp (disch:=omega)only[↓pa,pb,pmy,↓reduceIte,Nat.reduceEqDiff,reduceCtorEq,f0,h6,hp,Nat.add_zero,partP_fn (show i-1<l.length by omega)]
  refine Cnd_intro (fun h7=>?_) (fun h7=>?_)
  rotate_left
  ·simp (disch:=omega)only[↓pa,pb,↓reduceIte,Nat.reduceEqDiff,h7]
   rw[bad (by rw[fieldOkAt,er];simp[h7])]
  simp (disch:=omega)only[↓pa,pb,pmy,↓reduceIte,Nat.reduceEqDiff,Nat.reduceAdd,h7,c_fieldValue K]
  refine Cnd_intro (fun h8=>?_) (fun h8=>?_)
  ·simp (disch:=omega)only[↓pa,pb,natP,↓reduceIte,Nat.reduceEqDiff,reduceCtorEq,f0,f8,f9,f10,h8]
   have ok:fieldOkAt l i=true:=by rw[fieldOkAt,er,ea];simp[h5,h8];try exact h7
   exact⟨l.length- (i+1),by omega,i+1,rfl,by omega,rfl,below_next hall ok⟩
  ·simp (disch:=omega)only[↓pa,pb,↓reduceIte,h8]
   rw[bad (by rw[fieldOkAt,er,ea];simp[h8])]
 ·have er:frises l i=true:=by rw[frises,decide_eq_true (by omega)];rfl
  simp (disch:=omega)only[↓pa,pb,pmy,↓reduceIte,Nat.reduceEqDiff,Nat.reduceAdd,h6,c_fieldValue K]
  refine Cnd_intro (fun h8=>?_) (fun h8=>?_)
  ·simp (disch:=omega)only[↓pa,pb,natP,↓reduceIte,Nat.reduceEqDiff,reduceCtorEq,f0,f8,f9,f10,h8]
   have ok:fieldOkAt l i=true:=by rw[fieldOkAt,er,ea];simp[h5,h8];try exact h7
   exact⟨l.length- (i+1),by omega,i+1,rfl,by omega,rfl,below_next hall ok⟩
  ·simp (disch:=omega)only[↓pa,pb,↓reduceIte,h8]
   rw[bad (by rw[fieldOkAt,er,ea];simp[h8])]
set_option maxHeartbeats 1000000 in
theorem c_fieldsS(K:Env cf)(l:List Fd):callP cf 120 [FX l] [] st=some (.bool (fieldsOk l),st):=by
 refine c_val K.tab (F:=F120) (t:=2) rfl rfl rfl (lb rfl) (by simp[plainV_FX]) (bare_bool _) (l.length+1) ?_
 have hm:=fs_len l
 unfold F120 qr qd qm qi qc qb qk ql qf qo
 simp (disch:=omega)only[↓pa,pb,↓reduceIte,reduceCtorEq]
 refine Cnd_intro (fun h1=>?_) (fun h1=>?_)
 ·simp (disch:=omega)only[↓pa,pb,↓reduceIte,h1]
  have:¬ ((l.length:Int)≤20):=by omega
  simp only[fieldsOk,this,decide_false,Bool.false_and]
 have h1':(l.length:Int)≤20:=by omega
 simp (disch:=omega)only[↓pa,pb,h1]
 refine Wp_rounds (fun k fr st=>∃ i:Nat,k=l.length-i∧i≤l.length∧fr 0=FX l∧fr 3=I i∧∀ j,j<i→fieldOkAt l j=true) l.length (by omega) ⟨0,by simp,by omega,by simp (disch:=omega)only[↓pa,↓reduceIte,reduceCtorEq],by simp (disch:=omega)only[↓pa,↓reduceIte];rfl,fun j hj=>by omega⟩ ?_
 rintro k fr st ⟨i,rfl,hi,f0,f3,hall⟩
 simp (disch:=omega)only[↓pa,pb,natP,↓reduceIte,Nat.reduceEqDiff,reduceCtorEq,f0,f3]
 refine Cnd_intro (fun h4=>?_) (fun h4=>?_)
 rotate_left
 ·simp (disch:=omega)only[↓pa,pb,↓reduceIte,h4]
  have ha:alln l.length (fieldOkAt l)=true:=alln_true fun j hj=>hall j (by omega)
  simp only[fieldsOk,decide_eq_true h1',ha,Bool.and_self]
 have hlt:i<l.length:=h4
 have bad:fieldOkAt l i=false→fieldsOk l=false:=fun h=>by rw[fieldsOk,alln_false hlt h,Bool.and_false]
 have ea:fAt l i=l[i]:=fAt_eq hlt
 simp (disch:=omega)only[↓pa,pb,↓reduceIte,Nat.reduceEqDiff,reduceCtorEq,f0,f3,Nat.add_zero,partP_fn hlt,c_nameS K.tab]
 refine Cnd_intro (fun h5=>?_) (fun h5=>?_)
 rotate_left
 ·simp (disch:=omega)only[↓pa,pb,↓reduceIte,Nat.reduceEqDiff,h5]
  rw[bad (by rw[fieldOkAt,ea];simp[h5])]
 simp (disch:=omega)only[↓pa,pb,↓reduceIte,Nat.reduceEqDiff,f3,h5]
 refine Cnd_intro (fun h6=>?_) (fun h6=>?_)
 ·have h6':0<i:=by omega
  have hp:((i:Int) -1).toNat=i-1:=by omega
  have eb:fAt l (i-1)=l[i-1]:=fAt_eq (by omega)
  have er:frises l i=sLt l[i-1].1 l[i].1:=by rw[frises,ea,eb,decide_eq_false (by omega),Bool.false_or]
  simp (disch:=omega)only[↓pa,pb,↓reduceIte,Nat.reduceEqDiff,reduceCtorEq,f0,f3,h6,hp,Nat.add_zero,partP_fn (show i-1<l.length by omega),partP_fn hlt]
  refine Cnd_intro (fun h7=>?_) (fun h7=>?_)
  rotate_left
  ·simp (disch:=omega)only[↓pa,pb,↓reduceIte,Nat.reduceEqDiff,h7]
   rw[bad (by rw[fieldOkAt,er];simp[h7])]
  simp (disch:=omega)only[↓pa,pb,↓reduceIte,Nat.reduceEqDiff,reduceCtorEq,f0,f3,h7,partP_fv hlt,c_fieldValueS K]
  refine Cnd_intro (fun h8=>?_) (fun h8=>?_)
  ·simp (disch:=omega)only[↓pa,pb,natP,↓reduceIte,Nat.reduceEqDiff,reduceCtorEq,f0,f3,h8]
   have ok:fieldOkAt l i=true:=by rw[fieldOkAt,er,ea];simp[h5,h8];try exact h7
   exact⟨l.length- (i+1),by omega,i+1,rfl,by omega,rfl,below_next hall ok⟩
  ·simp (disch:=omega)only[↓pa,pb,↓reduceIte,h8]
   rw[bad (by rw[fieldOkAt,er,ea];simp[h8])]
 ·have er:frises l i=true:=by rw[frises,decide_eq_true (by omega)];rfl
  simp (disch:=omega)only[↓pa,pb,↓reduceIte,Nat.reduceEqDiff,reduceCtorEq,f0,f3,h6,partP_fv hlt,c_fieldValueS K]
  refine Cnd_intro (fun h8=>?_) (fun h8=>?_)
  ·simp (disch:=omega)only[↓pa,pb,natP,↓reduceIte,Nat.reduceEqDiff,reduceCtorEq,f0,f3,h8]
   have ok:fieldOkAt l i=true:=by rw[fieldOkAt,er,ea];simp[h5,h8];try exact h7
   exact⟨l.length- (i+1),by omega,i+1,rfl,by omega,rfl,below_next hall ok⟩
  ·simp (disch:=omega)only[↓pa,pb,↓reduceIte,h8]
   rw[bad (by rw[fieldOkAt,er,ea];simp[h8])]
structure Nd where
 id:Int
 labels:List (List UInt8)
 fields:List Fd
structure Eg where
 id:Int
 type:List UInt8
 src:Int
 dst:Int
 fields:List Fd
structure Gph where
 nodes:List Nd
 edges:List Eg
def nc(n:Nd):List PV:=[I n.id,TX n.labels,FX n.fields]
def ec(e:Eg):List PV:=[I e.id,S e.type,I e.src,I e.dst,FX e.fields]
@[reducible] def NX (l:List Nd):PV:= .list l.length (l.flatMap nc) .no
@[reducible] def EX (l:List Eg):PV:= .list l.length (l.flatMap ec) .no
def gc(g:Gph):List PV:=[NX g.nodes,EX g.edges]
theorem nc_len(n:Nd):(nc n).length=3:=rfl
theorem ec_len(e:Eg):(ec e).length=5:=rfl
theorem flat_len{α:Type}(enc:α→List PV)(m:Nat)(h:∀ a,(enc a).length=m)(l:List α):(l.flatMap enc).length=l.length*m:=by
 induction l with
 |nil=>simp
 |cons a l ih=>rw[List.flatMap_cons,List.length_append,ih,h,List.length_cons,Nat.succ_mul];omega
theorem flat_plain{α:Type}(enc:α→List PV)(h:∀ a,plainVs (enc a))(l:List α):plainVs (l.flatMap enc):=by
 induction l with
 |nil=>exact plainVs_nil
 |cons a l ih=>rw[List.flatMap_cons];exact plainVs_append (h a) ih
theorem nc_plain(n:Nd):plainVs (nc n):=plainVs_cons (plainV_int _ _) (plainVs_cons (plainV_tx _) (plainVs_cons (plainV_FX _) plainVs_nil))
theorem ec_plain(e:Eg):plainVs (ec e):=plainVs_cons (plainV_int _ _) (plainVs_cons (plainV_str _) (plainVs_cons (plainV_int _ _) (plainVs_cons (plainV_int _ _) (plainVs_cons (plainV_FX _) plainVs_nil))))
theorem plainV_NX(l:List Nd):plainV (NX l):=plainV_list (flat_plain nc nc_plain l)
theorem plainV_EX(l:List Eg):plainV (EX l):=plainV_list (flat_plain ec ec_plain l)
theorem gc_plain(g:Gph):plainVs (gc g):=plainVs_cons (plainV_NX _) (plainVs_cons (plainV_EX _) plainVs_nil)
theorem plainV_nd(n:Nd):plainV (.agg (nc n)):=plainV_agg (nc_plain n)
theorem plainV_eg(e:Eg):plainV (.agg (ec e)):=plainV_agg (ec_plain e)
theorem plainV_gr(g:Gph):plainV (.agg (gc g)):=plainV_agg (gc_plain g)
def nodeOk(n:Nd):Bool:=idOk n.id && (labelsOk 10 n.labels && fieldsOk n.fields)
def edgeOk(e:Eg):Bool:=idOk e.id && (nameOk e.type && (idOk e.src && (idOk e.dst && fieldsOk e.fields)))
theorem c_nodeOk(K:Env cf)(n:Nd):callP cf 88 [.agg (nc n)] [] st=some (.bool (nodeOk n),st):=by
 refine c_val K.tab (F:=F88) (t:=2) rfl rfl rfl (lb rfl) (by simp[plainV_nd]) (bare_bool _) 1 ?_
 unfold F88 qr qm qc ql qf qo nodeOk
 simp (disch:=omega)only[↓pa,pb,pmy,↓reduceIte,Nat.reduceEqDiff,Nat.reduceAdd,nc,c_idOk K.tab]
 cases h1:idOk n.id
 ·simp (disch:=omega)only[↓pa,pb,↓reduceIte,Nat.reduceEqDiff]
 simp (disch:=omega)only[↓pa,pb,pmy,↓reduceIte,Nat.reduceEqDiff,Nat.reduceAdd,c_labels K.tab n.labels 10 (by decide)]
 cases h2:labelsOk 10 n.labels
 ·simp (disch:=omega)only[↓pa,pb,↓reduceIte,Nat.reduceEqDiff]
 simp (disch:=omega)only[↓pa,pb,pmy,↓reduceIte,Nat.reduceEqDiff,Nat.reduceAdd,c_fields K n.fields]
theorem c_nodeOkS(K:Env cf)(n:Nd):callP cf 81 [.agg (nc n)] [] st=some (.bool (nodeOk n),st):=by
 refine c_val K.tab (F:=F81) (t:=2) rfl rfl rfl (lb rfl) (by simp[plainV_nd]) (bare_bool _) 1 ?_
 unfold F81 qr qm qc ql qf qo nodeOk
 simp (disch:=omega)only[↓pa,pb,pmy,↓reduceIte,Nat.reduceEqDiff,Nat.reduceAdd,nc,c_idOkS K.tab]
 cases h1:idOk n.id
 ·simp (disch:=omega)only[↓pa,pb,↓reduceIte,Nat.reduceEqDiff]
 simp (disch:=omega)only[↓pa,pb,pmy,↓reduceIte,Nat.reduceEqDiff,Nat.reduceAdd,c_labelsS K.tab n.labels]
 cases h2:labelsOk 10 n.labels
 ·simp (disch:=omega)only[↓pa,pb,↓reduceIte,Nat.reduceEqDiff]
 simp (disch:=omega)only[↓pa,pb,pmy,↓reduceIte,Nat.reduceEqDiff,Nat.reduceAdd,c_fieldsS K n.fields]
theorem c_edgeOk(K:Env cf)(e:Eg):callP cf 89 [.agg (ec e)] [] st=some (.bool (edgeOk e),st):=by
 refine c_val K.tab (F:=F89) (t:=2) rfl rfl rfl (lb rfl) (by simp[plainV_eg]) (bare_bool _) 1 ?_
 unfold F89 qr qm qc ql qf qo edgeOk
 simp (disch:=omega)only[↓pa,pb,pmy,↓reduceIte,Nat.reduceEqDiff,Nat.reduceAdd,ec,c_idOk K.tab]
 cases h1:idOk e.id
 ·simp (disch:=omega)only[↓pa,pb,↓reduceIte,Nat.reduceEqDiff]
 simp (disch:=omega)only[↓pa,pb,pmy,↓reduceIte,Nat.reduceEqDiff,Nat.reduceAdd,c_name K.tab]
 cases h2:nameOk e.type
 ·simp (disch:=omega)only[↓pa,pb,↓reduceIte,Nat.reduceEqDiff]
 simp (disch:=omega)only[↓pa,pb,pmy,↓reduceIte,Nat.reduceEqDiff,Nat.reduceAdd,c_idOk K.tab]
 cases h3:idOk e.src
 ·simp (disch:=omega)only[↓pa,pb,↓reduceIte,Nat.reduceEqDiff]
 simp (disch:=omega)only[↓pa,pb,pmy,↓reduceIte,Nat.reduceEqDiff,Nat.reduceAdd,c_idOk K.tab]
 cases h4:idOk e.dst
 ·simp (disch:=omega)only[↓pa,pb,↓reduceIte,Nat.reduceEqDiff]
 simp (disch:=omega)only[↓pa,pb,pmy,↓reduceIte,Nat.reduceEqDiff,Nat.reduceAdd,c_fields K e.fields]
theorem c_edgeOkS(K:Env cf)(e:Eg):callP cf 82 [.agg (ec e)] [] st=some (.bool (edgeOk e),st):=by
 refine c_val K.tab (F:=F82) (t:=2) rfl rfl rfl (lb rfl) (by simp[plainV_eg]) (bare_bool _) 1 ?_
 unfold F82 qr qm qc ql qf qo edgeOk
 simp (disch:=omega)only[↓pa,pb,pmy,↓reduceIte,Nat.reduceEqDiff,Nat.reduceAdd,ec,c_idOkS K.tab]
 cases h1:idOk e.id
 ·simp (disch:=omega)only[↓pa,pb,↓reduceIte,Nat.reduceEqDiff]
 simp (disch:=omega)only[↓pa,pb,pmy,↓reduceIte,Nat.reduceEqDiff,Nat.reduceAdd,c_nameS K.tab]
 cases h2:nameOk e.type
 ·simp (disch:=omega)only[↓pa,pb,↓reduceIte,Nat.reduceEqDiff]
 simp (disch:=omega)only[↓pa,pb,pmy,↓reduceIte,Nat.reduceEqDiff,Nat.reduceAdd,c_idOkS K.tab]
 cases h3:idOk e.src
 ·simp (disch:=omega)only[↓pa,pb,↓reduceIte,Nat.reduceEqDiff]
 simp (disch:=omega)only[↓pa,pb,pmy,↓reduceIte,Nat.reduceEqDiff,Nat.reduceAdd,c_idOkS K.tab]
 cases h4:idOk e.dst
 ·simp (disch:=omega)only[↓pa,pb,↓reduceIte,Nat.reduceEqDiff]
 simp (disch:=omega)only[↓pa,pb,pmy,↓reduceIte,Nat.reduceEqDiff,Nat.reduceAdd,c_fieldsS K e.fields]
theorem partP_n{l:List Nd}{j:Nat}(h:j<l.length):partP (l.flatMap nc) (j*3) 3 true=some (.agg (nc l[j])):=by
 have:=partP_flat nc 3 nc_len 0 3 true (by decide) l j h
 rw[show j*3=j*3+0 from rfl,this]
 exact partP_all (nc_len _)
theorem partP_nid{l:List Nd}{j:Nat}(h:j<l.length):partP (l.flatMap nc) (j*3) 1 false=some (I l[j].id):=by
 have:=partP_flat nc 3 nc_len 0 1 false (by decide) l j h
 rw[show j*3=j*3+0 from rfl,this]
 rfl
theorem partP_e{l:List Eg}{j:Nat}(h:j<l.length):partP (l.flatMap ec) (j*5) 5 true=some (.agg (ec l[j])):=by
 have:=partP_flat ec 5 ec_len 0 5 true (by decide) l j h
 rw[show j*5=j*5+0 from rfl,this]
 exact partP_all (ec_len _)
theorem partP_eid{l:List Eg}{j:Nat}(h:j<l.length):partP (l.flatMap ec) (j*5) 1 false=some (I l[j].id):=by
 have:=partP_flat ec 5 ec_len 0 1 false (by decide) l j h
 rw[show j*5=j*5+0 from rfl,this]
 rfl
def ixGo(id:Int):List Nd→Nat→Int
 | [],_=> -1
 |n::l,k=>if n.id=id then(k:Int)else ixGo id l (k+1)
def nodeIx(l:List Nd)(id:Int):Int:=ixGo id l 0
def hasId(l:List Nd)(id:Int):Bool:=l.any fun n=>decide (n.id=id)
theorem ixGo_neg(id:Int):∀ (l:List Nd) (k:Nat),(ixGo id l k<0)=(hasId l id=false)
 | [],_=>by simp[ixGo,hasId]
 |n::l,k=>by
  have ih:=ixGo_neg id l (k+1)
  unfold ixGo hasId
  by_cases h:n.id=id
  ·rw[if_pos h]
   simp[h]
  ·rw[if_neg h,ih]
   simp[hasId,h]
theorem c_nodeAtS(K:Env cf)(g:Gph)(id:Int)(hl:g.nodes.length≤2000000):callP cf 83 [.agg (gc g),I id] [] st=some (I (nodeIx g.nodes id),st):=by
 refine c_val K.tab (F:=F83) (t:=4) rfl rfl rfl (lb rfl) (by simp[plainV_gr,plainV_int]) (bare_int _ _) (g.nodes.length+1) ?_
 have hm:=flat_len nc 3 nc_len g.nodes
 unfold F83 qr qd qm qi qb qk ql qf qo
 simp (disch:=omega)only[↓pa,pmy,↓reduceIte,Nat.reduceAdd,gc]
 refine Wp_rounds (fun k fr st=>∃ i:Nat,k=g.nodes.length-i∧i≤g.nodes.length∧fr 1=I id∧fr 2= .ptr 2 0∧st.objs 2=some [NX g.nodes,EX g.edges]∧fr 5=I i∧ixGo id (g.nodes.drop i) i=nodeIx g.nodes id) g.nodes.length (by omega) ⟨0,by simp,by omega,by simp (disch:=omega)only[↓pa,pb,↓reduceIte,Nat.reduceEqDiff],by simp (disch:=omega)only[↓pa,↓reduceIte,Nat.reduceEqDiff],by simp (disch:=omega)only[pb,↓reduceIte],by simp (disch:=omega)only[↓pa,↓reduceIte];rfl,rfl⟩ ?_
 rintro k fr st ⟨i,rfl,hi,f1,f2,o2,f5,hQ⟩
 simp (disch:=omega)only[↓pa,pb,pmy,natP,↓reduceIte,Nat.reduceEqDiff,Nat.reduceAdd,f2,o2,f5]
 refine Cnd_intro (fun h1=>?_) (fun h1=>?_)
 ·rw[List.drop_eq_getElem_cons h1,ixGo]at hQ
  simp (disch:=omega)only[↓pa,pb,pmy,↓reduceIte,Nat.reduceEqDiff,f1,f2,o2,f5,Nat.add_zero,partP_nid h1]
  refine Cnd_intro (fun h2=>?_) (fun h2=>?_)
  ·rw[if_pos h2]at hQ
   simp (disch:=omega)only[↓pa,pb,↓reduceIte,Nat.reduceEqDiff,f5,h2]
   rw[←hQ]
  ·rw[if_neg h2]at hQ
   simp (disch:=omega)only[↓pa,pb,natP,↓reduceIte,Nat.reduceEqDiff,f1,f2,o2,f5,h2]
   exact⟨g.nodes.length- (i+1),by omega,i+1,rfl,by omega,rfl,hQ⟩
 ·have:i=g.nodes.length:=by omega
  rw[this,List.drop_length]at hQ
  simp (disch:=omega)only[↓pa,pb,↓reduceIte,h1]
  rw[←hQ];rfl
def nAt(l:List Nd)(i:Nat):Nd:=l.getD i ⟨0,[],[]⟩
def eAt(l:List Eg)(i:Nat):Eg:=l.getD i ⟨0,[],0,0,[]⟩
theorem nAt_eq{l:List Nd}{i:Nat}(h:i<l.length):nAt l i=l[i]:=by simp[nAt,h]
theorem eAt_eq{l:List Eg}{i:Nat}(h:i<l.length):eAt l i=l[i]:=by simp[eAt,h]
def nrises(l:List Nd)(i:Nat):Bool:=decide (i=0)||decide ((nAt l (i-1)).id<(nAt l i).id)
def erises(l:List Eg)(i:Nat):Bool:=decide (i=0)||decide ((eAt l (i-1)).id<(eAt l i).id)
def nodeOkAt(l:List Nd)(i:Nat):Bool:=nodeOk (nAt l i) && nrises l i
def edgeOkAt(g:Gph)(i:Nat):Bool:=edgeOk (eAt g.edges i) && (erises g.edges i && (hasId g.nodes (eAt g.edges i).src && hasId g.nodes (eAt g.edges i).dst))
def graphOk(g:Gph):Bool:=(decide ((g.nodes.length:Int)≤200) && decide ((g.edges.length:Int)≤400)) && (alln g.nodes.length (nodeOkAt g.nodes) && alln g.edges.length (edgeOkAt g))
def fault(g:Gph):Int:=if graphOk g then 0 else 1
theorem fault_bad{g:Gph}(h:graphOk g=false):fault g=1:=by rw[fault,h];rfl
set_option maxHeartbeats 2000000 in
theorem c_fault(K:Env cf)(g:Gph):callP cf 40 [.agg (gc g)] [] st=some (I (fault g),st):=by
 refine c_val K.tab (F:=F40) (t:=2) rfl rfl rfl (lb rfl) (by simp[plainV_gr]) (bare_int _ _) (g.nodes.length+g.edges.length+1) ?_
 have hm:=flat_len nc 3 nc_len g.nodes
 have hm2:=flat_len ec 5 ec_len g.edges
 unfold F40 qr qd qm qi qb qk ql qf qo qe qN
 simp (disch:=omega)only[↓pa,pb,pmy,↓reduceIte,Nat.reduceEqDiff,Nat.reduceAdd,gc]
 refine Cnd_intro (fun l1=>?_) (fun l1=>?_)
 ·simp (disch:=omega)only[↓pa,pb,↓reduceIte,Nat.reduceEqDiff,l1]
  rw[fault_bad (by rw[graphOk,decide_eq_false (by omega)];simp)]
 simp (disch:=omega)only[↓pa,pb,pmy,↓reduceIte,Nat.reduceEqDiff,Nat.reduceAdd,l1]
 refine Cnd_intro (fun l2=>?_) (fun l2=>?_)
 ·simp (disch:=omega)only[↓pa,pb,↓reduceIte,l2]
  rw[fault_bad (by rw[graphOk,decide_eq_false (p:=(g.edges.length:Int)≤400) (by omega)];simp)]
 have l1':(g.nodes.length:Int)≤200:=by omega
 have l2':(g.edges.length:Int)≤400:=by omega
 simp (disch:=omega)only[↓pa,pb,l2]
 refine Wp_rounds (fun k fr st=>∃ i:Nat,k=g.nodes.length-i∧i≤g.nodes.length∧fr 1= .ptr 1 0∧st.objs 1=some [NX g.nodes,EX g.edges]∧fr 3=I i∧∀ j,j<i→nodeOkAt g.nodes j=true) g.nodes.length (by omega) ⟨0,by simp,by omega,by simp (disch:=omega)only[↓pa,↓reduceIte,Nat.reduceEqDiff],by simp (disch:=omega)only[pb,↓reduceIte],by simp (disch:=omega)only[↓pa,↓reduceIte];rfl,fun j hj=>by omega⟩ ?_
 rintro k fr st ⟨i,rfl,hi,f1,o1,f3,hall⟩
 simp (disch:=omega)only[↓pa,pb,pmy,natP,↓reduceIte,Nat.reduceEqDiff,Nat.reduceAdd,f1,o1,f3]
 refine Cnd_intro (fun h1=>?_) (fun h1=>?_)
 ·have hlt:i<g.nodes.length:=h1
  have ea:nAt g.nodes i=g.nodes[i]:=nAt_eq hlt
  simp (disch:=omega)only[↓pa,pb,pmy,↓reduceIte,Nat.reduceEqDiff,Nat.reduceAdd,f1,o1,f3,h1,partP_n hlt,c_nodeOkS K]
  refine Cnd_intro (fun h5=>?_) (fun h5=>?_)
  rotate_left
  ·have nb:nodeOkAt g.nodes i=false:=by rw[nodeOkAt,ea];simp[h5]
   simp (disch:=omega)only[↓pa,pb,↓reduceIte,Nat.reduceEqDiff,h5]
   rw[fault_bad (by rw[graphOk,alln_false hlt nb];simp)]
  simp (disch:=omega)only[↓pa,pb,↓reduceIte,Nat.reduceEqDiff,f3,h5]
  refine Cnd_intro (fun h6=>?_) (fun h6=>?_)
  ·have hp:((i:Int) -1).toNat=i-1:=by omega
   have h6':0<i:=by omega
   have eb:nAt g.nodes (i-1)=g.nodes[i-1]:=nAt_eq (by omega)
   simp (disch:=omega)only[↓pa,pb,pmy,↓reduceIte,Nat.reduceEqDiff,f1,o1,f3,h6,hp,Nat.add_zero,partP_nid (show i-1<g.nodes.length by omega),partP_nid hlt]
   refine Cnd_intro (fun h7=>?_) (fun h7=>?_)
   ·have nb:nodeOkAt g.nodes i=false:=by rw[nodeOkAt,nrises,ea,eb,decide_eq_false (p:=i=0) (by omega),decide_eq_false (by omega)];simp
    simp (disch:=omega)only[↓pa,pb,↓reduceIte,h7]
    rw[fault_bad (by rw[graphOk,alln_false hlt nb];simp)]
   ·have ok:nodeOkAt g.nodes i=true:=by rw[nodeOkAt,nrises,ea,eb,h5,decide_eq_true (p:=g.nodes[i-1].id<g.nodes[i].id) (by omega)];simp
    simp (disch:=omega)only[↓pa,pb,natP,↓reduceIte,Nat.reduceEqDiff,f1,o1,f3,h7]
    exact⟨g.nodes.length- (i+1),by omega,i+1,rfl,by omega,rfl,below_next hall ok⟩
  ·have ok:nodeOkAt g.nodes i=true:=by rw[nodeOkAt,nrises,ea,h5,decide_eq_true (p:=i=0) (by omega)];rfl
   simp (disch:=omega)only[↓pa,pb,natP,↓reduceIte,Nat.reduceEqDiff,f1,o1,f3,h6]
   exact⟨g.nodes.length- (i+1),by omega,i+1,rfl,by omega,rfl,below_next hall ok⟩
 have hn:alln g.nodes.length (nodeOkAt g.nodes)=true:=alln_true fun j hj=>hall j (by omega)
 simp (disch:=omega)only[↓pa,pb,h1]
 clear hall f3
 revert f1 o1
 generalize hfr:fr=fr0
 intro f1 o1
 refine Wp_rounds (fun k fr st=>∃ i:Nat,k=g.edges.length-i∧i≤g.edges.length∧fr 1= .ptr 1 0∧st.objs 1=some [NX g.nodes,EX g.edges]∧fr 4=I i∧∀ j,j<i→edgeOkAt g j=true) g.edges.length (by omega) ⟨0,by simp,by omega,by simp (disch:=omega)only[↓pa,↓reduceIte,Nat.reduceEqDiff,f1],by simp (disch:=omega)only[o1],by simp (disch:=omega)only[↓pa,↓reduceIte];rfl,fun j hj=>by omega⟩ ?_
 rintro k fr st ⟨i,rfl,hi,f1,o1,f4,hall⟩
 simp (disch:=omega)only[↓pa,pb,pmy,natP,↓reduceIte,Nat.reduceEqDiff,Nat.reduceAdd,f1,o1,f4]
 refine Cnd_intro (fun k1=>?_) (fun k1=>?_)
 rotate_left
 ·have he:alln g.edges.length (edgeOkAt g)=true:=alln_true fun j hj=>hall j (by omega)
  simp (disch:=omega)only[↓pa,pb,↓reduceIte,k1]
  rw[fault,graphOk,hn,he,decide_eq_true l1',decide_eq_true l2'];rfl
 have hlt:i<g.edges.length:=k1
 have ea:eAt g.edges i=g.edges[i]:=eAt_eq hlt
 have hec:(ec g.edges[i]).length=5:=rfl
 have hna:∀ id st,callP cf 83 [.agg [NX g.nodes,EX g.edges],I id] [] st=some (I (nodeIx g.nodes id),st):=fun id st=>c_nodeAtS K g id (by omega)
 have heo:∀ st,callP cf 82 [.agg [I g.edges[i].id,S g.edges[i].type,I g.edges[i].src,I g.edges[i].dst,FX g.edges[i].fields]] [] st=some (.bool (edgeOk g.edges[i]),st):=fun st=>c_edgeOkS K g.edges[i]
 simp (disch:=omega)only[↓pa,pb,pmy,↓reduceIte,Nat.reduceEqDiff,Nat.reduceAdd,Nat.reduceLeDiff,f1,o1,f4,k1,partP_e hlt,ec,heo]
 refine Cnd_intro (fun h5=>?_) (fun h5=>?_)
 rotate_left
 ·have nb:edgeOkAt g i=false:=by rw[edgeOkAt,ea];simp[h5]
  simp (disch:=omega)only[↓pa,pb,↓reduceIte,Nat.reduceEqDiff,h5]
  rw[fault_bad (by rw[graphOk,alln_false hlt nb];simp)]
 simp (disch:=omega)only[↓pa,pb,↓reduceIte,Nat.reduceEqDiff,f4,h5]
 refine Cnd_intro (fun h6=>?_) (fun h6=>?_)
 ·have hp:((i:Int) -1).toNat=i-1:=by omega
  have h6':0<i:=by omega
  have eb:eAt g.edges (i-1)=g.edges[i-1]:=eAt_eq (by omega)
  simp (disch:=omega)only[↓pa,pb,pmy,↓reduceIte,Nat.reduceEqDiff,Nat.reduceAdd,f1,o1,f4,h6,hp,Nat.add_zero,partP_eid (show i-1<g.edges.length by omega)]
  refine Cnd_intro (fun h7=>?_) (fun h7=>?_)
  ·have nb:edgeOkAt g i=false:=by rw[edgeOkAt,erises,ea,eb,decide_eq_false (p:=i=0) (by omega),decide_eq_false (p:=g.edges[i-1].id<g.edges[i].id) (by omega)];simp
   simp (disch:=omega)only[↓pa,pb,↓reduceIte,Nat.reduceEqDiff,h7]
   rw[fault_bad (by rw[graphOk,alln_false hlt nb];simp)]
  ·have er:erises g.edges i=true:=by rw[erises,ea,eb,decide_eq_true (p:=g.edges[i-1].id<g.edges[i].id) (by omega)];simp
   simp (disch:=omega)only[↓pa,pb,pmy,↓reduceIte,Nat.reduceEqDiff,Nat.reduceAdd,Nat.reduceLeDiff,f1,o1,h7,hna]
   refine Cnd_intro (fun h8=>?_) (fun h8=>?_)
   ·have nb:edgeOkAt g i=false:=by rw[nodeIx,ixGo_neg]at h8;rw[edgeOkAt,ea,h8];simp
    simp (disch:=omega)only[↓pa,pb,↓reduceIte,Nat.reduceEqDiff,h8]
    rw[fault_bad (by rw[graphOk,alln_false hlt nb];simp)]
   simp (disch:=omega)only[↓pa,pb,pmy,↓reduceIte,Nat.reduceEqDiff,Nat.reduceAdd,Nat.reduceLeDiff,f1,o1,h8,hna]
   refine Cnd_intro (fun h9=>?_) (fun h9=>?_)
   ·have nb:edgeOkAt g i=false:=by rw[nodeIx,ixGo_neg]at h9;rw[edgeOkAt,ea,h9];simp
    simp (disch:=omega)only[↓pa,pb,↓reduceIte,h9]
    rw[fault_bad (by rw[graphOk,alln_false hlt nb];simp)]
   ·have ok:edgeOkAt g i=true:=by
     rw[nodeIx,ixGo_neg]at h8 h9
     rw[Bool.not_eq_false]at h8 h9
     rw[edgeOkAt,ea,h5,er,h8,h9];rfl
    simp (disch:=omega)only[↓pa,pb,natP,↓reduceIte,Nat.reduceEqDiff,f1,o1,f4,h9]
    exact⟨g.edges.length- (i+1),by omega,i+1,rfl,by omega,rfl,below_next hall ok⟩
 ·have er:erises g.edges i=true:=by rw[erises,decide_eq_true (p:=i=0) (by omega)];rfl
  simp (disch:=omega)only[↓pa,pb,pmy,↓reduceIte,Nat.reduceEqDiff,Nat.reduceAdd,Nat.reduceLeDiff,f1,o1,h6,hna]
  refine Cnd_intro (fun h8=>?_) (fun h8=>?_)
  ·have nb:edgeOkAt g i=false:=by rw[nodeIx,ixGo_neg]at h8;rw[edgeOkAt,ea,h8];simp
   simp (disch:=omega)only[↓pa,pb,↓reduceIte,Nat.reduceEqDiff,h8]
   rw[fault_bad (by rw[graphOk,alln_false hlt nb];simp)]
  simp (disch:=omega)only[↓pa,pb,pmy,↓reduceIte,Nat.reduceEqDiff,Nat.reduceAdd,Nat.reduceLeDiff,f1,o1,h8,hna]
  refine Cnd_intro (fun h9=>?_) (fun h9=>?_)
  ·have nb:edgeOkAt g i=false:=by rw[nodeIx,ixGo_neg]at h9;rw[edgeOkAt,ea,h9];simp
   simp (disch:=omega)only[↓pa,pb,↓reduceIte,h9]
   rw[fault_bad (by rw[graphOk,alln_false hlt nb];simp)]
  ·have ok:edgeOkAt g i=true:=by
    rw[nodeIx,ixGo_neg]at h8 h9
    rw[Bool.not_eq_false]at h8 h9
    rw[edgeOkAt,ea,h5,er,h8,h9];rfl
   simp (disch:=omega)only[↓pa,pb,natP,↓reduceIte,Nat.reduceEqDiff,f1,o1,f4,h9]
   exact⟨g.edges.length- (i+1),by omega,i+1,rfl,by omega,rfl,below_next hall ok⟩
def setM(st:St)(s:Nat)(es:List (PV×PV)):St:={st with maps:=fun k=>if k=s then some es else st.maps k}
def mpsP(kk:Nat)(m k v:PV)(st:St):Option (PV×St):=match m with
 | .mp s=>match st.maps s with
  |some es=>if keyKind k=kk∧np v=true then match findP k es 0 with
   |some (some (i,_))=>some (.hole,setM st s (es.set i (k,v)))
   |some none=>some (.hole,setM st s (es++[(k,v)]))
   |none=>none
   else none
  |none=>none
 |_=>none
def mpgP(ok:Bool)(zero:PV)(kk:Nat)(m k:PV)(st:St):Option (PV×St):=match m with
 | .mp s=>match st.maps s with
  |some es=>if keyKind k=kk then match findP k es 0 with
   |some (some (_,v))=>some (if ok then .tup [v,.bool true]else v,st)
   |some none=>some (if ok then .tup [zero,.bool false]else zero,st)
   |none=>none
   else none
  |none=>none
 |_=>none
theorem pmM:
  (∀ {cf:CallF} {fr:Fr} {st:St} {s:Nat},runOp cf fr st (some s) .mkmap=some (.mp s,setM st s []))∧
  (∀ {cf:CallF} {fr:Fr} {st:St} {d:Option Nat} {kk:Nat} {m k v:CX},runOp cf fr st d (.mpset kk m k v)=mpsP kk (m.ev fr) (k.ev fr) (v.ev fr) st)∧
  (∀ {cf:CallF} {fr:Fr} {st:St} {d:Option Nat} {ok:Bool} {zero:PV} {kk:Nat} {m k:CX},runOp cf fr st d (.mpget ok zero kk m k)=mpgP ok zero kk (m.ev fr) (k.ev fr) st)∧
  (∀ {st:St} {s:Nat} {es:List (PV×PV)},(setM st s es).objs=st.objs)∧(∀ {st:St} {s:Nat} {es:List (PV×PV)} {k:Nat},(setM st s es).maps k=if k=s then some es else st.maps k):=⟨rfl,rfl,rfl,rfl,rfl⟩
def one(k:Int):PV×PV:=(I k,I 1)
theorem find_ones(x:Int):∀ (ks:List Int) (j:Nat),(x∈ks→∃ i,i<ks.length∧ks[i]? =some x∧findP (I x) (ks.map one) j=some (some (j+i,I 1)))∧(x∉ks→findP (I x) (ks.map one) j=some none)
 | [],j=>⟨fun h=>by simp at h,fun _=>rfl⟩
 |k::ks,j=>by
  have ih:=find_ones x ks (j+1)
  have hf:findP (I x) ((k::ks).map one) j=if x=k then some (some (j,I 1))else findP (I x) (ks.map one) (j+1):=by
   rw[List.map_cons,findP]
   have:keyEq (I x) (one k).1=some (x==k):=rfl
   rw[this]
   by_cases h:x=k
   ·have hb:(x==k)=true:=by simp[h]
    rw[hb,if_pos h];rfl
   ·have hb:(x==k)=false:=by simp[h]
    rw[hb,if_neg h]
  constructor
  ·intro h
   by_cases hk:x=k
   ·exact⟨0,by simp,by simp[hk],by rw[hf,if_pos hk];rfl⟩
   ·obtain⟨i,h1,h2,h3⟩:=ih.1 (by simpa [hk]using h)
    exact⟨i+1,by simpa using h1,by simpa using h2,by rw[hf,if_neg hk,h3];congr 3;omega⟩
  ·intro h
   simp only[List.mem_cons,not_or]at h
   rw[hf,if_neg h.1]
   exact ih.2 h.2
theorem rt_mpset{ks:List Int}{x:Int}(hs:st.maps s=some (ks.map one))(k:∀ ks':List Int,(∀ y,y∈ks'↔(y∈ks∨y=x))→A (mk .hole (setM st s (ks'.map one)))):RunsTo (mpsP 0 (.mp s) (I x) (I 1) st) mk A:=by
 have h0:keyKind (I x)=0∧np (I 1)=true:=⟨rfl,rfl⟩
 by_cases hx:x∈ks
 ·obtain⟨i,h1,h2,h3⟩:=(find_ones x ks 0).1 hx
  simp only[mpsP,hs,h0,h3,and_self,if_true]
  rw[RunsTo_some]
  have:(ks.map one).set (0+i) (I x,I 1)=ks.map one:=by
   apply List.ext_getElem?
   intro q
   rw[List.getElem?_set]
   split
   ·rename_i e
    subst e
    simp only[List.length_map,Nat.zero_add,h1,if_true,List.getElem?_map,h2,Option.map_some]
    rfl
   ·rfl
  rw[this]
  exact k ks fun y=>⟨.inl,fun h=>h.elim id fun e=>by rw[e];exact hx⟩
 ·have h3:=(find_ones x ks 0).2 hx
  simp only[mpsP,hs,h0,h3,and_self,if_true]
  rw[RunsTo_some]
  have:ks.map one++[(I x,I 1)]=(ks++[x]).map one:=by simp[one]
  rw[this]
  exact k (ks++[x]) fun y=>by simp
theorem mpget_ones{ks:List Int}{x:Int}(hs:st.maps s=some (ks.map one)):mpgP false (I 0) 0 (.mp s) (I x) st=some (I (if x∈ks then 1 else 0),st):=by
 have h0:keyKind (I x)=0:=rfl
 by_cases hx:x∈ks
 ·obtain⟨i,h1,h2,h3⟩:=(find_ones x ks 0).1 hx
  simp only[mpgP,hs,h0,h3,if_true,hx,Bool.false_eq_true,if_false]
 ·have h3:=(find_ones x ks 0).2 hx
  simp only[mpgP,hs,h0,h3,if_true,hx,Bool.false_eq_true,if_false]
theorem hasId_next{l:List Nd}{i:Nat}(h:i<l.length)(x:Int):(hasId (l.take (i+1)) x=true)↔(hasId (l.take i) x=true∨x=l[i].id):=by
 unfold hasId
 rw[List.take_succ_eq_append_getElem h,List.any_append]
 simp only[List.any_cons,List.any_nil,Bool.or_false,Bool.or_eq_true,decide_eq_true_eq]
 exact⟨fun h=>h.imp id Eq.symm,fun h=>h.imp id Eq.symm⟩
theorem graph_bad{g:Gph}{i:Nat}(hlt:i<g.nodes.length)(nb:nodeOkAt g.nodes i=false):graphOk g=false:=by rw[graphOk,alln_false hlt nb];simp
theorem graph_badE{g:Gph}{i:Nat}(hlt:i<g.edges.length)(nb:edgeOkAt g i=false):graphOk g=false:=by rw[graphOk,alln_false hlt nb];simp
set_option maxHeartbeats 4000000 in
theorem c_graphOk(K:Env cf)(g:Gph):callP cf 46 [.agg (gc g)] [] st=some (.bool (graphOk g),st):=by
 refine c_val K.tab (F:=F46) (t:=2) rfl rfl rfl (lb rfl) (by simp[plainV_gr]) (bare_bool _) (g.nodes.length+g.edges.length+1) ?_
 have hm:=flat_len nc 3 nc_len g.nodes
 have hm2:=flat_len ec 5 ec_len g.edges
 unfold F46 qr qd qm qi qc qb qk ql qf qo qe qN
 simp (disch:=omega)only[↓pa,pb,pmy,↓reduceIte,Nat.reduceEqDiff,Nat.reduceAdd,gc]
 refine Cnd_intro (fun l1=>?_) (fun l1=>?_)
 ·simp (disch:=omega)only[↓pa,pb,↓reduceIte,Nat.reduceEqDiff,l1]
  rw[graphOk,decide_eq_false (by omega)];simp
 simp (disch:=omega)only[↓pa,pb,pmy,↓reduceIte,Nat.reduceEqDiff,Nat.reduceAdd,l1]
 refine Cnd_intro (fun l2=>?_) (fun l2=>?_)
 ·simp (disch:=omega)only[↓pa,pb,↓reduceIte,l2]
  rw[graphOk,decide_eq_false (p:=(g.edges.length:Int)≤400) (by omega)];simp
 have l1':(g.nodes.length:Int)≤200:=by omega
 have l2':(g.edges.length:Int)≤400:=by omega
 simp (disch:=omega)only[↓pa,pb,pmy,↓reduceIte,Nat.reduceEqDiff,Nat.reduceAdd,pmM,l2]
 refine Wp_rounds (fun k fr st=>∃ (i:Nat) (ks:List Int),k=g.nodes.length-i∧i≤g.nodes.length∧fr 1= .ptr 1 0∧st.objs 1=some [NX g.nodes,EX g.edges]∧fr 3= .mp 18∧fr 20=NX g.nodes∧fr 21=I g.nodes.length∧fr 22=I i∧st.maps 18=some (ks.map one)∧(∀ x,x∈ks↔hasId (g.nodes.take i) x=true)∧∀ j,j<i→nodeOkAt g.nodes j=true) g.nodes.length (by omega)
  ⟨0,[],by simp,by omega,by simp (disch:=omega)only[↓pa,pb,↓reduceIte,Nat.reduceEqDiff],by simp (disch:=omega)only[pb,↓reduceIte,pmM],by simp (disch:=omega)only[↓pa,↓reduceIte,Nat.reduceEqDiff],by simp (disch:=omega)only[↓pa,↓reduceIte,Nat.reduceEqDiff],by simp (disch:=omega)only[↓pa,↓reduceIte,Nat.reduceEqDiff],by simp (disch:=omega)only[↓pa,↓reduceIte];rfl,by simp (disch:=omega)only[pb,↓reduceIte,pmM]<;>rfl,by simp[hasId],fun j hj=>by omega⟩ ?_
 rintro k fr st ⟨i,ks,rfl,hi,f1,o1,f3,f20,f21,f22,m18,hks,hall⟩
 simp (disch:=omega)only[↓pa,pb,natP,↓reduceIte,f21,f22]
 refine Cnd_intro (fun h1=>?_) (fun h1=>?_)
 ·have hlt:i<g.nodes.length:=h1
  have ea:nAt g.nodes i=g.nodes[i]:=nAt_eq hlt
  have hno:∀ st,callP cf 88 [.agg [I g.nodes[i].id,TX g.nodes[i].labels,FX g.nodes[i].fields]] [] st=some (.bool (nodeOk g.nodes[i]),st):=fun st=>c_nodeOk K g.nodes[i]
  simp (disch:=omega)only[↓pa,pb,pmy,↓reduceIte,Nat.reduceEqDiff,Nat.reduceAdd,Nat.reduceLeDiff,f20,f22,h1,partP_n hlt,nc,hno]
  refine Cnd_intro (fun h5=>?_) (fun h5=>?_)
  rotate_left
  ·have nb:nodeOkAt g.nodes i=false:=by rw[nodeOkAt,ea];simp[h5]
   simp (maxSteps:=1000000) (disch:=omega)only[↓pa,pb,↓reduceIte,Nat.reduceEqDiff,h5]
   rw[graph_bad hlt nb]
  simp (disch:=omega)only[↓pa,pb,↓reduceIte,Nat.reduceEqDiff,h5]
  refine Cnd_intro (fun h6=>?_) (fun h6=>?_)
  ·have hp:((i:Int) -1).toNat=i-1:=by omega
   have h6':0<i:=by omega
   have eb:nAt g.nodes (i-1)=g.nodes[i-1]:=nAt_eq (by omega)
   simp (maxSteps:=1000000) (disch:=omega)only[↓pa,pb,pmy,↓reduceIte,Nat.reduceEqDiff,f1,o1,h6,hp,Nat.add_zero,partP_nid (show i-1<g.nodes.length by omega)]
   refine Cnd_intro (fun h7=>?_) (fun h7=>?_)
   ·have nb:nodeOkAt g.nodes i=false:=by rw[nodeOkAt,nrises,ea,eb,decide_eq_false (p:=i=0) (by omega),decide_eq_false (p:=g.nodes[i-1].id<g.nodes[i].id) (by omega)];simp
    simp (disch:=omega)only[↓pa,pb,↓reduceIte,h7]
    rw[graph_bad hlt nb]
   ·have ok:nodeOkAt g.nodes i=true:=by rw[nodeOkAt,nrises,ea,eb,h5,decide_eq_true (p:=g.nodes[i-1].id<g.nodes[i].id) (by omega)];simp
    simp (disch:=omega)only[↓pa,pb,pmy,↓reduceIte,Nat.reduceEqDiff,Nat.reduceAdd,pmM,f3,h7]
    refine rt_mpset (ks:=ks) (by simp only[pb,m18]) (fun ks' hks'=>?_)
    simp (disch:=omega)only[↓pa,pb,natP,↓reduceIte,Nat.reduceEqDiff,pmM,f1,o1,f3,f20,f21,f22]
    exact⟨g.nodes.length- (i+1),by omega,i+1,ks',rfl,by omega,rfl,rfl,fun x=>by rw[hks',hasId_next hlt,hks],below_next hall ok⟩
  ·have ok:nodeOkAt g.nodes i=true:=by rw[nodeOkAt,nrises,ea,h5,decide_eq_true (p:=i=0) (by omega)];rfl
   have h7:=h6
   simp (maxSteps:=1000000) (disch:=omega)only[↓pa,pb,pmy,↓reduceIte,Nat.reduceEqDiff,Nat.reduceAdd,pmM,f3,h7]
   refine rt_mpset (ks:=ks) (by simp only[pb,m18]) (fun ks' hks'=>?_)
   simp (disch:=omega)only[↓pa,pb,natP,↓reduceIte,Nat.reduceEqDiff,pmM,f1,o1,f3,f20,f21,f22]
   exact⟨g.nodes.length- (i+1),by omega,i+1,ks',rfl,by omega,rfl,rfl,fun x=>by rw[hks',hasId_next hlt,hks],below_next hall ok⟩
 have hn:alln g.nodes.length (nodeOkAt g.nodes)=true:=alln_true fun j hj=>hall j (by omega)
 have hks:∀ x,x∈ks↔hasId g.nodes x=true:=fun x=>by rw[hks x,List.take_of_length_le (by omega)]
 simp (disch:=omega)only[↓pa,pb,pmy,↓reduceIte,Nat.reduceEqDiff,Nat.reduceAdd,f1,o1,h1]
 clear hall f20 f21 f22
 refine Wp_rounds (fun k fr st=>∃ i:Nat,k=g.edges.length-i∧i≤g.edges.length∧fr 1= .ptr 1 0∧st.objs 1=some [NX g.nodes,EX g.edges]∧fr 3= .mp 18∧fr 51=EX g.edges∧fr 52=I g.edges.length∧fr 53=I i∧st.maps 18=some (ks.map one)∧∀ j,j<i→edgeOkAt g j=true) g.edges.length (by omega) ⟨0,by simp,by omega,by simp (disch:=omega)only[↓pa,↓reduceIte,Nat.reduceEqDiff,f1],by simp (disch:=omega)only[o1],by simp (disch:=omega)only[↓pa,↓reduceIte,Nat.reduceEqDiff,f3],by simp (disch:=omega)only[↓pa,↓reduceIte,Nat.reduceEqDiff],by simp (disch:=omega)only[↓pa,↓reduceIte,Nat.reduceEqDiff],by simp (disch:=omega)only[↓pa,↓reduceIte];rfl,by simp (disch:=omega)only[m18],fun j hj=>by omega⟩ ?_
 rintro k fr st ⟨i,rfl,hi,f1,o1,f3,f51,f52,f53,m18,hall⟩
 simp (disch:=omega)only[↓pa,pb,natP,↓reduceIte,f52,f53]
 refine Cnd_intro (fun k1=>?_) (fun k1=>?_)
 rotate_left
 ·have he:alln g.edges.length (edgeOkAt g)=true:=alln_true fun j hj=>hall j (by omega)
  simp (disch:=omega)only[↓pa,pb,↓reduceIte,k1]
  rw[graphOk,hn,he,decide_eq_true l1',decide_eq_true l2'];rfl
 have hlt:i<g.edges.length:=k1
 have ea:eAt g.edges i=g.edges[i]:=eAt_eq hlt
 have heo:∀ st,callP cf 89 [.agg [I g.edges[i].id,S g.edges[i].type,I g.edges[i].src,I g.edges[i].dst,FX g.edges[i].fields]] [] st=some (.bool (edgeOk g.edges[i]),st):=fun st=>c_edgeOk K g.edges[i]
 have hget:∀ (x:Int) (st:St),st.maps 18=some (ks.map one)→mpgP false (I 0) 0 (.mp 18) (I x) st=some (I (if hasId g.nodes x=true then 1 else 0),st):=fun x st h=>by
  rw[mpget_ones h]
  simp only[hks x]
 simp (disch:=omega)only[↓pa,pb,pmy,↓reduceIte,Nat.reduceEqDiff,Nat.reduceAdd,Nat.reduceLeDiff,f51,f53,k1,partP_e hlt,ec,heo]
 refine Cnd_intro (fun h5=>?_) (fun h5=>?_)
 rotate_left
 ·have nb:edgeOkAt g i=false:=by rw[edgeOkAt,ea];simp[h5]
  simp (disch:=omega)only[↓pa,pb,↓reduceIte,Nat.reduceEqDiff,h5]
  rw[graph_badE hlt nb]
 simp (disch:=omega)only[↓pa,pb,↓reduceIte,Nat.reduceEqDiff,h5]
 refine Cnd_intro (fun h6=>?_) (fun h6=>?_)
 ·have hp:((i:Int) -1).toNat=i-1:=by omega
  have h6':0<i:=by omega
  have eb:eAt g.edges (i-1)=g.edges[i-1]:=eAt_eq (by omega)
  simp (disch:=omega)only[↓pa,pb,pmy,↓reduceIte,Nat.reduceEqDiff,Nat.reduceAdd,f1,o1,h6,hp,Nat.add_zero,partP_eid (show i-1<g.edges.length by omega)]
  refine Cnd_intro (fun h7=>?_) (fun h7=>?_)
  ·have nb:edgeOkAt g i=false:=by rw[edgeOkAt,erises,ea,eb,decide_eq_false (p:=i=0) (by omega),decide_eq_false (p:=g.edges[i-1].id<g.edges[i].id) (by omega)];simp
   simp (disch:=omega)only[↓pa,pb,↓reduceIte,Nat.reduceEqDiff,h7]
   rw[graph_badE hlt nb]
  ·have er:erises g.edges i=true:=by rw[erises,ea,eb,decide_eq_true (p:=g.edges[i-1].id<g.edges[i].id) (by omega)];simp
   simp (disch:=omega)only[↓pa,pb,pmy,↓reduceIte,Nat.reduceEqDiff,Nat.reduceAdd,pmM,f3,h7]
   rw[hget _ _ (by simp only[pb,m18])]
   cases h8:hasId g.nodes g.edges[i].src
   ·have nb:edgeOkAt g i=false:=by rw[edgeOkAt,ea,h8];simp
    simp (disch:=omega)only[↓pa,pb,↓reduceIte,Nat.reduceEqDiff]
    rw[graph_badE hlt nb]
   simp (disch:=omega)only[↓pa,pb,pmy,↓reduceIte,Nat.reduceEqDiff,Nat.reduceAdd,Int.reduceEq,pmM,f3]
   rw[hget _ _ (by simp only[pb,m18])]
   cases h9:hasId g.nodes g.edges[i].dst
   ·have nb:edgeOkAt g i=false:=by rw[edgeOkAt,ea,h9];simp
    simp (disch:=omega)only[↓pa,pb,↓reduceIte,Nat.reduceEqDiff]
    rw[graph_badE hlt nb]
   have ok:edgeOkAt g i=true:=by rw[edgeOkAt,ea,h5,er,h8,h9];rfl
   simp (disch:=omega)only[↓pa,pb,natP,↓reduceIte,Nat.reduceEqDiff,Int.reduceEq,f1,o1,f3,f51,f52,f53,m18]
   exact⟨g.edges.length- (i+1),by omega,i+1,rfl,by omega,rfl,below_next hall ok⟩
 ·have er:erises g.edges i=true:=by rw[erises,decide_eq_true (p:=i=0) (by omega)];rfl
  simp (disch:=omega)only[↓pa,pb,pmy,↓reduceIte,Nat.reduceEqDiff,Nat.reduceAdd,pmM,f3,h6]
  rw[hget _ _ (by simp only[pb,m18])]
  cases h8:hasId g.nodes g.edges[i].src
  ·have nb:edgeOkAt g i=false:=by rw[edgeOkAt,ea,h8];simp
   simp (disch:=omega)only[↓pa,pb,↓reduceIte,Nat.reduceEqDiff]
   rw[graph_badE hlt nb]
  simp (disch:=omega)only[↓pa,pb,pmy,↓reduceIte,Nat.reduceEqDiff,Nat.reduceAdd,Int.reduceEq,pmM,f3]
  rw[hget _ _ (by simp only[pb,m18])]
  cases h9:hasId g.nodes g.edges[i].dst
  ·have nb:edgeOkAt g i=false:=by rw[edgeOkAt,ea,h9];simp
   simp (disch:=omega)only[↓pa,pb,↓reduceIte,Nat.reduceEqDiff]
   rw[graph_badE hlt nb]
  have ok:edgeOkAt g i=true:=by rw[edgeOkAt,ea,h5,er,h8,h9];rfl
  simp (disch:=omega)only[↓pa,pb,natP,↓reduceIte,Nat.reduceEqDiff,Int.reduceEq,f1,o1,f3,f51,f52,f53,m18]
  exact⟨g.edges.length- (i+1),by omega,i+1,rfl,by omega,rfl,below_next hall ok⟩
theorem RunsTo_EQ{o:Option (PV×St)}{m:Nat→St}{p:PV}(h:∃ r,r=p∧∃ fl,o=some (r,m fl))(k:∀ fl,A (mk p (m fl))):RunsTo o mk A:=by
 obtain⟨r,rfl,fl,rfl⟩:=h
 exact⟨_,_,rfl,k fl⟩
theorem pmF:(∀ {l:List Fd},nps (l.flatMap fc)=true)∧(∀ {l:List Fd},strips (l.flatMap fc)=l.flatMap fc)∧(∀ {l:List Nd},nps (l.flatMap nc)=true)∧(∀ {l:List Nd},strips (l.flatMap nc)=l.flatMap nc)∧(∀ {l:List Eg},nps (l.flatMap ec)=true)∧(∀ {l:List Eg},strips (l.flatMap ec)=l.flatMap ec):=
 ⟨(fs_plain _).1,(fs_plain _).2.1,(flat_plain nc nc_plain _).1,(flat_plain nc nc_plain _).2.1,(flat_plain ec ec_plain _).1,(flat_plain ec ec_plain _).2.1⟩
theorem c_copyF(K:Env cf)(l:List Fd)(hl:l.length≤2000000):∃ r,r=FX l∧∃ fl,callP cf 84 [FX l] [] st=some (r,setF st fl):=by
 refine c_valE K.tab (F:=F84) (Q:=fun r=>r=FX l) rfl rfl rfl (lb rfl) (by simp[plainV_FX]) 1 ?_
 unfold F84 qr qm qc qo qN
 have hm:=fs_len l
 simp (disch:=omega)only[↓pa,↓pmx,pb,pmy,↓reduceIte,Nat.reduceEqDiff,Nat.reduceAdd,Nat.reduceLT,reduceCtorEq,List.replicate_zero,List.flatten_nil]
 refine RunsTo_app (n:=0) Gr_full rfl (by rw[hm]) (by omega) (by omega) (by decide) ?_
 simp (disch:=omega)only[↓pa,pb,pmz,↓reduceIte,pmF,List.nil_append,Nat.zero_add]
theorem c_copyT(K:Env cf)(l:List (List UInt8))(hl:l.length≤2000000):∃ r,r=TX l∧∃ fl,callP cf 85 [TX l] [] st=some (r,setF st fl):=by
 refine c_valE K.tab (F:=F85) (Q:=fun r=>r=TX l) rfl rfl rfl (lb rfl) (by simp[plainV_tx]) 1 ?_
 unfold F85 qr qm qc qo qN
 simp (disch:=omega)only[↓pa,↓pmx,pb,pmy,↓reduceIte,Nat.reduceEqDiff,Nat.reduceAdd,Nat.reduceLT,reduceCtorEq,List.replicate_zero,List.flatten_nil]
 refine RunsTo_app (n:=0) Gr_full rfl (by rw[List.length_map,Nat.mul_one]) (by omega) (by omega) (by decide) ?_
 simp (disch:=omega)only[↓pa,pb,pmz,pmV,↓reduceIte,List.nil_append,Nat.zero_add]
theorem c_copyE(K:Env cf)(e:Eg)(hl:e.fields.length≤2000000):∃ r,r= .agg (ec e)∧∃ fl,callP cf 41 [.agg (ec e)] [] st=some (r,setF st fl):=by
 refine c_valE K.tab (F:=F41) (Q:=fun r=>r= .agg (ec e)) rfl rfl rfl (lb rfl) (by simp[plainV_eg]) 1 ?_
 unfold F41 qr ql qf qo qe qN
 simp (disch:=omega)only[↓pa,pb,pmy,↓reduceIte,Nat.reduceEqDiff,Nat.reduceAdd,ec]
 refine RunsTo_EQ (c_copyF K e.fields hl) (fun fl=>?_)
 simp (disch:=omega)only[↓pa,pb,pmy,pmz,↓reduceIte,Nat.reduceEqDiff,Nat.reduceAdd,Nat.reduceLeDiff,pmF]
theorem keysOf_pl{p:PV}(h:plainV p):keysOf [p]=some []:=keysOf_plain (plainVs_arg (ps:=[p]) (by simpa using h)).1
theorem c_copyN(K:Env cf)(n:Nd)(h1:n.labels.length≤2000000)(hl:n.fields.length≤2000000):∃ r,r= .agg (nc n)∧∃ fl,callP cf 42 [.agg (nc n)] [] st=some (r,setF st fl):=by
 refine c_valE K.tab (F:=F42) (Q:=fun r=>r= .agg (nc n)) rfl rfl rfl (lb rfl) (by simp[plainV_nd]) 1 ?_
 unfold F42 qr ql qf qo qe qN
 simp (disch:=omega)only[↓pa,↓pmw,pb,pmy,pmwk,↓reduceIte,Nat.reduceEqDiff,Nat.reduceAdd,nc]
 refine RunsTo_EQ (c_copyT K n.labels h1) (fun fl=>?_)
 simp (disch:=omega)only[↓pa,↓pmw,pb,pmy,pmwk,↓reduceIte,Nat.reduceEqDiff,Nat.reduceAdd]
 refine RunsTo_EQ (c_copyF K n.fields hl) (fun fl=>?_)
 simp (disch:=omega)only[↓pa,↓pmx,↓pmw,pb,pmy,pmwk,pmwa,pmz,pmV,List.getElem?_cons_zero,List.getElem?_cons_succ,↓reduceIte,Nat.reduceEqDiff,Nat.reduceAdd,Nat.reduceLeDiff,pmF,keysOf_pl (plainV_tx n.labels),keysOf_pl (plainV_FX n.fields)]
def insOf(l:List Eg)(id:Int):List Int:=(l.filter fun e=>decide (e.dst=id)).map Eg.id
theorem partP_edst{l:List Eg}{j:Nat}(h:j<l.length):partP (l.flatMap ec) (j*5+3) 1 false=some (I l[j].dst):=by
 have:=partP_flat ec 5 ec_len 3 1 false (by decide) l j h
 rw[this]
 rfl
end Go.PM
namespace Go.PM
def shE(l:List Eg)(n k:Int):List Eg:=l.filter fun e=>decide (e.src.tmod n=k)
def shN1(es:List Eg)(n k:Int)(x:Nd):List Nd:=if x.id.tmod n=k then [x]else if 0<(insOf es x.id).length then [⟨x.id,[],[]⟩]else []
def shN(es:List Eg)(l:List Nd)(n k:Int):List Nd:=l.flatMap (shN1 es n k)
def shard(g:Gph)(n k:Int):Gph:=⟨shN (shE g.edges n k) g.nodes n k,shE g.edges n k⟩
def shards(g:Gph)(n:Int):Nat→List Gph
 |0=>[]
 |k+1=>shards g n k++[shard g n k]
theorem gc_len(g:Gph):(gc g).length=2:=rfl
theorem shN1_len(es:List Eg)(n k:Int)(x:Nd):(shN1 es n k x).length≤1:=by
 unfold shN1
 repeat' split
 all_goals simp
theorem shN_len(es:List Eg)(n k:Int):∀ l:List Nd,(shN es l n k).length≤l.length
 | []=>Nat.le_refl _
 |x::l=>by
  have:=shN_len es n k l
  have h1:=shN1_len es n k x
  unfold shN at this ⊢
  rw[List.flatMap_cons,List.length_append,List.length_cons]
  omega
theorem shards_len(g:Gph)(n:Int):∀ k,(shards g n k).length=k
 |0=>rfl
 |k+1=>by rw[shards,List.length_append,shards_len g n k];rfl
end Go.PM
namespace Go.PM
open Go.Lib
variable {cf:CallF} {st:St} {mk:PV→St→Fr×St} {A:Fr×St→Prop} {s:Nat}
theorem callP_strip{f:Nat}{as:List PV}(h:as.all plainArg=true)(h2:(as.map strip).all plainArg=true)(h3:(as.map strip).map strip=as.map strip):callP cf f as [] st=callP cf f (as.map strip) [] st:=by
 simp only[callP,keysOf_plain h,keysOf_plain h2,getAll,handOn_plain 0 0 h,handOn_plain 0 0 h2,h3,freeC,List.isEmpty_nil,Bool.not_true,Bool.false_and,Bool.or_false]
structure Like {α:Type} (enc:α→List PV) (m:Nat) (l:List α) (cs:List PV):Prop where
 len:cs.length=l.length*m
 st:strips cs=l.flatMap enc
 np:nps cs=true
theorem Like.len'{g:Gph}{n:Int}{k:Nat}{cs:List PV}(h:Like gc 2 (shards g n k) cs):cs.length=k*2:=by rw[h.len,shards_len]
theorem Like_nil{α:Type}{enc:α→List PV}{m:Nat}:Like enc m ([]:List α) []:=⟨by simp,rfl,rfl⟩
theorem strips_append(xs ys:List PV):strips (xs++ys)=strips xs++strips ys:=by
 induction xs with
 |nil=>rfl
 |cons x xs ih=>simp only[List.cons_append,pmz,ih]
theorem Like_snoc{α:Type}{enc:α→List PV}{m:Nat}{l:List α}{cs ds:List PV}{a:α}(h:Like enc m l cs)(h1:ds.length=m)(h2:strips ds=enc a)(h3:nps ds=true):Like enc m (l++[a]) (cs++ds):=by
 refine⟨?_,?_,nps_append h.np h3⟩
 ·rw[List.length_append,h.len,h1,List.length_append,List.length_cons,List.length_nil,Nat.add_mul];omega
 ·rw[strips_append,h.st,h2,List.flatMap_append];simp
theorem Like_exact{α:Type}{enc:α→List PV}{m:Nat}(hl:∀ a,(enc a).length=m)(hp:∀ a,plainVs (enc a))(l:List α):Like enc m l (l.flatMap enc):=
 ⟨flat_len enc m hl l,(flat_plain enc hp l).2.1,(flat_plain enc hp l).1⟩
theorem put5v{a b c d e:PV}{vs:List PV}(h:vs.length=5):putCells [a,b,c,d,e] 0 vs=vs:=putCells_all (by rw[h];rfl)
theorem put3v{a b c:PV}{vs:List PV}(h:vs.length=3):putCells [a,b,c] 0 vs=vs:=putCells_all (by rw[h];rfl)
theorem partP_esrc{l:List Eg}{j:Nat}(h:j<l.length):partP (l.flatMap ec) (j*5+2) 1 false=some (I l[j].src):=by
 have:=partP_flat ec 5 ec_len 2 1 false (by decide) l j h
 rw[this]
 rfl
theorem c_nodeAt(K:Env cf)(g:Gph)(id:Int)(hl:g.nodes.length≤2000000):callP cf 90 [.agg (gc g),I id] [] st=some (I (nodeIx g.nodes id),st):=by
 refine c_val K.tab (F:=F90) (t:=4) rfl rfl rfl (lb rfl) (by simp[plainV_gr,plainV_int]) (bare_int _ _) (g.nodes.length+1) ?_
 have hm:=flat_len nc 3 nc_len g.nodes
 unfold F90 qr qd qm qi qb qk ql qf qo qe qN
 simp (disch:=omega)only[↓pa,pb,pmy,↓reduceIte,Nat.reduceEqDiff,Nat.reduceAdd,gc]
 refine Wp_rounds (fun k fr st=>∃ i:Nat,k=g.nodes.length-i∧i≤g.nodes.length∧fr 1=I id∧fr 8=NX g.nodes∧fr 9=I g.nodes.length∧fr 10=I i∧ixGo id (g.nodes.drop i) i=nodeIx g.nodes id) g.nodes.length (by omega) ⟨0,by simp,by omega,by simp (disch:=omega)only[↓pa,pb,↓reduceIte,Nat.reduceEqDiff],by simp (disch:=omega)only[↓pa,↓reduceIte,Nat.reduceEqDiff],by simp (disch:=omega)only[↓pa,↓reduceIte,Nat.reduceEqDiff],by simp (disch:=omega)only[↓pa,↓reduceIte];rfl,rfl⟩ ?_
 rintro k fr st ⟨i,rfl,hi,f1,f8,f9,f10,hQ⟩
 simp (disch:=omega)only[↓pa,pb,natP,↓reduceIte,f9,f10]
 refine Cnd_intro (fun h1=>?_) (fun h1=>?_)
 ·rw[List.drop_eq_getElem_cons h1,ixGo]at hQ
  simp (disch:=omega)only[↓pa,pb,pmy,↓reduceIte,Nat.reduceEqDiff,Nat.reduceAdd,Nat.reduceLeDiff,f1,f8,f10,h1,partP_n h1,nc]
  refine Cnd_intro (fun h2=>?_) (fun h2=>?_)
  ·rw[if_pos h2]at hQ
   simp (disch:=omega)only[↓pa,pb,↓reduceIte,Nat.reduceEqDiff,h2]
   rw[←hQ]
  ·rw[if_neg h2]at hQ
   simp (disch:=omega)only[↓pa,pb,natP,↓reduceIte,Nat.reduceEqDiff,f1,f8,f9,f10,h2]
   exact⟨g.nodes.length- (i+1),by omega,i+1,rfl,by omega,rfl,hQ⟩
 ·have:i=g.nodes.length:=by omega
  rw[this,List.drop_length]at hQ
  simp (disch:=omega)only[↓pa,pb,↓reduceIte,h1]
  rw[←hQ];rfl
def flatP(p:PV):Bool:=match p with
 | .int _ _=>true
 | .str _=>true
 | .bool _=>true
 |_=>false
theorem flat_so{cs:List PV}(h:∀ p∈cs,flatP p=true):solids cs=true∧tokss cs=[]:=by
 induction cs with
 |nil=>exact⟨rfl,rfl⟩
 |cons c cs ih=>
  obtain⟨h1,h2⟩:=ih fun p hp=>h p (List.mem_cons_of_mem _ hp)
  have h0:=h c List.mem_cons_self
  simp only[solids,tokss,h1,h2]
  cases c<;>simp_all [flatP,solid,toks]
theorem TokOK_one{st:St}{k n:Nat}(h1:k<st.nx)(h2:st.cnt k=n)(h3:st.fl≤k):TokOK st [(k,n)]:=by
 refine⟨fun j=>?_,fun q hq=>?_⟩
 ·simp only[ck];split<;>omega
 ·simp only[List.mem_singleton]at hq;subst hq;exact⟨h1,h2,h3⟩
theorem TokOK_nil{st:St}:TokOK st []:=⟨fun _=>by simp[ck],by simp⟩
set_option maxHeartbeats 1000000 in
theorem c_twinL{f e sz by_:Nat}{F:CFn}(hE:F.res=[.tmp 2]∧F.own=true∧1≤F.nt)(hT:T f=some F)
  (hb:F.body= .seq (.reg [⟨none,(some 2),.mv (.k (.list 0 [] .nil))⟩] []) (.seq (.seq (.reg [⟨none,(some 3),.mv (.sl 0)⟩,⟨none,(some 4),.len (.sl 3)⟩,⟨none,(some 5),.bin .eql (.sl 4) (.k (.int .i64 0))⟩] []) (.cond (.sl 5) (.seq (.reg [⟨none,(some 2),.mv (.k (.list 0 [] .nil))⟩] []) (.ret)) (.skip)))
   (.seq (.reg [⟨none,(some 6),.mv (.sl 0)⟩,⟨none,(some 7),.len (.sl 6)⟩,⟨none,(some 8),.mk0 e sz by_ (.k (.int .i64 0)) (.sl 7)⟩,⟨none,(some 9),.mv (.sl 0)⟩,⟨none,(some 10),.app e sz by_ (.sl 8) (.sl 9)⟩,⟨none,(some 2),.mv (.sl 10)⟩] []) (.ret))))
  (hsz:0<sz) (hby:by_≤1000) (K:Env cf) {n:Nat} {cs:List PV} (hp:plainVs cs) (hfl:∀ p∈cs,flatP p=true) (hcl:cs.length=n*sz) (hl:n≤2000000):
  ∃ r ns,callP cf f [.list n cs .no] [] st=some (r,st.more ns)∧Fresh st.nx ns r∧strip r= .list n cs .no:=by
 obtain⟨e1,e2,e3⟩:=hE
 refine c_valO K.tab (F:=F) (Q:=fun r=>r= .list n cs .no) hT e1 e2 (by simpa using e3) (by simp[plainV_list hp]) 1 ?_
 rw[hb]
 simp (disch:=omega)only[↓pa,pb,↓reduceIte,reduceCtorEq]
 refine Cnd_intro (fun h0=>?_) (fun h0=>?_)
 ·have hn:n=0:=by omega
  subst hn
  have:cs=[]:=List.eq_nil_of_length_eq_zero (by omega)
  subst this
  simp (disch:=omega)only[↓pa,pb,↓reduceIte,pmj,h0]
  exact⟨rfl,rfl,rfl,TokOK_nil,rfl⟩
 ·have hm:= @mk0P_ok e sz by_ (n:Int) (stB [] []) (by omega) (by have:=Nat.mul_le_mul hby hl;simp only[Int.toNat_natCast];omega) (by omega) hsz
  simp (disch:=omega)only[↓pa,↓pmx,pb,↓reduceIte,Nat.reduceEqDiff,reduceCtorEq,pmj,h0,hm]
  refine RunsTo_app (n:=0) (e:=e) ⟨by simp[St.more,stB],by simp[St.more,stB],rfl⟩ (by simp) hcl (by rw[Nat.zero_add];have:=Nat.mul_le_mul hl hby;omega) (by omega) hsz ?_
  simp (disch:=omega)only[↓pa,pmy,↓reduceIte,pmj]
  obtain⟨s1,s2⟩:=flat_so hfl
  refine⟨rfl,?_,?_,?_,?_⟩
  ·simp only[pmz,hp.1]
  ·simp only[appT,solid,s1,Bool.and_self]
  ·simp only[appT,toks,s2,List.append_nil]
   refine TokOK_one ?_ ?_ ?_<;>simp[appS,St.more,St.count,stB]
  ·simp only[pmz,hp.2.1,Nat.zero_add]
theorem c_twinT(K:Env cf)(l:List (List UInt8))(hl:l.length≤2000000):∃ r ns,callP cf 103 [TX l] [] st=some (r,st.more ns)∧Fresh st.nx ns r∧strip r=TX l:=
 c_twinL (F:=F103) ⟨rfl,rfl,Nat.le_of_ble_eq_true rfl⟩ rfl rfl (by decide) (by decide) K (by induction l with|nil=>exact plainVs_nil|cons x l ih=>exact plainVs_cons (plainV_str _) (ih (by simp at hl;omega))) (by simp[flatP,S]) (by simp) hl
theorem c_twinF(K:Env cf)(l:List Fd)(hl:l.length≤2000000):∃ r ns,callP cf 108 [FX l] [] st=some (r,st.more ns)∧Fresh st.nx ns r∧strip r=FX l:=
 c_twinL (F:=F108) ⟨rfl,rfl,Nat.le_of_ble_eq_true rfl⟩ rfl rfl (by decide) (by decide) K (fs_plain l) (by intro p hp;obtain⟨x,-,h⟩:=List.mem_flatMap.1 hp;simp only[fc,List.mem_cons,List.not_mem_nil,or_false]at h;rcases h with rfl|rfl<;>rfl) (by rw[fs_len]) hl
theorem c_twinE(K:Env cf)(e:Eg)(hl:e.fields.length≤2000000):∃ r ns,callP cf 68 [.agg (ec e)] [] st=some (r,st.more ns)∧Fresh st.nx ns r∧strip r= .agg (ec e):=by
 refine c_valO K.tab (F:=F68) (Q:=fun r=>r= .agg (ec e)) rfl rfl rfl (lb rfl) (by simp[plainV_eg]) 1 ?_
 unfold F68 qr ql qf qo qe qN
 simp (disch:=omega)only[↓pa,pb,pmy,↓reduceIte,Nat.reduceEqDiff,Nat.reduceAdd,ec]
 refine RunsTo_OE (c_twinF K e.fields hl) (fun r ns hF hr=>?_)
 obtain⟨ds,u,rfl,hd,-⟩:=strip_list_inv hr
 simp (disch:=omega)only[↓pa,pb,pmy,↓reduceIte,Nat.reduceEqDiff,Nat.reduceAdd,Nat.reduceLeDiff,pmj]
 refine⟨rfl,?_,?_,?_,?_⟩
 ·simp only[pmz,Bool.true_and,Bool.and_true];exact hF.np
 ·simp only[solid,solids,Bool.true_and,Bool.and_true];exact hF.so
 ·simp only[toks,tokss,List.nil_append,List.append_nil]
  have:=hF.tk
  simp only[toks]at this
  rw[this]
  exact TokOK_setO (TokOK_setO (TokOK_more (TokOK_setO (TokOK_setO TokOK_nil)) (Nat.zero_le _) ns))
 ·simp only[pmz,hd]
theorem c_twinN(K:Env cf)(n:Nd)(h1:n.labels.length≤2000000)(hl:n.fields.length≤2000000):∃ r ns,callP cf 66 [.agg (nc n)] [] st=some (r,st.more ns)∧Fresh st.nx ns r∧strip r= .agg (nc n):=by
 refine c_valO K.tab (F:=F66) (Q:=fun r=>r= .agg (nc n)) rfl rfl rfl (lb rfl) (by simp[plainV_nd]) 1 ?_
 unfold F66 qr ql qf qo qe qN
 simp (disch:=omega)only[↓pa,pb,pmy,↓reduceIte,Nat.reduceEqDiff,Nat.reduceAdd,nc]
 refine RunsTo_OE (c_twinT K n.labels h1) (fun r ns hF hr=>?_)
 obtain⟨ds,u,rfl,hd,-⟩:=strip_list_inv hr
 simp (disch:=omega)only[↓pa,pb,pmy,↓reduceIte,Nat.reduceEqDiff,Nat.reduceAdd,Nat.reduceLeDiff,pmj]
 refine RunsTo_OE (c_twinF K n.fields hl) (fun r2 ns2 hF2 hr2=>?_)
 obtain⟨ds2,u2,rfl,hd2,-⟩:=strip_list_inv hr2
 simp (disch:=omega)only[↓pa,pb,pmy,↓reduceIte,Nat.reduceEqDiff,Nat.reduceAdd,Nat.reduceLeDiff,pmj]
 refine⟨rfl,?_,?_,?_,?_⟩
 ·simp only[pmz,Bool.true_and,Bool.and_true];have a:=hF.np;have b:=hF2.np;simp only[pmz]at a b;rw[a,b];rfl
 ·have a:=hF.so;have b:=hF2.so;simp only[solid,solids,Bool.true_and,Bool.and_true]at a b ⊢;rw[a,b];rfl
 ·have a:=hF.tk
  have b:=hF2.tk
  simp only[toks,tokss,List.nil_append,List.append_nil]at a b ⊢
  rw[a,b]
  exact TokOK_setO (TokOK_setO (TokOK_more (TokOK_setO (TokOK_more (TokOK_setO (TokOK_setO TokOK_nil)) (Nat.zero_le _) ns)) (by simp only[setO,St.more_fl,stB];exact Nat.zero_le _) ns2))
 ·simp only[pmz,hd,hd2]
structure InsOk (cf:CallF):Prop where
 nil:∀ ds:List PV,ds.length=3→nps ds=true→cf 128 [.list 0 [] .nil,I 0,.list 1 ds .no] [] []=some (.list 1 ds (.own 0 72),[1],[])
 own:∀ (n i:Nat) (cs ds:List PV) (ns:List Nat),cs.length=n*3→ds.length=3→nps cs=true→nps ds=true→tfs ([0].contains ·) cs=true→tfs ([0].contains ·) ds=true→i≤n→n≤10000000→cf 128 [.list n cs (.own 0 72),I i,.list 1 ds .no] (n::ns) []=some (.list (n+1) (cs.take (i*3)++ds++cs.drop (i*3)) (.own 0 72),(n+1)::ns,[])
mutual
theorem tf_solid(K:Nat→Bool):∀ p:PV,solid p=true→(∀ q∈toks p,K q.1=false)→tf K p=true
 | .list n cs t,h,hk=>by
  simp only[solid,Bool.and_eq_true]at h
  simp only[tf,Bool.and_eq_true]
  refine⟨?_,tfs_solid K cs h.2 fun q hq=>hk q (by simp only[toks];exact List.mem_append_right _ hq)⟩
  cases t with
  |own k e=>have:=hk (k,n) (by simp[toks]);simpa [Tok.free,Tok.of]using this
  |sub k=>exact absurd h.1 (by simp)
  |el _ _ _=>exact absurd h.1 (by simp)
  |_=>rfl
 | .agg cs,h,hk=>by simp only[solid]at h;simp only[tf];exact tfs_solid K cs h hk
 | .tup cs,h,hk=>by simp only[solid]at h;simp only[tf];exact tfs_solid K cs h hk
 | .fn _ cs,h,hk=>by simp only[solid]at h;simp only[tf];exact tfs_solid K cs h hk
 | .iptr ..,h,_=>by simp[solid]at h
 | .ptr _ _,_,_=>rfl
 | .osl _ _ _ _,_,_=>rfl
 | .mp _,_,_=>rfl
 | .any,_,_=>rfl
 | .hole,_,_=>rfl
 | .int _ _,_,_=>rfl
 | .bool _,_,_=>rfl
 | .str _,_,_=>rfl
 | .nilp,_,_=>rfl
 | .nili,_,_=>rfl
 | .err,_,_=>rfl
theorem tfs_solid(K:Nat→Bool):∀ ps:List PV,solids ps=true→(∀ q∈tokss ps,K q.1=false)→tfs K ps=true
 | [],_,_=>rfl
 |p::ps,h,hk=>by
  simp only[solids,Bool.and_eq_true]at h
  simp only[tfs,Bool.and_eq_true]
  exact⟨tf_solid K p h.1 fun q hq=>hk q (by simp only[tokss];exact List.mem_append_left _ hq),tfs_solid K ps h.2 fun q hq=>hk q (by simp only[tokss];exact List.mem_append_right _ hq)⟩
end
theorem enum_ge:∀ (ns:List Nat) (d:Nat) (q:Nat×Nat),q∈enum d ns→d≤q.1
 | [],_,_,h=>by simp[enum]at h
 |n::ns,d,q,h=>by
  rw[enum,List.mem_cons]at h
  rcases h with rfl|h
  ·exact Nat.le_refl _
  ·have:=enum_ge ns (d+1) q h;omega
theorem strips_map:∀ cs:List PV,strips cs=cs.map strip
 | []=>rfl
 |c::cs=>by have:=strips_map cs;simp only[pmz,this,List.map_cons]
theorem nps_append_iff:∀ xs ys:List PV,nps (xs++ys)=(nps xs && nps ys)
 | [],ys=>rfl
 |x::xs,ys=>by have:=nps_append_iff xs ys;simp only[List.cons_append,pmz,this,Bool.and_assoc]
theorem enum_map(nx:Nat):∀ (ns:List Nat) (d:Nat),(enum d ns).map (fun q=>(nx+q.1,q.2))=enum (nx+d) ns
 | [],_=>rfl
 |n::ns,d=>by rw[enum,List.map_cons,enum_map nx ns (d+1),enum,Nat.add_assoc]
theorem keysOf_agg{cs:List PV}(h:nps cs=true):keysOf [.agg cs]=some []:=by
 have:np (.agg cs)=true:=h
 simp[keysOf,this]
theorem flat_take{α:Type}(enc:α→List PV)(m:Nat)(h:∀ a,(enc a).length=m):∀ (l:List α) (i:Nat),(l.flatMap enc).take (i*m)=(l.take i).flatMap enc
 | [],i=>by simp
 |a::l,0=>by simp
 |a::l,i+1=>by
  rw[List.flatMap_cons,List.take_succ_cons,List.flatMap_cons,Nat.succ_mul,Nat.add_comm,←h a,List.take_add,List.take_left,List.drop_left,h a,flat_take enc m h l i]
theorem flat_drop{α:Type}(enc:α→List PV)(m:Nat)(h:∀ a,(enc a).length=m):∀ (l:List α) (i:Nat),(l.flatMap enc).drop (i*m)=(l.drop i).flatMap enc
 | [],i=>by simp
 |a::l,0=>by simp
 |a::l,i+1=>by
  rw[List.flatMap_cons,List.drop_succ_cons,Nat.succ_mul,Nat.add_comm,←h a,←List.drop_drop,List.drop_left,h a,flat_drop enc m h l i]
def insB(x:Nd):List Nd→List Nd
 | []=>[x]
 |y::l=>if y.id<x.id then y::insB x l else x::y::l
end Go.PM
namespace Go.PM
def risen(l:List Nd):Prop:=l.Pairwise fun a b=>a.id<b.id
theorem risen_of:∀ {l:List Nd},(∀ i,(h:i+1<l.length)→l[i].id<l[i+1].id)→risen l
 | [],_=>List.Pairwise.nil
 | [a],_=>List.pairwise_singleton _ _
 |a::b::l,h=>by
  have ih:risen (b::l):=risen_of fun i hi=>by
   have:=h (i+1) (by simp only[List.length_cons]at hi ⊢;omega)
   simpa using this
  have h0:a.id<b.id:=by simpa using h 0 (by simp)
  refine List.Pairwise.cons (fun c hc=>?_) ih
  rcases List.mem_cons.1 hc with rfl|hc
  ·exact h0
  ·exact Int.lt_trans h0 ((List.pairwise_cons.1 ih).1 c hc)
theorem graph_risen{g:Gph}(h:graphOk g=true):risen g.nodes:=by
 unfold graphOk at h
 rw[Bool.and_eq_true,Bool.and_eq_true,Bool.and_eq_true]at h
 refine risen_of fun i hi=>?_
 have:=alln_iff.1 h.2.1 (i+1) hi
 rw[nodeOkAt,Bool.and_eq_true,nrises]at this
 have h2:=this.2
 simp only[Nat.add_sub_cancel,nAt_eq hi,nAt_eq (show i<g.nodes.length by omega),Bool.or_eq_true,decide_eq_true_eq]at h2
 rcases h2 with h2|h2
 ·omega
 ·exact h2
theorem insOf_snoc(es:List Eg)(e:Eg)(id:Int):insOf (es++[e]) id=if e.dst=id then insOf es id++[e.id]else insOf es id:=by
 unfold insOf
 rw[List.filter_append,List.map_append]
 by_cases h:e.dst=id<;>simp[h]
theorem shN1_same{es:List Eg}{e:Eg}{n k:Int}{x:Nd}(h:x.id.tmod n=k∨e.dst≠x.id∨0<(insOf es x.id).length):shN1 (es++[e]) n k x=shN1 es n k x:=by
 unfold shN1
 by_cases h1:x.id.tmod n=k
 ·rw[if_pos h1,if_pos h1]
 ·rw[if_neg h1,if_neg h1,insOf_snoc]
  by_cases h2:e.dst=x.id
  ·rw[if_pos h2]
   rcases h with h|h|h
   ·exact absurd h h1
   ·exact absurd h2 h
   ·rw[if_pos h,if_pos (by rw[List.length_append];omega)]
  ·rw[if_neg h2]
theorem shN_cons(es:List Eg)(x:Nd)(l:List Nd)(n k:Int):shN es (x::l) n k=shN1 es n k x++shN es l n k:=by
 simp only[shN,List.flatMap_cons]
theorem shN_same{es:List Eg}{e:Eg}{n k:Int}:∀ {l:List Nd},(∀ x∈l,x.id.tmod n=k∨e.dst≠x.id∨0<(insOf es x.id).length)→shN (es++[e]) l n k=shN es l n k
 | [],_=>rfl
 |x::l,h=>by rw[shN_cons,shN_cons,shN1_same (h x List.mem_cons_self),shN_same fun y hy=>h y (List.mem_cons_of_mem _ hy)]
theorem shN1_id{es:List Eg}{n k:Int}{x y:Nd}(h:y∈shN1 es n k x):y.id=x.id:=by
 unfold shN1 at h
 split at h
 ·simp at h;rw[h]
 ·split at h
  ·simp at h;rw[h]
  ·simp at h
theorem shN_mem{es:List Eg}{n k:Int}{l:List Nd}{y:Nd}(h:y∈shN es l n k):∃ x∈l,y∈shN1 es n k x:=by
 unfold shN at h
 exact List.mem_flatMap.1 h
theorem insB_skip{x:Nd}:∀ {l r:List Nd},(∀ y∈l,y.id<x.id)→insB x (l++r)=l++insB x r
 | [],r,_=>rfl
 |y::l,r,h=>by
  rw[List.cons_append,insB,if_pos (h y List.mem_cons_self),insB_skip fun z hz=>h z (List.mem_cons_of_mem _ hz),List.cons_append]
theorem insB_front{x:Nd}{l:List Nd}(h:∀ y∈l,x.id<y.id):insB x l=x::l:=by
 cases l with
 |nil=>rfl
 |cons y l=>rw[insB,if_neg (by have:=h y List.mem_cons_self;omega)]
theorem shN_new{es:List Eg}{e:Eg}{n k:Int}(hm:e.dst.tmod n≠k)(h0:(insOf es e.dst).length=0):∀ {l:List Nd},risen l→hasId l e.dst=true→shN (es++[e]) l n k=insB ⟨e.dst,[],[]⟩ (shN es l n k)
 | [],_,h=>by simp[hasId]at h
 |x::l,hr,h=>by
  obtain⟨h1,h2⟩:=List.pairwise_cons.1 hr
  rw[shN_cons,shN_cons]
  by_cases hx:x.id=e.dst
  ·have a1:shN1 es n k x=[]:=by unfold shN1;rw[hx,if_neg hm,if_neg (by omega)]
   have a2:shN1 (es++[e]) n k x=[⟨e.dst,[],[]⟩]:=by unfold shN1;rw[hx,if_neg hm,insOf_snoc,if_pos rfl,if_pos (by rw[List.length_append];simp)]
   have a3:shN (es++[e]) l n k=shN es l n k:=shN_same fun y hy=> .inr (.inl (by have:=h1 y hy;omega))
   rw[a1,a2,a3,List.nil_append,List.singleton_append,insB_front]
   intro y hy
   obtain⟨z,hz,hy⟩:=shN_mem hy
   have:=shN1_id hy
   have:=h1 z hz
   show e.dst<y.id
   omega
  ·have hl:hasId l e.dst=true:=by
    simpa [hasId,hx]using h
   have hlt:x.id<e.dst:=by
    obtain⟨z,hz,hy⟩:=List.any_eq_true.1 hl
    have:=h1 z hz
    simp at hy
    omega
   rw[shN1_same (.inr (.inl (Ne.symm hx))),shN_new hm h0 h2 hl,insB_skip]
   intro y hy
   have:=shN1_id hy
   show y.id<e.dst
   omega
end Go.PM
namespace Go.PM
variable {cf:CallF} {st:St} {mk:PV→St→Fr×St} {A:Fr×St→Prop} {s:Nat}
theorem TokOK_of{l l':List (Nat×Nat)}(h:TokOK st l)(h1:∀ k,ck k l'≤ck k l)(h2:∀ q∈l',q∈l):TokOK st l':=
 ⟨fun k=>Nat.le_trans (h1 k) (h.1 k),fun q hq=>h.2 q (h2 q hq)⟩
theorem RunsTo_appO{e sz bytes n m:Nat}{cs ds:List PV}{tk u:Tok}{X Y:List (Nat×Nat)}(ht:ownT e tk)(hs:solid (.list n cs tk)=true)(hd:solids ds=true)(hk:TokOK st (X++toks (.list n cs tk)++Y++tokss ds))(hf:st.fl=0)
  (h1:cs.length=n*sz) (h2:ds.length=m*sz) (h3:(n+m) *bytes≤140737488355328) (h4:n+m≤140737488355328) (h5:0<sz)
  (k:∀ st' tk',ownT e tk'→solid (.list (n+m) (cs++ds) tk')=true→TokOK st' (X++toks (.list (n+m) (cs++ds) tk')++Y)→st'.objs=st.objs→st'.fl=0→A (mk (.list (n+m) (cs++ds) tk') st')):RunsTo (appP e sz bytes (.list n cs tk) (.list m ds u) st) mk A:=by
 have hsc:solids cs=true:=by simp only[solid,Bool.and_eq_true]at hs;exact hs.2
 have hsa:solids (cs++ds)=true:=by rw[solids_append,hsc,hd];rfl
 rcases ht with rfl|⟨j,rfl⟩
 ·have hc:cs=[]:=by simp only[solid,Bool.and_eq_true,List.isEmpty_iff]at hs;exact hs.1
  subst hc
  have hn:n=0:=by
   simp only[List.length_nil]at h1
   rcases Nat.eq_zero_or_pos n with h|h
   ·exact h
   ·have:=Nat.mul_pos h h5;omega
  subst hn
  refine⟨_,_,appP_ok (show Gr e st.nx st.cnt 0 .nil from rfl) h1 h2 h3 h4 h5,?_⟩
  refine k _ _ (.inr ⟨_,rfl⟩) (by simp only[appT,solid,hsa,Bool.and_self]) ?_ appS_objs hf
  have:=TokOK_more hk (by omega) [0+m]
  refine TokOK_of this (fun q=>?_) (fun q hq=>?_)
  ·simp only[appT,toks,ck_append,ck,enum,List.nil_append,tokss];omega
  ·simp only[appT,toks,enum,List.nil_append,tokss,List.mem_append,List.mem_cons,List.not_mem_nil,or_false]at hq ⊢
   rcases hq with(h|h|h)|h<;>simp[h]
 ·have hj:=hk.2 (j,n) (by simp[toks])
  refine⟨_,_,appP_ok (show Gr e st.nx st.cnt n (.own j e)from⟨hj.1,hj.2.1,rfl⟩) h1 h2 h3 h4 h5,?_⟩
  refine k _ _ (.inr ⟨_,rfl⟩) (by simp only[appT,solid,hsa,Bool.and_self]) ?_ appS_objs hf
  have hne:∀ q,q∈X∨q∈tokss cs∨q∈Y∨q∈tokss ds→q.1≠j:=by
   intro q hq he
   have:=hk.1 j
   simp only[toks,ck_append,ck,if_true]at this
   have h0:0<ck j X∨0<ck j (tokss cs)∨0<ck j Y∨0<ck j (tokss ds):=by
    rcases hq with h|h|h|h
    ·exact .inl (ck_pos.2 ⟨q,h,he⟩)
    ·exact .inr (.inl (ck_pos.2 ⟨q,h,he⟩))
    ·exact .inr (.inr (.inl (ck_pos.2 ⟨q,h,he⟩)))
    ·exact .inr (.inr (.inr (ck_pos.2 ⟨q,h,he⟩)))
   omega
  refine⟨fun q=>?_,fun q hq=>?_⟩
  ·have:=hk.1 q
   simp only[appT,toks,ck_append,ck,tokss_append]at this ⊢
   omega
  ·simp only[appT,toks,tokss_append,List.mem_append,List.mem_cons,List.not_mem_nil,or_false]at hq
   show q.1<st.nx∧(if q.1=j then n+m else st.cnt q.1)=q.2∧st.fl≤q.1
   by_cases hqj:q=(j,n+m)
   ·subst hqj;exact⟨hj.1,by simp,by omega⟩
   ·have hm:q∈X∨q∈tokss cs∨q∈Y∨q∈tokss ds:=by
     rcases hq with(h|h|h|h)|h<;>simp_all
    rw[if_neg (hne q hm)]
    refine hk.2 q ?_
    simp only[toks,List.mem_append]
    rcases hm with h|h|h|h<;>simp[h]
def EndsR(t:Nat)(Q:PV→Prop)(e:Ex)(y:Fr×St):Prop:=endOk e∧∃ el sz s n cs,y.1 t= .osl el sz s n∧y.2.objs s=some cs∧cs.length=n*sz∧n≤140737488355328∧nps cs=true∧solids cs=true∧TokOK y.2 (tokss cs)∧y.2.fl=0∧Q (.list n (strips cs) .no)
theorem run_row{f:Nat}{F:CFn}{as:List PV}{t:Nat}(hown:F.own=true)(hres:F.res=[.tmp t])(hnk:F.nk=0)(N:Nat){ns:List Nat}{Q:PV→Prop}(hnt:as.length≤F.nt)(h:Wp cf N F.body (frame as,stB ns []) (EndsR t Q)):
  ∃ r ns',runFn cf N F as ns []=some (r,ns',[])∧Fresh 0 ns' r∧(∀ nx,Fresh nx ns' (ren (fun k=>some (nx+k)) false r))∧Q (strip r):=by
 obtain⟨e,⟨fr,s1⟩,hev,he,el,sz,s,n,cs,hr,ho,hl,hb,hn,hs,hk,hfl,hQ⟩:=h
 have hb':n≤byteBound:=hb
 have hso:solid (.list n cs (.own s1.nx el))=true:=by simp only[solid,hs,Bool.and_self]
 have hk2:TokOK {s1.more [n]with objs:=fun k=>if k=s then none else s1.objs k} (toks (.list n cs (.own s1.nx el))):=by
  have hm:=TokOK_more hk (by omega) [n]
  have hm2:TokOK (s1.more [n]) (toks (.list n cs (.own s1.nx el))):=TokOK_of hm (fun q=>by simp only[toks,ck_append,ck,enum];omega) (fun q hq=>by
   simp only[toks,enum,List.mem_append,List.mem_cons,List.not_mem_nil,or_false]at hq ⊢
   exact hq.symm)
  exact hm2
 have hf:finish F 0 fr s1=some (ren (idxIn ((toks (.list n cs (.own s1.nx el))).map (·.1))) false (.list n cs (.own s1.nx el)),(toks (.list n cs (.own s1.nx el))).map (·.2),[]):=by
  have h0:getAll s1 (List.range 0)=some []:=rfl
  have hp:ressP fr s1 F.res=some [.osl el sz s n]:=by rw[hres];simp only[ressP,resP];rw[show fr t=_ from hr]
  have hm:meltAll F.nk [.osl el sz s n] s1=([.list n cs (.own s1.nx el)],{s1.more [n]with objs:=fun k=>if k=s then none else s1.objs k}):=by
   rw[meltAll]
   simp only[show s1.objs s=some cs from ho,hnk,Nat.zero_le,hl,hb',and_self,if_true,List.map_nil,meltAll]
  have hnp:np (.list n cs (.own s1.nx el))=true:=hn
  simp only[finish,hp,h0,hm,oneOf,hnp,List.all_nil,Bool.and_self,if_true,hown,seal_fresh hk2]
 refine⟨_,_,?_,(fresh_ren hso hn hk2.1 0).2,fun nx=>(fresh_ren hso hn hk2.1 nx).1,by rw[strip_ren,strip_list];exact hQ⟩
 unfold runFn
 rw[if_pos ⟨hnt,Nat.zero_le _⟩,hev]
 cases e with
 |go=>exact hf
 |ret=>exact hf
 |exit i=>exact he.elim
theorem c_valR{f:Nat}{F:CFn}{as:List PV}{t:Nat}(K:Tab cf)(hT:T f=some F)(hres:F.res=[.tmp t])(hown:F.own=true)(hnk:F.nk=0)(hnt:as.length≤F.nt)(has:∀ p∈as,plainV p)(N:Nat){v:PV}
  (h:Wp cf N F.body (frame as,stB [] []) (EndsR t (· =v))):∃ r ns,callP cf f as [] st=some (r,st.more ns)∧Fresh st.nx ns r∧strip r=v:=by
 obtain⟨h1,h2⟩:=plainVs_arg has
 obtain⟨r,ns,hrun,hF0,hF,hQ⟩:=run_row (f:=f) hown hres hnk N hnt h
 have hcf:=K f F hT N _ _ _ _ hrun
 exact⟨_,ns,callP_own h1 (by rw[h2];exact hcf) hF0.so,hF st.nx,by rw[strip_ren];exact hQ⟩
end Go.PM
namespace Go.PM
open Go.Lib
variable {cf:CallF} {st:St} {mk:PV→St→Fr×St} {A:Fr×St→Prop} {s:Nat}
structure RowS (g:Gph) (n:Int) (k:Nat) (st:St) (pre:List PV):Prop where
 len:pre.length=k*2
 so:solids pre=true
 np:nps pre=true
 st:strips pre=(shards g n k).flatMap gc
theorem strips_length(cs:List PV):(strips cs).length=cs.length:=by rw[strips_map,List.length_map]
theorem insB_len(x:Nd):∀ l:List Nd,(insB x l).length=l.length+1
 | []=>rfl
 |y::l=>by
  rw[insB]
  split
  ·rw[List.length_cons,insB_len x l,List.length_cons]
  ·rw[List.length_cons]
theorem partP_nc0{x:Nd}:partP (nc x) 0 1 false=some (I x.id):=rfl
def eqBody(sz g:Nat):CC:=
 .seq (.reg [⟨none,(some 4),.mv (.k (.bool false))⟩] [])
 (.seq (.seq (.reg [⟨none,(some 6),.mv (.sl 0)⟩,
  ⟨none,(some 7),.len (.sl 6)⟩,
  ⟨none,(some 8),.mv (.sl 1)⟩,
  ⟨none,(some 9),.len (.sl 8)⟩,
  ⟨none,(some 10),.bin .neq (.sl 7) (.sl 9)⟩] [])
 (.cond (.sl 10) (.seq (.reg [⟨none,(some 4),.mv (.k (.bool false))⟩] [])
  (.ret)) (.skip)))
 (.seq (.seq (.reg [⟨none,(some 5),.mv (.k (.int .i64 0))⟩] [])
 (.block 0 (.loop (.seq (.seq (.reg [⟨none,(some 11),.mv (.sl 5)⟩,
   ⟨none,(some 12),.mv (.sl 0)⟩,
   ⟨none,(some 13),.len (.sl 12)⟩,
   ⟨none,(some 14),.bin .lss (.sl 11) (.sl 13)⟩] [])
  (.cond (.sl 14) (.skip) (.exit 0)))
  (.seq (.block 1 (.seq (.reg [⟨none,(some 17),.mv (.sl 0)⟩,
    ⟨none,(some 18),.mv (.sl 5)⟩,
    ⟨none,(some 19),.iad sz (.sl 17) (.sl 18)⟩,
    ⟨none,(some 20),.load sz true (.sl 19)⟩,
    ⟨none,(some 21),.mv (.sl 1)⟩,
    ⟨none,(some 22),.mv (.sl 5)⟩,
    ⟨none,(some 23),.iad sz (.sl 21) (.sl 22)⟩,
    ⟨none,(some 24),.load sz true (.sl 23)⟩,
    ⟨none,(some 25),.call g [(.sl 20),(.sl 24)] []⟩,
    ⟨none,(some 26),.un .not (.sl 25)⟩] [])
   (.cond (.sl 26) (.seq (.reg [⟨none,(some 4),.mv (.k (.bool false))⟩] [])
   (.ret)) (.skip))))
  (.reg [⟨none,(some 15),.mv (.sl 5)⟩,
   ⟨none,(some 16),.bin .add (.sl 15) (.k (.int .i64 1))⟩,
   ⟨none,(some 5),.mv (.sl 16)⟩] []))))))
 (.seq (.reg [⟨none,(some 4),.mv (.k (.bool true))⟩] [])
 (.ret))))
theorem partP_a{α:Type}{enc:α→List PV}{m:Nat}(hm:∀ a,(enc a).length=m){l:List α}{i:Nat}(h:i<l.length):partP (l.flatMap enc) (i*m) m true=some (.agg (enc l[i])):=by
 have:=partP_flat enc m hm 0 m true (by omega) l i h
 rw[Nat.add_zero]at this
 rw[this]
 simp only[partP,hm,Nat.zero_add,Nat.le_refl,if_true,List.drop_zero]
 rw[←hm l[i],List.take_length]
theorem c_eqL(K:Env cf){f sz g:Nat}{F:CFn}(hT:T f=some F)(hF:F.body=eqBody sz g∧F.res=[.tmp 4]∧F.own=false∧2≤F.nt){α:Type}(enc:α→List PV)(hm:∀ a,(enc a).length=sz)(hp:∀ a,plainVs (enc a))(l:List α)(hl:l.length≤2000000)
  (he:∀ a∈l,∀ st,callP cf g [.agg (enc a),.agg (enc a)] [] st=some (.bool true,st)):callP cf f [.list l.length (l.flatMap enc) .no,.list l.length (l.flatMap enc) .no] [] st=some (.bool true,st):=by
 obtain⟨h1,h2,h3,h4⟩:=hF
 refine c_val K.tab (F:=F) (t:=4) hT h2 h3 (by simpa using h4) (by simp[plainV_list (flat_plain enc hp l)]) (bare_bool _) (l.length+1) ?_
 have hlen:=flat_len enc sz hm l
 rw[h1,eqBody]
 simp (disch:=omega)only[↓pa,pb,↓reduceIte,Nat.reduceEqDiff,ne_eq,reduceCtorEq]
 refine Wp_rounds (fun k fr st=>∃ i:Nat,k=l.length-i∧i≤l.length∧fr 0= .list l.length (l.flatMap enc) .no∧fr 1= .list l.length (l.flatMap enc) .no∧fr 5=I i) l.length (by omega) ⟨0,by simp,by omega,by simp (disch:=omega)only[↓pa,↓reduceIte,reduceCtorEq],by simp (disch:=omega)only[↓pa,↓reduceIte,Nat.reduceEqDiff],by simp (disch:=omega)only[↓pa,↓reduceIte];rfl⟩ ?_
 rintro k fr st ⟨i,rfl,hi,f0,f1,f5⟩
 simp (disch:=omega)only[↓pa,pb,natP,↓reduceIte,Nat.reduceEqDiff,reduceCtorEq,f0,f5]
 refine Cnd_intro (fun h=>?_) (fun h=>?_)
 ·have hlt:i<l.length:=h
  have hc:=he _ (List.getElem_mem hlt)
  simp (disch:=omega)only[↓pa,pb,natP,↓reduceIte,Nat.reduceEqDiff,reduceCtorEq,f0,f1,f5,h,partP_a hm hlt,hc]
  exact⟨l.length- (i+1),by omega,i+1,rfl,by omega,rfl⟩
 ·simp (disch:=omega)only[↓pa,pb,↓reduceIte,h]
theorem c_eqFd(K:Env cf)(x:Fd):callP cf 176 [.agg (fc x),.agg (fc x)] [] st=some (.bool true,st):=by
 refine c_val K.tab (F:=F176) (t:=4) rfl rfl rfl (lb rfl) (by have:=(fs_plain [x]);simp at this;simp[plainV_agg this]) (bare_bool _) 1 ?_
 unfold F176 qr qd qc qb ql qf qo
 simp (disch:=omega)only[↓pa,pb,pmy,↓reduceIte,Nat.reduceEqDiff,Nat.reduceAdd,ne_eq,fc]
theorem c_eqF(K:Env cf)(l:List Fd)(hl:l.length≤2000000):callP cf 130 [FX l,FX l] [] st=some (.bool true,st):=
 c_eqL K (F:=F130) rfl ⟨rfl,rfl,rfl,(lb rfl)⟩ fc (fun _=>rfl) (fun a=>by have:=fs_plain [a];simpa using this) l hl fun a _ st=>c_eqFd K a
theorem c_eqT(K:Env cf)(l:List (List UInt8))(hl:l.length≤2000000):callP cf 129 [TX l,TX l] [] st=some (.bool true,st):=by
 refine c_val K.tab (F:=F129) (t:=4) rfl rfl rfl (lb rfl) (by simp[plainV_tx]) (bare_bool _) (l.length+1) ?_
 have hm:(l.map S).length=l.length:=by simp
 unfold F129 qr qd qm qi qc qb qk ql qo
 simp (disch:=omega)only[↓pa,pb,↓reduceIte,Nat.reduceEqDiff,ne_eq,reduceCtorEq]
 refine Wp_rounds (fun k fr st=>∃ i:Nat,k=l.length-i∧i≤l.length∧fr 0=TX l∧fr 1=TX l∧fr 5=I i) l.length (by omega) ⟨0,by simp,by omega,by simp (disch:=omega)only[↓pa,↓reduceIte,reduceCtorEq],by simp (disch:=omega)only[↓pa,↓reduceIte,Nat.reduceEqDiff],by simp (disch:=omega)only[↓pa,↓reduceIte];rfl⟩ ?_
 rintro k fr st ⟨i,rfl,hi,f0,f1,f5⟩
 simp (disch:=omega)only[↓pa,pb,natP,↓reduceIte,Nat.reduceEqDiff,reduceCtorEq,f0,f5]
 refine Cnd_intro (fun h=>?_) (fun h=>?_)
 ·have hlt:i<l.length:=h
  simp (disch:=omega)only[↓pa,pb,natP,↓reduceIte,Nat.reduceEqDiff,ne_eq,reduceCtorEq,f0,f1,f5,h,Nat.mul_one,partP_tx hlt]
  exact⟨l.length- (i+1),by omega,i+1,rfl,by omega,rfl⟩
 ·simp (disch:=omega)only[↓pa,pb,↓reduceIte,h]
theorem c_eqN1(K:Env cf)(x:Nd)(h1:x.labels.length≤2000000)(h2:x.fields.length≤2000000):callP cf 93 [.agg (nc x),.agg (nc x)] [] st=some (.bool true,st):=by
 refine c_val K.tab (F:=F93) (t:=4) rfl rfl rfl (lb rfl) (by simp[plainV_nd]) (bare_bool _) 1 ?_
 have ht:=fun st=>c_eqT (st:=st) K x.labels h1
 have hf:=fun st=>c_eqF (st:=st) K x.fields h2
 unfold F93 qr qd qc qb ql qf qo
 simp (disch:=omega)only[↓pa,pb,pmy,↓reduceIte,Nat.reduceEqDiff,Nat.reduceAdd,ne_eq,nc,ht,hf]
theorem c_eqE1(K:Env cf)(x:Eg)(h2:x.fields.length≤2000000):callP cf 94 [.agg (ec x),.agg (ec x)] [] st=some (.bool true,st):=by
 refine c_val K.tab (F:=F94) (t:=4) rfl rfl rfl (lb rfl) (by simp[plainV_eg]) (bare_bool _) 1 ?_
 have hf:=fun st=>c_eqF (st:=st) K x.fields h2
 unfold F94 qr qd qc qb ql qf qo
 simp (disch:=omega)only[↓pa,pb,pmy,↓reduceIte,Nat.reduceEqDiff,Nat.reduceAdd,ne_eq,ec,hf]
structure Fits (g:Gph):Prop where
 ns:g.nodes.length≤2000000
 es:g.edges.length≤2000000
 nf:∀ x∈g.nodes,x.fields.length≤2000000∧x.labels.length≤2000000
 ef:∀ e∈g.edges,e.fields.length≤2000000
theorem c_eqG1(K:Env cf)(g:Gph)(h:Fits g):callP cf 13 [.agg (gc g),.agg (gc g)] [] st=some (.bool true,st):=by
 refine c_val K.tab (F:=F13) (t:=4) rfl rfl rfl (lb rfl) (by simp[plainV_gr]) (bare_bool _) 1 ?_
 have ht:=fun st=>c_eqL (st:=st) K (f:=48) (F:=F48) rfl ⟨rfl,rfl,rfl,(lb rfl)⟩ nc nc_len nc_plain g.nodes h.ns fun a ha st=>c_eqN1 K a (h.nf a ha).2 (h.nf a ha).1
 have hf:=fun st=>c_eqL (st:=st) K (f:=49) (F:=F49) rfl ⟨rfl,rfl,rfl,(lb rfl)⟩ ec ec_len ec_plain g.edges h.es fun a ha st=>c_eqE1 K a (h.ef a ha)
 unfold F13 qr qd qc ql qf qo
 simp (disch:=omega)only[↓pa,pb,pmy,↓reduceIte,Nat.reduceEqDiff,Nat.reduceAdd,gc,ht,hf]
def dg:Nat→Nat→List UInt8→List UInt8
 |0,_,out=>out
 |f+1,k,out=>if k=0 then out else dg f (k / 10) (UInt8.ofNat (48+k % 10)::out)
def mt(k:Nat):List UInt8:=if k=0 then [109,48]else 109::dg k k []
theorem dg_zero:∀ (f:Nat) (out:List UInt8),dg f 0 out=out
 |0,_=>rfl
 |f+1,out=>by rw[dg,if_pos rfl]
theorem c_markText(K:Env cf)(k:Nat)(hk:k≤1000000000000):callP cf 59 [I k] [] st=some (S (mt k),st):=by
 refine c_val K.tab (F:=F59) (t:=2) rfl rfl rfl (lb rfl) (by simp[plainV_int]) (bare_str _) (k+1) ?_
 unfold F59 qr qd qm qc qb qk qo
 simp (disch:=omega)only[↓pa,pb,↓reduceIte,reduceCtorEq]
 refine Cnd_intro (fun h0=>?_) (fun h0=>?_)
 ·have:k=0:=by omega
  subst this
  simp (disch:=omega)only[↓pa,pb,↓reduceIte,Nat.reduceAdd]
  rfl
 simp (disch:=omega)only[↓pa,pb,h0]
 refine Wp_rounds (fun q fr st=>∃ (f j:Nat) (out:List UInt8),q=j∧j≤f∧fr 0=I j∧fr 3=S out∧out.length+j≤k∧dg f j out=dg k k []) k (by omega) ⟨k,k,[],rfl,by omega,by simp (disch:=omega)only[↓pa,↓reduceIte,reduceCtorEq],by simp (disch:=omega)only[↓pa,↓reduceIte],by simp,rfl⟩ ?_
 rintro q fr st ⟨f,j,out,rfl,hf,f0,f3,hl,hQ⟩
 simp (disch:=omega)only[↓pa,pb,↓reduceIte,f0]
 refine Cnd_intro (fun h1=>?_) (fun h1=>?_)
 ·obtain⟨f,rfl⟩:∃ g,f=g+1:=⟨f-1,by omega⟩
  rw[dg,if_neg (by omega)]at hQ
  have hr:= @b_rem .i64 (q:Int) 10 (by omega)
  have hq:= @b_quo .i64 (q:Int) 10 (by omega)
  have e1:(q:Int).tmod 10=((q % 10:Nat):Int):=by rw[Int.ofNat_tmod];rfl
  have e2:(q:Int).tdiv 10=((q / 10:Nat):Int):=by rw[Int.ofNat_tdiv];rfl
  have e3:IntKind.i64.wrap ((q / 10:Nat):Int)=((q / 10:Nat):Int):=wrap_i64 (by omega) (by omega)
  have e4:IntKind.u8.wrap (48+((q % 10:Nat):Int))=48+((q % 10:Nat):Int):=wrap_u8 (by omega) (by omega)
  have e5:(48+((q % 10:Nat):Int)).toNat=48+q % 10:=by omega
  have e6:([UInt8.ofNat (48+q % 10)]:List UInt8).length+out.length≤9223372036854775807:=by simp only[List.length_cons,List.length_nil];omega
  simp (disch:=omega)only[↓pa,↓pmx,pb,pmy,↓reduceIte,Nat.reduceEqDiff,Nat.reduceAdd,Nat.reduceLeDiff,Nat.reduceLT,reduceCtorEq,f0,f3,h1,hr,hq,e1,e2,e3,e4,b2sP_one,e5]
  exact⟨q / 10,by omega,f,q / 10,_,rfl,by omega,rfl,rfl,by simp only[List.cons_append,List.nil_append,List.length_cons];omega,hQ⟩
 ·have:q=0:=by omega
  subst this
  rw[dg_zero]at hQ
  have e6:([109]:List UInt8).length+out.length≤9223372036854775807:=by simp only[List.length_cons,List.length_nil];omega
  have e7:(PV.str ⟨#[109]⟩)=S [109]:=rfl
  simp (disch:=omega)only[↓pa,pb,↓reduceIte,Nat.reduceEqDiff,f3,h1,e7]
  rw[mt,if_neg (by omega),←hQ];rfl
def mkT(k n:Nat):List (List UInt8):=(List.range n).map fun i=>mt (k+i)
def mkF(k n:Nat):List Fd:=(List.range n).map fun i=>(mt (k+2*i),mt (k+2*i+1))
def mkN:List (Nat×Nat)→Nat→List Nd
 | [],_=>[]
 |(a,b)::l,k=>⟨k,mkT (k+1) a,mkF (k+1+a) b⟩::mkN l (k+1+a+2*b)
def endN:List (Nat×Nat)→Nat→Nat
 | [],k=>k
 |(a,b)::l,k=>endN l (k+1+a+2*b)
def mkE:List Nat→Nat→List Eg
 | [],_=>[]
 |b::l,k=>⟨k,mt (k+1),(k+2:Nat),(k+3:Nat),mkF (k+4) b⟩::mkE l (k+4+2*b)
def endE:List Nat→Nat→Nat
 | [],k=>k
 |b::l,k=>endE l (k+4+2*b)
def mkG:List (List (Nat×Nat)×List Nat)→Nat→List Gph
 | [],_=>[]
 |(a,b)::l,k=>⟨mkN a k,mkE b (endN a k)⟩::mkG l (endE b (endN a k))
def endG:List (List (Nat×Nat)×List Nat)→Nat→Nat
 | [],k=>k
 |(a,b)::l,k=>endG l (endE b (endN a k))
theorem endN_le:∀ (l:List (Nat×Nat)) (k:Nat),k≤endN l k
 | [],_=>Nat.le_refl _
 |(a,b)::l,k=>by have:=endN_le l (k+1+a+2*b);rw[endN];omega
theorem endE_le:∀ (l:List Nat) (k:Nat),k≤endE l k
 | [],_=>Nat.le_refl _
 |b::l,k=>by have:=endE_le l (k+4+2*b);rw[endE];omega
theorem endG_le:∀ (l:List (List (Nat×Nat)×List Nat)) (k:Nat),k≤endG l k
 | [],_=>Nat.le_refl _
 |(a,b)::l,k=>by have:=endG_le l (endE b (endN a k));have:=endE_le b (endN a k);have:=endN_le a k;rw[endG];omega
theorem mkT_len(k n:Nat):(mkT k n).length=n:=by simp[mkT]
theorem mkF_len(k n:Nat):(mkF k n).length=n:=by simp[mkF]
theorem mkT_at{k n i:Nat}(h:i<n):tAt (mkT k n) i=mt (k+i):=by simp[tAt,mkT,h]
theorem c_heldT(K:Env cf)(k n:Nat)(hk:k+n≤1000000000000):callP cf 60 [TX (mkT k n),I k] [] st=some (I (k+n:Nat),st):=by
 refine c_val K.tab (F:=F60) (t:=4) rfl rfl rfl (lb rfl) (by simp[plainV_tx,plainV_int]) (bare_int _ _) (n+1) ?_
 have hm:((mkT k n).map S).length=n:=by simp[mkT_len]
 have hl:=mkT_len k n
 unfold F60 qr qd qm qi qb qk ql qo
 simp (disch:=omega)only[↓pa]
 refine Wp_rounds (fun q fr st=>∃ i:Nat,q=n-i∧i≤n∧fr 0=TX (mkT k n)∧fr 1=I (k+i:Nat)∧fr 5=I i) n (by omega) ⟨0,by simp,by omega,by simp (disch:=omega)only[↓pa,↓reduceIte,reduceCtorEq],by simp (disch:=omega)only[↓pa,↓reduceIte,Nat.reduceEqDiff,Nat.add_zero],by simp (disch:=omega)only[↓pa,↓reduceIte];rfl⟩ ?_
 rintro q fr st ⟨i,rfl,hi,f0,f1,f5⟩
 simp (disch:=omega)only[↓pa,pb,natP,↓reduceIte,Nat.reduceEqDiff,reduceCtorEq,f0,f5,hl]
 refine Cnd_intro (fun h=>?_) (fun h=>?_)
 ·have hlt:i<n:=by omega
  have hp:= @partP_tx (mkT k n) i (by rw[hl];exact hlt)
  have ht:=fun st=>c_markText (st:=st) K (k+i) (by omega)
  rw[mkT_at hlt]at hp
  simp (disch:=omega)only[↓pa,↓pmw,pb,pmwk,pmwa,natP,List.getElem?_cons_zero,List.getElem?_cons_succ,↓reduceIte,Nat.reduceEqDiff,ne_eq,reduceCtorEq,f0,f1,f5,hl,h,Nat.mul_one,hp,ht]
  exact⟨n- (i+1),by omega,i+1,rfl,by omega,by congr 1,rfl⟩
 ·have:i=n:=by omega
  subst this
  simp (disch:=omega)only[↓pa,pb,↓reduceIte,Nat.reduceEqDiff,f1,h]
def dec(left size:Nat):Int:=if size≤left then((left-size:Nat):Int)else-1
def szl{α:Type}(m:α→Nat)(l:List α):Nat:=l.length+(l.map m).sum
def szTx(l:List (List UInt8)):Nat:=szl List.length l
def szFd(x:Fd):Nat:=x.1.length+x.2.length
def szFs(l:List Fd):Nat:=szl szFd l
def szNd(x:Nd):Nat:=szTx x.labels+szFs x.fields
def szEg(x:Eg):Nat:=x.type.length+szFs x.fields
def szGr(g:Gph):Nat:=szl szNd g.nodes+szl szEg g.edges
theorem sum_next{α:Type}(m:α→Nat){l:List α}{i:Nat}(h:i<l.length):((l.take (i+1)).map m).sum=((l.take i).map m).sum+m l[i]:=by
 rw[List.take_succ_eq_append_getElem h,List.map_append,List.sum_append];simp
theorem sum_take{α:Type}(m:α→Nat):∀ (l:List α) (i:Nat),((l.take i).map m).sum≤(l.map m).sum
 | [],i=>by simp
 |a::l,0=>by simp
 |a::l,i+1=>by have:=sum_take m l i;simp only[List.take_succ_cons,List.map_cons,List.sum_cons];omega
def vast:Nat:=9223372036854775807
def szBody(sz g:Nat):CC:=
 .seq (.reg [⟨none,(some 4),.mv (.k (.int .i64 0))⟩] [])
 (.seq (.reg [⟨none,(some 6),.mv (.sl 1)⟩,
  ⟨none,(some 7),.mv (.sl 0)⟩,
  ⟨none,(some 8),.len (.sl 7)⟩,
  ⟨none,(some 9),.bin .sub (.sl 6) (.sl 8)⟩,
  ⟨none,(some 1),.mv (.sl 9)⟩] [])
 (.seq (.seq (.reg [⟨none,(some 10),.mv (.sl 1)⟩,
  ⟨none,(some 11),.bin .lss (.sl 10) (.k (.int .i64 0))⟩] [])
 (.cond (.sl 11) (.seq (.reg [⟨none,(some 4),.mv (.k (.int .i64 (-1)))⟩] [])
  (.ret)) (.skip)))
 (.seq (.seq (.reg [⟨none,(some 5),.mv (.k (.int .i64 0))⟩] [])
 (.block 0 (.loop (.seq (.seq (.reg [⟨none,(some 12),.mv (.sl 5)⟩,
   ⟨none,(some 13),.mv (.sl 0)⟩,
   ⟨none,(some 14),.len (.sl 13)⟩,
   ⟨none,(some 15),.bin .lss (.sl 12) (.sl 14)⟩] [])
  (.cond (.sl 15) (.skip) (.exit 0)))
  (.seq (.block 1 (.seq (.reg [⟨none,(some 18),.mv (.sl 0)⟩,
    ⟨none,(some 19),.mv (.sl 5)⟩,
    ⟨none,(some 20),.iad sz (.sl 18) (.sl 19)⟩,
    ⟨none,(some 21),.load sz true (.sl 20)⟩,
    ⟨none,(some 22),.mv (.sl 1)⟩,
    ⟨none,(some 23),.call g [(.sl 21),(.sl 22)] []⟩,
    ⟨none,(some 1),.mv (.sl 23)⟩] [])
   (.seq (.reg [⟨none,(some 24),.mv (.sl 1)⟩,
    ⟨none,(some 25),.bin .lss (.sl 24) (.k (.int .i64 0))⟩] [])
   (.cond (.sl 25) (.seq (.reg [⟨none,(some 4),.mv (.k (.int .i64 (-1)))⟩] [])
   (.ret)) (.skip)))))
  (.reg [⟨none,(some 16),.mv (.sl 5)⟩,
   ⟨none,(some 17),.bin .add (.sl 16) (.k (.int .i64 1))⟩,
   ⟨none,(some 5),.mv (.sl 17)⟩] []))))))
 (.seq (.reg [⟨none,(some 26),.mv (.sl 1)⟩,
  ⟨none,(some 4),.mv (.sl 26)⟩] [])
 (.ret)))))
set_option maxHeartbeats 1000000 in
theorem c_szL(K:Env cf){f sz g:Nat}{F:CFn}(hT:T f=some F)(hF:F.body=szBody sz g∧F.res=[.tmp 4]∧F.own=false∧2≤F.nt){α:Type}(enc:α→List PV)(hm:∀ a,(enc a).length=sz)(hp:∀ a,plainVs (enc a))(m:α→Nat)(l:List α)(hl:l.length≤vast)(left:Nat)(hle:left≤2000000)
  (he:∀ a∈l,∀ left st,left≤2000000→callP cf g [.agg (enc a),I (left:Nat)] [] st=some (I (dec left (m a)),st)):callP cf f [.list l.length (l.flatMap enc) .no,I left] [] st=some (I (dec left (szl m l)),st):=by
 obtain⟨h1,h2,h3,h4⟩:=hF
 refine c_val K.tab (F:=F) (t:=4) hT h2 h3 (by simpa using h4) (by simp[plainV_list (flat_plain enc hp l),plainV_int]) (bare_int _ _) (l.length+1) ?_
 have hlen:=flat_len enc sz hm l
 have hb:l.length≤9223372036854775807:=hl
 rw[h1,szBody]
 simp (disch:=omega)only[↓pa,pb,↓reduceIte,Nat.reduceEqDiff,reduceCtorEq]
 refine Cnd_intro (fun h0=>?_) (fun h0=>?_)
 ·simp (disch:=omega)only[↓pa,pb,↓reduceIte,h0]
  rw[dec,if_neg (by unfold szl;omega)]
 simp (disch:=omega)only[↓pa,pb,h0]
 refine Wp_rounds (fun k fr st=>∃ i r:Nat,k=l.length-i∧i≤l.length∧fr 0= .list l.length (l.flatMap enc) .no∧fr 1=I (r:Nat)∧fr 5=I i∧r+(l.length+((l.take i).map m).sum)=left) l.length (by omega) ⟨0,left-l.length,by simp,by omega,by simp (disch:=omega)only[↓pa,↓reduceIte,reduceCtorEq],by simp (disch:=omega)only[↓pa,↓reduceIte,Nat.reduceEqDiff];congr 1;omega,by simp (disch:=omega)only[↓pa,↓reduceIte];rfl,by simp;omega⟩ ?_
 rintro k fr st ⟨i,r,rfl,hi,f0,f1,f5,hr⟩
 simp (disch:=omega)only[↓pa,pb,natP,↓reduceIte,Nat.reduceEqDiff,reduceCtorEq,f0,f5]
 have hsum:=sum_take m l (i+1)
 refine Cnd_intro (fun h=>?_) (fun h=>?_)
 ·have hlt:i<l.length:=h
  have hc:=fun st=>he _ (List.getElem_mem hlt) r st (by omega)
  have hn:=sum_next m hlt
  simp (disch:=omega)only[↓pa,pb,↓reduceIte,Nat.reduceEqDiff,reduceCtorEq,f0,f1,f5,h,partP_a hm hlt,hc]
  by_cases hd:m l[i]≤r
  ·have hdd:dec r (m l[i])=((r-m l[i]:Nat):Int):=by rw[dec,if_pos hd]
   have hneg:¬ (((r-m l[i]:Nat):Int)<0):=by omega
   simp (disch:=omega)only[↓pa,pb,natP,↓reduceIte,Nat.reduceEqDiff,reduceCtorEq,f0,f5,hdd,hneg]
   exact⟨l.length- (i+1),by omega,i+1,r-m l[i],rfl,by omega,rfl,rfl,by rw[hn];omega⟩
  ·have hdd:dec r (m l[i])= -1:=by rw[dec,if_neg hd]
   simp (disch:=omega)only[↓pa,pb,↓reduceIte,Int.reduceLT,hdd]
   rw[dec,if_neg (by unfold szl;rw[hn]at hsum;omega)]
 ·have hie:l.take i=l:=List.take_of_length_le (by omega)
  simp (disch:=omega)only[↓pa,pb,↓reduceIte,Nat.reduceEqDiff,f1,h]
  rw[hie]at hr
  rw[dec,if_pos (by unfold szl;omega)]
  congr 1;unfold szl;omega
theorem c_szT(K:Env cf)(l:List (List UInt8))(hl:l.length≤vast∧∀ x∈l,x.length≤vast)(left:Nat)(hle:left≤2000000):callP cf 116 [TX l,I left] [] st=some (I (dec left (szTx l)),st):=by
 refine c_val K.tab (F:=F116) (t:=4) rfl rfl rfl (lb rfl) (by simp[plainV_tx,plainV_int]) (bare_int _ _) (l.length+1) ?_
 have hm:(l.map S).length=l.length:=by simp
 have hb:l.length≤9223372036854775807:=hl.1
 unfold F116 qr qd qm qi qb qk ql qo
 simp (disch:=omega)only[↓pa,pb,↓reduceIte,Nat.reduceEqDiff,reduceCtorEq]
 refine Cnd_intro (fun h0=>?_) (fun h0=>?_)
 ·simp (disch:=omega)only[↓pa,pb,↓reduceIte,h0]
  rw[dec,if_neg (by unfold szTx szl;omega)]
 simp (disch:=omega)only[↓pa,pb,h0]
 refine Wp_rounds (fun k fr st=>∃ i r:Nat,k=l.length-i∧i≤l.length∧fr 0=TX l∧fr 1=I (r:Nat)∧fr 5=I i∧r+(l.length+((l.take i).map List.length).sum)=left) l.length (by omega) ⟨0,left-l.length,by simp,by omega,by simp (disch:=omega)only[↓pa,↓reduceIte,reduceCtorEq],by simp (disch:=omega)only[↓pa,↓reduceIte,Nat.reduceEqDiff];congr 1;omega,by simp (disch:=omega)only[↓pa,↓reduceIte];rfl,by simp;omega⟩ ?_
 rintro k fr st ⟨i,r,rfl,hi,f0,f1,f5,hr⟩
 simp (disch:=omega)only[↓pa,pb,natP,↓reduceIte,Nat.reduceEqDiff,reduceCtorEq,f0,f5]
 have hsum:=sum_take List.length l (i+1)
 refine Cnd_intro (fun h=>?_) (fun h=>?_)
 ·have hlt:i<l.length:=h
  have hn:=sum_next List.length hlt
  have ht:tAt l i=l[i]:=by simp[tAt,hlt]
  have hb2:l[i].length≤9223372036854775807:=hl.2 _ (List.getElem_mem hlt)
  simp (disch:=omega)only[↓pa,pb,↓reduceIte,Nat.reduceEqDiff,reduceCtorEq,f0,f1,f5,h,Nat.mul_one,partP_tx hlt,ht]
  refine Cnd_intro (fun h2=>?_) (fun h2=>?_)
  ·simp (disch:=omega)only[↓pa,pb,↓reduceIte,h2]
   rw[dec,if_neg (by unfold szTx szl;rw[hn]at hsum;omega)]
  ·simp (disch:=omega)only[↓pa,pb,natP,↓reduceIte,Nat.reduceEqDiff,reduceCtorEq,f0,f5,h2]
   exact⟨l.length- (i+1),by omega,i+1,r-l[i].length,rfl,by omega,by congr 1;omega,rfl,by rw[hn];omega⟩
 ·have hie:l.take i=l:=List.take_of_length_le (by omega)
  simp (disch:=omega)only[↓pa,pb,↓reduceIte,Nat.reduceEqDiff,f1,h]
  rw[hie]at hr
  rw[dec,if_pos (by unfold szTx szl;omega)]
  congr 1;unfold szTx szl;omega
theorem c_szFd(K:Env cf)(x:Fd)(h:x.1.length≤vast∧x.2.length≤vast)(left:Nat)(hle:left≤2000000):callP cf 165 [.agg (fc x),I left] [] st=some (I (dec left (szFd x)),st):=by
 refine c_val K.tab (F:=F165) (t:=4) rfl rfl rfl (lb rfl) (by have:=(fs_plain [x]);simp at this;simp[plainV_agg this,plainV_int]) (bare_int _ _) 1 ?_
 have h1:x.1.length≤9223372036854775807:=h.1
 have h2:x.2.length≤9223372036854775807:=h.2
 unfold F165 qr qd qm qi qb qk ql qf qo
 simp (disch:=omega)only[↓pa,pb,pmy,↓reduceIte,Nat.reduceEqDiff,Nat.reduceAdd,fc]
 refine Cnd_intro (fun h3=>?_) (fun h3=>?_)
 ·simp (disch:=omega)only[↓pa,pb,↓reduceIte,h3]
  rw[dec,if_neg (by unfold szFd;omega)]
 simp (disch:=omega)only[↓pa,pb,pmy,↓reduceIte,Nat.reduceEqDiff,Nat.reduceAdd,h3]
 refine Cnd_intro (fun h4=>?_) (fun h4=>?_)
 ·simp (disch:=omega)only[↓pa,pb,↓reduceIte,h4]
  rw[dec,if_neg (by unfold szFd;omega)]
 simp (disch:=omega)only[↓pa,pb,↓reduceIte,Nat.reduceEqDiff,h4]
 rw[dec,if_pos (by unfold szFd;omega)]
 congr 1;unfold szFd;omega
structure FitsB (g:Gph):Prop where
 ns:g.nodes.length≤vast
 es:g.edges.length≤vast
 nl:∀ x∈g.nodes,x.labels.length≤vast∧∀ t∈x.labels,t.length≤vast
 nf:∀ x∈g.nodes,x.fields.length≤vast∧∀ f∈x.fields,f.1.length≤vast∧f.2.length≤vast
 et:∀ x∈g.edges,x.type.length≤vast
 ef:∀ x∈g.edges,x.fields.length≤vast∧∀ f∈x.fields,f.1.length≤vast∧f.2.length≤vast
theorem c_szFs(K:Env cf)(l:List Fd)(h:l.length≤vast∧∀ f∈l,f.1.length≤vast∧f.2.length≤vast)(left:Nat)(hle:left≤2000000):callP cf 117 [FX l,I left] [] st=some (I (dec left (szFs l)),st):=
 c_szL K (f:=117) (F:=F117) rfl ⟨rfl,rfl,rfl,(lb rfl)⟩ fc (fun _=>rfl) (fun a=>by have:=fs_plain [a];simpa using this) szFd l h.1 left hle fun a ha left st hl=>c_szFd K a (h.2 a ha) left hl
theorem c_szNd(K:Env cf)(x:Nd)(h1:x.labels.length≤vast∧∀ t∈x.labels,t.length≤vast)(h2:x.fields.length≤vast∧∀ f∈x.fields,f.1.length≤vast∧f.2.length≤vast)(left:Nat)(hle:left≤2000000):callP cf 79 [.agg (nc x),I left] [] st=some (I (dec left (szNd x)),st):=by
 refine c_val K.tab (F:=F79) (t:=4) rfl rfl rfl (lb rfl) (by simp[plainV_nd,plainV_int]) (bare_int _ _) 1 ?_
 have ht:=fun st=>c_szT (st:=st) K x.labels h1 left hle
 have hf:=fun(left:Nat) (hl:left≤2000000) st=>c_szFs (st:=st) K x.fields h2 left hl
 unfold F79 qr qd qm qi qk ql qf qo
 simp (disch:=omega)only[↓pa,pb,pmy,↓reduceIte,Nat.reduceEqDiff,Nat.reduceAdd,nc,ht]
 by_cases hd:szTx x.labels≤left
 ·have hdd:dec left (szTx x.labels)=((left-szTx x.labels:Nat):Int):=by rw[dec,if_pos hd]
  have hneg:¬ (((left-szTx x.labels:Nat):Int)<0):=by omega
  have hf2:=hf (left-szTx x.labels) (by omega)
  simp (disch:=omega)only[↓pa,pb,pmy,↓reduceIte,Nat.reduceEqDiff,Nat.reduceAdd,hdd,hneg,hf2]
  by_cases hd2:szFs x.fields≤left-szTx x.labels
  ·have hdd2:dec (left-szTx x.labels) (szFs x.fields)=((left-szTx x.labels-szFs x.fields:Nat):Int):=by rw[dec,if_pos hd2]
   have hneg2:¬ (((left-szTx x.labels-szFs x.fields:Nat):Int)<0):=by omega
   simp (disch:=omega)only[↓pa,pb,↓reduceIte,Nat.reduceEqDiff,hdd2,hneg2]
   rw[dec,if_pos (by unfold szNd;omega)]
   congr 1;unfold szNd;omega
  ·have hdd2:dec (left-szTx x.labels) (szFs x.fields)= -1:=by rw[dec,if_neg hd2]
   simp (disch:=omega)only[↓pa,pb,↓reduceIte,Int.reduceLT,hdd2]
   rw[dec,if_neg (by unfold szNd;omega)]
 ·have hdd:dec left (szTx x.labels)= -1:=by rw[dec,if_neg hd]
  simp (disch:=omega)only[↓pa,pb,↓reduceIte,Int.reduceLT,hdd]
  rw[dec,if_neg (by unfold szNd;omega)]
theorem c_szEg(K:Env cf)(x:Eg)(h1:x.type.length≤vast)(h2:x.fields.length≤vast∧∀ f∈x.fields,f.1.length≤vast∧f.2.length≤vast)(left:Nat)(hle:left≤2000000):callP cf 80 [.agg (ec x),I left] [] st=some (I (dec left (szEg x)),st):=by
 refine c_val K.tab (F:=F80) (t:=4) rfl rfl rfl (lb rfl) (by simp[plainV_eg,plainV_int]) (bare_int _ _) 1 ?_
 have hb:x.type.length≤9223372036854775807:=h1
 have hf:=fun(left:Nat) (hl:left≤2000000) st=>c_szFs (st:=st) K x.fields h2 left hl
 unfold F80 qr qd qm qi qb qk ql qf qo
 simp (disch:=omega)only[↓pa,pb,pmy,↓reduceIte,Nat.reduceEqDiff,Nat.reduceAdd,ec]
 refine Cnd_intro (fun h0=>?_) (fun h0=>?_)
 ·simp (disch:=omega)only[↓pa,pb,↓reduceIte,h0]
  rw[dec,if_neg (by unfold szEg;omega)]
 have e0:(left:Int) - (x.type.length:Int)=((left-x.type.length:Nat):Int):=by omega
 have hf2:=hf (left-x.type.length) (by omega)
 simp (disch:=omega)only[↓pa,pb,pmy,↓reduceIte,Nat.reduceEqDiff,Nat.reduceAdd,e0,hf2]
 by_cases hd2:szFs x.fields≤left-x.type.length
 ·have hdd2:dec (left-x.type.length) (szFs x.fields)=((left-x.type.length-szFs x.fields:Nat):Int):=by rw[dec,if_pos hd2]
  have hneg2:¬ (((left-x.type.length-szFs x.fields:Nat):Int)<0):=by omega
  simp (disch:=omega)only[↓pa,pb,↓reduceIte,Nat.reduceEqDiff,hdd2,hneg2]
  rw[dec,if_pos (by unfold szEg;omega)]
  congr 1;unfold szEg;omega
 ·have hdd2:dec (left-x.type.length) (szFs x.fields)= -1:=by rw[dec,if_neg hd2]
  simp (disch:=omega)only[↓pa,pb,↓reduceIte,Int.reduceLT,hdd2]
  rw[dec,if_neg (by unfold szEg;omega)]
theorem c_szGr(K:Env cf)(g:Gph)(h:FitsB g)(left:Nat)(hle:left≤2000000):callP cf 8 [.agg (gc g),I left] [] st=some (I (dec left (szGr g)),st):=by
 refine c_val K.tab (F:=F8) (t:=4) rfl rfl rfl (lb rfl) (by simp[plainV_gr,plainV_int]) (bare_int _ _) 1 ?_
 have ht:=fun st=>c_szL (st:=st) K (f:=38) (F:=F38) rfl ⟨rfl,rfl,rfl,(lb rfl)⟩ nc nc_len nc_plain szNd g.nodes h.ns left hle fun a ha left st hl=>c_szNd K a (h.nl a ha) (h.nf a ha) left hl
 have hf:=fun(left:Nat) (hl:left≤2000000) st=>c_szL (st:=st) K (f:=39) (F:=F39) rfl ⟨rfl,rfl,rfl,(lb rfl)⟩ ec ec_len ec_plain szEg g.edges h.es left hl fun a ha left st hl=>c_szEg K a (h.et a ha) (h.ef a ha) left hl
 unfold F8 qr qd qm qi qk ql qf qo
 simp (disch:=omega)only[↓pa,pb,pmy,↓reduceIte,Nat.reduceEqDiff,Nat.reduceAdd,gc,ht]
 by_cases hd:szl szNd g.nodes≤left
 ·have hdd:dec left (szl szNd g.nodes)=((left-szl szNd g.nodes:Nat):Int):=by rw[dec,if_pos hd]
  have hneg:¬ (((left-szl szNd g.nodes:Nat):Int)<0):=by omega
  have hf2:=hf (left-szl szNd g.nodes) (by omega)
  simp (disch:=omega)only[↓pa,pb,pmy,↓reduceIte,Nat.reduceEqDiff,Nat.reduceAdd,hdd,hneg,hf2]
  by_cases hd2:szl szEg g.edges≤left-szl szNd g.nodes
  ·have hdd2:dec (left-szl szNd g.nodes) (szl szEg g.edges)=((left-szl szNd g.nodes-szl szEg g.edges:Nat):Int):=by rw[dec,if_pos hd2]
   have hneg2:¬ (((left-szl szNd g.nodes-szl szEg g.edges:Nat):Int)<0):=by omega
   simp (disch:=omega)only[↓pa,pb,↓reduceIte,Nat.reduceEqDiff,hdd2,hneg2]
   rw[dec,if_pos (by unfold szGr;omega)]
   congr 1;unfold szGr;omega
  ·have hdd2:dec (left-szl szNd g.nodes) (szl szEg g.edges)= -1:=by rw[dec,if_neg hd2]
   simp (disch:=omega)only[↓pa,pb,↓reduceIte,Int.reduceLT,hdd2]
   rw[dec,if_neg (by unfold szGr;omega)]
 ·have hdd:dec left (szl szNd g.nodes)= -1:=by rw[dec,if_neg hd]
  simp (disch:=omega)only[↓pa,pb,↓reduceIte,Int.reduceLT,hdd]
  rw[dec,if_neg (by unfold szGr;omega)]
theorem szl_len{α:Type}{m:α→Nat}{l:List α}:l.length≤szl m l:=by unfold szl;omega
theorem szl_mem{α:Type}{m:α→Nat}{l:List α}{a:α}(h:a∈l):m a≤szl m l:=by
 unfold szl
 have:m a≤(l.map m).sum:=by
  induction l with
  |nil=>simp at h
  |cons x l ih=>
   rw[List.map_cons,List.sum_cons]
   rcases List.mem_cons.1 h with rfl|h
   ·omega
   ·have:=ih h;omega
 omega
theorem fits_of{g:Gph}(h:szGr g≤1048576):Fits g:=by
 have h1:szl szNd g.nodes≤1048576:=by unfold szGr at h;omega
 have h2:szl szEg g.edges≤1048576:=by unfold szGr at h;omega
 refine⟨by have:= @szl_len _ szNd g.nodes;omega,by have:= @szl_len _ szEg g.edges;omega,fun x hx=>?_,fun x hx=>?_⟩
 ·have h3:szNd x≤1048576:=Nat.le_trans (szl_mem (m:=szNd) hx) h1
  unfold szNd szTx szFs at h3
  have h4:= @szl_len _ List.length x.labels
  have h5:= @szl_len _ szFd x.fields
  exact⟨by omega,by omega⟩
 ·have h3:szEg x≤1048576:=Nat.le_trans (szl_mem (m:=szEg) hx) h2
  unfold szEg szFs at h3
  have h5:= @szl_len _ szFd x.fields
  omega
end Go.PM
