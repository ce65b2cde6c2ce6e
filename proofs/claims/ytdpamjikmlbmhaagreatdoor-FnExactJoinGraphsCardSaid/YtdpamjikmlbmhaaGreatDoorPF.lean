/- A part of the proof: texts PgT, PgU, PgV, PgW, PgX, PgY, PgZ, PhA, PhB, PhC, PhD, PhE, PhF, PhG, PhH, PhI, PhJ, PhK, PhL, PhM, PhN, PhO, PhP, PhQ, PhR, PhS, PhT, joined. Conditions: none. -/
import Derived.Test.YtdpamjikmlbmhaaGreatDoorPE
set_option linter.all false
open Nat (reduceEqDiff reduceAdd reduceLeDiff reduceLT reduceMul reduceSub)
namespace Go.PM
open Go.Lib
variable {cf:au} {st:St} {mk:PV→St→Fr×St} {A:Fr×St→Prop} {s:Nat}
theorem rv:(∀ {s:Nat},ch [.ptr s 0]=some [s])∧(∀ {s:Nat} {k:IntKind} {n:Int},ch [.ptr s 0,.int k n]=some [s])∧(∀ {s:Nat} {x:ByteArray},ch [.ptr s 0,.str x]=some [s]):=by
 refine⟨?_,?_,?_⟩<;>intros<;>rfl
theorem dW:dY eu:=⟨_,rfl,rfl,by simp only[av,am],by simp only[av]⟩
theorem Fp{acc:List V}{v:V}:PV.agg [I 10,I 0,I 0,S [],.list (acc.length+1) (V.cbs (acc++[v])) .no,.list 0 [] .no]=VB (.mk 10 0 0 [] [] (acc++[v])):=by
 rw[VB,V.cb,cj];rfl
theorem FL{acc:List V}{v:V}:PV.agg [I 6,I 0,I 0,S [],.list (acc.length+1) (V.cbs (acc++[v])) .no,.list 0 [] .no]=VB (.mk 6 0 0 [] [] (acc++[v])):=by
 rw[VB,V.cb,cj];rfl
theorem yB(K:bH cf){t:List UInt8}{i:Nat}{k:Int}(hs:st.objs s=some [S t,I i,.bool false])(hi:i≤t.length)(hl:t.length≤2000000)
  (k1:∀ v j fl,dP t k i=some (v,j)→j≤t.length→A (mk (VB v) (cQ (bU st s [S t,I (j:Nat),.bool false]) fl)))
  (k2:∀ cs j fl,dP t k i=none→cs.length=6→aG cs=true→aB cs=cs→j≤t.length→A (mk (.agg cs) (cQ (bU st s [S t,I (j:Nat),.bool true]) fl))):cT (ar cf 214 [.ptr s 0,I k] [] st) mk A:=by
 refine gI (wj K hs hi hl) k1 ?_
 rintro p j fl h1 ⟨cs,rfl,h2,h3,h4⟩ h5
 exact k2 cs j fl h1 h2 h3 h4 h5
set_option maxHeartbeats 4000000 in
theorem Kc(K:bH cf){t:List UInt8}{i:Nat}(hs:st.objs s=some [S t,I i,.bool false])(hi:i≤t.length)(hl:t.length≤2000000):
  ∃ r c',mP t VB (oy t i) dY r c'∧∃ fl,ar cf 215 [.ptr s 0] [] st=some (r,cQ (bU st s c') fl):=by
 refine fx K.tab (F:=F215) rfl rfl rfl (lb rfl) (lb rfl) (by simp) hs (fi t i _) (t.length+1) ?_
 unfold F215 qr qd qm qi qc qk ql qf qt qu qy qn qs qo qN
 simp only[↓pa,↓bM,pb,aj,↓reduceIte,reduceEqDiff,reduceAdd,reduceLeDiff]
 refine aX (fun k fr st=>∃ (j n:Nat) (node:Bool) (acc:List V) (tok:ay),k=t.length-j∧j≤t.length∧acc.length≤j∧t.length-j<n∧(acc.length:Int).tmod 2=(if node then 0 else 1)∧fr 0= .ptr 0 0∧fr 2= .ptr 2 0∧fr 3= .ptr 3 0∧st.objs 0=some [S t,I j,.bool false]∧st.objs 2=some [I 0,I 0,I 0,S [],.list 0 [] .nil,.list 0 [] .nil]∧
  st.objs 3=some [I 10,I 0,I 0,S [],.list acc.length (V.cbs acc) tok,.list 0 [] .nil]∧Gr 199 st.nx st.cnt acc.length tok∧kV t n node j acc=oy t i) (t.length-i) (by omega)
  ⟨i,t.length+1-i,true,[],.nil,rfl,by omega,aY _,by omega,rfl,by simp only[↓pa,pb,↓reduceIte,reduceCtorEq],by simp only[↓pa,pb,↓reduceIte,reduceEqDiff],by simp only[↓pa,↓reduceIte],by simp only[pb,↓reduceIte,reduceCtorEq],by simp only[pb,↓reduceIte,reduceEqDiff],by simp only[pb,↓reduceIte];rfl,rfl,rfl⟩ ?_
 rintro k fr st ⟨j,n,node,acc,tok,rfl,hj,hacc,hn,hpar,f0,f2,f3,o0,o2,o3,hG,hQ⟩
 have hrem:=kN (k:= .i64) (a:=(acc.length:Int)) (show(2:Int)≠0 by decide)
 rw[CE (by omega)]at hQ
 cases node
 ·have hpar:(acc.length:Int).tmod 2=1:=hpar
  have hpar':((acc++[V.mk 0 0 0 [] [] []]).length:Int).tmod 2=0:=by
   rw[cj]
   have e:((acc.length:Nat):Int).tmod 2=((acc.length % 2:Nat):Int):=rfl
   have e2:((acc.length+1:Nat):Int).tmod 2=(((acc.length+1) % 2:Nat):Int):=rfl
   rw[e]at hpar
   rw[e2]
   omega
  rw[cj]at hpar'
  simp only[cA,if_false,false_and]at hQ
  simp only[↓pa,pb,aj,↓reduceIte,reduceEqDiff,reduceAdd,reduceCtorEq,f0,f3,o0,o3,hrem,hpar]
  refine(dU K (t:=t) (i:=j) 101 rfl (by decide) (by simp only[o0]) hj hl).2 ?_
  refine ab (fun hw=>?_) (fun hw=>?_)
  rotate_left
  ·rw[ad hw]at hQ
   simp only[↓pa,pb,↓reduceIte,reduceCtorEq,f0]
   refine dA K (t:=t) (i:=j) (b:=false) (by simp only[o0]) fun fl=>?_
   simp only[↓pa,pb,aj,av,↓reduceIte,reduceEqDiff,reduceAdd,reduceLeDiff,reduceCtorEq,f2,o2,eu]
   exact aN (dm:=dY) hQ.symm dW rfl hj
  rw[ai hw]at hQ
  have hjl:=cO (show cI t j≠0 by rw[hw];decide)
  simp only[↓pa,↓dV,pb,aj,cS,↓reduceIte,reduceEqDiff,reduceAdd,reduceCtorEq,f0,f3,o3]
  refine yB K (t:=t) (i:=j+1) (by simp only[pb,↓reduceIte]) hjl hl (fun v j1 fl hv hj1=>?_) (fun cs j1 fl hv hcs hcn hct hj1=>?_)
  rotate_left
  ·rw[hv]at hQ
   simp (disch:=omega)only[↓pa,↓bM,↓dV,pb,aj,cS,↓reduceIte,reduceEqDiff,reduceAdd,reduceLeDiff,reduceLT,hcs,dJ,rv]
   refine cu (n:=acc.length) (m:=1) hG (by rw[V.cbs_len]) (by rw[hcs]) (by omega) (by omega) (by decide) ?_
   simp only[↓pa,↓dV,pb,aj,cS,fS,ah,af,↓reduceIte,reduceEqDiff,reduceAdd,reduceLeDiff,Int.reduceEq,reduceCtorEq,f0,f3,o3]
   refine(kr K.tab (t:=t) (i:=j1) (by simp only[pb,aj,↓reduceIte,reduceCtorEq]) hj1 hl).2 ?_
   simp only[↓pa,pb,↓reduceIte,reduceCtorEq,f0]
   refine dA K (t:=t) (i:=j1) (b:=true) (by simp only[pb,aj,↓reduceIte,reduceCtorEq]) fun fl=>?_
   simp only[↓pa,pb,aj,av,↓reduceIte,reduceEqDiff,reduceAdd,reduceLeDiff,reduceCtorEq,f2,o2,eu]
   exact aN (dm:=dY) hQ.symm dW rfl hj1
  have hm:=mg hv
  have hvl:=v.cb_len
  rw[hv]at hQ
  simp only at hQ
  simp (disch:=omega)only[↓pa,↓bM,↓dV,pb,aj,cS,↓reduceIte,reduceEqDiff,reduceAdd,reduceLeDiff,reduceLT,hvl,dJ,rv]
  refine cu (n:=acc.length) (m:=1) hG (by rw[V.cbs_len]) (by rw[hvl]) (by omega) (by omega) (by decide) ?_
  rw[V.cbs_snoc]
  simp only[↓pa,↓dV,pb,aj,cS,fS,ah,af,↓reduceIte,reduceEqDiff,reduceAdd,reduceLeDiff,Int.reduceEq,reduceCtorEq,f0,f3,o3]
  refine(dU K (t:=t) (i:=j1) 32 rfl (by decide) (by simp only[pb,aj,↓reduceIte,reduceCtorEq]) hj1 hl).2 ?_
  refine ab (fun h32=>?_) (fun h32=>?_)
  ·rw[ai h32]at hQ
   have hjl2:=cO (show cI t j1≠0 by rw[h32];decide)
   simp only[↓pa,pb,aj,↓reduceIte,reduceEqDiff,reduceCtorEq,f0,f2,f3,o2]
   exact⟨t.length- (j1+1),by omega,j1+1,n-1,true,acc++[v],_,rfl,by omega,by rw[cj];omega,by omega,by rw[cj];exact hpar',rfl,by rw[cj],by rw[cj];exact fa hG,hQ⟩
  ·rw[ad h32]at hQ
   simp only[↓pa,pb,↓reduceIte,reduceCtorEq,f0]
   refine dA K (t:=t) (i:=j1) (b:=false) (by simp only[pb,aj,↓reduceIte,reduceCtorEq]) fun fl=>?_
   simp only[↓pa,pb,aj,av,↓reduceIte,reduceEqDiff,reduceAdd,reduceLeDiff,reduceCtorEq,f2,o2,eu]
   exact aN (dm:=dY) hQ.symm dW rfl hj1
 ·have hpar:(acc.length:Int).tmod 2=0:=hpar
  have hpar':((acc.length+1:Nat):Int).tmod 2=1:=by
   have e:((acc.length:Nat):Int).tmod 2=((acc.length % 2:Nat):Int):=rfl
   have e2:((acc.length+1:Nat):Int).tmod 2=(((acc.length+1) % 2:Nat):Int):=rfl
   rw[e]at hpar
   rw[e2]
   omega
  simp only[if_true,true_and]at hQ
  simp only[↓pa,pb,aj,↓reduceIte,reduceEqDiff,reduceAdd,Int.reduceEq,reduceCtorEq,f0,f3,o0,o3,hrem,hpar]
  refine(dU K (t:=t) (i:=j) 110 rfl (by decide) (by simp only[o0]) hj hl).2 ?_
  refine ab (fun hw=>?_) (fun hw=>?_)
  rotate_left
  ·rw[ad hw]at hQ
   simp only[↓pa,pb,↓reduceIte,reduceCtorEq,f0]
   refine dA K (t:=t) (i:=j) (b:=false) (by simp only[o0]) fun fl=>?_
   simp only[↓pa,pb,aj,av,↓reduceIte,reduceEqDiff,reduceAdd,reduceLeDiff,reduceCtorEq,f2,o2,eu]
   exact aN (dm:=dY) hQ.symm dW rfl hj
  rw[ai hw]at hQ
  have hjl:=cO (show cI t j≠0 by rw[hw];decide)
  simp only[↓pa,↓dV,pb,aj,cS,↓reduceIte,reduceEqDiff,reduceAdd,reduceCtorEq,f0,f3,o3]
  refine yB K (t:=t) (i:=j+1) (by simp only[pb,↓reduceIte]) hjl hl (fun v j1 fl hv hj1=>?_) (fun cs j1 fl hv hcs hcn hct hj1=>?_)
  rotate_left
  ·rw[hv]at hQ
   simp (disch:=omega)only[↓pa,↓bM,↓dV,pb,aj,cS,↓reduceIte,reduceEqDiff,reduceAdd,reduceLeDiff,reduceLT,hcs,dJ,rv]
   refine cu (n:=acc.length) (m:=1) hG (by rw[V.cbs_len]) (by rw[hcs]) (by omega) (by omega) (by decide) ?_
   simp only[↓pa,↓dV,pb,aj,cS,fS,ah,af,↓reduceIte,reduceEqDiff,reduceAdd,reduceLeDiff,reduceCtorEq,f0,f3,o3]
   refine(kr K.tab (t:=t) (i:=j1) (by simp only[pb,aj,↓reduceIte,reduceCtorEq]) hj1 hl).2 ?_
   simp only[↓pa,pb,↓reduceIte,reduceEqDiff,reduceCtorEq,f0]
   refine(kr K.tab (t:=t) (i:=j1) (by simp only[pb,aj,↓reduceIte,reduceCtorEq]) hj1 hl).2 ?_
   simp only[↓pa,pb,↓reduceIte,reduceCtorEq,f0]
   refine dA K (t:=t) (i:=j1) (b:=true) (by simp only[pb,aj,↓reduceIte,reduceCtorEq]) fun fl=>?_
   simp only[↓pa,pb,aj,av,↓reduceIte,reduceEqDiff,reduceAdd,reduceLeDiff,reduceCtorEq,f2,o2,eu]
   exact aN (dm:=dY) hQ.symm dW rfl hj1
  have hm:=mg hv
  have hvl:=v.cb_len
  rw[hv]at hQ
  simp only at hQ
  simp (disch:=omega)only[↓pa,↓bM,↓dV,pb,aj,cS,↓reduceIte,reduceEqDiff,reduceAdd,reduceLeDiff,reduceLT,hvl,dJ,rv]
  refine cu (n:=acc.length) (m:=1) hG (by rw[V.cbs_len]) (by rw[hvl]) (by omega) (by omega) (by decide) ?_
  rw[V.cbs_snoc]
  simp only[↓pa,↓dV,pb,aj,cS,fS,ah,af,↓reduceIte,reduceEqDiff,reduceAdd,reduceLeDiff,reduceCtorEq,f0,f3,o3]
  refine(dU K (t:=t) (i:=j1) 62 rfl (by decide) (by simp only[pb,aj,↓reduceIte,reduceCtorEq]) hj1 hl).2 ?_
  refine ab (fun h62=>?_) (fun h62=>?_)
  ·rw[ai h62]at hQ
   have hjl2:=cO (show cI t j1≠0 by rw[h62];decide)
   simp only[↓pa,pb,aj,av,eh,↓reduceIte,reduceEqDiff,reduceAdd,reduceLeDiff,reduceCtorEq,f2,f3,o2]
   rw[Fp]
   exact dz hQ.symm rfl rfl hjl2
  rw[ad h62]at hQ
  simp only[↓pa,pb,↓reduceIte,reduceEqDiff,reduceCtorEq,f0]
  refine(dU K (t:=t) (i:=j1) 32 rfl (by decide) (by simp only[pb,aj,↓reduceIte,reduceCtorEq]) hj1 hl).2 ?_
  refine ab (fun h32=>?_) (fun h32=>?_)
  ·rw[ai h32]at hQ
   have hjl2:=cO (show cI t j1≠0 by rw[h32];decide)
   simp only[↓pa,pb,aj,↓reduceIte,reduceEqDiff,reduceCtorEq,f0,f2,f3,o2]
   exact⟨t.length- (j1+1),by omega,j1+1,n-1,false,acc++[v],_,rfl,by omega,by rw[cj];omega,by omega,by rw[cj];exact hpar',rfl,by rw[cj],by rw[cj];exact fa hG,hQ⟩
  ·rw[ad h32]at hQ
   simp only[↓pa,pb,↓reduceIte,reduceCtorEq,f0]
   refine dA K (t:=t) (i:=j1) (b:=false) (by simp only[pb,aj,↓reduceIte,reduceCtorEq]) fun fl=>?_
   simp only[↓pa,pb,aj,av,↓reduceIte,reduceEqDiff,reduceAdd,reduceLeDiff,reduceCtorEq,f2,o2,eu]
   exact aN (dm:=dY) hQ.symm dW rfl hj1
def uq(cf:au)(t:List UInt8)(b:Nat):Prop:=∀ (st:St) (s i:Nat),st.objs s=some [S t,I i,.bool false]→i≤t.length→
 ∃ r c',mP t VB (dO t b i) dY r c'∧∃ fl,ar cf 200 [.ptr s 0,I (5- (b:Int))] [] st=some (r,cQ (bU st s c') fl)
set_option maxHeartbeats 4000000 in
theorem Kf(K:bH cf){t:List UInt8}{i b:Nat}(hs:st.objs s=some [S t,I i,.bool false])(hi:i≤t.length)(hl:t.length≤2000000)(hb:b<5)(ih:uq cf t b):
  ∃ r c',mP t VB (jS t (dO t b) i) dY r c'∧∃ fl,ar cf 216 [.ptr s 0,I (5- ((b+1:Nat):Int))] [] st=some (r,cQ (bU st s c') fl):=by
 refine fx K.tab (F:=F216) rfl rfl rfl (lb rfl) (lb rfl) (by simp[aQ]) hs (fi t i _) (t.length+1) ?_
 unfold F216 qr qd qm qk ql qf qt qu qs qo qN
 have hdd:5- ((b+1:Nat):Int)+1=5- (b:Int):=by omega
 have hd0:0≤5- ((b+1:Nat):Int)∧5- ((b+1:Nat):Int)≤5:=by omega
 revert hdd hd0
 generalize hdp:5- ((b+1:Nat):Int)=dp
 intro hdd hd0
 simp only[↓pa,↓bM,pb,aj,↓reduceIte,reduceEqDiff,reduceAdd,reduceLeDiff,reduceCtorEq]
 refine(dU K (t:=t) (i:=i) 93 rfl (by decide) (by simp only[pb,↓reduceIte,reduceCtorEq]) hi hl).2 ?_
 refine ab (fun h93=>?_) (fun h93=>?_)
 ·have hlt2:=cO (show cI t i≠0 by rw[h93];decide)
  simp only[↓pa,pb,aj,av,↓reduceIte,reduceEqDiff,reduceAdd,reduceLeDiff,reduceCtorEq]
  exact dz (by rw[jS,ai h93]) (by rfl) rfl hlt2
 have hP:jS t (dO t b) i=kf t (dO t b) (t.length+1-i) i []:=by rw[jS,ad h93]
 simp only[↓pa,pb,↓reduceIte]
 refine aX (fun k fr st=>∃ (j n:Nat) (acc:List V) (tok:ay),k=t.length-j∧j≤t.length∧acc.length≤j∧t.length-j<n∧fr 0= .ptr 0 0∧fr 1=I dp∧fr 4= .ptr 4 0∧fr 5= .ptr 5 0∧st.objs 0=some [S t,I j,.bool false]∧st.objs 4=some [I 0,I 0,I 0,S [],.list 0 [] .nil,.list 0 [] .nil]∧
  st.objs 5=some [I 6,I 0,I 0,S [],.list acc.length (V.cbs acc) tok,.list 0 [] .nil]∧Gr 199 st.nx st.cnt acc.length tok∧kf t (dO t b) n j acc=jS t (dO t b) i) (t.length-i) (by omega)
  ⟨i,t.length+1-i,[],.nil,rfl,by omega,aY _,by omega,by simp only[↓pa,pb,↓reduceIte,reduceCtorEq],by simp only[↓pa,pb,↓reduceIte,reduceEqDiff],by simp only[↓pa,pb,↓reduceIte,reduceEqDiff],by simp only[↓pa,↓reduceIte,reduceEqDiff],by simp only[pb,↓reduceIte,reduceCtorEq],by simp only[pb,↓reduceIte,reduceEqDiff],by simp only[pb,↓reduceIte];rfl,rfl,hP.symm⟩ ?_
 rintro k fr st ⟨j,n,acc,tok,rfl,hj,hacc,hn,f0,f1,f4,f5,o0,o4,o5,hG,hQ⟩
 rw[CN (by omega)]at hQ
 simp (disch:=omega)only[↓pa,↓dV,pb,aj,cS,↓reduceIte,reduceEqDiff,reduceAdd,reduceCtorEq,f0,f1,f5,o0,o5,hdd]
 refine gI (ih _ 0 j (by simp only[o0]) hj) (fun v j1 fl hv hj1=>?_) (fun p j1 fl hv hp hj1=>?_)
 rotate_left
 ·obtain⟨cs,rfl,hcs,hcn,hct⟩:=hp
  rw[hv]at hQ
  simp (disch:=omega)only[↓pa,↓bM,↓dV,pb,aj,cS,↓reduceIte,reduceEqDiff,reduceAdd,reduceLeDiff,reduceLT,hcs,dJ,rv]
  refine cu (n:=acc.length) (m:=1) hG (by rw[V.cbs_len]) (by rw[hcs]) (by omega) (by omega) (by decide) ?_
  simp only[↓pa,↓dV,pb,aj,cS,fS,ah,af,↓reduceIte,reduceEqDiff,reduceAdd,reduceLeDiff,reduceCtorEq,f0,f5,o5]
  refine(kr K.tab (t:=t) (i:=j1) (by simp only[pb,aj,↓reduceIte,reduceCtorEq]) hj1 hl).2 ?_
  simp only[↓pa,pb,↓reduceIte,reduceCtorEq,f0]
  refine(kr K.tab (t:=t) (i:=j1) (by simp only[pb,aj,↓reduceIte,reduceCtorEq]) hj1 hl).2 ?_
  simp only[↓pa,pb,↓reduceIte,reduceCtorEq,f0]
  refine dA K (t:=t) (i:=j1) (b:=true) (by simp only[pb,aj,↓reduceIte,reduceCtorEq]) fun fl=>?_
  simp only[↓pa,pb,aj,av,↓reduceIte,reduceEqDiff,reduceAdd,reduceLeDiff,reduceCtorEq,f4,o4,eu]
  exact aN (dm:=dY) hQ.symm dW rfl hj1
 have hm:=m0 _ _ _ _ hv
 have hvl:=v.cb_len
 rw[hv]at hQ
 simp only at hQ
 simp (disch:=omega)only[↓pa,↓bM,↓dV,pb,aj,cS,↓reduceIte,reduceEqDiff,reduceAdd,reduceLeDiff,reduceLT,hvl,dJ,rv]
 refine cu (n:=acc.length) (m:=1) hG (by rw[V.cbs_len]) (by rw[hvl]) (by omega) (by omega) (by decide) ?_
 rw[V.cbs_snoc]
 simp only[↓pa,↓dV,pb,aj,cS,fS,ah,af,↓reduceIte,reduceEqDiff,reduceAdd,reduceLeDiff,reduceCtorEq,f0,f5,o5]
 refine(dU K (t:=t) (i:=j1) 93 rfl (by decide) (by simp only[pb,aj,↓reduceIte,reduceCtorEq]) hj1 hl).2 ?_
 refine ab (fun h1=>?_) (fun h1=>?_)
 ·rw[ai h1]at hQ
  have hjl:=cO (show cI t j1≠0 by rw[h1];decide)
  simp only[↓pa,pb,aj,av,eh,↓reduceIte,reduceEqDiff,reduceAdd,reduceLeDiff,reduceCtorEq,f4,f5,o4]
  rw[FL]
  exact dz hQ.symm rfl rfl hjl
 rw[ad h1]at hQ
 simp only[↓pa,pb,↓reduceIte,reduceCtorEq,f0]
 refine(dU K (t:=t) (i:=j1) 44 rfl (by decide) (by simp only[pb,aj,↓reduceIte,reduceCtorEq]) hj1 hl).2 ?_
 refine ab (fun h2=>?_) (fun h2=>?_)
 ·rw[ai h2]at hQ
  have hjl:=cO (show cI t j1≠0 by rw[h2];decide)
  simp only[↓pa,pb,aj,↓reduceIte,reduceEqDiff,reduceCtorEq,f0,f1,f4,f5,o4]
  exact⟨t.length- (j1+1),by omega,j1+1,n-1,acc++[v],_,rfl,by omega,by rw[cj];omega,by omega,rfl,by rw[cj],by rw[cj];exact fa hG,hQ⟩
 ·rw[ad h2]at hQ
  simp only[↓pa,pb,↓reduceIte,reduceCtorEq,f0]
  refine dA K (t:=t) (i:=j1) (b:=false) (by simp only[pb,aj,↓reduceIte,reduceCtorEq]) fun fl=>?_
  simp only[↓pa,pb,aj,av,↓reduceIte,reduceEqDiff,reduceAdd,reduceLeDiff,reduceCtorEq,f4,o4,eu]
  exact aN (dm:=dY) hQ.symm dW rfl hj1
theorem Ce{f n:Nat}{cs:List PV}{t:ay}(h:b8 cs)(hf:mn f=false:=by rfl):ar cf f [.list n cs t] [] st=ar cf f [.list n cs .no] [] st:=by
 have h1:[PV.list n cs t].all bI=true:=by
  have:aG cs=true:=h.1
  simp only[dc,du,bI,av,this,am]
 have h2:[PV.list n cs .no].all bI=true:=by
  have:aG cs=true:=h.1
  simp only[dc,du,bI,av,this,am]
 simp only[ar,dX h1,dX h2,cE,ia 0 0 h1,ia 0 0 h2,aF,bK,ep,lj,hf,List.isEmpty_nil,Bool.not_true,fP,Bool.or_false]
theorem HK{ns:List (List UInt8)}{x:List UInt8}{acc:List V}{v:V}:PV.agg [I 7,I 0,I 0,S [],.list (acc.length+1) (V.cbs (acc++[v])) .no,.list (ns.length+1) ((ns++[x]).map S) .no]=VB (.mk 7 0 0 [] (ns++[x]) (acc++[v])):=by
 rw[VB,V.cb,cj,ju]
set_option maxHeartbeats 4000000 in
theorem Ls(K:bH cf){t:List UInt8}{i b:Nat}(hs:st.objs s=some [S t,I i,.bool false])(hi:i≤t.length)(hl:t.length≤2000000)(hb:b<5)(ih:uq cf t b):
  ∃ r c',mP t VB (ix t (dO t b) i) dY r c'∧∃ fl,ar cf 217 [.ptr s 0,I (5- ((b+1:Nat):Int))] [] st=some (r,cQ (bU st s c') fl):=by
 refine fx K.tab (F:=F217) rfl rfl rfl (lb rfl) (lb rfl) (by simp[aQ]) hs (fi t i _) (t.length+1) ?_
 unfold F217 qr qd qm qk ql qf qt qu qs qo qN
 have hdd:5- ((b+1:Nat):Int)+1=5- (b:Int):=by omega
 have hd0:0≤5- ((b+1:Nat):Int)∧5- ((b+1:Nat):Int)≤5:=by omega
 revert hdd hd0
 generalize hdp:5- ((b+1:Nat):Int)=dp
 intro hdd hd0
 simp only[↓pa,↓bM,pb,aj,↓reduceIte,reduceEqDiff,reduceAdd,reduceLeDiff,reduceCtorEq]
 refine(dU K (t:=t) (i:=i) 125 rfl (by decide) (by simp only[pb,↓reduceIte,reduceCtorEq]) hi hl).2 ?_
 refine ab (fun h125=>?_) (fun h125=>?_)
 ·have hlt2:=cO (show cI t i≠0 by rw[h125];decide)
  simp only[↓pa,pb,aj,av,↓reduceIte,reduceEqDiff,reduceAdd,reduceLeDiff,reduceCtorEq]
  exact dz (by rw[ix,ai h125]) (by rfl) rfl hlt2
 have hP:ix t (dO t b) i=kH t (dO t b) (t.length+1-i) i [] []:=by rw[ix,ad h125]
 simp only[↓pa,pb,↓reduceIte]
 refine aX (fun k fr st=>∃ (j n:Nat) (ns:List (List UInt8)) (acc:List V) (tok tok2:ay),k=t.length-j∧j≤t.length∧acc.length≤j∧ns.length=acc.length∧t.length-j<n∧fr 0= .ptr 0 0∧fr 1=I dp∧fr 4= .ptr 4 0∧fr 5= .ptr 5 0∧st.objs 0=some [S t,I j,.bool false]∧st.objs 4=some [I 0,I 0,I 0,S [],.list 0 [] .nil,.list 0 [] .nil]∧
  st.objs 5=some [I 7,I 0,I 0,S [],.list acc.length (V.cbs acc) tok2,.list ns.length (ns.map S) tok]∧Gr 9 st.nx st.cnt ns.length tok∧Gr 199 st.nx st.cnt acc.length tok2∧jb tok tok2∧kH t (dO t b) n j ns acc=ix t (dO t b) i) (t.length-i) (by omega)
  ⟨i,t.length+1-i,[],[],.nil,.nil,rfl,by omega,aY _,rfl,by omega,by simp only[↓pa,pb,↓reduceIte,reduceCtorEq],by simp only[↓pa,pb,↓reduceIte,reduceEqDiff],by simp only[↓pa,pb,↓reduceIte,reduceEqDiff],by simp only[↓pa,↓reduceIte,reduceEqDiff],by simp only[pb,↓reduceIte,reduceCtorEq],by simp only[pb,↓reduceIte,reduceEqDiff],by simp only[pb,↓reduceIte];rfl,rfl,rfl,trivial,hP.symm⟩ ?_
 rintro k fr st ⟨j,n,ns,acc,tok,tok2,rfl,hj,hacc,hnl,hn,f0,f1,f4,f5,o0,o4,o5,hG,hG2,hap,hQ⟩
 have hm:(ns.map S).length=ns.length:=bu _
 rw[FJ (by omega)]at hQ
 simp only[↓pa,↓dV,pb,aj,cS,↓reduceIte,reduceEqDiff,reduceAdd,reduceCtorEq,f0,f5,o0,o5]
 refine gI (Iw K (t:=t) (i:=j) (b:=false) (by simp only[o0]) hj hl) (fun x j1 fl hx hj1=>?_) (fun p j1 fl hx hp hj1=>?_)
 rotate_left
 ·obtain⟨l,rfl⟩:=hp
  have hx:oz t j=none:=hx
  have hno:ix t (dO t b) i=none:=by rw[←hQ,hx]
  simp only[↓pa,↓bM,↓dV,pb,aj,cS,↓reduceIte,reduceEqDiff,reduceAdd,reduceLeDiff,reduceLT,rv]
  refine jO (n:=ns.length) (m:=1) (e2:=199) (n2:=acc.length) (u:=tok2) hG (by rw[hm];omega) rfl (by omega) (by omega) (by decide) hG2 hap (fun st1 tok' ho hG' hG2' hap'=>?_)
  simp only[↓pa,↓dV,pb,aj,cS,fS,ah,af,↓reduceIte,reduceEqDiff,reduceAdd,reduceLeDiff,reduceCtorEq,f0,f5,o5,ho]
  refine(kr K.tab (t:=t) (i:=j1) (by simp only[pb,aj,↓reduceIte,reduceCtorEq,ho]) hj1 hl).2 ?_
  simp only[↓pa,pb,↓reduceIte,reduceCtorEq,f0]
  refine dA K (t:=t) (i:=j1) (b:=true) (by simp only[pb,aj,↓reduceIte,reduceCtorEq,ho]) fun fl=>?_
  simp only[↓pa,pb,aj,av,↓reduceIte,reduceEqDiff,reduceAdd,reduceLeDiff,reduceCtorEq,f4,o4,ho,eu]
  exact aN (dm:=dY) hno dW rfl hj1
 have hx:oz t j=some (x,j1):=hx
 have hm1:=sd hx
 rw[hx]at hQ
 simp only at hQ
 simp only[↓pa,↓bM,↓dV,pb,aj,cS,↓reduceIte,reduceEqDiff,reduceAdd,reduceLeDiff,reduceLT,rv]
 refine jO (n:=ns.length) (m:=1) (e2:=199) (n2:=acc.length) (u:=tok2) hG (by rw[hm];omega) rfl (by omega) (by omega) (by decide) hG2 hap (fun st1 tok' ho hG' hG2' hap'=>?_)
 rw[xQ]
 simp only[↓pa,↓dV,pb,aj,cS,fS,ah,af,↓reduceIte,reduceEqDiff,reduceAdd,reduceLeDiff,reduceCtorEq,f0,f5,o5,ho]
 refine(dU K (t:=t) (i:=j1) 58 rfl (by decide) (by simp only[pb,aj,↓reduceIte,reduceCtorEq,ho]) hj1 hl).2 ?_
 refine ab (fun h58=>?_) (fun h58=>?_)
 rotate_left
 ·have hno:ix t (dO t b) i=none:=by rw[←hQ,ad h58]
  simp only[↓pa,pb,↓reduceIte,reduceCtorEq,f0]
  refine dA K (t:=t) (i:=j1) (b:=false) (by simp only[pb,aj,↓reduceIte,reduceCtorEq,ho]) fun fl=>?_
  simp only[↓pa,pb,aj,av,↓reduceIte,reduceEqDiff,reduceAdd,reduceLeDiff,reduceCtorEq,f4,o4,ho,eu]
  exact aN (dm:=dY) hno dW rfl hj1
 rw[ai h58]at hQ
 have hj58:=cO (show cI t j1≠0 by rw[h58];decide)
 simp (disch:=omega)only[↓pa,↓dV,pb,aj,cS,↓reduceIte,reduceEqDiff,reduceAdd,reduceCtorEq,f0,f1,f5,hdd]
 refine gI (ih _ 0 (j1+1) (by simp only[pb,↓reduceIte]) hj58) (fun v j2 fl hv hj2=>?_) (fun p j2 fl hv hp hj2=>?_)
 rotate_left
 ·obtain⟨cs,rfl,hcs,hcn,hct⟩:=hp
  have hno:ix t (dO t b) i=none:=by rw[←hQ,hv]
  simp (disch:=omega)only[↓pa,↓bM,↓dV,pb,aj,cS,↓reduceIte,reduceEqDiff,reduceAdd,reduceLeDiff,reduceLT,hcs,dJ,rv]
  refine cu (n:=acc.length) (m:=1) hG2' (by rw[V.cbs_len]) (by rw[hcs]) (by omega) (by omega) (by decide) ?_
  simp only[↓pa,↓dV,pb,aj,cS,fS,ah,af,↓reduceIte,reduceEqDiff,reduceAdd,reduceLeDiff,reduceCtorEq,f0,f5]
  refine(kr K.tab (t:=t) (i:=j2) (by simp only[pb,aj,↓reduceIte,reduceCtorEq]) hj2 hl).2 ?_
  simp only[↓pa,pb,↓reduceIte,reduceCtorEq,f0]
  refine(kr K.tab (t:=t) (i:=j2) (by simp only[pb,aj,↓reduceIte,reduceCtorEq]) hj2 hl).2 ?_
  simp only[↓pa,pb,↓reduceIte,reduceCtorEq,f0]
  refine dA K (t:=t) (i:=j2) (b:=true) (by simp only[pb,aj,↓reduceIte,reduceCtorEq]) fun fl=>?_
  simp only[↓pa,pb,aj,av,↓reduceIte,reduceEqDiff,reduceAdd,reduceLeDiff,reduceCtorEq,f4,o4,ho,eu]
  exact aN (dm:=dY) hno dW rfl hj2
 have hm2:=m0 _ _ _ _ hv
 have hvl:=v.cb_len
 rw[hv]at hQ
 simp only at hQ
 simp (disch:=omega)only[↓pa,↓bM,↓dV,pb,aj,cS,↓reduceIte,reduceEqDiff,reduceAdd,reduceLeDiff,reduceLT,hvl,dJ,rv]
 refine jO (n:=acc.length) (m:=1) (e2:=9) (n2:=ns.length+1) (u:=tok') hG2' (by rw[V.cbs_len]) (by rw[hvl]) (by omega) (by omega) (by decide) hG' (iN hap') (fun st2 tok2' ho2 hG2'' hG'' hap''=>?_)
 rw[V.cbs_snoc]
 simp only[↓pa,↓dV,pb,aj,cS,fS,ah,af,↓reduceIte,reduceEqDiff,reduceAdd,reduceLeDiff,reduceCtorEq,f0,f5,ho2]
 refine(dU K (t:=t) (i:=j2) 125 rfl (by decide) (by simp only[pb,aj,↓reduceIte,reduceCtorEq,ho2]) hj2 hl).2 ?_
 refine ab (fun h1=>?_) (fun h1=>?_)
 ·rw[ai h1]at hQ
  have hjl:=cO (show cI t j2≠0 by rw[h1];decide)
  simp only[↓pa,pb,aj,↓reduceIte,reduceEqDiff,reduceAdd,reduceCtorEq,f5]
  rw[Ce (nB _),←ju (x:=x),Bo K.tab (ns++[x]) (by rw[ju];omega)]
  simp only[↓pa,pb,↓reduceIte]
  refine ab (fun hr=>?_) (fun hr=>?_)
  ·rw[ai hr]at hQ
   simp only[↓pa,pb,aj,av,eh,↓reduceIte,reduceEqDiff,reduceAdd,reduceLeDiff,reduceCtorEq,f4,f5,o4,ho,ho2]
   rw[ju,HK]
   exact dz hQ.symm rfl rfl hjl
  ·rw[ad hr]at hQ
   simp only[↓pa,pb,↓reduceIte,reduceCtorEq,f0]
   refine dA K (t:=t) (i:=j2+1) (b:=false) (by simp only[pb,↓reduceIte]) fun fl=>?_
   simp only[↓pa,pb,aj,av,↓reduceIte,reduceEqDiff,reduceAdd,reduceLeDiff,reduceCtorEq,f4,o4,ho,ho2,eu]
   exact aN (dm:=dY) hQ.symm dW rfl hjl
 rw[ad h1]at hQ
 simp only[↓pa,pb,↓reduceIte,reduceCtorEq,f0]
 refine(dU K (t:=t) (i:=j2) 44 rfl (by decide) (by simp only[pb,aj,↓reduceIte,reduceCtorEq,ho2]) hj2 hl).2 ?_
 refine ab (fun h2=>?_) (fun h2=>?_)
 ·rw[ai h2]at hQ
  have hjl:=cO (show cI t j2≠0 by rw[h2];decide)
  simp only[↓pa,pb,aj,↓reduceIte,reduceEqDiff,reduceCtorEq,f0,f1,f4,f5,o4,ho,ho2]
  exact⟨t.length- (j2+1),by omega,j2+1,n-1,ns++[x],acc++[v],tok',tok2',rfl,by omega,by rw[cj];omega,by rw[cj,ju];omega,by omega,rfl,by rw[cj,ju],by rw[ju];exact hG'',by rw[cj];exact hG2'',iN hap'',hQ⟩
 ·rw[ad h2]at hQ
  simp only[↓pa,pb,↓reduceIte,reduceCtorEq,f0]
  refine dA K (t:=t) (i:=j2) (b:=false) (by simp only[pb,aj,↓reduceIte,reduceCtorEq,ho2]) fun fl=>?_
  simp only[↓pa,pb,aj,av,↓reduceIte,reduceEqDiff,reduceAdd,reduceLeDiff,reduceCtorEq,f4,o4,ho,ho2,eu]
  exact aN (dm:=dY) hQ.symm dW rfl hj2
theorem uu{t:List UInt8}{i:Nat}{c:UInt8}{l:List UInt8}(h:tk t i (c::l)=true):cI t i=(c.toNat:Int):=by
 have h:(t.drop i).take (l.length+1)=c::l:=of_decide_eq_true h
 by_cases hi:i<t.length
 ·rw[aK hi,ji]at h
  rw[nL t i hi,(List.cons.inj h).1]
 ·rw[gf (by omega)]at h
  cases h
theorem xX{t:List UInt8}{i:Nat}(h1:¬cI t i=45)(h2:d8 (cI t i)=false):eC t i=none:=by
 unfold eC
 rw[ad h1,mW fun _=>h2,nX]
 cases hr:fE []with
 |none=>rfl
 |some n=>exact absurd (ku hr).1 (uD n)
theorem Fo{t:List UInt8}{o:Option (Nat→Option (V×Nat))}{i:Nat}(h:t.length≤i):li t o i=none:=by
 have h0:=rO h
 have ht:∀ c l,(c.toNat:Int)≠0→tk t i (c::l)=false:=fun c l hc=>by
  cases hk:tk t i (c::l)
  ·rfl
  ·exact absurd ((uu hk).symm.trans h0) hc
 rw[vM]
 simp[h0,d8,ht]
theorem yK(t:List UInt8)(o:Option (Nat→Option (V×Nat)))(i:Nat):li t o i=
 if tk t i [110,117,108,108]=true then some (.mk 0 0 0 [] [] [],i+4)
 else if tk t i [116,114,117,101]=true then some (.mk 1 1 0 [] [] [],i+4)
 else if tk t i [102,97,108,115,101]=true then some (.mk 1 0 0 [] [] [],i+5)
 else if cI t i=34 then(nZ t (i+1)).map fun q=>(.mk 3 0 0 q.1 [] [],q.2)
 else if cI t i=64 then(fF t (i+1)).map fun q=>(.mk 4 q.1 0 [] [] [],q.2)
 else if cI t i=40 then fG t (i+1)
 else if cI t i=110 then dP t 8 (i+1)
 else if cI t i=101 then dP t 9 (i+1)
 else if cI t i=60 then oy t (i+1)
 else if cI t i=91 then wU t o (i+1)
 else if cI t i=123 then zU t o (i+1)
 else(eC t i).map fun q=>(.mk 2 q.1 0 [] [] [],q.2):=by
 rw[vM]
 by_cases a1:tk t i [110,117,108,108]=true
 ·have c:cI t i=110:=uu a1
  simp[c,d8,a1]
 by_cases a2:tk t i [116,114,117,101]=true
 ·have c:cI t i=116:=uu a2
  simp[c,d8,a1,a2]
 by_cases a3:tk t i [102,97,108,115,101]=true
 ·have c:cI t i=102:=uu a3
  simp[c,d8,a1,a2,a3]
 by_cases c1:cI t i=34
 ·simp[c1,a1,a2,a3]
 by_cases c2:cI t i=64
 ·simp[c2,a1,a2,a3]
 by_cases c3:cI t i=40
 ·simp[c3,d8,a1,a2,a3]
 by_cases c4:cI t i=110
 ·simp[c4,d8,a1,a2,a3]
 by_cases c5:cI t i=101
 ·simp[c5,d8,a1,a2,a3]
 by_cases c6:cI t i=60
 ·simp[c6,d8,a1,a2,a3]
 by_cases c7:cI t i=91
 ·simp[c7,d8,a1,a2,a3]
 by_cases c8:cI t i=123
 ·simp[c8,d8,a1,a2,a3]
 by_cases c9:cI t i=45
 ·simp[c9,d8,a1,a2,a3]
 by_cases c10:d8 (cI t i)=true
 ·simp[c1,c2,c3,c4,c5,c6,c7,c8,c10,a1,a2,a3]
 ·have c10':d8 (cI t i)=false:=by simpa using c10
  rw[xX c9 c10']
  simp[c1,c2,c3,c4,c5,c6,c7,c8,c9,c10,a1,a2,a3]
set_option maxHeartbeats 4000000 in
theorem uf(K:bH cf){t:List UInt8}(hl:t.length≤2000000){b:Nat}{o:Option (Nat→Option (V×Nat))}(hV:∀ i,dO t b i=li t o i)
  (hd:(5- (b:Int)<5∧
   (∀ (st:St) (s i:Nat),st.objs s=some [S t,I i,.bool false]→i≤t.length→∃ r c',mP t VB (wU t o i) dY r c'∧∃ fl,ar cf 216 [.ptr s 0,I (5- (b:Int))] [] st=some (r,cQ (bU st s c') fl))∧
   (∀ (st:St) (s i:Nat),st.objs s=some [S t,I i,.bool false]→i≤t.length→∃ r c',mP t VB (zU t o i) dY r c'∧∃ fl,ar cf 217 [.ptr s 0,I (5- (b:Int))] [] st=some (r,cQ (bU st s c') fl)))∨
   (¬5- (b:Int)<5∧o=none)):uq cf t b:=by
 intro st s i hs hi
 revert hd
 generalize 5- (b:Int)=dp
 intro hd
 refine fx K.tab (F:=F200) rfl rfl rfl (lb rfl) (lb rfl) (by simp[aQ]) hs (fi t i _) 1 ?_
 unfold F200 qr qd qm qk ql qf qt qu qx qy qs qo qN
 simp only[↓pa,pb,aj,aT,↓reduceIte,reduceEqDiff,reduceAdd,reduceCtorEq]
 refine ab (fun h0=>?_) (fun h0=>?_)
 ·have hno:dO t b i=none:=(hV i).trans (Fo h0)
  simp only[↓pa,pb,↓reduceIte,reduceCtorEq,h0]
  refine dA K (t:=t) (i:=i) (b:=false) (by simp only[pb,↓reduceIte,reduceCtorEq]) fun fl=>?_
  simp only[↓pa,pb,aj,av,↓reduceIte,reduceEqDiff,reduceAdd,reduceLeDiff,reduceCtorEq,eu]
  exact aN (dm:=dY) hno dW rfl (by omega)
 have hp:=(hV i).trans (yK t o i)
 simp only[↓pa,pb,↓reduceIte,reduceCtorEq,h0]
 refine(nY K.tab (t:=t) (i:=i) (x:=[110,117,108,108]) (by simp only[pb,↓reduceIte,reduceCtorEq]) hi hl (by decide)).2 ?_
 refine ab (fun a1=>?_) (fun a1=>?_)
 ·rw[ai a1]at hp
  have:=ut hi a1
  simp only[↓pa,↓bM,pb,aj,av,↓reduceIte,reduceEqDiff,reduceAdd,reduceLeDiff,reduceCtorEq]
  exact dz hp rfl rfl this
 rw[ad a1]at hp
 simp only[↓pa,pb,↓reduceIte,reduceCtorEq]
 refine(nY K.tab (t:=t) (i:=i) (x:=[116,114,117,101]) (by simp only[pb,↓reduceIte,reduceCtorEq]) hi hl (by decide)).2 ?_
 refine ab (fun a2=>?_) (fun a2=>?_)
 ·rw[ai a2]at hp
  have:=ut hi a2
  simp only[↓pa,↓bM,pb,aj,av,↓reduceIte,reduceEqDiff,reduceAdd,reduceLeDiff,reduceCtorEq]
  exact dz hp rfl rfl this
 rw[ad a2]at hp
 simp only[↓pa,pb,↓reduceIte,reduceCtorEq]
 refine(nY K.tab (t:=t) (i:=i) (x:=[102,97,108,115,101]) (by simp only[pb,↓reduceIte,reduceCtorEq]) hi hl (by decide)).2 ?_
 refine ab (fun a3=>?_) (fun a3=>?_)
 ·rw[ai a3]at hp
  have:=ut hi a3
  simp only[↓pa,↓bM,pb,aj,av,↓reduceIte,reduceEqDiff,reduceAdd,reduceLeDiff,reduceCtorEq]
  exact dz hp rfl rfl this
 rw[ad a3]at hp
 simp only[↓pa,pb,↓reduceIte,reduceCtorEq]
 refine(dU K (t:=t) (i:=i) 34 rfl (by decide) (by simp only[pb,↓reduceIte,reduceCtorEq]) hi hl).2 ?_
 refine ab (fun c1=>?_) (fun c1=>?_)
 ·have hlt:=cO (show cI t i≠0 by rw[c1];decide)
  rw[ai c1]at hp
  simp only[↓pa,pb,↓reduceIte,reduceCtorEq]
  refine gI (Gt K (t:=t) (i:=i+1) (by simp only[pb,↓reduceIte]) hlt hl) (fun v j fl hv hj=>?_) (fun p j fl hv hx hj=>?_)
  ·rw[hv]at hp
   simp only[↓pa,↓bM,pb,aj,av,↓reduceIte,reduceEqDiff,reduceAdd,reduceLeDiff,reduceCtorEq]
   exact dz hp rfl rfl hj
  ·obtain⟨l,rfl⟩:=hx
   rw[hv]at hp
   simp only[↓pa,↓bM,pb,aj,av,↓reduceIte,reduceEqDiff,reduceAdd,reduceLeDiff,reduceCtorEq]
   exact aN (dm:=dY) hp ⟨_,rfl,rfl,by simp only[av,am],by simp only[av]⟩ rfl hj
 rw[ad c1]at hp
 simp only[↓pa,pb,↓reduceIte,reduceCtorEq]
 refine(dU K (t:=t) (i:=i) 64 rfl (by decide) (by simp only[pb,↓reduceIte,reduceCtorEq]) hi hl).2 ?_
 refine ab (fun c2=>?_) (fun c2=>?_)
 ·have hlt:=cO (show cI t i≠0 by rw[c2];decide)
  rw[ai c2]at hp
  simp only[↓pa,pb,↓reduceIte,reduceCtorEq]
  refine gI (Ko K (t:=t) (i:=i+1) (by simp only[pb,↓reduceIte]) hlt hl) (fun v j fl hv hj=>?_) (fun p j fl hv hx hj=>?_)
  ·have hvl:=v.cb_len
   simp (disch:=omega)only[↓pa,pb,aj,av,eh,↓reduceIte,reduceEqDiff,reduceAdd,reduceLeDiff,reduceCtorEq,hvl,dJ,em]
   exact dz (hp.trans hv) rfl rfl hj
  ·obtain⟨cs,rfl,hcs,hcn,hct⟩:=hx
   simp (disch:=omega)only[↓pa,pb,aj,av,↓reduceIte,reduceEqDiff,reduceAdd,reduceLeDiff,reduceCtorEq,hcs,hcn,hct,dJ,em]
   exact aN (dm:=dY) (hp.trans hv) ⟨_,rfl,hcs,hcn,hct⟩ rfl hj
 rw[ad c2]at hp
 simp only[↓pa,pb,↓reduceIte,reduceCtorEq]
 refine(dU K (t:=t) (i:=i) 40 rfl (by decide) (by simp only[pb,↓reduceIte,reduceCtorEq]) hi hl).2 ?_
 refine ab (fun c3=>?_) (fun c3=>?_)
 ·have hlt:=cO (show cI t i≠0 by rw[c3];decide)
  rw[ai c3]at hp
  simp only[↓pa,pb,↓reduceIte,reduceCtorEq]
  refine lv K (t:=t) (i:=i+1) (b:=false) (by simp only[pb,↓reduceIte]) hlt hl (fun a j fl _ ha hj=>?_) (fun n j fl h hj=>?_)
  rotate_left
  ·have ha:eC t (i+1)=none:=by rcases h with h|h;cases h;exact h
   have hno:dO t b i=none:=by rw[hp,fG,ha]
   simp only[↓pa,pb,aj,↓reduceIte,reduceEqDiff,reduceAdd,reduceLeDiff,reduceCtorEq]
   refine lv K (t:=t) (b:=true) (by simp only[pb,↓reduceIte]<;>rfl) (by assumption) hl (fun _ _ _ h=>by cases h) (fun _ _ _ _ _=>?_)
   simp only[↓pa,pb,aj,↓reduceIte,reduceEqDiff,reduceAdd,reduceCtorEq]
   refine dA K (t:=t) (by simp only[pb,aj,↓reduceIte]<;>rfl) fun fl=>?_
   simp only[↓pa,pb,aj,av,↓reduceIte,reduceEqDiff,reduceAdd,reduceLeDiff,reduceCtorEq,eu]
   exact aN (dm:=dY) hno dW rfl (by omega)
  simp only[↓pa,pb,aj,↓reduceIte,reduceEqDiff,reduceAdd,reduceCtorEq]
  refine(dU K (t:=t) (i:=j) 32 rfl (by decide) (by simp only[pb,aj,↓reduceIte]) hj hl).2 ?_
  refine ab (fun h32=>?_) (fun h32=>?_)
  rotate_left
  ·have hno:dO t b i=none:=by rw[hp,fG,ha];simp only;rw[ad h32]
   simp only[↓pa,pb,aj,↓reduceIte,reduceEqDiff,reduceAdd,reduceLeDiff,reduceCtorEq]
   refine lv K (t:=t) (b:=true) (by simp only[pb,↓reduceIte]<;>rfl) (by assumption) hl (fun _ _ _ h=>by cases h) (fun _ _ _ _ _=>?_)
   simp only[↓pa,pb,aj,↓reduceIte,reduceEqDiff,reduceAdd,reduceCtorEq]
   refine dA K (t:=t) (by simp only[pb,aj,↓reduceIte]<;>rfl) fun fl=>?_
   simp only[↓pa,pb,aj,av,↓reduceIte,reduceEqDiff,reduceAdd,reduceLeDiff,reduceCtorEq,eu]
   exact aN (dm:=dY) hno dW rfl (by omega)
  have hjl:=cO (show cI t j≠0 by rw[h32];decide)
  simp only[↓pa,pb,aj,↓reduceIte,reduceEqDiff,reduceAdd,reduceLeDiff,reduceCtorEq]
  refine lv K (t:=t) (i:=j+1) (b:=false) (by simp only[pb,↓reduceIte]) hjl hl (fun b' k fl _ hb hk=>?_) (fun n k fl h hk=>?_)
  rotate_left
  ·have hb:eC t (j+1)=none:=by rcases h with h|h;cases h;exact h
   have hno:dO t b i=none:=by rw[hp,fG,ha];simp only;rw[ai h32,hb]
   simp only[↓pa,pb,aj,↓reduceIte,reduceEqDiff,reduceAdd,reduceCtorEq]
   refine dA K (t:=t) (by simp only[pb,aj,↓reduceIte]<;>rfl) fun fl=>?_
   simp only[↓pa,pb,aj,av,↓reduceIte,reduceEqDiff,reduceAdd,reduceLeDiff,reduceCtorEq,eu]
   exact aN (dm:=dY) hno dW rfl (by omega)
  have hpp:dO t b i=if cI t k=41∧nR a=false∧nR b'=false then some (.mk 5 a b' [] [] [],k+1)else none:=by rw[hp,fG,ha];simp only;rw[ai h32,hb]
  simp only[↓pa,pb,aj,↓reduceIte,reduceEqDiff,reduceAdd,reduceCtorEq]
  refine(dU K (t:=t) (i:=k) 41 rfl (by decide) (by simp only[pb,aj,↓reduceIte]) hk hl).2 ?_
  refine ab (fun h41=>?_) (fun h41=>?_)
  rotate_left
  ·have hno:dO t b i=none:=by rw[hpp,ad fun h=>h41 h.1]
   simp only[↓pa,pb,↓reduceIte,reduceEqDiff,reduceCtorEq]
   refine dA K (t:=t) (by simp only[pb,aj,↓reduceIte]<;>rfl) fun fl=>?_
   simp only[↓pa,pb,aj,av,↓reduceIte,reduceEqDiff,reduceAdd,reduceLeDiff,reduceCtorEq,eu]
   exact aN (dm:=dY) hno dW rfl (by omega)
  have hkl:=cO (show cI t k≠0 by rw[h41];decide)
  have hbig:∀ x,nR x=true↔(x< -1000000∨1000000<x):=fun x=>by simp[nR]
  simp only[↓pa,pb,↓reduceIte,reduceEqDiff]
  refine ab (fun b1=>?_) (fun b1=>?_)
  ·have hno:dO t b i=none:=by rw[hpp,ad fun h=>by rw[(hbig a).2 (.inl b1)]at h;simp at h]
   simp only[↓pa,pb,↓reduceIte,reduceEqDiff,reduceCtorEq,b1]
   refine dA K (t:=t) (by simp only[pb,↓reduceIte]<;>rfl) fun fl=>?_
   simp only[↓pa,pb,aj,av,↓reduceIte,reduceEqDiff,reduceAdd,reduceLeDiff,reduceCtorEq,eu]
   exact aN (dm:=dY) hno dW rfl (by omega)
  simp only[↓pa,pb,↓reduceIte,reduceEqDiff,b1]
  refine ab (fun b2=>?_) (fun b2=>?_)
  ·have hno:dO t b i=none:=by rw[hpp,ad fun h=>by rw[(hbig a).2 (.inr b2)]at h;simp at h]
   simp only[↓pa,pb,↓reduceIte,reduceEqDiff,reduceCtorEq,b2]
   refine dA K (t:=t) (by simp only[pb,↓reduceIte]<;>rfl) fun fl=>?_
   simp only[↓pa,pb,aj,av,↓reduceIte,reduceEqDiff,reduceAdd,reduceLeDiff,reduceCtorEq,eu]
   exact aN (dm:=dY) hno dW rfl (by omega)
  simp only[↓pa,pb,↓reduceIte,reduceEqDiff,b2]
  refine ab (fun b3=>?_) (fun b3=>?_)
  ·have hno:dO t b i=none:=by rw[hpp,ad fun h=>by rw[(hbig b').2 (.inl b3)]at h;simp at h]
   simp only[↓pa,pb,↓reduceIte,reduceEqDiff,reduceCtorEq,b3]
   refine dA K (t:=t) (by simp only[pb,↓reduceIte]<;>rfl) fun fl=>?_
   simp only[↓pa,pb,aj,av,↓reduceIte,reduceEqDiff,reduceAdd,reduceLeDiff,reduceCtorEq,eu]
   exact aN (dm:=dY) hno dW rfl (by omega)
  simp only[↓pa,pb,↓reduceIte,reduceEqDiff,b3]
  refine ab (fun b4=>?_) (fun b4=>?_)
  ·have hno:dO t b i=none:=by rw[hpp,ad fun h=>by rw[(hbig b').2 (.inr b4)]at h;simp at h]
   simp only[↓pa,pb,↓reduceIte,reduceCtorEq,b4]
   refine dA K (t:=t) (by simp only[pb,↓reduceIte]<;>rfl) fun fl=>?_
   simp only[↓pa,pb,aj,av,↓reduceIte,reduceEqDiff,reduceAdd,reduceLeDiff,reduceCtorEq,eu]
   exact aN (dm:=dY) hno dW rfl (by omega)
  ·have ba:nR a=false:=by cases h:nR a;rfl;exact absurd ((hbig a).1 h) (by omega)
   have bb:nR b'=false:=by cases h:nR b';rfl;exact absurd ((hbig b').1 h) (by omega)
   simp only[↓pa,↓bM,pb,aj,av,↓reduceIte,reduceEqDiff,reduceAdd,reduceLeDiff,reduceCtorEq,b4]
   exact dz (by rw[hpp,ai ⟨h41,ba,bb⟩]) rfl rfl hkl
 rw[ad c3]at hp
 simp only[↓pa,pb,↓reduceIte,reduceCtorEq]
 refine(dU K (t:=t) (i:=i) 110 rfl (by decide) (by simp only[pb,↓reduceIte,reduceCtorEq]) hi hl).2 ?_
 refine ab (fun c4=>?_) (fun c4=>?_)
 ·have hlt:=cO (show cI t i≠0 by rw[c4];decide)
  rw[ai c4]at hp
  simp only[↓pa,pb,↓reduceIte,reduceCtorEq]
  refine gI (wj K (t:=t) (i:=i+1) (b:=false) (by simp only[pb,↓reduceIte]) hlt hl) (fun v j fl hv hj=>?_) (fun p j fl hv hx hj=>?_)
  ·have hvl:=v.cb_len
   simp (disch:=omega)only[↓pa,pb,aj,av,eh,↓reduceIte,reduceEqDiff,reduceAdd,reduceLeDiff,reduceCtorEq,hvl,dJ,em]
   exact dz (hp.trans hv) rfl rfl hj
  ·obtain⟨cs,rfl,hcs,hcn,hct⟩:=hx
   simp (disch:=omega)only[↓pa,pb,aj,av,↓reduceIte,reduceEqDiff,reduceAdd,reduceLeDiff,reduceCtorEq,hcs,hcn,hct,dJ,em]
   exact aN (dm:=dY) (hp.trans hv) ⟨_,rfl,hcs,hcn,hct⟩ rfl hj
 rw[ad c4]at hp
 simp only[↓pa,pb,↓reduceIte,reduceCtorEq]
 refine(dU K (t:=t) (i:=i) 101 rfl (by decide) (by simp only[pb,↓reduceIte,reduceCtorEq]) hi hl).2 ?_
 refine ab (fun c5=>?_) (fun c5=>?_)
 ·have hlt:=cO (show cI t i≠0 by rw[c5];decide)
  rw[ai c5]at hp
  simp only[↓pa,pb,↓reduceIte,reduceCtorEq]
  refine gI (wj K (t:=t) (i:=i+1) (b:=false) (by simp only[pb,↓reduceIte]) hlt hl) (fun v j fl hv hj=>?_) (fun p j fl hv hx hj=>?_)
  ·have hvl:=v.cb_len
   simp (disch:=omega)only[↓pa,pb,aj,av,eh,↓reduceIte,reduceEqDiff,reduceAdd,reduceLeDiff,reduceCtorEq,hvl,dJ,em]
   exact dz (hp.trans hv) rfl rfl hj
  ·obtain⟨cs,rfl,hcs,hcn,hct⟩:=hx
   simp (disch:=omega)only[↓pa,pb,aj,av,↓reduceIte,reduceEqDiff,reduceAdd,reduceLeDiff,reduceCtorEq,hcs,hcn,hct,dJ,em]
   exact aN (dm:=dY) (hp.trans hv) ⟨_,rfl,hcs,hcn,hct⟩ rfl hj
 rw[ad c5]at hp
 simp only[↓pa,pb,↓reduceIte,reduceCtorEq]
 refine(dU K (t:=t) (i:=i) 60 rfl (by decide) (by simp only[pb,↓reduceIte,reduceCtorEq]) hi hl).2 ?_
 refine ab (fun c6=>?_) (fun c6=>?_)
 ·have hlt:=cO (show cI t i≠0 by rw[c6];decide)
  rw[ai c6]at hp
  simp only[↓pa,pb,↓reduceIte,reduceCtorEq]
  refine gI (Kc K (t:=t) (i:=i+1) (by simp only[pb,↓reduceIte]) hlt hl) (fun v j fl hv hj=>?_) (fun p j fl hv hx hj=>?_)
  ·have hvl:=v.cb_len
   simp (disch:=omega)only[↓pa,pb,aj,av,eh,↓reduceIte,reduceEqDiff,reduceAdd,reduceLeDiff,reduceCtorEq,hvl,dJ,em]
   exact dz (hp.trans hv) rfl rfl hj
  ·obtain⟨cs,rfl,hcs,hcn,hct⟩:=hx
   simp (disch:=omega)only[↓pa,pb,aj,av,↓reduceIte,reduceEqDiff,reduceAdd,reduceLeDiff,reduceCtorEq,hcs,hcn,hct,dJ,em]
   exact aN (dm:=dY) (hp.trans hv) ⟨_,rfl,hcs,hcn,hct⟩ rfl hj
 rw[ad c6]at hp
 rcases hd with⟨h5,hL,hM⟩|⟨h5,ho⟩
 ·simp only[↓pa,pb,↓reduceIte,reduceEqDiff,reduceCtorEq,h5]
  refine(dU K (t:=t) (i:=i) 91 rfl (by decide) (by simp only[pb,↓reduceIte,reduceCtorEq]) hi hl).2 ?_
  refine ab (fun c7=>?_) (fun c7=>?_)
  ·have hlt:=cO (show cI t i≠0 by rw[c7];decide)
   rw[ai c7]at hp
   simp only[↓pa,pb,↓reduceIte,reduceEqDiff,reduceCtorEq]
   refine gI (hL _ 0 (i+1) (by simp only[pb,↓reduceIte]) hlt) (fun v j fl hv hj=>?_) (fun p j fl hv hx hj=>?_)
   ·have hvl:=v.cb_len
    simp (disch:=omega)only[↓pa,pb,aj,av,eh,↓reduceIte,reduceEqDiff,reduceAdd,reduceLeDiff,reduceCtorEq,hvl,dJ,em]
    exact dz (hp.trans hv) rfl rfl hj
   ·obtain⟨cs,rfl,hcs,hcn,hct⟩:=hx
    simp (disch:=omega)only[↓pa,pb,aj,av,↓reduceIte,reduceEqDiff,reduceAdd,reduceLeDiff,reduceCtorEq,hcs,hcn,hct,dJ,em]
    exact aN (dm:=dY) (hp.trans hv) ⟨_,rfl,hcs,hcn,hct⟩ rfl hj
  rw[ad c7]at hp
  simp only[↓pa,pb,↓reduceIte,reduceEqDiff,reduceCtorEq,h5]
  refine(dU K (t:=t) (i:=i) 123 rfl (by decide) (by simp only[pb,↓reduceIte,reduceCtorEq]) hi hl).2 ?_
  refine ab (fun c8=>?_) (fun c8=>?_)
  ·have hlt:=cO (show cI t i≠0 by rw[c8];decide)
   rw[ai c8]at hp
   simp only[↓pa,pb,↓reduceIte,reduceEqDiff,reduceCtorEq]
   refine gI (hM _ 0 (i+1) (by simp only[pb,↓reduceIte]) hlt) (fun v j fl hv hj=>?_) (fun p j fl hv hx hj=>?_)
   ·have hvl:=v.cb_len
    simp (disch:=omega)only[↓pa,pb,aj,av,eh,↓reduceIte,reduceEqDiff,reduceAdd,reduceLeDiff,reduceCtorEq,hvl,dJ,em]
    exact dz (hp.trans hv) rfl rfl hj
   ·obtain⟨cs,rfl,hcs,hcn,hct⟩:=hx
    simp (disch:=omega)only[↓pa,pb,aj,av,↓reduceIte,reduceEqDiff,reduceAdd,reduceLeDiff,reduceCtorEq,hcs,hcn,hct,dJ,em]
    exact aN (dm:=dY) (hp.trans hv) ⟨_,rfl,hcs,hcn,hct⟩ rfl hj
  rw[ad c8]at hp
  simp only[↓pa,pb,↓reduceIte,reduceEqDiff,reduceCtorEq]
  refine lv K (t:=t) (i:=i) (b:=false) (by simp only[pb,↓reduceIte,reduceCtorEq]) hi hl (fun a j fl _ ha hj=>?_) (fun n j fl h hj=>?_)
  ·rw[ha]at hp
   simp only[↓pa,↓bM,pb,aj,av,↓reduceIte,reduceEqDiff,reduceAdd,reduceLeDiff,reduceCtorEq]
   exact dz hp rfl rfl hj
  ·have ha:eC t i=none:=by rcases h with h|h;cases h;exact h
   rw[ha]at hp
   simp only[↓pa,↓bM,pb,aj,av,↓reduceIte,reduceEqDiff,reduceAdd,reduceLeDiff,reduceCtorEq]
   exact aN (dm:=dY) hp ⟨_,rfl,rfl,by simp only[av,am],by simp only[av]⟩ rfl hj
 ·subst ho
  have hp:dO t b i=(eC t i).map fun q=>(.mk 2 q.1 0 [] [] [],q.2):=by
   rw[hp]
   by_cases c7:cI t i=91
   ·rw[ai c7,xX (by omega) (by rw[c7];rfl)];rfl
   rw[ad c7]
   by_cases c8:cI t i=123
   ·rw[ai c8,xX (by omega) (by rw[c8];rfl)];rfl
   rw[ad c8]
  simp only[↓pa,pb,↓reduceIte,reduceEqDiff,reduceCtorEq,h5]
  refine lv K (t:=t) (i:=i) (b:=false) (by simp only[pb,↓reduceIte,reduceCtorEq]) hi hl (fun a j fl _ ha hj=>?_) (fun n j fl h hj=>?_)
  ·rw[ha]at hp
   simp only[↓pa,↓bM,pb,aj,av,↓reduceIte,reduceEqDiff,reduceAdd,reduceLeDiff,reduceCtorEq]
   exact dz hp rfl rfl hj
  ·have ha:eC t i=none:=by rcases h with h|h;cases h;exact h
   rw[ha]at hp
   simp only[↓pa,↓bM,pb,aj,av,↓reduceIte,reduceEqDiff,reduceAdd,reduceLeDiff,reduceCtorEq]
   exact aN (dm:=dY) hp ⟨_,rfl,rfl,by simp only[av,am],by simp only[av]⟩ rfl hj
theorem wi(K:bH cf){t:List UInt8}(hl:t.length≤2000000):∀ b,b≤5→uq cf t b
 |0,_=>uf K hl (o:=none) (fun _=>rfl) (.inr ⟨by decide,rfl⟩)
 |b+1,hb=>uf K hl (o:=some (dO t b)) (fun _=>rfl) (.inl ⟨by omega,fun _ _ _ hs hi=>Kf K hs hi hl (by omega) (wi K hl b (by omega)),fun _ _ _ hs hi=>Ls K hs hi hl (by omega) (wi K hl b (by omega))⟩)
end Go.PM
namespace Go.PM
mutual
def V.wild:V→Bool
 | .mk k _ _ _ _ vs=>decide (8≤k)||V.wilds vs
def V.wilds:List V→Bool
 | []=>false
 |v::vs=>v.wild||V.wilds vs
end
mutual
def V.plain:V→Bool
 | .mk k _ _ _ _ vs=>!(decide (k<0)||decide (8≤k)) && V.plains vs
def V.plains:List V→Bool
 | []=>true
 |v::vs=>(decide (v.kind=0)||v.plain) && V.plains vs
end
mutual
def V.good:V→Bool
 | .mk k _ _ _ _ vs=>decide (0≤k) && (decide (k≠0)||vs.isEmpty) && (decide (vs.length≤2000000) && V.goods vs)
def V.goods:List V→Bool
 | []=>true
 |v::vs=>v.good && V.goods vs
end
mutual
theorem V.plain_wild:∀ v:V,v.good=true→v.plain=!v.wild
 | .mk k n m s ns vs,h=>by
  rw[V.good,aa,aa]at h
  obtain⟨⟨h1,h2⟩,h3⟩:=h
  rw[aa]at h3
  have h3:=h3.2
  have h1:=of_decide_eq_true h1
  rw[V.plain,V.wild,V.plains_wilds vs h3]
  have:decide (k<0)=false:=decide_eq_false (by omega)
  rw[this]
  cases decide (8≤k)<;>cases V.wilds vs<;>rfl
theorem V.plains_wilds:∀ vs:List V,V.goods vs=true→V.plains vs=!V.wilds vs
 | [],_=>rfl
 |v::vs,h=>by
  rw[V.goods,aa]at h
  have ih:=V.plain_wild v h.1
  have hz:v.kind=0→v.wild=false:=fun hk=>by
   match v,h.1,hk with
   | .mk k n m s ns ws,hg,hk=>
    have hk:k=0:=hk
    subst hk
    rw[V.good,aa,aa]at hg
    have h2:(decide ((0:Int)≠0)||ws.isEmpty)=true:=hg.1.2
    have:ws=[]:=by simpa using h2
    subst this
    rfl
  rw[V.plains,V.wilds,V.plains_wilds vs h.2,ih]
  by_cases hk:v.kind=0
  ·rw[hz hk]
   simp[hk]
  ·simp[hk]
end
theorem V.goods_snoc:∀ (vs:List V) (v:V),V.goods vs=true→v.good=true→V.goods (vs++[v])=true
 | [],v,_,h=>by simp[V.goods,h]
 |w::vs,v,h,k=>by
  rw[V.goods,aa]at h
  rw[aM,V.goods,h.1,V.goods_snoc vs v h.2 k];rfl
theorem mK{k n m:Int}{s:List UInt8}(h:0≤k):(V.mk k n m s [] []).good=true:=by
 rw[V.good,decide_eq_true h];simp[V.goods]
theorem tY{k n m:Int}{s:List UInt8}{ns:List (List UInt8)}{vs:List V}(h:0<k)(hl:vs.length≤2000000)(g:V.goods vs=true):(V.mk k n m s ns vs).good=true:=by
 rw[V.good,decide_eq_true (show 0≤k by omega),decide_eq_true (show k≠0 by omega),decide_eq_true hl,g];rfl
theorem ru{t:List UInt8}{k:Int}{i j:Nat}{v:V}(hk:0≤k)(h:dP t k i=some (v,j)):v.good=true:=by
 unfold dP at h
 simp only[ae,bE]at h
 obtain⟨_,_,rfl,_⟩:=h
 exact mK hk
theorem vf{t:List UInt8}:∀ (n:Nat) (node:Bool) (i:Nat) (acc:List V) {v:V} {j:Nat},acc.length+n≤2000000→V.goods acc=true→kV t n node i acc=some (v,j)→v.good=true
 |0,_,_,_,_,_,_,_,h=>by cases h
 |n+1,node,i,acc,v,j,hb,g,h=>by
  have ih:=fun node i acc hb g=>vf (t:=t) n node i acc (v:=v) (j:=j) hb g
  rw[kV]at h
  by_cases hc:cI t i=(if node then 110 else 101)
  ·rw[ai hc]at h
   cases hv:dP t (if node then 8 else 9) (i+1)with
   |none=>rw[hv]at h;cases h
   |some q=>
    obtain⟨w,j1⟩:=q
    rw[hv]at h
    simp only at h
    have hw:=ru (by split<;>decide) hv
    split at h
    ·cases h;exact tY (by decide) (by rw[cj];omega) (V.goods_snoc _ _ g hw)
    ·split at h
     ·exact ih _ _ _ (by rw[cj];omega) (V.goods_snoc _ _ g hw) h
     ·cases h
  ·rw[ad hc]at h;cases h
theorem vj{t:List UInt8}{rd:Nat→Option (V×Nat)}(hr:∀ i v j,rd i=some (v,j)→v.good=true):∀ (n i:Nat) (acc:List V) {v:V} {j:Nat},acc.length+n≤2000000→V.goods acc=true→kf t rd n i acc=some (v,j)→v.good=true
 |0,_,_,_,_,_,_,h=>by cases h
 |n+1,i,acc,v,j,hb,g,h=>by
  have ih:=fun i acc hb g=>vj (t:=t) hr n i acc (v:=v) (j:=j) hb g
  rw[kf]at h
  split at h
  ·rename_i hv
   have hw:=hr _ _ _ hv
   split at h
   ·cases h;exact tY (by decide) (by rw[cj];omega) (V.goods_snoc _ _ g hw)
   ·split at h
    ·exact ih _ _ (by rw[cj];omega) (V.goods_snoc _ _ g hw) h
    ·cases h
  ·cases h
theorem w9{t:List UInt8}{rd:Nat→Option (V×Nat)}(hr:∀ i v j,rd i=some (v,j)→v.good=true):∀ (n i:Nat) (ns:List (List UInt8)) (acc:List V) {v:V} {j:Nat},acc.length+n≤2000000→V.goods acc=true→kH t rd n i ns acc=some (v,j)→v.good=true
 |0,_,_,_,_,_,_,_,h=>by cases h
 |n+1,i,ns,acc,v,j,hb,g,h=>by
  have ih:=fun i ns acc hb g=>w9 (t:=t) hr n i ns acc (v:=v) (j:=j) hb g
  rw[kH]at h
  split at h
  ·split at h
   ·split at h
    ·rename_i hv
     have hw:=hr _ _ _ hv
     split at h
     ·split at h
      ·cases h;exact tY (by decide) (by rw[cj];omega) (V.goods_snoc _ _ g hw)
      ·cases h
     ·split at h
      ·exact ih _ _ _ (by rw[cj];omega) (V.goods_snoc _ _ g hw) h
      ·cases h
    ·cases h
   ·cases h
  ·cases h
theorem wW{t:List UInt8}(hl:t.length≤999999){o:Option (Nat→Option (V×Nat))}(hr:∀ rd,o=some rd→∀ i v j,rd i=some (v,j)→v.good=true){i:Nat}{v:V}{j:Nat}(h:li t o i=some (v,j)):v.good=true:=by
 rw[yK]at h
 have hm:∀ {α:Type} {q:Option (α×Nat)} {f:α→V},(∀ a,(f a).good=true)→(q.map fun p=>(f p.1,p.2))=some (v,j)→v.good=true:=fun hf h=>by
  simp only[ae,bE]at h
  obtain⟨_,_,rfl,_⟩:=h
  exact hf _
 by_cases a1:tk t i [110,117,108,108]=true
 ·rw[ai a1]at h;cases h;rfl
 rw[ad a1]at h
 by_cases a2:tk t i [116,114,117,101]=true
 ·rw[ai a2]at h;cases h;rfl
 rw[ad a2]at h
 by_cases a3:tk t i [102,97,108,115,101]=true
 ·rw[ai a3]at h;cases h;rfl
 rw[ad a3]at h
 by_cases c1:cI t i=34
 ·rw[ai c1]at h
  exact hm (f:=fun a=>V.mk 3 0 0 a [] []) (fun a=>mK (by decide)) h
 rw[ad c1]at h
 by_cases c2:cI t i=64
 ·rw[ai c2]at h
  exact hm (f:=fun a=>V.mk 4 a 0 [] [] []) (fun a=>mK (by decide)) h
 rw[ad c2]at h
 by_cases c3:cI t i=40
 ·rw[ai c3]at h
  unfold fG at h
  split at h
  ·split at h
   ·split at h
    ·split at h
     ·cases h;exact mK (by decide)
     ·cases h
    ·cases h
   ·cases h
  ·cases h
 rw[ad c3]at h
 by_cases c4:cI t i=110
 ·rw[ai c4]at h;exact ru (by decide) h
 rw[ad c4]at h
 by_cases c5:cI t i=101
 ·rw[ai c5]at h;exact ru (by decide) h
 rw[ad c5]at h
 by_cases c6:cI t i=60
 ·rw[ai c6]at h;exact vf _ _ _ _ (by simp only[aV];omega) rfl h
 rw[ad c6]at h
 by_cases c7:cI t i=91
 ·rw[ai c7]at h
  cases o with
  |none=>cases h
  |some rd=>
   change jS t rd (i+1)=some (v,j)at h
   unfold jS at h
   split at h
   ·cases h;exact mK (by decide)
   ·exact vj (hr _ rfl) _ _ _ (by simp only[aV];omega) rfl h
 rw[ad c7]at h
 by_cases c8:cI t i=123
 ·rw[ai c8]at h
  cases o with
  |none=>cases h
  |some rd=>
   change ix t rd (i+1)=some (v,j)at h
   unfold ix at h
   split at h
   ·cases h;exact mK (by decide)
   ·exact w9 (hr _ rfl) _ _ _ _ (by simp only[aV];omega) rfl h
 rw[ad c8]at h
 exact hm (f:=fun a=>V.mk 2 a 0 [] [] []) (fun a=>mK (by decide)) h
theorem yF{t:List UInt8}(hl:t.length≤999999):∀ (b i:Nat) (v:V) (j:Nat),dO t b i=some (v,j)→v.good=true
 |0,i,v,j,h=>wW hl (fun rd h=>by cases h) (show li t none i=some (v,j)from h)
 |b+1,i,v,j,h=>wW hl (fun rd h=>by cases h;exact yF hl b) (show li t (some (dO t b)) i=some (v,j)from h)
theorem wT{t:List UInt8}{v:V}(h:fW t=some v):v.good=true:=by
 unfold fW at h
 split at h
 ·rename_i hlen
  split at h
  ·rename_i hv
   split at h
   ·cases h;exact yF (by omega) _ _ _ _ hv
   ·cases h
  ·cases h
 ·cases h
def iQ(t:List UInt8):Bool:=match fW t with
 |some v=>decide (v.kind≠0) && !v.wild
 |none=>false
end Go.PM
namespace Go.PM
open Go.Lib
variable {cf:au} {st:St} {mk:PV→St→Fr×St} {A:Fr×St→Prop} {s:Nat}
theorem DU{as bs:List PV}{al sz:Nat}{ag:Bool}(h:al+sz≤as.length):bT (as++bs) al sz ag=bT as al sz ag:=by
 unfold bT
 rw[ak,ai (by omega),ai h]
 cases ag with
 |true=>
  simp only[if_true]
  rw[List.drop_append_of_le_length (by omega),List.take_append_of_le_length (by rw[cV];omega)]
 |false=>
  simp only[cA,if_false]
  split
  ·rw[bA (by omega)]
  ·rfl
theorem vg{as bs:List PV}{al sz:Nat}{ag:Bool}:bT (as++bs) (as.length+al) sz ag=bT bs al sz ag:=by
 unfold bT
 have:as.length+al+sz≤(as++bs).length↔al+sz≤bs.length:=by rw[ak];omega
 simp only[this]
 split
 ·split
  ·rw[List.drop_append,gf (by omega),bf,show as.length+al-as.length=al by omega]
  ·split
   ·rw[bF (by omega),show as.length+al-as.length=al by omega]
   ·rfl
 ·rfl
theorem cR{α:Type}(enc:α→List PV)(m:Nat)(henc:∀ a,(enc a).length=m)(al sz:Nat)(ag:Bool)(h:al+sz≤m):∀ (l:List α) (j:Nat) (hj:j<l.length),bT (l.flatMap enc) (j*m+al) sz ag=bT (enc l[j]) al sz ag
 |a::l,0,_=>by
  rw[aI,Nat.zero_mul,bg,DU (by rw[henc];exact h)]
  rfl
 |a::l,j+1,hj=>by
  have hj':j<l.length:=by simpa using hj
  rw[aI,show(j+1) *m+al=(enc a).length+(j*m+al) by rw[henc,fb];omega,vg,cR enc m henc al sz ag h l j hj']
  rfl
theorem Ii(vs:List V):V.cas vs=vs.flatMap V.ca:=by
 induction vs with
 |nil=>rfl
 |cons v vs ih=>rw[V.cas,ih];rfl
theorem Bi(vs:List V):V.cbs vs=vs.flatMap V.cb:=by
 induction vs with
 |nil=>rfl
 |cons v vs ih=>rw[V.cbs,ih];rfl
theorem Ft{vs:List V}{j:Nat}(h:j<vs.length):bT (V.cas vs) (j*6) 6 true=some (VA vs[j]):=by
 have:=cR V.ca 6 V.ca_len 0 6 true (by decide) vs j h
 rw[Ii,show j*6=j*6+0 from rfl,this]
 exact qX (V.ca_len _)
theorem Fs{vs:List V}{j:Nat}(h:j<vs.length):bT (V.cbs vs) (j*6) 6 true=some (VB vs[j]):=by
 have:=cR V.cb 6 V.cb_len 0 6 true (by decide) vs j h
 rw[Bi,show j*6=j*6+0 from rfl,this]
 exact qX (V.cb_len _)
theorem DX{vs:List V}{j:Nat}(h:j<vs.length):bT (V.cbs vs) (j*6) 1 false=some (I vs[j].kind):=by
 have:=cR V.cb 6 V.cb_len 0 1 false (by decide) vs j h
 rw[Bi,show j*6=j*6+0 from rfl,this]
 exact D2
def uT(t:List UInt8)(r:PV):Prop:=match fW t with
 |some v=>r= .tup [VA v,.bool true]
 |none=>∃ p,dY p∧r= .tup [p,.bool false]
theorem EM{t:List UInt8}{r:PV}{v:V}(h:fW t=some v)(k:r= .tup [VA v,.bool true]):uT t r:=by
 unfold uT;rw[h];exact k
theorem sR{t:List UInt8}{r p:PV}(h:fW t=none)(k:dY p)(e:r= .tup [p,.bool false]):uT t r:=by
 unfold uT;rw[h];exact⟨p,k,e⟩
theorem Lm(K:bH cf){t:List UInt8}:∃ r,uT t r∧∃ fl,ar cf 188 [S t] [] st=some (r,cQ st fl):=by
 refine qA K.tab (F:=F188) rfl rfl rfl (lb rfl) (by simp[cD]) 1 ?_
 unfold F188 qr qd qm qc qk ql qy qs qo qN
 simp only[↓pa,pb,↓reduceIte,reduceCtorEq]
 refine ab (fun h=>?_) (fun h=>?_)
 ·simp only[↓pa,↓bM,pb,aj,av,↓reduceIte,reduceEqDiff,reduceAdd,reduceLeDiff,h]
  exact sR (by rw[fW,ad (by omega)]) ⟨_,rfl,rfl,by simp only[av,am],by simp only[av]⟩ rfl
 have hr:fW t=match dO t 5 0 with
  |some (v,j)=>if j=t.length then some v else none
  |none=>none:=by rw[fW,ai (by omega)];rfl
 have hv5:=yk K (t:=t) (by omega) 5 (aD 5)
 have e5:5- ((5:Nat):Int)=0:=rfl
 unfold xL at hv5
 rw[e5]at hv5
 simp only[↓pa,↓bM,pb,aj,↓reduceIte,reduceAdd,reduceLeDiff,reduceCtorEq,h]
 refine fV (hv5 _ 13 0 (by simp only[pb,↓reduceIte];rfl) (aY _)) (fun v j fl hv hj=>?_) (fun p j fl hv hx hj=>?_)
 ·rw[hv]at hr
  have hvl:=v.ca_len
  by_cases hjl:j=t.length
  ·have hr:fW t=some v:=by rw[hr];exact ai hjl
   simp (disch:=omega)only[↓pa,↓dV,pb,aj,cS,fS,av,eh,ah,af,↓reduceIte,reduceEqDiff,reduceAdd,reduceLeDiff,reduceCtorEq,hvl,dJ,em,hjl]
   exact EM hr rfl
  ·have hr:fW t=none:=by rw[hr];exact ad hjl
   simp (disch:=omega)only[↓pa,↓dV,pb,aj,cS,fS,av,aT,eh,ah,af,↓reduceIte,reduceEqDiff,reduceAdd,reduceLeDiff,reduceCtorEq,hvl,dJ,em,hjl]
   exact sR hr ⟨_,rfl,hvl,v.ca_plain.1,v.ca_plain.2.1⟩ rfl
 ·obtain⟨cs,rfl,hcs,hcn,hct⟩:=hx
  rw[hv]at hr
  simp (disch:=omega)only[↓pa,↓dV,pb,aj,cS,fS,av,ah,af,↓reduceIte,reduceEqDiff,reduceAdd,reduceLeDiff,hcs,hcn,hct,dJ,em]
  exact sR hr ⟨_,rfl,hcs,hcn,hct⟩ rfl
def uS(t:List UInt8)(r:PV):Prop:=match fW t with
 |some v=>r=VB v
 |none=>r=eu
theorem EL{t:List UInt8}{r:PV}{v:V}(h:fW t=some v)(k:r=VB v):uS t r:=by
 unfold uS;rw[h];exact k
theorem sQ{t:List UInt8}{r:PV}(h:fW t=none)(e:r=eu):uS t r:=by
 unfold uS;rw[h];exact e
theorem Ka(K:bH cf){t:List UInt8}:∃ r,uS t r∧∃ fl,ar cf 186 [S t] [] st=some (r,cQ st fl):=by
 refine qA K.tab (F:=F186) rfl rfl rfl (lb rfl) (by simp[cD]) 1 ?_
 unfold F186 qr qd qm qk ql qf qx qs qo qN
 simp only[↓pa,pb,↓reduceIte,reduceCtorEq]
 refine ab (fun h=>?_) (fun h=>?_)
 ·simp only[↓pa,↓bM,pb,aj,av,↓reduceIte,reduceEqDiff,reduceAdd,reduceLeDiff,h]
  exact sQ (by rw[fW,ad (by omega)]) rfl
 have hr:fW t=match dO t 5 0 with
  |some (v,j)=>if j=t.length then some v else none
  |none=>none:=by rw[fW,ai (by omega)];rfl
 have hv5:=wi K (t:=t) (by omega) 5 (aD 5)
 have e5:5- ((5:Nat):Int)=0:=rfl
 unfold uq at hv5
 rw[e5]at hv5
 simp only[↓pa,↓bM,pb,aj,↓reduceIte,reduceAdd,reduceLeDiff,reduceCtorEq,h]
 refine gI (hv5 _ 11 0 (by simp only[pb,↓reduceIte];rfl) (aY _)) (fun v j fl hv hj=>?_) (fun p j fl hv hx hj=>?_)
 ·rw[hv]at hr
  have hvl:=v.cb_len
  by_cases hjl:j=t.length
  ·have hr:fW t=some v:=by rw[hr];exact ai hjl
   simp (disch:=omega)only[↓pa,pb,aj,av,eh,↓reduceIte,reduceEqDiff,reduceAdd,reduceLeDiff,dD,reduceCtorEq,hvl,dJ,em,hjl]
   exact EL hr rfl
  ·have hr:fW t=none:=by rw[hr];exact ad hjl
   simp (disch:=omega)only[↓pa,↓bM,pb,aj,av,aT,↓reduceIte,reduceEqDiff,reduceAdd,reduceLeDiff,dD,reduceCtorEq,hvl,dJ,hjl]
   exact sQ hr rfl
 ·obtain⟨cs,rfl,hcs,hcn,hct⟩:=hx
  rw[hv]at hr
  simp (disch:=omega)only[↓pa,↓bM,pb,aj,av,↓reduceIte,reduceEqDiff,reduceAdd,reduceLeDiff,hcs,dJ]
  exact sQ hr rfl
theorem Fl(v:V):cL (VA v):=fu v.ca_plain
theorem yI(v:V):cL (VB v):=fu v.cb_plain
theorem Dq{vs:List V}{j:Nat}(h:j<vs.length)(k:vs[j].wild=true):V.wilds vs=true:=by
 induction vs generalizing j with
 |nil=>simp at h
 |cons v vs ih=>
  rw[V.wilds]
  cases j with
  |zero=>have k:v.wild=true:=k;rw[k];rfl
  |succ j=>rw[ih (by simpa using h) (by simpa using k)];simp
theorem Dr{vs:List V}(h:∀ j,(hj:j<vs.length)→vs[j].wild=false):V.wilds vs=false:=by
 induction vs with
 |nil=>rfl
 |cons v vs ih=>
  have h0:v.wild=false:=h 0 (by simp)
  rw[V.wilds,h0,ih fun j hj=>h (j+1) (by simpa using hj)];rfl
theorem Fk{vs:List V}{j:Nat}(h:j<vs.length)(k:(decide (vs[j].kind=0)||vs[j].plain)=false):V.plains vs=false:=by
 induction vs generalizing j with
 |nil=>simp at h
 |cons v vs ih=>
  rw[V.plains]
  cases j with
  |zero=>have k:(decide (v.kind=0)||v.plain)=false:=k;rw[k];rfl
  |succ j=>rw[ih (by simpa using h) (by simpa using k)];simp
theorem DR{vs:List V}(h:∀ j,(hj:j<vs.length)→(decide (vs[j].kind=0)||vs[j].plain)=true):V.plains vs=true:=by
 induction vs with
 |nil=>rfl
 |cons v vs ih=>
  have h0:(decide (v.kind=0)||v.plain)=true:=h 0 (by simp)
  rw[V.plains,h0,ih fun j hj=>h (j+1) (by simpa using hj)];rfl
mutual
theorem Gm(K:bH cf):∀ (v:V),v.good=true→∀ st,ar cf 192 [VA v] [] st=some (.bool v.wild,st)
 | .mk k n m s ns vs,hg=>by
  intro st
  rw[V.good,aa,aa,aa]at hg
  have hlen:=of_decide_eq_true hg.2.1
  have ih:=C4 K vs hg.2.2
  have hvl:(V.mk k n m s ns vs).ca.length=6:=rfl
  refine cB K.tab (F:=F192) (t:=2) rfl rfl rfl (lb rfl) (by simp[Fl]) (bD _) (vs.length+1) ?_
  unfold F192 qg qr qd qm qi qc qb qk ql qf qt qa qn qs qo qN
  rw[V.wild]
  have hca:(V.mk k n m s ns vs).ca=[I k,I n,I m,S s,.list ns.length (ns.map S) .no,.list vs.length (V.cas vs) .no]:=by rw[V.ca]
  have hcl:=V.cas_len vs
  simp only[↓pa,pb,aj,↓reduceIte,reduceEqDiff,reduceAdd,VA,hca]
  refine ab (fun h8=>?_) (fun h8=>?_)
  ·simp only[↓pa,pb,↓reduceIte,h8]
  simp only[↓pa,pb,aj,↓reduceIte,reduceEqDiff,reduceAdd,h8]
  refine aX (fun k' fr st=>∃ j:Nat,k'=vs.length-j∧j≤vs.length∧fr 9= .list vs.length (V.cas vs) .no∧fr 10=I vs.length∧fr 11=I j∧∀ q,q<j→(hq:q<vs.length)→vs[q].wild=false) vs.length (by omega) ⟨0,rfl,by omega,by simp only[↓pa,↓reduceIte,reduceEqDiff],by simp only[↓pa,↓reduceIte,reduceEqDiff],by simp only[↓pa,↓reduceIte];rfl,fun q hq=>by omega⟩ ?_
  rintro k' fr st ⟨j,rfl,hj,f9,f10,f11,hall⟩
  simp only[↓pa,pb,aT,↓reduceIte,f10,f11]
  refine ab (fun h1=>?_) (fun h1=>?_)
  ·have hw:=ih vs[j] (bL h1)
   have hvj:=vs[j].ca_len
   simp (disch:=omega)only[↓pa,pb,aj,↓reduceIte,reduceEqDiff,reduceAdd,reduceLeDiff,f9,f11,h1,Ft h1,hvj,dJ,em,hw]
   refine ab (fun h2=>?_) (fun h2=>?_)
   ·simp only[↓pa,pb,↓reduceIte,h2]
    rw[Dq h1 h2]
   ·simp (disch:=omega)only[↓pa,pb,aT,↓reduceIte,reduceEqDiff,f9,f10,f11,h2]
    refine⟨vs.length- (j+1),by omega,j+1,rfl,by omega,rfl,fun q hq hq'=>?_⟩
    by_cases e:q=j
    ·subst e;simpa using h2
    ·simpa using hall q (by omega) hq'
  ·simp only[↓pa,pb,↓reduceIte,h1]
   rw[Dr fun q hq=>hall q (by omega) hq]
theorem C4(K:bH cf):∀ (vs:List V),V.goods vs=true→∀ w∈vs,∀ st,ar cf 192 [VA w] [] st=some (.bool w.wild,st)
 | [],_,w,hw=>by cases hw
 |v::vs,hg,w,hw=>by
  rw[V.goods,aa]at hg
  intro st
  rcases aJ.1 hw with hw|hw
  ·rw[hw];exact Gm K v hg.1 st
  ·exact C4 K vs hg.2 w hw st
end
mutual
theorem C8(K:bH cf):∀ (v:V),v.good=true→∀ st,ar cf 191 [VB v] [] st=some (.bool v.plain,st)
 | .mk k n m s ns vs,hg=>by
  intro st
  rw[V.good,aa,aa,aa]at hg
  have hlen:=of_decide_eq_true hg.2.1
  have ih:=Bp K vs hg.2.2
  have hvl:(V.mk k n m s ns vs).cb.length=6:=rfl
  refine cB K.tab (F:=F191) (t:=2) rfl rfl rfl (lb rfl) (by simp[yI]) (bD _) (vs.length+1) ?_
  unfold F191 qg qr qd qm qi qc qb qk ql qf qa qx qy qn qo
  rw[V.plain]
  have hcb:(V.mk k n m s ns vs).cb=[I k,I n,I m,S s,.list vs.length (V.cbs vs) .no,.list ns.length (ns.map S) .no]:=by rw[V.cb]
  have hcl:=V.cbs_len vs
  simp only[↓pa,pb,aj,↓reduceIte,reduceEqDiff,reduceAdd,VB,hcb]
  refine ab (fun h0=>?_) (fun h0=>?_)
  ·simp only[↓pa,pb,↓reduceIte,reduceEqDiff,h0]
  simp only[↓pa,pb,aj,↓reduceIte,reduceEqDiff,reduceAdd,h0]
  refine ab (fun h8=>?_) (fun h8=>?_)
  ·simp only[↓pa,pb,↓reduceIte,h8]
  simp only[↓pa,pb,h8]
  refine aX (fun k' fr st=>∃ j:Nat,k'=vs.length-j∧j≤vs.length∧fr 1= .ptr 1 0∧st.objs 1=some [I k,I n,I m,S s,.list vs.length (V.cbs vs) .no,.list ns.length (ns.map S) .no]∧fr 3=I j∧∀ q,q<j→(hq:q<vs.length)→(decide (vs[q].kind=0)||vs[q].plain)=true) vs.length (by omega) ⟨0,rfl,by omega,by simp only[↓pa,↓reduceIte,reduceEqDiff],by simp only[pb,↓reduceIte],by simp only[↓pa,↓reduceIte];rfl,fun q hq=>by omega⟩ ?_
  rintro k' fr st ⟨j,rfl,hj,f1,o1,f3,hall⟩
  simp only[↓pa,pb,aj,aT,↓reduceIte,reduceEqDiff,reduceAdd,f1,o1,f3]
  refine ab (fun h1=>?_) (fun h1=>?_)
  ·have hw:=ih vs[j] (bL h1)
   have hvj:=vs[j].cb_len
   have next:(decide (vs[j].kind=0)||vs[j].plain)=true→∀ q,q<j+1→(hq:q<vs.length)→(decide (vs[q].kind=0)||vs[q].plain)=true:=fun h q hq hq'=>by
    by_cases e:q=j
    ·subst e;exact h
    ·exact hall q (by omega) hq'
   simp (disch:=omega)only[↓pa,pb,aj,↓reduceIte,reduceEqDiff,reduceAdd,dD,f1,o1,f3,h1,DX h1,bh]
   refine ab (fun h2=>?_) (fun h2=>?_)
   ·simp (disch:=omega)only[↓pa,pb,aT,↓reduceIte,reduceEqDiff,f1,o1,f3,h2]
    exact⟨vs.length- (j+1),by omega,j+1,rfl,by omega,rfl,by simpa using next (by rw[h2];rfl)⟩
   ·simp (disch:=omega)only[↓pa,pb,aj,↓reduceIte,reduceEqDiff,reduceAdd,f1,o1,f3,h2,Fs h1,hw]
    refine ab (fun h3=>?_) (fun h3=>?_)
    ·simp (disch:=omega)only[↓pa,pb,aT,↓reduceIte,reduceEqDiff,f1,o1,f3,h3]
     exact⟨vs.length- (j+1),by omega,j+1,rfl,by omega,rfl,by simpa using next (by rw[h3];simp)⟩
    ·simp only[↓pa,pb,↓reduceIte,h3]
     rw[Fk h1 (by simp[h2];simpa using h3)]
  ·simp only[↓pa,pb,↓reduceIte,h1]
   rw[DR fun q hq=>hall q (by omega) hq]
theorem Bp(K:bH cf):∀ (vs:List V),V.goods vs=true→∀ w∈vs,∀ st,ar cf 191 [VB w] [] st=some (.bool w.plain,st)
 | [],_,w,hw=>by cases hw
 |v::vs,hg,w,hw=>by
  rw[V.goods,aa]at hg
  intro st
  rcases aJ.1 hw with hw|hw
  ·rw[hw];exact C8 K v hg.1 st
  ·exact Bp K vs hg.2 w hw st
end
theorem uj(K:bH cf)(t:List UInt8):ar cf 171 [S t] [] st=some (.bool (iQ t),st):=by
 refine cB K.tab (F:=F171) (t:=2) rfl rfl rfl (lb rfl) (by simp[cD]) (bD _) 1 ?_
 unfold F171 qr qm qc qt qy qs qo qN
 simp only[↓pa,pb,↓reduceIte,reduceCtorEq]
 refine zI (Lm K) (fun r fl hr=>?_)
 unfold uT at hr
 cases h:fW t with
 |some v=>
  rw[h]at hr
  have hr:r= .tup [VA v,.bool true]:=hr
  subst hr
  have hvl:=v.ca_len
  have hw:=Gm K v (wT h)
  have hf:iQ t=(decide (v.kind≠0) && !v.wild):=by rw[iQ,h]
  simp (disch:=omega)only[↓pa,pb,aj,ah,af,↓reduceIte,reduceEqDiff,reduceAdd,reduceLeDiff,dD,hvl,dJ,D3]
  by_cases hk:v.kind=0
  ·simp only[↓pa,pb,↓reduceIte,reduceEqDiff,dD,hk,hf]
  ·simp (disch:=omega)only[↓pa,pb,aj,↓reduceIte,reduceEqDiff,reduceLeDiff,dD,hvl,em,hk,hf,hw]
 |none=>
  rw[h]at hr
  obtain⟨p,⟨cs,rfl,hcs,hcn,hct⟩,rfl⟩:=hr
  have hf:iQ t=false:=by rw[iQ,h]
  simp (disch:=omega)only[↓pa,pb,aj,ah,af,↓reduceIte,reduceEqDiff,reduceAdd,reduceLeDiff,hcs,dJ,hf]
theorem Cf(K:bH cf):ar cf 191 [eu] [] st=some (.bool false,st):=by
 have hd:eu=VB (.mk (-1) 0 0 [] [] []):=by rw[VB,V.cb];rfl
 refine cB K.tab (F:=F191) (t:=2) rfl rfl rfl (lb rfl) (by rw[hd];simp[yI]) (bD _) 1 ?_
 unfold F191 qg qr qd qm qi qc qb qk ql qf qa qx qy qn qo
 simp only[↓pa,pb,aj,↓reduceIte,reduceEqDiff,reduceAdd,Int.reduceLT,eu]
theorem s6(K:bH cf)(t:List UInt8):ar cf 167 [S t] [] st=some (.bool (iQ t),st):=by
 refine cB K.tab (F:=F167) (t:=2) rfl rfl rfl (lb rfl) (by simp[cD]) (bD _) 1 ?_
 unfold F167 qr qm qc qk ql qf qt qy qs qo qN
 simp only[↓pa,pb,↓reduceIte,reduceCtorEq]
 refine zI (Ka K) (fun r fl hr=>?_)
 unfold uS at hr
 cases h:fW t with
 |some v=>
  rw[h]at hr
  have hr:r=VB v:=hr
  subst hr
  have hvl:=v.cb_len
  have hg:=wT h
  have hw:=C8 K v hg
  have hf:iQ t=(decide (v.kind≠0) && v.plain):=by rw[iQ,h,V.plain_wild v hg]
  by_cases hk:v.kind=0
  ·simp (disch:=omega)only[↓pa,pb,aj,↓reduceIte,reduceEqDiff,reduceAdd,reduceLeDiff,dD,hvl,dJ,D2,hk,hf]
  ·simp (disch:=omega)only[↓pa,pb,aj,↓reduceIte,reduceEqDiff,reduceAdd,reduceLeDiff,dD,hvl,dJ,em,D2,hk,hf,hw]
 |none=>
  rw[h]at hr
  have hr:r=eu:=hr
  subst hr
  have hf:iQ t=false:=by rw[iQ,h]
  simp only[↓pa,pb,aj,↓reduceIte,reduceEqDiff,reduceAdd,reduceLeDiff,dD,reduceCtorEq,eu]
  rw[←eu]
  simp only[↓pa,pb,↓reduceIte,reduceEqDiff,Cf K,hf]
abbrev Fd:=List UInt8×List UInt8
def fc(f:Fd):List PV:=[S f.1,S f.2]
@[reducible] def FX (l:List Fd):PV:= .list l.length (l.flatMap fc) .no
theorem uc(f:Fd):(fc f).length=2:=rfl
theorem qp(l:List Fd):(l.flatMap fc).length=l.length*2:=by
 induction l with
 |nil=>rfl
 |cons f l ih=>rw[aI,ak,ih,uc,ao];omega
theorem H7(f:Fd):b8 (fc f):=bq (cD _) (bq (cD _) dK)
theorem jJ(l:List Fd):b8 (l.flatMap fc):=by
 induction l with
 |nil=>exact dK
 |cons f l ih=>rw[aI];exact lR (H7 f) ih
theorem ly(l:List Fd):cL (FX l):=eB (jJ l)
theorem Hs{l:List Fd}{j:Nat}(h:j<l.length):bT (l.flatMap fc) (j*2) 2 true=some (.agg [S l[j].1,S l[j].2]):=by
 have:=cR fc 2 uc 0 2 true (by decide) l j h
 rw[show j*2=j*2+0 from rfl,this]
 rfl
theorem sf{l:List Fd}{j:Nat}(h:j<l.length):bT (l.flatMap fc) (j*2) 1 false=some (S l[j].1):=by
 have:=cR fc 2 uc 0 1 false (by decide) l j h
 rw[show j*2=j*2+0 from rfl,this]
 rfl
theorem AF{l:List Fd}{j:Nat}(h:j<l.length):bT (l.flatMap fc) (j*2+1) 1 false=some (S l[j].2):=by
 have:=cR fc 2 uc 1 1 false (by decide) l j h
 rw[this]
 rfl
def vr(l:List Fd)(i:Nat):Fd:=l.getD i ([],[])
theorem qq{l:List Fd}{i:Nat}(h:i<l.length):vr l i=l[i]:=by simp[vr,h]
def mo(l:List Fd)(i:Nat):Bool:=decide (i=0)||ej (vr l (i-1)).1 (vr l i).1
def dx(l:List Fd)(i:Nat):Bool:=dE (vr l i).1 && (mo l i && iQ (vr l i).2)
def fT(l:List Fd):Bool:=decide ((l.length:Int)≤20) && kl l.length (dx l)
set_option maxHeartbeats 1000000 in
theorem Br(K:bH cf)(l:List Fd):ar cf 126 [FX l] [] st=some (.bool (fT l),st):=by
 refine cB K.tab (F:=F126) (t:=2) rfl rfl rfl (lb rfl) (by simp[ly]) (bD _) (l.length+1) ?_
 have hm:=qp l
 unfold F126 qg qr qd qm qi qc qb qk ql qf qt qa qx qn qs qo
 simp only[↓pa,pb,↓reduceIte,reduceCtorEq]
 refine ab (fun h1=>?_) (fun h1=>?_)
 ·simp only[↓pa,pb,↓reduceIte,h1]
  have:¬ ((l.length:Int)≤20):=by omega
  simp only[fT,this,decide_false,fP]
 have h1':(l.length:Int)≤20:=by omega
 simp only[↓pa,pb,↓reduceIte,reduceCtorEq,h1]
 refine aX (fun k fr st=>∃ i:Nat,k=l.length-i∧i≤l.length∧fr 0=FX l∧fr 8=FX l∧fr 9=I l.length∧fr 10=I i∧∀ j,j<i→dx l j=true) l.length (by omega) ⟨0,by simp,by omega,by simp only[↓pa,↓reduceIte,reduceCtorEq],by simp only[↓pa,↓reduceIte,reduceEqDiff],by simp only[↓pa,↓reduceIte,reduceEqDiff],by simp only[↓pa,↓reduceIte];rfl,fun j hj=>by omega⟩ ?_
 rintro k fr st ⟨i,rfl,hi,f0,f8,f9,f10,hall⟩
 simp only[↓pa,pb,aT,↓reduceIte,f9,f10]
 refine ab (fun h4=>?_) (fun h4=>?_)
 rotate_left
 ·simp only[↓pa,pb,↓reduceIte,h4]
  have ha:kl l.length (dx l)=true:=jB fun j hj=>hall j (by omega)
  simp only[fT,decide_eq_true h1',ha,am]
 have hlt:i<l.length:=h4
 have bad:dx l i=false→fT l=false:=fun h=>by rw[fT,eY hlt h,l5]
 have ea:vr l i=l[i]:=qq hlt
 simp (disch:=omega)only[↓pa,pb,aj,↓reduceIte,reduceEqDiff,reduceAdd,reduceLeDiff,f8,f10,Hs hlt,uh K.tab]
 refine ab (fun h5=>?_) (fun h5=>?_)
 rotate_left
 ·simp only[↓pa,pb,↓reduceIte,reduceEqDiff,h5]
  rw[bad (by rw[dx,ea];simp[h5])]
 simp only[↓pa,pb,↓reduceIte,reduceEqDiff,h5]
 refine ab (fun h6=>?_) (fun h6=>?_)
 ·have h6':0<i:=by omega
  have hp:((i:Int) -1).toNat=i-1:=by omega
  have eb:vr l (i-1)=l[i-1]:=qq (by omega)
  have er:mo l i=ej l[i-1].1 l[i].1:=by rw[mo,ea,eb,decide_eq_false (by omega),Bool.false_or]
  simp (disch:=omega)only[↓pa,pb,aj,↓reduceIte,reduceEqDiff,reduceCtorEq,f0,h6,hp,bh,sf (show i-1<l.length by omega)]
  refine ab (fun h7=>?_) (fun h7=>?_)
  rotate_left
  ·simp only[↓pa,pb,↓reduceIte,reduceEqDiff,h7]
   rw[bad (by rw[dx,er];simp[h7])]
  simp only[↓pa,pb,aj,↓reduceIte,reduceEqDiff,reduceAdd,h7,uj K]
  refine ab (fun h8=>?_) (fun h8=>?_)
  ·simp (disch:=omega)only[↓pa,pb,aT,↓reduceIte,reduceEqDiff,reduceCtorEq,f0,f8,f9,f10,h8]
   have ok:dx l i=true:=by rw[dx,er,ea];simp[h5,h8];try exact h7
   exact⟨l.length- (i+1),by omega,i+1,rfl,by omega,rfl,eX hall ok⟩
  ·simp only[↓pa,pb,↓reduceIte,h8]
   rw[bad (by rw[dx,er,ea];simp[h8])]
 ·have er:mo l i=true:=by rw[mo,decide_eq_true (by omega)];rfl
  simp only[↓pa,pb,aj,↓reduceIte,reduceEqDiff,reduceAdd,h6,uj K]
  refine ab (fun h8=>?_) (fun h8=>?_)
  ·simp (disch:=omega)only[↓pa,pb,aT,↓reduceIte,reduceEqDiff,reduceCtorEq,f0,f8,f9,f10,h8]
   have ok:dx l i=true:=by rw[dx,er,ea];simp[h5,h8];try exact h7
   exact⟨l.length- (i+1),by omega,i+1,rfl,by omega,rfl,eX hall ok⟩
  ·simp only[↓pa,pb,↓reduceIte,h8]
   rw[bad (by rw[dx,er,ea];simp[h8])]
set_option maxHeartbeats 1000000 in
theorem zw(K:bH cf)(l:List Fd):ar cf 120 [FX l] [] st=some (.bool (fT l),st):=by
 refine cB K.tab (F:=F120) (t:=2) rfl rfl rfl (lb rfl) (by simp[ly]) (bD _) (l.length+1) ?_
 have hm:=qp l
 unfold F120 qg qr qd qm qi qc qb qk ql qf qt qa qx qn qo
 simp only[↓pa,pb,↓reduceIte,reduceCtorEq]
 refine ab (fun h1=>?_) (fun h1=>?_)
 ·simp only[↓pa,pb,↓reduceIte,h1]
  have:¬ ((l.length:Int)≤20):=by omega
  simp only[fT,this,decide_false,fP]
 have h1':(l.length:Int)≤20:=by omega
 simp only[↓pa,pb,h1]
 refine aX (fun k fr st=>∃ i:Nat,k=l.length-i∧i≤l.length∧fr 0=FX l∧fr 3=I i∧∀ j,j<i→dx l j=true) l.length (by omega) ⟨0,by simp,by omega,by simp only[↓pa,↓reduceIte,reduceCtorEq],by simp only[↓pa,↓reduceIte];rfl,fun j hj=>by omega⟩ ?_
 rintro k fr st ⟨i,rfl,hi,f0,f3,hall⟩
 simp only[↓pa,pb,aT,↓reduceIte,reduceEqDiff,reduceCtorEq,f0,f3]
 refine ab (fun h4=>?_) (fun h4=>?_)
 rotate_left
 ·simp only[↓pa,pb,↓reduceIte,h4]
  have ha:kl l.length (dx l)=true:=jB fun j hj=>hall j (by omega)
  simp only[fT,decide_eq_true h1',ha,am]
 have hlt:i<l.length:=h4
 have bad:dx l i=false→fT l=false:=fun h=>by rw[fT,eY hlt h,l5]
 have ea:vr l i=l[i]:=qq hlt
 simp (disch:=omega)only[↓pa,pb,↓reduceIte,reduceEqDiff,reduceCtorEq,f0,f3,bh,sf hlt,rN K.tab]
 refine ab (fun h5=>?_) (fun h5=>?_)
 rotate_left
 ·simp only[↓pa,pb,↓reduceIte,reduceEqDiff,h5]
  rw[bad (by rw[dx,ea];simp[h5])]
 simp only[↓pa,pb,↓reduceIte,reduceEqDiff,f3,h5]
 refine ab (fun h6=>?_) (fun h6=>?_)
 ·have h6':0<i:=by omega
  have hp:((i:Int) -1).toNat=i-1:=by omega
  have eb:vr l (i-1)=l[i-1]:=qq (by omega)
  have er:mo l i=ej l[i-1].1 l[i].1:=by rw[mo,ea,eb,decide_eq_false (by omega),Bool.false_or]
  simp (disch:=omega)only[↓pa,pb,↓reduceIte,reduceEqDiff,reduceCtorEq,f0,f3,h6,hp,bh,sf (show i-1<l.length by omega),sf hlt]
  refine ab (fun h7=>?_) (fun h7=>?_)
  rotate_left
  ·simp only[↓pa,pb,↓reduceIte,reduceEqDiff,h7]
   rw[bad (by rw[dx,er];simp[h7])]
  simp (disch:=omega)only[↓pa,pb,↓reduceIte,reduceEqDiff,reduceCtorEq,f0,f3,h7,AF hlt,s6 K]
  refine ab (fun h8=>?_) (fun h8=>?_)
  ·simp (disch:=omega)only[↓pa,pb,aT,↓reduceIte,reduceEqDiff,reduceCtorEq,f0,f3,h8]
   have ok:dx l i=true:=by rw[dx,er,ea];simp[h5,h8];try exact h7
   exact⟨l.length- (i+1),by omega,i+1,rfl,by omega,rfl,eX hall ok⟩
  ·simp only[↓pa,pb,↓reduceIte,h8]
   rw[bad (by rw[dx,er,ea];simp[h8])]
 ·have er:mo l i=true:=by rw[mo,decide_eq_true (by omega)];rfl
  simp (disch:=omega)only[↓pa,pb,↓reduceIte,reduceEqDiff,reduceCtorEq,f0,f3,h6,AF hlt,s6 K]
  refine ab (fun h8=>?_) (fun h8=>?_)
  ·simp (disch:=omega)only[↓pa,pb,aT,↓reduceIte,reduceEqDiff,reduceCtorEq,f0,f3,h8]
   have ok:dx l i=true:=by rw[dx,er,ea];simp[h5,h8];try exact h7
   exact⟨l.length- (i+1),by omega,i+1,rfl,by omega,rfl,eX hall ok⟩
  ·simp only[↓pa,pb,↓reduceIte,h8]
   rw[bad (by rw[dx,er,ea];simp[h8])]
structure Nd where
 id:Int
 labels:List (List UInt8)
 fields:List Fd
structure Eg where
 id:Int
 type:List UInt8
 src:Int
 dst:Int
 fields:List Fd
structure bj where
 nodes:List Nd
 edges:List Eg
def nc(n:Nd):List PV:=[I n.id,TX n.labels,FX n.fields]
def ec(e:Eg):List PV:=[I e.id,S e.type,I e.src,I e.dst,FX e.fields]
@[reducible] def NX (l:List Nd):PV:= .list l.length (l.flatMap nc) .no
@[reducible] def EX (l:List Eg):PV:= .list l.length (l.flatMap ec) .no
def gc(g:bj):List PV:=[NX g.nodes,EX g.edges]
theorem dI(n:Nd):(nc n).length=3:=rfl
theorem dl(e:Eg):(ec e).length=5:=rfl
theorem ce{α:Type}(enc:α→List PV)(m:Nat)(h:∀ a,(enc a).length=m)(l:List α):(l.flatMap enc).length=l.length*m:=by
 induction l with
 |nil=>simp
 |cons a l ih=>rw[aI,ak,ih,h,ao,fb];omega
theorem fw{α:Type}(enc:α→List PV)(h:∀ a,b8 (enc a))(l:List α):b8 (l.flatMap enc):=by
 induction l with
 |nil=>exact dK
 |cons a l ih=>rw[aI];exact lR (h a) ih
theorem gE(n:Nd):b8 (nc n):=bq (aQ _ _) (bq (iH _) (bq (ly _) dK))
theorem jL(e:Eg):b8 (ec e):=bq (aQ _ _) (bq (cD _) (bq (aQ _ _) (bq (aQ _ _) (bq (ly _) dK))))
theorem yJ(l:List Nd):cL (NX l):=eB (fw nc gE l)
theorem m3(l:List Eg):cL (EX l):=eB (fw ec jL l)
theorem qj(g:bj):b8 (gc g):=bq (yJ _) (bq (m3 _) dK)
theorem hY(n:Nd):cL (.agg (nc n)):=fu (gE n)
theorem hZ(e:Eg):cL (.agg (ec e)):=fu (jL e)
theorem gQ(g:bj):cL (.agg (gc g)):=fu (qj g)
def nC(n:Nd):Bool:=jI n.id && (gF 10 n.labels && fT n.fields)
def mr(e:Eg):Bool:=jI e.id && (dE e.type && (jI e.src && (jI e.dst && fT e.fields)))
theorem Iu(K:bH cf)(n:Nd):ar cf 88 [.agg (nc n)] [] st=some (.bool (nC n),st):=by
 refine cB K.tab (F:=F88) (t:=2) rfl rfl rfl (lb rfl) (by simp[hY]) (bD _) 1 ?_
 unfold F88 qr qm qc ql qf qt qy qo nC
 simp only[↓pa,pb,aj,↓reduceIte,reduceEqDiff,reduceAdd,nc,xH K.tab]
 cases h1:jI n.id
 ·simp only[↓pa,pb,↓reduceIte,reduceEqDiff]
 simp only[↓pa,pb,aj,↓reduceIte,reduceEqDiff,reduceAdd,IA K.tab n.labels 10 (by decide)]
 cases h2:gF 10 n.labels
 ·simp only[↓pa,pb,↓reduceIte,reduceEqDiff]
 simp only[↓pa,pb,aj,↓reduceIte,reduceEqDiff,reduceAdd,Br K n.fields]
theorem Gu(K:bH cf)(n:Nd):ar cf 81 [.agg (nc n)] [] st=some (.bool (nC n),st):=by
 refine cB K.tab (F:=F81) (t:=2) rfl rfl rfl (lb rfl) (by simp[hY]) (bD _) 1 ?_
 unfold F81 qr qm qc ql qf qt qy qo nC
 simp only[↓pa,pb,aj,↓reduceIte,reduceEqDiff,reduceAdd,nc,uM K.tab]
 cases h1:jI n.id
 ·simp only[↓pa,pb,↓reduceIte,reduceEqDiff]
 simp only[↓pa,pb,aj,↓reduceIte,reduceEqDiff,reduceAdd,Gw K.tab n.labels]
 cases h2:gF 10 n.labels
 ·simp only[↓pa,pb,↓reduceIte,reduceEqDiff]
 simp only[↓pa,pb,aj,↓reduceIte,reduceEqDiff,reduceAdd,zw K n.fields]
theorem IC(K:bH cf)(e:Eg):ar cf 89 [.agg (ec e)] [] st=some (.bool (mr e),st):=by
 refine cB K.tab (F:=F89) (t:=2) rfl rfl rfl (lb rfl) (by simp[hZ]) (bD _) 1 ?_
 unfold F89 qr qm qc ql qf qt qy qo mr
 simp only[↓pa,pb,aj,↓reduceIte,reduceEqDiff,reduceAdd,ec,xH K.tab]
 cases h1:jI e.id
 ·simp only[↓pa,pb,↓reduceIte,reduceEqDiff]
 simp only[↓pa,pb,aj,↓reduceIte,reduceEqDiff,reduceAdd,uh K.tab]
 cases h2:dE e.type
 ·simp only[↓pa,pb,↓reduceIte,reduceEqDiff]
 simp only[↓pa,pb,aj,↓reduceIte,reduceEqDiff,reduceAdd,xH K.tab]
 cases h3:jI e.src
 ·simp only[↓pa,pb,↓reduceIte,reduceEqDiff]
 simp only[↓pa,pb,aj,↓reduceIte,reduceEqDiff,reduceAdd,xH K.tab]
 cases h4:jI e.dst
 ·simp only[↓pa,pb,↓reduceIte,reduceEqDiff]
 simp only[↓pa,pb,aj,↓reduceIte,reduceEqDiff,reduceAdd,Br K e.fields]
theorem Gy(K:bH cf)(e:Eg):ar cf 82 [.agg (ec e)] [] st=some (.bool (mr e),st):=by
 refine cB K.tab (F:=F82) (t:=2) rfl rfl rfl (lb rfl) (by simp[hZ]) (bD _) 1 ?_
 unfold F82 qr qm qc ql qf qt qy qo mr
 simp only[↓pa,pb,aj,↓reduceIte,reduceEqDiff,reduceAdd,ec,uM K.tab]
 cases h1:jI e.id
 ·simp only[↓pa,pb,↓reduceIte,reduceEqDiff]
 simp only[↓pa,pb,aj,↓reduceIte,reduceEqDiff,reduceAdd,rN K.tab]
 cases h2:dE e.type
 ·simp only[↓pa,pb,↓reduceIte,reduceEqDiff]
 simp only[↓pa,pb,aj,↓reduceIte,reduceEqDiff,reduceAdd,uM K.tab]
 cases h3:jI e.src
 ·simp only[↓pa,pb,↓reduceIte,reduceEqDiff]
 simp only[↓pa,pb,aj,↓reduceIte,reduceEqDiff,reduceAdd,uM K.tab]
 cases h4:jI e.dst
 ·simp only[↓pa,pb,↓reduceIte,reduceEqDiff]
 simp only[↓pa,pb,aj,↓reduceIte,reduceEqDiff,reduceAdd,zw K e.fields]
theorem k9{l:List Nd}{j:Nat}(h:j<l.length):bT (l.flatMap nc) (j*3) 3 true=some (.agg (nc l[j])):=by
 have:=cR nc 3 dI 0 3 true (by decide) l j h
 rw[show j*3=j*3+0 from rfl,this]
 exact qX (dI _)
theorem m4{l:List Nd}{j:Nat}(h:j<l.length):bT (l.flatMap nc) (j*3) 1 false=some (I l[j].id):=by
 have:=cR nc 3 dI 0 1 false (by decide) l j h
 rw[show j*3=j*3+0 from rfl,this]
 rfl
theorem lc{l:List Eg}{j:Nat}(h:j<l.length):bT (l.flatMap ec) (j*5) 5 true=some (.agg (ec l[j])):=by
 have:=cR ec 5 dl 0 5 true (by decide) l j h
 rw[show j*5=j*5+0 from rfl,this]
 exact qX (dl _)
theorem oN{l:List Eg}{j:Nat}(h:j<l.length):bT (l.flatMap ec) (j*5) 1 false=some (I l[j].id):=by
 have:=cR ec 5 dl 0 1 false (by decide) l j h
 rw[show j*5=j*5+0 from rfl,this]
 rfl
def kJ(id:Int):List Nd→Nat→Int
 | [],_=> -1
 |n::l,k=>if n.id=id then(k:Int)else kJ id l (k+1)
def df(l:List Nd)(id:Int):Int:=kJ id l 0
def fO(l:List Nd)(id:Int):Bool:=l.any fun n=>decide (n.id=id)
theorem lA(id:Int):∀ (l:List Nd) (k:Nat),(kJ id l k<0)=(fO l id=false)
 | [],_=>by simp[kJ,fO]
 |n::l,k=>by
  have ih:=lA id l (k+1)
  unfold kJ fO
  by_cases h:n.id=id
  ·rw[ai h]
   simp[h]
  ·rw[ad h,ih]
   simp[fO,h]
theorem Gv(K:bH cf)(g:bj)(id:Int)(hl:g.nodes.length≤2000000):ar cf 83 [.agg (gc g),I id] [] st=some (I (df g.nodes id),st):=by
 refine cB K.tab (F:=F83) (t:=4) rfl rfl rfl (lb rfl) (by simp[gQ,aQ]) (dn _ _) (g.nodes.length+1) ?_
 have hm:=ce nc 3 dI g.nodes
 unfold F83 qr qd qm qi qb qk ql qf qa qn qo
 simp only[↓pa,aj,↓reduceIte,reduceAdd,gc]
 refine aX (fun k fr st=>∃ i:Nat,k=g.nodes.length-i∧i≤g.nodes.length∧fr 1=I id∧fr 2= .ptr 2 0∧st.objs 2=some [NX g.nodes,EX g.edges]∧fr 5=I i∧kJ id (g.nodes.drop i) i=df g.nodes id) g.nodes.length (by omega) ⟨0,by simp,by omega,by simp only[↓pa,pb,↓reduceIte,reduceEqDiff],by simp only[↓pa,↓reduceIte,reduceEqDiff],by simp only[pb,↓reduceIte],by simp only[↓pa,↓reduceIte];rfl,rfl⟩ ?_
 rintro k fr st ⟨i,rfl,hi,f1,f2,o2,f5,hQ⟩
 simp only[↓pa,pb,aj,aT,↓reduceIte,reduceEqDiff,reduceAdd,f2,o2,f5]
 refine ab (fun h1=>?_) (fun h1=>?_)
 ·rw[aK h1,kJ]at hQ
  simp (disch:=omega)only[↓pa,pb,aj,↓reduceIte,reduceEqDiff,f1,f2,o2,f5,bh,m4 h1]
  refine ab (fun h2=>?_) (fun h2=>?_)
  ·rw[ai h2]at hQ
   simp only[↓pa,pb,↓reduceIte,reduceEqDiff,f5,h2]
   rw[←hQ]
  ·rw[ad h2]at hQ
   simp (disch:=omega)only[↓pa,pb,aT,↓reduceIte,reduceEqDiff,f1,f2,o2,f5,h2]
   exact⟨g.nodes.length- (i+1),by omega,i+1,rfl,by omega,rfl,hQ⟩
 ·have:i=g.nodes.length:=by omega
  rw[this,List.drop_length]at hQ
  simp only[↓pa,pb,↓reduceIte,h1]
  rw[←hQ];rfl
def q8(l:List Nd)(i:Nat):Nd:=l.getD i ⟨0,[],[]⟩
def qw(l:List Eg)(i:Nat):Eg:=l.getD i ⟨0,[],0,0,[]⟩
theorem oQ{l:List Nd}{i:Nat}(h:i<l.length):q8 l i=l[i]:=by simp[q8,h]
theorem nI{l:List Eg}{i:Nat}(h:i<l.length):qw l i=l[i]:=by simp[qw,h]
def oO(l:List Nd)(i:Nat):Bool:=decide (i=0)||decide ((q8 l (i-1)).id<(q8 l i).id)
def kY(l:List Eg)(i:Nat):Bool:=decide (i=0)||decide ((qw l (i-1)).id<(qw l i).id)
def dS(l:List Nd)(i:Nat):Bool:=nC (q8 l i) && oO l i
def bZ(g:bj)(i:Nat):Bool:=mr (qw g.edges i) && (kY g.edges i && (fO g.nodes (qw g.edges i).src && fO g.nodes (qw g.edges i).dst))
def bY(g:bj):Bool:=(decide ((g.nodes.length:Int)≤200) && decide ((g.edges.length:Int)≤400)) && (kl g.nodes.length (dS g.nodes) && kl g.edges.length (bZ g))
def lk(g:bj):Int:=if bY g then 0 else 1
theorem iK{g:bj}(h:bY g=false):lk g=1:=by rw[lk,h];rfl
set_option maxHeartbeats 2000000 in
theorem Kn(K:bH cf)(g:bj):ar cf 40 [.agg (gc g)] [] st=some (I (lk g),st):=by
 refine cB K.tab (F:=F40) (t:=2) rfl rfl rfl (lb rfl) (by simp[gQ]) (dn _ _) (g.nodes.length+g.edges.length+1) ?_
 have hm:=ce nc 3 dI g.nodes
 have hm2:=ce ec 5 dl g.edges
 unfold F40 qg qr qd qm qi qb qk ql qf qt qa qx qn qs qo qN
 simp only[↓pa,pb,aj,↓reduceIte,reduceEqDiff,reduceAdd,gc]
 refine ab (fun l1=>?_) (fun l1=>?_)
 ·simp only[↓pa,pb,↓reduceIte,reduceEqDiff,l1]
  rw[iK (by rw[bY,decide_eq_false (by omega)];simp)]
 simp only[↓pa,pb,aj,↓reduceIte,reduceEqDiff,reduceAdd,l1]
 refine ab (fun l2=>?_) (fun l2=>?_)
 ·simp only[↓pa,pb,↓reduceIte,l2]
  rw[iK (by rw[bY,decide_eq_false (p:=(g.edges.length:Int)≤400) (by omega)];simp)]
 have l1':(g.nodes.length:Int)≤200:=by omega
 have l2':(g.edges.length:Int)≤400:=by omega
 simp only[↓pa,pb,l2]
 refine aX (fun k fr st=>∃ i:Nat,k=g.nodes.length-i∧i≤g.nodes.length∧fr 1= .ptr 1 0∧st.objs 1=some [NX g.nodes,EX g.edges]∧fr 3=I i∧∀ j,j<i→dS g.nodes j=true) g.nodes.length (by omega) ⟨0,by simp,by omega,by simp only[↓pa,↓reduceIte,reduceEqDiff],by simp only[pb,↓reduceIte],by simp only[↓pa,↓reduceIte];rfl,fun j hj=>by omega⟩ ?_
 rintro k fr st ⟨i,rfl,hi,f1,o1,f3,hall⟩
 simp only[↓pa,pb,aj,aT,↓reduceIte,reduceEqDiff,reduceAdd,f1,o1,f3]
 refine ab (fun h1=>?_) (fun h1=>?_)
 ·have hlt:i<g.nodes.length:=h1
  have ea:q8 g.nodes i=g.nodes[i]:=oQ hlt
  simp (disch:=omega)only[↓pa,pb,aj,↓reduceIte,reduceEqDiff,reduceAdd,f1,o1,f3,h1,k9 hlt,Gu K]
  refine ab (fun h5=>?_) (fun h5=>?_)
  rotate_left
  ·have nb:dS g.nodes i=false:=by rw[dS,ea];simp[h5]
   simp only[↓pa,pb,↓reduceIte,reduceEqDiff,h5]
   rw[iK (by rw[bY,eY hlt nb];simp)]
  simp only[↓pa,pb,↓reduceIte,reduceEqDiff,f3,h5]
  refine ab (fun h6=>?_) (fun h6=>?_)
  ·have hp:((i:Int) -1).toNat=i-1:=by omega
   have h6':0<i:=by omega
   have eb:q8 g.nodes (i-1)=g.nodes[i-1]:=oQ (by omega)
   simp (disch:=omega)only[↓pa,pb,aj,↓reduceIte,reduceEqDiff,f1,o1,f3,h6,hp,bh,m4 (show i-1<g.nodes.length by omega),m4 hlt]
   refine ab (fun h7=>?_) (fun h7=>?_)
   ·have nb:dS g.nodes i=false:=by rw[dS,oO,ea,eb,decide_eq_false (p:=i=0) (by omega),decide_eq_false (by omega)];simp
    simp only[↓pa,pb,↓reduceIte,h7]
    rw[iK (by rw[bY,eY hlt nb];simp)]
   ·have ok:dS g.nodes i=true:=by rw[dS,oO,ea,eb,h5,decide_eq_true (p:=g.nodes[i-1].id<g.nodes[i].id) (by omega)];simp
    simp (disch:=omega)only[↓pa,pb,aT,↓reduceIte,reduceEqDiff,f1,o1,f3,h7]
    exact⟨g.nodes.length- (i+1),by omega,i+1,rfl,by omega,rfl,eX hall ok⟩
  ·have ok:dS g.nodes i=true:=by rw[dS,oO,ea,h5,decide_eq_true (p:=i=0) (by omega)];rfl
   simp (disch:=omega)only[↓pa,pb,aT,↓reduceIte,reduceEqDiff,f1,o1,f3,h6]
   exact⟨g.nodes.length- (i+1),by omega,i+1,rfl,by omega,rfl,eX hall ok⟩
 have hn:kl g.nodes.length (dS g.nodes)=true:=jB fun j hj=>hall j (by omega)
 simp only[↓pa,pb,h1]
 clear hall f3
 revert f1 o1
 generalize hfr:fr=fr0
 intro f1 o1
 refine aX (fun k fr st=>∃ i:Nat,k=g.edges.length-i∧i≤g.edges.length∧fr 1= .ptr 1 0∧st.objs 1=some [NX g.nodes,EX g.edges]∧fr 4=I i∧∀ j,j<i→bZ g j=true) g.edges.length (by omega) ⟨0,by simp,by omega,by simp only[↓pa,↓reduceIte,reduceEqDiff,f1],by simp only[o1],by simp only[↓pa,↓reduceIte];rfl,fun j hj=>by omega⟩ ?_
 rintro k fr st ⟨i,rfl,hi,f1,o1,f4,hall⟩
 simp only[↓pa,pb,aj,aT,↓reduceIte,reduceEqDiff,reduceAdd,f1,o1,f4]
 refine ab (fun k1=>?_) (fun k1=>?_)
 rotate_left
 ·have he:kl g.edges.length (bZ g)=true:=jB fun j hj=>hall j (by omega)
  simp only[↓pa,pb,↓reduceIte,k1]
  rw[lk,bY,hn,he,decide_eq_true l1',decide_eq_true l2'];rfl
 have hlt:i<g.edges.length:=k1
 have ea:qw g.edges i=g.edges[i]:=nI hlt
 have hec:(ec g.edges[i]).length=5:=rfl
 have hna:∀ id st,ar cf 83 [.agg [NX g.nodes,EX g.edges],I id] [] st=some (I (df g.nodes id),st):=fun id st=>Gv K g id (by omega)
 have heo:∀ st,ar cf 82 [.agg [I g.edges[i].id,S g.edges[i].type,I g.edges[i].src,I g.edges[i].dst,FX g.edges[i].fields]] [] st=some (.bool (mr g.edges[i]),st):=fun st=>Gy K g.edges[i]
 simp (disch:=omega)only[↓pa,pb,aj,↓reduceIte,reduceEqDiff,reduceAdd,reduceLeDiff,f1,o1,f4,k1,lc hlt,ec,heo]
 refine ab (fun h5=>?_) (fun h5=>?_)
 rotate_left
 ·have nb:bZ g i=false:=by rw[bZ,ea];simp[h5]
  simp only[↓pa,pb,↓reduceIte,reduceEqDiff,h5]
  rw[iK (by rw[bY,eY hlt nb];simp)]
 simp only[↓pa,pb,↓reduceIte,reduceEqDiff,f4,h5]
 refine ab (fun h6=>?_) (fun h6=>?_)
 ·have hp:((i:Int) -1).toNat=i-1:=by omega
  have h6':0<i:=by omega
  have eb:qw g.edges (i-1)=g.edges[i-1]:=nI (by omega)
  simp (disch:=omega)only[↓pa,pb,aj,↓reduceIte,reduceEqDiff,reduceAdd,f1,o1,f4,h6,hp,bh,oN (show i-1<g.edges.length by omega)]
  refine ab (fun h7=>?_) (fun h7=>?_)
  ·have nb:bZ g i=false:=by rw[bZ,kY,ea,eb,decide_eq_false (p:=i=0) (by omega),decide_eq_false (p:=g.edges[i-1].id<g.edges[i].id) (by omega)];simp
   simp only[↓pa,pb,↓reduceIte,reduceEqDiff,h7]
   rw[iK (by rw[bY,eY hlt nb];simp)]
  ·have er:kY g.edges i=true:=by rw[kY,ea,eb,decide_eq_true (p:=g.edges[i-1].id<g.edges[i].id) (by omega)];simp
   simp only[↓pa,pb,aj,↓reduceIte,reduceEqDiff,reduceAdd,reduceLeDiff,f1,o1,h7,hna]
   refine ab (fun h8=>?_) (fun h8=>?_)
   ·have nb:bZ g i=false:=by rw[df,lA]at h8;rw[bZ,ea,h8];simp
    simp only[↓pa,pb,↓reduceIte,reduceEqDiff,h8]
    rw[iK (by rw[bY,eY hlt nb];simp)]
   simp only[↓pa,pb,aj,↓reduceIte,reduceEqDiff,reduceAdd,reduceLeDiff,f1,o1,h8,hna]
   refine ab (fun h9=>?_) (fun h9=>?_)
   ·have nb:bZ g i=false:=by rw[df,lA]at h9;rw[bZ,ea,h9];simp
    simp only[↓pa,pb,↓reduceIte,h9]
    rw[iK (by rw[bY,eY hlt nb];simp)]
   ·have ok:bZ g i=true:=by
     rw[df,lA]at h8 h9
     rw[Bool.not_eq_false]at h8 h9
     rw[bZ,ea,h5,er,h8,h9];rfl
    simp (disch:=omega)only[↓pa,pb,aT,↓reduceIte,reduceEqDiff,f1,o1,f4,h9]
    exact⟨g.edges.length- (i+1),by omega,i+1,rfl,by omega,rfl,eX hall ok⟩
 ·have er:kY g.edges i=true:=by rw[kY,decide_eq_true (p:=i=0) (by omega)];rfl
  simp only[↓pa,pb,aj,↓reduceIte,reduceEqDiff,reduceAdd,reduceLeDiff,f1,o1,h6,hna]
  refine ab (fun h8=>?_) (fun h8=>?_)
  ·have nb:bZ g i=false:=by rw[df,lA]at h8;rw[bZ,ea,h8];simp
   simp only[↓pa,pb,↓reduceIte,reduceEqDiff,h8]
   rw[iK (by rw[bY,eY hlt nb];simp)]
  simp only[↓pa,pb,aj,↓reduceIte,reduceEqDiff,reduceAdd,reduceLeDiff,f1,o1,h8,hna]
  refine ab (fun h9=>?_) (fun h9=>?_)
  ·have nb:bZ g i=false:=by rw[df,lA]at h9;rw[bZ,ea,h9];simp
   simp only[↓pa,pb,↓reduceIte,h9]
   rw[iK (by rw[bY,eY hlt nb];simp)]
  ·have ok:bZ g i=true:=by
    rw[df,lA]at h8 h9
    rw[Bool.not_eq_false]at h8 h9
    rw[bZ,ea,h5,er,h8,h9];rfl
   simp (disch:=omega)only[↓pa,pb,aT,↓reduceIte,reduceEqDiff,f1,o1,f4,h9]
   exact⟨g.edges.length- (i+1),by omega,i+1,rfl,by omega,rfl,eX hall ok⟩
def tn(st:St)(s:Nat)(es:List (PV×PV)):St:={st with maps:=fun k=>if k=s then some es else st.maps k}
def tJ(kk:Nat)(m k v:PV)(st:St):Option (PV×St):=match m with
 | .mp s=>match st.maps s with
  |some es=>if jm k=kk∧np v=true then match iz k es 0 with
   |some (some (i,_))=>some (.hole,tn st s (es.set i (k,v)))
   |some none=>some (.hole,tn st s (es++[(k,v)]))
   |none=>none
   else none
  |none=>none
 |_=>none
def sk(ok:Bool)(zero:PV)(kk:Nat)(m k:PV)(st:St):Option (PV×St):=match m with
 | .mp s=>match st.maps s with
  |some es=>if jm k=kk then match iz k es 0 with
   |some (some (_,v))=>some (if ok then .tup [v,.bool true]else v,st)
   |some none=>some (if ok then .tup [zero,.bool false]else zero,st)
   |none=>none
   else none
  |none=>none
 |_=>none
theorem mh:
  (∀ {cf:au} {fr:Fr} {st:St} {s:Nat},ap cf fr st (some s) .mkmap=some (.mp s,tn st s []))∧
  (∀ {cf:au} {fr:Fr} {st:St} {d:Option Nat} {kk:Nat} {m k v:CX},ap cf fr st d (.mpset kk m k v)=tJ kk (m.ev fr) (k.ev fr) (v.ev fr) st)∧
  (∀ {cf:au} {fr:Fr} {st:St} {d:Option Nat} {ok:Bool} {zero:PV} {kk:Nat} {m k:CX},ap cf fr st d (.mpget ok zero kk m k)=sk ok zero kk (m.ev fr) (k.ev fr) st)∧
  (∀ {st:St} {s:Nat} {es:List (PV×PV)},(tn st s es).objs=st.objs)∧(∀ {st:St} {s:Nat} {es:List (PV×PV)} {k:Nat},(tn st s es).maps k=if k=s then some es else st.maps k):=⟨rfl,rfl,rfl,rfl,rfl⟩
def kW(k:Int):PV×PV:=(I k,I 1)
theorem lC(x:Int):∀ (ks:List Int) (j:Nat),(x∈ks→∃ i,i<ks.length∧ks[i]? =some x∧iz (I x) (ks.map kW) j=some (some (j+i,I 1)))∧(x∉ks→iz (I x) (ks.map kW) j=some none)
 | [],j=>⟨fun h=>by simp at h,fun _=>rfl⟩
 |k::ks,j=>by
  have ih:=lC x ks (j+1)
  have hf:iz (I x) ((k::ks).map kW) j=if x=k then some (some (j,I 1))else iz (I x) (ks.map kW) (j+1):=by
   rw[aF,iz]
   have:xh (I x) (kW k).1=some (x==k):=rfl
   rw[this]
   by_cases h:x=k
   ·have hb:(x==k)=true:=by simp[h]
    rw[hb,ai h];rfl
   ·have hb:(x==k)=false:=by simp[h]
    rw[hb,ad h]
  constructor
  ·intro h
   by_cases hk:x=k
   ·exact⟨0,by simp,by simp[hk],by rw[hf,ai hk];rfl⟩
   ·obtain⟨i,h1,h2,h3⟩:=ih.1 (by simpa [hk]using h)
    exact⟨i+1,by simpa using h1,by simpa using h2,by rw[hf,ad hk,h3];congr 3;omega⟩
  ·intro h
   simp only[aJ,not_or]at h
   rw[hf,ad h.1]
   exact ih.2 h.2
theorem As{ks:List Int}{x:Int}(hs:st.maps s=some (ks.map kW))(k:∀ ks':List Int,(∀ y,y∈ks'↔(y∈ks∨y=x))→A (mk .hole (tn st s (ks'.map kW)))):cT (tJ 0 (.mp s) (I x) (I 1) st) mk A:=by
 have h0:jm (I x)=0∧np (I 1)=true:=⟨rfl,rfl⟩
 by_cases hx:x∈ks
 ·obtain⟨i,h1,h2,h3⟩:=(lC x ks 0).1 hx
  simp only[tJ,hs,h0,h3,lL,if_true]
  rw[fj]
  have:(ks.map kW).set (0+i) (I x,I 1)=ks.map kW:=by
   apply mf
   intro q
   rw[List.getElem?_set]
   split
   ·rename_i e
    subst e
    simp only[bu,bg,h1,if_true,b7,h2,cp]
    rfl
   ·rfl
  rw[this]
  exact k ks fun y=>⟨.inl,fun h=>h.elim id fun e=>by rw[e];exact hx⟩
 ·have h3:=(lC x ks 0).2 hx
  simp only[tJ,hs,h0,h3,lL,if_true]
  rw[fj]
  have:ks.map kW++[(I x,I 1)]=(ks++[x]).map kW:=by simp[kW]
  rw[this]
  exact k (ks++[x]) fun y=>by simp
theorem sj{ks:List Int}{x:Int}(hs:st.maps s=some (ks.map kW)):sk false (I 0) 0 (.mp s) (I x) st=some (I (if x∈ks then 1 else 0),st):=by
 have h0:jm (I x)=0:=rfl
 by_cases hx:x∈ks
 ·obtain⟨i,h1,h2,h3⟩:=(lC x ks 0).1 hx
  simp only[sk,hs,h0,h3,if_true,hx,cA,if_false]
 ·have h3:=(lC x ks 0).2 hx
  simp only[sk,hs,h0,h3,if_true,hx,cA,if_false]
theorem xt{l:List Nd}{i:Nat}(h:i<l.length)(x:Int):(fO (l.take (i+1)) x=true)↔(fO (l.take i) x=true∨x=l[i].id):=by
 unfold fO
 rw[aL h,List.any_append]
 simp only[List.any_cons,List.any_nil,Bool.or_false,bP,decide_eq_true_eq]
 exact⟨fun h=>h.imp id Eq.symm,fun h=>h.imp id Eq.symm⟩
theorem zb{g:bj}{i:Nat}(hlt:i<g.nodes.length)(nb:dS g.nodes i=false):bY g=false:=by rw[bY,eY hlt nb];simp
theorem lV{g:bj}{i:Nat}(hlt:i<g.edges.length)(nb:bZ g i=false):bY g=false:=by rw[bY,eY hlt nb];simp
set_option maxHeartbeats 4000000 in
theorem zu(K:bH cf)(g:bj):ar cf 46 [.agg (gc g)] [] st=some (.bool (bY g),st):=by
 refine cB K.tab (F:=F46) (t:=2) rfl rfl rfl (lb rfl) (by simp[gQ]) (bD _) (g.nodes.length+g.edges.length+1) ?_
 have hm:=ce nc 3 dI g.nodes
 have hm2:=ce ec 5 dl g.edges
 unfold F46 qg qr qd qm qi qc qb qk ql qf qt qa qx qn qs qo qe qN
 simp only[↓pa,pb,aj,↓reduceIte,reduceEqDiff,reduceAdd,gc]
 refine ab (fun l1=>?_) (fun l1=>?_)
 ·simp only[↓pa,pb,↓reduceIte,reduceEqDiff,l1]
  rw[bY,decide_eq_false (by omega)];simp
 simp only[↓pa,pb,aj,↓reduceIte,reduceEqDiff,reduceAdd,l1]
 refine ab (fun l2=>?_) (fun l2=>?_)
 ·simp only[↓pa,pb,↓reduceIte,l2]
  rw[bY,decide_eq_false (p:=(g.edges.length:Int)≤400) (by omega)];simp
 have l1':(g.nodes.length:Int)≤200:=by omega
 have l2':(g.edges.length:Int)≤400:=by omega
 simp only[↓pa,pb,aj,↓reduceIte,reduceEqDiff,reduceAdd,mh,l2]
 refine aX (fun k fr st=>∃ (i:Nat) (ks:List Int),k=g.nodes.length-i∧i≤g.nodes.length∧fr 1= .ptr 1 0∧st.objs 1=some [NX g.nodes,EX g.edges]∧fr 3= .mp 18∧fr 20=NX g.nodes∧fr 21=I g.nodes.length∧fr 22=I i∧st.maps 18=some (ks.map kW)∧(∀ x,x∈ks↔fO (g.nodes.take i) x=true)∧∀ j,j<i→dS g.nodes j=true) g.nodes.length (by omega)
  ⟨0,[],by simp,by omega,by simp only[↓pa,pb,↓reduceIte,reduceEqDiff],by simp only[pb,↓reduceIte,mh],by simp only[↓pa,↓reduceIte,reduceEqDiff],by simp only[↓pa,↓reduceIte,reduceEqDiff],by simp only[↓pa,↓reduceIte,reduceEqDiff],by simp only[↓pa,↓reduceIte];rfl,by simp only[pb,↓reduceIte,mh]<;>rfl,by simp[fO],fun j hj=>by omega⟩ ?_
 rintro k fr st ⟨i,ks,rfl,hi,f1,o1,f3,f20,f21,f22,m18,hks,hall⟩
 simp only[↓pa,pb,aT,↓reduceIte,f21,f22]
 refine ab (fun h1=>?_) (fun h1=>?_)
 ·have hlt:i<g.nodes.length:=h1
  have ea:q8 g.nodes i=g.nodes[i]:=oQ hlt
  have hno:∀ st,ar cf 88 [.agg [I g.nodes[i].id,TX g.nodes[i].labels,FX g.nodes[i].fields]] [] st=some (.bool (nC g.nodes[i]),st):=fun st=>Iu K g.nodes[i]
  simp (disch:=omega)only[↓pa,pb,aj,↓reduceIte,reduceEqDiff,reduceAdd,reduceLeDiff,f20,f22,h1,k9 hlt,nc,hno]
  refine ab (fun h5=>?_) (fun h5=>?_)
  rotate_left
  ·have nb:dS g.nodes i=false:=by rw[dS,ea];simp[h5]
   simp only[↓pa,pb,↓reduceIte,reduceEqDiff,h5]
   rw[zb hlt nb]
  simp only[↓pa,pb,↓reduceIte,reduceEqDiff,h5]
  refine ab (fun h6=>?_) (fun h6=>?_)
  ·have hp:((i:Int) -1).toNat=i-1:=by omega
   have h6':0<i:=by omega
   have eb:q8 g.nodes (i-1)=g.nodes[i-1]:=oQ (by omega)
   simp (maxSteps:=1000000) (disch:=omega)only[↓pa,pb,aj,↓reduceIte,reduceEqDiff,f1,o1,h6,hp,bh,m4 (show i-1<g.nodes.length by omega)]
   refine ab (fun h7=>?_) (fun h7=>?_)
   ·have nb:dS g.nodes i=false:=by rw[dS,oO,ea,eb,decide_eq_false (p:=i=0) (by omega),decide_eq_false (p:=g.nodes[i-1].id<g.nodes[i].id) (by omega)];simp
    simp only[↓pa,pb,↓reduceIte,h7]
    rw[zb hlt nb]
   ·have ok:dS g.nodes i=true:=by rw[dS,oO,ea,eb,h5,decide_eq_true (p:=g.nodes[i-1].id<g.nodes[i].id) (by omega)];simp
    simp only[↓pa,pb,aj,↓reduceIte,reduceEqDiff,reduceAdd,mh,f3,h7]
    refine As (ks:=ks) (by simp only[pb,m18]) (fun ks' hks'=>?_)
    simp (disch:=omega)only[↓pa,pb,aT,↓reduceIte,reduceEqDiff,mh,f1,o1,f3,f20,f21,f22]
    exact⟨g.nodes.length- (i+1),by omega,i+1,ks',rfl,by omega,rfl,rfl,fun x=>by rw[hks',xt hlt,hks],eX hall ok⟩
  ·have ok:dS g.nodes i=true:=by rw[dS,oO,ea,h5,decide_eq_true (p:=i=0) (by omega)];rfl
   have h7:=h6
   simp only[↓pa,pb,aj,↓reduceIte,reduceEqDiff,reduceAdd,mh,f3,h7]
   refine As (ks:=ks) (by simp only[pb,m18]) (fun ks' hks'=>?_)
   simp (disch:=omega)only[↓pa,pb,aT,↓reduceIte,reduceEqDiff,mh,f1,o1,f3,f20,f21,f22]
   exact⟨g.nodes.length- (i+1),by omega,i+1,ks',rfl,by omega,rfl,rfl,fun x=>by rw[hks',xt hlt,hks],eX hall ok⟩
 have hn:kl g.nodes.length (dS g.nodes)=true:=jB fun j hj=>hall j (by omega)
 have hks:∀ x,x∈ks↔fO g.nodes x=true:=fun x=>by rw[hks x,bC (by omega)]
 simp only[↓pa,pb,aj,↓reduceIte,reduceEqDiff,reduceAdd,f1,o1,h1]
 clear hall f20 f21 f22
 refine aX (fun k fr st=>∃ i:Nat,k=g.edges.length-i∧i≤g.edges.length∧fr 1= .ptr 1 0∧st.objs 1=some [NX g.nodes,EX g.edges]∧fr 3= .mp 18∧fr 51=EX g.edges∧fr 52=I g.edges.length∧fr 53=I i∧st.maps 18=some (ks.map kW)∧∀ j,j<i→bZ g j=true) g.edges.length (by omega) ⟨0,by simp,by omega,by simp only[↓pa,↓reduceIte,reduceEqDiff,f1],by simp only[o1],by simp only[↓pa,↓reduceIte,reduceEqDiff,f3],by simp only[↓pa,↓reduceIte,reduceEqDiff],by simp only[↓pa,↓reduceIte,reduceEqDiff],by simp only[↓pa,↓reduceIte];rfl,by simp only[m18],fun j hj=>by omega⟩ ?_
 rintro k fr st ⟨i,rfl,hi,f1,o1,f3,f51,f52,f53,m18,hall⟩
 simp only[↓pa,pb,aT,↓reduceIte,f52,f53]
 refine ab (fun k1=>?_) (fun k1=>?_)
 rotate_left
 ·have he:kl g.edges.length (bZ g)=true:=jB fun j hj=>hall j (by omega)
  simp only[↓pa,pb,↓reduceIte,k1]
  rw[bY,hn,he,decide_eq_true l1',decide_eq_true l2'];rfl
 have hlt:i<g.edges.length:=k1
 have ea:qw g.edges i=g.edges[i]:=nI hlt
 have heo:∀ st,ar cf 89 [.agg [I g.edges[i].id,S g.edges[i].type,I g.edges[i].src,I g.edges[i].dst,FX g.edges[i].fields]] [] st=some (.bool (mr g.edges[i]),st):=fun st=>IC K g.edges[i]
 have hget:∀ (x:Int) (st:St),st.maps 18=some (ks.map kW)→sk false (I 0) 0 (.mp 18) (I x) st=some (I (if fO g.nodes x=true then 1 else 0),st):=fun x st h=>by
  rw[sj h]
  simp only[hks x]
 simp (disch:=omega)only[↓pa,pb,aj,↓reduceIte,reduceEqDiff,reduceAdd,reduceLeDiff,f51,f53,k1,lc hlt,ec,heo]
 refine ab (fun h5=>?_) (fun h5=>?_)
 rotate_left
 ·have nb:bZ g i=false:=by rw[bZ,ea];simp[h5]
  simp only[↓pa,pb,↓reduceIte,reduceEqDiff,h5]
  rw[lV hlt nb]
 simp only[↓pa,pb,↓reduceIte,reduceEqDiff,h5]
 refine ab (fun h6=>?_) (fun h6=>?_)
 ·have hp:((i:Int) -1).toNat=i-1:=by omega
  have h6':0<i:=by omega
  have eb:qw g.edges (i-1)=g.edges[i-1]:=nI (by omega)
  simp (disch:=omega)only[↓pa,pb,aj,↓reduceIte,reduceEqDiff,reduceAdd,f1,o1,h6,hp,bh,oN (show i-1<g.edges.length by omega)]
  refine ab (fun h7=>?_) (fun h7=>?_)
  ·have nb:bZ g i=false:=by rw[bZ,kY,ea,eb,decide_eq_false (p:=i=0) (by omega),decide_eq_false (p:=g.edges[i-1].id<g.edges[i].id) (by omega)];simp
   simp only[↓pa,pb,↓reduceIte,reduceEqDiff,h7]
   rw[lV hlt nb]
  ·have er:kY g.edges i=true:=by rw[kY,ea,eb,decide_eq_true (p:=g.edges[i-1].id<g.edges[i].id) (by omega)];simp
   simp only[↓pa,pb,aj,↓reduceIte,reduceEqDiff,reduceAdd,mh,f3,h7]
   rw[hget _ _ (by simp only[pb,m18])]
   cases h8:fO g.nodes g.edges[i].src
   ·have nb:bZ g i=false:=by rw[bZ,ea,h8];simp
    simp only[↓pa,pb,↓reduceIte,reduceEqDiff]
    rw[lV hlt nb]
   simp only[↓pa,pb,aj,↓reduceIte,reduceEqDiff,reduceAdd,Int.reduceEq,mh,f3]
   rw[hget _ _ (by simp only[pb,m18])]
   cases h9:fO g.nodes g.edges[i].dst
   ·have nb:bZ g i=false:=by rw[bZ,ea,h9];simp
    simp only[↓pa,pb,↓reduceIte,reduceEqDiff]
    rw[lV hlt nb]
   have ok:bZ g i=true:=by rw[bZ,ea,h5,er,h8,h9];rfl
   simp (disch:=omega)only[↓pa,pb,aT,↓reduceIte,reduceEqDiff,Int.reduceEq,f1,o1,f3,f51,f52,f53,m18]
   exact⟨g.edges.length- (i+1),by omega,i+1,rfl,by omega,rfl,eX hall ok⟩
 ·have er:kY g.edges i=true:=by rw[kY,decide_eq_true (p:=i=0) (by omega)];rfl
  simp only[↓pa,pb,aj,↓reduceIte,reduceEqDiff,reduceAdd,mh,f3,h6]
  rw[hget _ _ (by simp only[pb,m18])]
  cases h8:fO g.nodes g.edges[i].src
  ·have nb:bZ g i=false:=by rw[bZ,ea,h8];simp
   simp only[↓pa,pb,↓reduceIte,reduceEqDiff]
   rw[lV hlt nb]
  simp only[↓pa,pb,aj,↓reduceIte,reduceEqDiff,reduceAdd,Int.reduceEq,mh,f3]
  rw[hget _ _ (by simp only[pb,m18])]
  cases h9:fO g.nodes g.edges[i].dst
  ·have nb:bZ g i=false:=by rw[bZ,ea,h9];simp
   simp only[↓pa,pb,↓reduceIte,reduceEqDiff]
   rw[lV hlt nb]
  have ok:bZ g i=true:=by rw[bZ,ea,h5,er,h8,h9];rfl
  simp (disch:=omega)only[↓pa,pb,aT,↓reduceIte,reduceEqDiff,Int.reduceEq,f1,o1,f3,f51,f52,f53,m18]
  exact⟨g.edges.length- (i+1),by omega,i+1,rfl,by omega,rfl,eX hall ok⟩
theorem oY{o:Option (PV×St)}{m:Nat→St}{p:PV}(h:∃ r,r=p∧∃ fl,o=some (r,m fl))(k:∀ fl,A (mk p (m fl))):cT o mk A:=by
 obtain⟨r,rfl,fl,rfl⟩:=h
 exact⟨_,_,rfl,k fl⟩
theorem KU:(∀ {l:List Fd},aG (l.flatMap fc)=true)∧(∀ {l:List Fd},aB (l.flatMap fc)=l.flatMap fc)∧(∀ {l:List Nd},aG (l.flatMap nc)=true)∧(∀ {l:List Nd},aB (l.flatMap nc)=l.flatMap nc)∧(∀ {l:List Eg},aG (l.flatMap ec)=true)∧(∀ {l:List Eg},aB (l.flatMap ec)=l.flatMap ec):=
 ⟨(jJ _).1,(jJ _).2.1,(fw nc gE _).1,(fw nc gE _).2.1,(fw ec jL _).1,(fw ec jL _).2.1⟩
theorem Df(K:bH cf)(l:List Fd)(hl:l.length≤2000000):∃ r,r=FX l∧∃ fl,ar cf 84 [FX l] [] st=some (r,cQ st fl):=by
 refine qA K.tab (F:=F84) (Q:=fun r=>r=FX l) rfl rfl rfl (lb rfl) (by simp[ly]) 1 ?_
 unfold F84 qr qm qc qo qN
 have hm:=qp l
 simp only[↓pa,↓bM,pb,aj,↓reduceIte,reduceEqDiff,reduceAdd,reduceLT,reduceCtorEq,gV,jd]
 refine cu (n:=0) pK rfl (by rw[hm]) (by omega) (by omega) (by decide) ?_
 simp only[↓pa,pb,av,↓reduceIte,KU,bf,bg]
theorem Kp(K:bH cf)(l:List (List UInt8))(hl:l.length≤2000000):∃ r,r=TX l∧∃ fl,ar cf 85 [TX l] [] st=some (r,cQ st fl):=by
 refine qA K.tab (F:=F85) (Q:=fun r=>r=TX l) rfl rfl rfl (lb rfl) (by simp[iH]) 1 ?_
 unfold F85 qr qm qc qo qN
 simp only[↓pa,↓bM,pb,aj,↓reduceIte,reduceEqDiff,reduceAdd,reduceLT,reduceCtorEq,gV,jd]
 refine cu (n:=0) pK rfl (by rw[bu,fk]) (by omega) (by omega) (by decide) ?_
 simp only[↓pa,pb,av,eh,↓reduceIte,bf,bg]
theorem Kr(K:bH cf)(e:Eg)(hl:e.fields.length≤2000000):∃ r,r= .agg (ec e)∧∃ fl,ar cf 41 [.agg (ec e)] [] st=some (r,cQ st fl):=by
 refine qA K.tab (F:=F41) (Q:=fun r=>r= .agg (ec e)) rfl rfl rfl (lb rfl) (by simp[hZ]) 1 ?_
 unfold F41 qr ql qf qt qs qo qN
 simp only[↓pa,pb,aj,↓reduceIte,reduceEqDiff,reduceAdd,ec]
 refine oY (Df K e.fields hl) (fun fl=>?_)
 simp only[↓pa,pb,aj,av,↓reduceIte,reduceEqDiff,reduceAdd,reduceLeDiff,KU]
theorem m8{p:PV}(h:cL p):ch [p]=some []:=dX (dR (ps:=[p]) (by simpa using h)).1
theorem Kq(K:bH cf)(n:Nd)(h1:n.labels.length≤2000000)(hl:n.fields.length≤2000000):∃ r,r= .agg (nc n)∧∃ fl,ar cf 42 [.agg (nc n)] [] st=some (r,cQ st fl):=by
 refine qA K.tab (F:=F42) (Q:=fun r=>r= .agg (nc n)) rfl rfl rfl (lb rfl) (by simp[hY]) 1 ?_
 unfold F42 qr ql qf qt qs qo qN
 simp only[↓pa,↓dV,pb,aj,cS,↓reduceIte,reduceEqDiff,reduceAdd,nc]
 refine oY (Kp K n.labels h1) (fun fl=>?_)
 simp only[↓pa,↓dV,pb,aj,cS,↓reduceIte,reduceEqDiff,reduceAdd]
 refine oY (Df K n.fields hl) (fun fl=>?_)
 simp only[↓pa,↓bM,↓dV,pb,aj,cS,fS,av,eh,ah,af,↓reduceIte,reduceEqDiff,reduceAdd,reduceLeDiff,KU,m8 (iH n.labels),m8 (ly n.fields)]
def rb(l:List Eg)(id:Int):List Int:=(l.filter fun e=>decide (e.dst=id)).map Eg.id
@[reducible] def IX (l:List Int):PV:= .list l.length (l.map I) .no
theorem DW{l:List Eg}{j:Nat}(h:j<l.length):bT (l.flatMap ec) (j*5+3) 1 false=some (I l[j].dst):=by
 have:=cR ec 5 dl 3 1 false (by decide) l j h
 rw[this]
 rfl
theorem xl(l:List Int):b8 (l.map I):=by
 induction l with
 |nil=>exact dK
 |cons x l ih=>exact bq (aQ _ _) ih
end Go.PM
namespace Go.PM
def MC(l:List Eg)(n k:Int):List Eg:=l.filter fun e=>decide (e.src.tmod n=k)
def l8(es:List Eg)(n k:Int)(x:Nd):List Nd:=if x.id.tmod n=k then [x]else if 0<(rb es x.id).length then [⟨x.id,[],[]⟩]else []
def pP(es:List Eg)(l:List Nd)(n k:Int):List Nd:=l.flatMap (l8 es n k)
def IY(g:bj)(n k:Int):bj:=⟨pP (MC g.edges n k) g.nodes n k,MC g.edges n k⟩
def oJ(g:bj)(n:Int):Nat→List bj
 |0=>[]
 |k+1=>oJ g n k++[IY g n k]
theorem ki(g:bj):(gc g).length=2:=rfl
@[reducible] def GX (l:List bj):PV:= .list l.length (l.flatMap gc) .no
theorem iI(l:List bj):cL (GX l):=eB (fw gc qj l)
theorem GZ(es:List Eg)(n k:Int)(x:Nd):(l8 es n k x).length≤1:=by
 unfold l8
 repeat' split
 all_goals simp
theorem Jv(es:List Eg)(n k:Int):∀ l:List Nd,(pP es l n k).length≤l.length
 | []=>aD _
 |x::l=>by
  have:=Jv es n k l
  have h1:=GZ es n k x
  unfold pP at this ⊢
  rw[aI,ak,ao]
  omega
theorem wE(g:bj)(n:Int):∀ k,(oJ g n k).length=k
 |0=>rfl
 |k+1=>by rw[oJ,ak,wE g n k];rfl
end Go.PM
namespace Go.PM
open Go.Lib
variable {cf:au} {st:St} {mk:PV→St→Fr×St} {A:Fr×St→Prop} {s:Nat}
theorem vt{f:Nat}{as:List PV}(h:as.all bI=true)(h2:(as.map aA).all bI=true)(h3:(as.map aA).map aA=as.map aA)(hf:mn f=false:=by rfl):ar cf f as [] st=ar cf f (as.map aA) [] st:=by
 simp only[ar,dX h,dX h2,cE,ia 0 0 h,ia 0 0 h2,h3,lj,hf,List.isEmpty_nil,Bool.not_true,fP,Bool.or_false]
structure kO {α:Type} (enc:α→List PV) (m:Nat) (l:List α) (cs:List PV):Prop where
 len:cs.length=l.length*m
 st:aB cs=l.flatMap enc
 np:aG cs=true
theorem kO.len'{g:bj}{n:Int}{k:Nat}{cs:List PV}(h:kO gc 2 (oJ g n k) cs):cs.length=k*2:=by rw[h.len,wE]
theorem ww{α:Type}{enc:α→List PV}{m:Nat}:kO enc m ([]:List α) []:=⟨by simp,rfl,rfl⟩
theorem gg(xs ys:List PV):aB (xs++ys)=aB xs++aB ys:=by
 induction xs with
 |nil=>rfl
 |cons x xs ih=>simp only[aM,av,ih]
theorem zJ{α:Type}{enc:α→List PV}{m:Nat}{l:List α}{cs ds:List PV}{a:α}(h:kO enc m l cs)(h1:ds.length=m)(h2:aB ds=enc a)(h3:aG ds=true):kO enc m (l++[a]) (cs++ds):=by
 refine⟨?_,?_,kF h.np h3⟩
 ·rw[ak,h.len,h1,ak,ao,aV,fm];omega
 ·rw[gg,h.st,h2,dF];simp
theorem sb{a b c d e:PV}{vs:List PV}(h:vs.length=5):putCells [a,b,c,d,e] 0 vs=vs:=ke (by rw[h];rfl)
theorem sc{a b c:PV}{vs:List PV}(h:vs.length=3):putCells [a,b,c] 0 vs=vs:=ke (by rw[h];rfl)
theorem DV{l:List Eg}{j:Nat}(h:j<l.length):bT (l.flatMap ec) (j*5+2) 1 false=some (I l[j].src):=by
 have:=cR ec 5 dl 2 1 false (by decide) l j h
 rw[this]
 rfl
theorem Iv(K:bH cf)(g:bj)(id:Int)(hl:g.nodes.length≤2000000):ar cf 90 [.agg (gc g),I id] [] st=some (I (df g.nodes id),st):=by
 refine cB K.tab (F:=F90) (t:=4) rfl rfl rfl (lb rfl) (by simp[gQ,aQ]) (dn _ _) (g.nodes.length+1) ?_
 have hm:=ce nc 3 dI g.nodes
 unfold F90 qr qd qm qi qb qk ql qf qa qn qs qo qN
 simp only[↓pa,pb,aj,↓reduceIte,reduceEqDiff,reduceAdd,gc]
 refine aX (fun k fr st=>∃ i:Nat,k=g.nodes.length-i∧i≤g.nodes.length∧fr 1=I id∧fr 8=NX g.nodes∧fr 9=I g.nodes.length∧fr 10=I i∧kJ id (g.nodes.drop i) i=df g.nodes id) g.nodes.length (by omega) ⟨0,by simp,by omega,by simp only[↓pa,pb,↓reduceIte,reduceEqDiff],by simp only[↓pa,↓reduceIte,reduceEqDiff],by simp only[↓pa,↓reduceIte,reduceEqDiff],by simp only[↓pa,↓reduceIte];rfl,rfl⟩ ?_
 rintro k fr st ⟨i,rfl,hi,f1,f8,f9,f10,hQ⟩
 simp only[↓pa,pb,aT,↓reduceIte,f9,f10]
 refine ab (fun h1=>?_) (fun h1=>?_)
 ·rw[aK h1,kJ]at hQ
  simp (disch:=omega)only[↓pa,pb,aj,↓reduceIte,reduceEqDiff,reduceAdd,reduceLeDiff,f1,f8,f10,h1,k9 h1,nc]
  refine ab (fun h2=>?_) (fun h2=>?_)
  ·rw[ai h2]at hQ
   simp only[↓pa,pb,↓reduceIte,reduceEqDiff,h2]
   rw[←hQ]
  ·rw[ad h2]at hQ
   simp (disch:=omega)only[↓pa,pb,aT,↓reduceIte,reduceEqDiff,f1,f8,f9,f10,h2]
   exact⟨g.nodes.length- (i+1),by omega,i+1,rfl,by omega,rfl,hQ⟩
 ·have:i=g.nodes.length:=by omega
  rw[this,List.drop_length]at hQ
  simp only[↓pa,pb,↓reduceIte,h1]
  rw[←hQ];rfl
def xz(p:PV):Bool:=match p with
 | .int _ _=>true
 | .str _=>true
 | .bool _=>true
 |_=>false
theorem CT{cs:List PV}(h:∀ p∈cs,xz p=true):bc cs=true∧aw cs=[]:=by
 induction cs with
 |nil=>exact⟨rfl,rfl⟩
 |cons c cs ih=>
  obtain⟨h1,h2⟩:=ih fun p hp=>h p (a7 _ hp)
  have h0:=h c List.mem_cons_self
  simp only[bc,aw,h1,h2]
  cases c<;>simp_all [xz,aH,aq]
theorem GI{st:St}{k n:Nat}(h1:k<st.nx)(h2:st.cnt k=n)(h3:st.fl≤k):a6 st [(k,n)]:=by
 refine⟨fun j=>?_,fun q hq=>?_⟩
 ·simp only[ck];split<;>omega
 ·simp only[dj]at hq;subst hq;exact⟨h1,h2,h3⟩
theorem fp{st:St}:a6 st []:=⟨fun _=>by simp[ck],by simp⟩
set_option maxHeartbeats 1000000 in
theorem C6{f e sz by_:Nat}{F:bn}(hE:F.res=[.tmp 2]∧F.own=true∧1≤F.nt)(hT:T f=some F)
  (hb:F.body= .seq (.reg [⟨none,(some 2),.mv (.k (.list 0 [] .nil))⟩] []) (.seq (.seq (.reg [⟨none,(some 3),.mv (.sl 0)⟩,⟨none,(some 4),.len (.sl 3)⟩,⟨none,(some 5),.bin .eql (.sl 4) (.k (.int .i64 0))⟩] []) (.cond (.sl 5) (.seq (.reg [⟨none,(some 2),.mv (.k (.list 0 [] .nil))⟩] []) (.ret)) (.skip)))
   (.seq (.reg [⟨none,(some 6),.mv (.sl 0)⟩,⟨none,(some 7),.len (.sl 6)⟩,⟨none,(some 8),.mk0 e sz by_ (.k (.int .i64 0)) (.sl 7)⟩,⟨none,(some 9),.mv (.sl 0)⟩,⟨none,(some 10),.app e sz by_ (.sl 8) (.sl 9)⟩,⟨none,(some 2),.mv (.sl 10)⟩] []) (.ret))))
  (hsz:0<sz) (hby:by_≤1000) (K:bH cf) {n:Nat} {cs:List PV} (hp:b8 cs) (hfl:∀ p∈cs,xz p=true) (hcl:cs.length=n*sz) (hl:n≤2000000):
  ∃ r ns,ar cf f [.list n cs .no] [] st=some (r,st.more ns)∧cW st.nx ns r∧aA r= .list n cs .no:=by
 obtain⟨e1,e2,e3⟩:=hE
 refine oW K.tab (F:=F) (Q:=fun r=>r= .list n cs .no) hT e1 e2 (by simpa using e3) (by simp[eB hp]) 1 ?_
 rw[hb]
 simp only[↓pa,pb,↓reduceIte,reduceCtorEq]
 refine ab (fun h0=>?_) (fun h0=>?_)
 ·have hn:n=0:=by omega
  subst hn
  have:cs=[]:=aP (by omega)
  subst this
  simp only[↓pa,pb,↓reduceIte,lx,h0]
  exact⟨rfl,rfl,rfl,fp,rfl⟩
 ·have hm:= @JS e sz by_ (n:Int) (cF [] []) (by omega) (by have:=Nat.mul_le_mul hby hl;simp only[gN];omega) (by omega) hsz
  simp only[↓pa,↓bM,pb,↓reduceIte,reduceEqDiff,reduceCtorEq,lx,h0,hm]
  refine cu (n:=0) (e:=e) ⟨by simp[St.more,cF],by simp[St.more,cF],rfl⟩ (by simp) hcl (by rw[bg];have:=Nat.mul_le_mul hl hby;omega) (by omega) hsz ?_
  simp only[↓pa,aj,↓reduceIte,lx]
  obtain⟨s1,s2⟩:=CT hfl
  refine⟨rfl,?_,?_,?_,?_⟩
  ·simp only[av,hp.1]
  ·simp only[g8,aH,s1,am]
  ·simp only[g8,aq,s2,aO]
   refine GI ?_ ?_ ?_<;>simp[ic,St.more,St.count,cF]
  ·simp only[av,hp.2.1,bg]
theorem J6(K:bH cf)(l:List (List UInt8))(hl:l.length≤2000000):∃ r ns,ar cf 103 [TX l] [] st=some (r,st.more ns)∧cW st.nx ns r∧aA r=TX l:=
 C6 (F:=F103) ⟨rfl,rfl,Nat.le_of_ble_eq_true rfl⟩ rfl rfl (by decide) (by decide) K (by induction l with|nil=>exact dK|cons x l ih=>exact bq (cD _) (ih (by simp at hl;omega))) (by simp[xz,S]) (by simp) hl
theorem C7(K:bH cf)(l:List Fd)(hl:l.length≤2000000):∃ r ns,ar cf 108 [FX l] [] st=some (r,st.more ns)∧cW st.nx ns r∧aA r=FX l:=
 C6 (F:=F108) ⟨rfl,rfl,Nat.le_of_ble_eq_true rfl⟩ rfl rfl (by decide) (by decide) K (jJ l) (by intro p hp;obtain⟨x,-,h⟩:=kR.1 hp;simp only[fc,aJ,eD,or_false]at h;rcases h with rfl|rfl<;>rfl) (by rw[qp]) hl
theorem J8(K:bH cf)(e:Eg)(hl:e.fields.length≤2000000):∃ r ns,ar cf 68 [.agg (ec e)] [] st=some (r,st.more ns)∧cW st.nx ns r∧aA r= .agg (ec e):=by
 refine oW K.tab (F:=F68) (Q:=fun r=>r= .agg (ec e)) rfl rfl rfl (lb rfl) (by simp[hZ]) 1 ?_
 unfold F68 qr ql qf qt qs qo qN
 simp only[↓pa,pb,aj,↓reduceIte,reduceEqDiff,reduceAdd,ec]
 refine eV (C7 K e.fields hl) (fun r ns hF hr=>?_)
 obtain⟨ds,u,rfl,hd,-⟩:=cw hr
 simp only[↓pa,pb,aj,↓reduceIte,reduceEqDiff,reduceAdd,reduceLeDiff,lx]
 refine⟨rfl,?_,?_,?_,?_⟩
 ·simp only[av,bX,cr];exact hF.np
 ·simp only[aH,bc,bX,cr];exact hF.so
 ·simp only[aq,aw,bf,aO]
  have:=hF.tk
  simp only[aq]at this
  rw[this]
  exact br (br (ew (br (br fp)) (aY _) ns))
 ·simp only[av,hd]
theorem J7(K:bH cf)(n:Nd)(h1:n.labels.length≤2000000)(hl:n.fields.length≤2000000):∃ r ns,ar cf 66 [.agg (nc n)] [] st=some (r,st.more ns)∧cW st.nx ns r∧aA r= .agg (nc n):=by
 refine oW K.tab (F:=F66) (Q:=fun r=>r= .agg (nc n)) rfl rfl rfl (lb rfl) (by simp[hY]) 1 ?_
 unfold F66 qr ql qf qt qs qo qN
 simp only[↓pa,pb,aj,↓reduceIte,reduceEqDiff,reduceAdd,nc]
 refine eV (J6 K n.labels h1) (fun r ns hF hr=>?_)
 obtain⟨ds,u,rfl,hd,-⟩:=cw hr
 simp only[↓pa,pb,aj,↓reduceIte,reduceEqDiff,reduceAdd,reduceLeDiff,lx]
 refine eV (C7 K n.fields hl) (fun r2 ns2 hF2 hr2=>?_)
 obtain⟨ds2,u2,rfl,hd2,-⟩:=cw hr2
 simp only[↓pa,pb,aj,↓reduceIte,reduceEqDiff,reduceAdd,reduceLeDiff,lx]
 refine⟨rfl,?_,?_,?_,?_⟩
 ·simp only[av,bX,cr];have a:=hF.np;have b:=hF2.np;simp only[av]at a b;rw[a,b];rfl
 ·have a:=hF.so;have b:=hF2.so;simp only[aH,bc,bX,cr]at a b ⊢;rw[a,b];rfl
 ·have a:=hF.tk
  have b:=hF2.tk
  simp only[aq,aw,bf,aO]at a b ⊢
  rw[a,b]
  exact br (br (ew (br (ew (br (br fp)) (aY _) ns)) (by simp only[bU,St.more_fl,cF];exact aY _) ns2))
 ·simp only[av,hd,hd2]
structure Nc (cf:au):Prop where
 nil:∀ ds:List PV,ds.length=3→aG ds=true→cf 128 [.list 0 [] .nil,I 0,.list 1 ds .no] [] []=some (.list 1 ds (.own 0 72),[1],[])
 own:∀ (n i:Nat) (cs ds:List PV) (ns:List Nat),cs.length=n*3→ds.length=3→aG cs=true→aG ds=true→dT ([0].contains ·) cs=true→dT ([0].contains ·) ds=true→i≤n→n≤10000000→cf 128 [.list n cs (.own 0 72),I i,.list 1 ds .no] (n::ns) []=some (.list (n+1) (cs.take (i*3)++ds++cs.drop (i*3)) (.own 0 72),(n+1)::ns,[])
mutual
theorem GU(K:Nat→Bool):∀ p:PV,aH p=true→(∀ q∈aq p,K q.1=false)→tf K p=true
 | .list n cs t,h,hk=>by
  simp only[aH,aa]at h
  simp only[tf,aa]
  refine⟨?_,mT K cs h.2 fun q hq=>hk q (by simp only[aq];exact ik _ hq)⟩
  cases t with
  |own k e=>have:=hk (k,n) (by simp[aq]);simpa [ay.free,ay.of]using this
  |sub k=>exact absurd h.1 (by simp)
  |el _ _ _=>exact absurd h.1 (by simp)
  |_=>rfl
 | .agg cs,h,hk=>by simp only[aH]at h;simp only[tf];exact mT K cs h hk
 | .tup cs,h,hk=>by simp only[aH]at h;simp only[tf];exact mT K cs h hk
 | .fn _ cs,h,hk=>by simp only[aH]at h;simp only[tf];exact mT K cs h hk
 | .iptr ..,h,_=>by simp[aH]at h
 | .ptr _ _,_,_=>rfl
 | .osl _ _ _ _,_,_=>rfl
 | .mp _,_,_=>rfl
 | .any,_,_=>rfl
 | .hole,_,_=>rfl
 | .int _ _,_,_=>rfl
 | .bool _,_,_=>rfl
 | .str _,_,_=>rfl
 | .nilp,_,_=>rfl
 | .nili,_,_=>rfl
 | .err,_,_=>rfl
theorem mT(K:Nat→Bool):∀ ps:List PV,bc ps=true→(∀ q∈aw ps,K q.1=false)→dT K ps=true
 | [],_,_=>rfl
 |p::ps,h,hk=>by
  simp only[bc,aa]at h
  simp only[dT,aa]
  exact⟨GU K p h.1 fun q hq=>hk q (by simp only[aw];exact gK _ hq),mT K ps h.2 fun q hq=>hk q (by simp only[aw];exact ik _ hq)⟩
end
theorem CV:∀ (ns:List Nat) (d:Nat) (q:Nat×Nat),q∈cY d ns→d≤q.1
 | [],_,_,h=>by simp[cY]at h
 |n::ns,d,q,h=>by
  rw[cY,aJ]at h
  rcases h with rfl|h
  ·exact aD _
  ·have:=CV ns (d+1) q h;omega
theorem ct:∀ cs:List PV,aB cs=cs.map aA
 | []=>rfl
 |c::cs=>by have:=ct cs;simp only[av,this,aF]
theorem BP(k:Nat)(cs:List PV):aB (cs.take k)=(aB cs).take k:=by rw[ct,ct,List.map_take]
theorem BQ(k:Nat)(cs:List PV):aB (cs.drop k)=(aB cs).drop k:=by rw[ct,ct,List.map_drop]
theorem x4:∀ xs ys:List PV,aG (xs++ys)=(aG xs && aG ys)
 | [],ys=>rfl
 |x::xs,ys=>by have:=x4 xs ys;simp only[aM,av,this,Bool.and_assoc]
theorem Bc(nx:Nat):∀ (ns:List Nat) (d:Nat),(cY d ns).map (fun q=>(nx+q.1,q.2))=cY (nx+d) ns
 | [],_=>rfl
 |n::ns,d=>by rw[cY,aF,Bc nx ns (d+1),cY,jo]
theorem F1{α:Type}(enc:α→List PV)(m:Nat)(h:∀ a,(enc a).length=m):∀ (l:List α) (i:Nat),(l.flatMap enc).take (i*m)=(l.take i).flatMap enc
 | [],i=>by simp
 |a::l,0=>by simp
 |a::l,i+1=>by
  rw[aI,ji,aI,fb,Nat.add_comm,←h a,List.take_add,List.take_left,List.drop_left,h a,F1 enc m h l i]
theorem F2{α:Type}(enc:α→List PV)(m:Nat)(h:∀ a,(enc a).length=m):∀ (l:List α) (i:Nat),(l.flatMap enc).drop (i*m)=(l.drop i).flatMap enc
 | [],i=>by simp
 |a::l,0=>by simp
 |a::l,i+1=>by
  rw[aI,List.drop_succ_cons,fb,Nat.add_comm,←h a,←List.drop_drop,List.drop_left,h a,F2 enc m h l i]
def oZ(x:Nd):List Nd→List Nd
 | []=>[x]
 |y::l=>if y.id<x.id then y::oZ x l else x::y::l
end Go.PM
namespace Go.PM
def wL(l:List Nd):Prop:=l.Pairwise fun a b=>a.id<b.id
theorem Av:∀ {l:List Nd},(∀ i,(h:i+1<l.length)→l[i].id<l[i+1].id)→wL l
 | [],_=>List.Pairwise.nil
 | [a],_=>fR _ _
 |a::b::l,h=>by
  have ih:wL (b::l):=Av fun i hi=>by
   have:=h (i+1) (by simp only[ao]at hi ⊢;omega)
   simpa using this
  have h0:a.id<b.id:=by simpa using h 0 (by simp)
  refine List.Pairwise.cons (fun c hc=>?_) ih
  rcases aJ.1 hc with rfl|hc
  ·exact h0
  ·exact Int.lt_trans h0 ((b6.1 ih).1 c hc)
theorem vo{g:bj}(h:bY g=true):wL g.nodes:=by
 unfold bY at h
 rw[aa,aa,aa]at h
 refine Av fun i hi=>?_
 have:=mN.1 h.2.1 (i+1) hi
 rw[dS,aa,oO]at this
 have h2:=this.2
 simp only[lM,oQ hi,oQ (show i<g.nodes.length by omega),bP,decide_eq_true_eq]at h2
 rcases h2 with h2|h2
 ·omega
 ·exact h2
theorem xn(es:List Eg)(e:Eg)(id:Int):rb (es++[e]) id=if e.dst=id then rb es id++[e.id]else rb es id:=by
 unfold rb
 rw[List.filter_append,bS]
 by_cases h:e.dst=id<;>simp[h]
theorem yA{es:List Eg}{e:Eg}{n k:Int}{x:Nd}(h:x.id.tmod n=k∨e.dst≠x.id∨0<(rb es x.id).length):l8 (es++[e]) n k x=l8 es n k x:=by
 unfold l8
 by_cases h1:x.id.tmod n=k
 ·rw[ai h1,ai h1]
 ·rw[ad h1,ad h1,xn]
  by_cases h2:e.dst=x.id
  ·rw[ai h2]
   rcases h with h|h|h
   ·exact absurd h h1
   ·exact absurd h2 h
   ·rw[ai h,ai (by rw[ak];omega)]
  ·rw[ad h2]
theorem pO(es:List Eg)(x:Nd)(l:List Nd)(n k:Int):pP es (x::l) n k=l8 es n k x++pP es l n k:=by
 simp only[pP,aI]
theorem Ak{es:List Eg}{e:Eg}{n k:Int}:∀ {l:List Nd},(∀ x∈l,x.id.tmod n=k∨e.dst≠x.id∨0<(rb es x.id).length)→pP (es++[e]) l n k=pP es l n k
 | [],_=>rfl
 |x::l,h=>by rw[pO,pO,yA (h x List.mem_cons_self),Ak fun y hy=>h y (a7 _ hy)]
theorem Cp{es:List Eg}{n k:Int}{x y:Nd}(h:y∈l8 es n k x):y.id=x.id:=by
 unfold l8 at h
 split at h
 ·simp at h;rw[h]
 ·split at h
  ·simp at h;rw[h]
  ·simp at h
theorem Ju{es:List Eg}{n k:Int}{l:List Nd}{y:Nd}(h:y∈pP es l n k):∃ x∈l,y∈l8 es n k x:=by
 unfold pP at h
 exact kR.1 h
theorem y9{x:Nd}:∀ {l r:List Nd},(∀ y∈l,y.id<x.id)→oZ x (l++r)=l++oZ x r
 | [],r,_=>rfl
 |y::l,r,h=>by
  rw[aM,oZ,ai (h y List.mem_cons_self),y9 fun z hz=>h z (a7 _ hz),aM]
theorem Eb{x:Nd}{l:List Nd}(h:∀ y∈l,x.id<y.id):oZ x l=x::l:=by
 cases l with
 |nil=>rfl
 |cons y l=>rw[oZ,ad (by have:=h y List.mem_cons_self;omega)]
theorem Jt{es:List Eg}{e:Eg}{n k:Int}(hm:e.dst.tmod n≠k)(h0:(rb es e.dst).length=0):∀ {l:List Nd},wL l→fO l e.dst=true→pP (es++[e]) l n k=oZ ⟨e.dst,[],[]⟩ (pP es l n k)
 | [],_,h=>by simp[fO]at h
 |x::l,hr,h=>by
  obtain⟨h1,h2⟩:=b6.1 hr
  rw[pO,pO]
  by_cases hx:x.id=e.dst
  ·have a1:l8 es n k x=[]:=by unfold l8;rw[hx,ad hm,ad (by omega)]
   have a2:l8 (es++[e]) n k x=[⟨e.dst,[],[]⟩]:=by unfold l8;rw[hx,ad hm,xn,ai rfl,ai (by rw[ak];simp)]
   have a3:pP (es++[e]) l n k=pP es l n k:=Ak fun y hy=> .inr (.inl (by have:=h1 y hy;omega))
   rw[a1,a2,a3,bf,List.singleton_append,Eb]
   intro y hy
   obtain⟨z,hz,hy⟩:=Ju hy
   have:=Cp hy
   have:=h1 z hz
   show e.dst<y.id
   omega
  ·have hl:fO l e.dst=true:=by
    simpa [fO,hx]using h
   have hlt:x.id<e.dst:=by
    obtain⟨z,hz,hy⟩:=mR.1 hl
    have:=h1 z hz
    simp at hy
    omega
   rw[yA (.inr (.inl (Ne.symm hx))),Jt hm h0 h2 hl,y9]
   intro y hy
   have:=Cp hy
   show y.id<e.dst
   omega
end Go.PM
namespace Go.PM
variable {cf:au} {st:St} {mk:PV→St→Fr×St} {A:Fr×St→Prop} {s:Nat}
theorem BE{l l':List (Nat×Nat)}(h:a6 st l)(h1:∀ k,ck k l'≤ck k l)(h2:∀ q∈l',q∈l):a6 st l':=
 ⟨fun k=>di (h1 k) (h.1 k),fun q hq=>h.2 q (h2 q hq)⟩
theorem rB{e sz bytes n m:Nat}{cs ds:List PV}{tk u:ay}{X Y:List (Nat×Nat)}(ht:n4 e tk)(hs:aH (.list n cs tk)=true)(hd:bc ds=true)(hk:a6 st (X++aq (.list n cs tk)++Y++aw ds))(hf:st.fl=0)
  (h1:cs.length=n*sz) (h2:ds.length=m*sz) (h3:(n+m) *bytes≤140737488355328) (h4:n+m≤140737488355328) (h5:0<sz)
  (k:∀ st' tk',n4 e tk'→aH (.list (n+m) (cs++ds) tk')=true→a6 st' (X++aq (.list (n+m) (cs++ds) tk')++Y)→st'.objs=st.objs→st'.fl=0→A (mk (.list (n+m) (cs++ds) tk') st')):cT (uo e sz bytes (.list n cs tk) (.list m ds u) st) mk A:=by
 have hsc:bc cs=true:=by simp only[aH,aa]at hs;exact hs.2
 have hsa:bc (cs++ds)=true:=by rw[gh,hsc,hd];rfl
 rcases ht with rfl|⟨j,rfl⟩
 ·have hc:cs=[]:=by simp only[aH,aa,List.isEmpty_iff]at hs;exact hs.1
  subst hc
  have hn:n=0:=by
   simp only[aV]at h1
   rcases gv n with h|h
   ·exact h
   ·have:=Nat.mul_pos h h5;omega
  subst hn
  refine⟨_,_,uQ (show Gr e st.nx st.cnt 0 .nil from rfl) h1 h2 h3 h4 h5,?_⟩
  refine k _ _ (.inr ⟨_,rfl⟩) (by simp only[g8,aH,hsa,am]) ?_ rp hf
  have:=ew hk (by omega) [0+m]
  refine BE this (fun q=>?_) (fun q hq=>?_)
  ·simp only[g8,aq,bW,ck,cY,bf,aw];omega
  ·simp only[g8,aq,cY,bf,aw,ax,aJ,eD,or_false]at hq ⊢
   rcases hq with(h|h|h)|h<;>simp[h]
 ·have hj:=hk.2 (j,n) (by simp[aq])
  refine⟨_,_,uQ (show Gr e st.nx st.cnt n (.own j e)from⟨hj.1,hj.2.1,rfl⟩) h1 h2 h3 h4 h5,?_⟩
  refine k _ _ (.inr ⟨_,rfl⟩) (by simp only[g8,aH,hsa,am]) ?_ rp hf
  have hne:∀ q,q∈X∨q∈aw cs∨q∈Y∨q∈aw ds→q.1≠j:=by
   intro q hq he
   have:=hk.1 j
   simp only[aq,bW,ck,if_true]at this
   have h0:0<ck j X∨0<ck j (aw cs)∨0<ck j Y∨0<ck j (aw ds):=by
    rcases hq with h|h|h|h
    ·exact .inl (ja.2 ⟨q,h,he⟩)
    ·exact .inr (.inl (ja.2 ⟨q,h,he⟩))
    ·exact .inr (.inr (.inl (ja.2 ⟨q,h,he⟩)))
    ·exact .inr (.inr (.inr (ja.2 ⟨q,h,he⟩)))
   omega
  refine⟨fun q=>?_,fun q hq=>?_⟩
  ·have:=hk.1 q
   simp only[g8,aq,bW,ck,gb]at this ⊢
   omega
  ·simp only[g8,aq,gb,ax,aJ,eD,or_false]at hq
   show q.1<st.nx∧(if q.1=j then n+m else st.cnt q.1)=q.2∧st.fl≤q.1
   by_cases hqj:q=(j,n+m)
   ·subst hqj;exact⟨hj.1,by simp,by omega⟩
   ·have hm:q∈X∨q∈aw cs∨q∈Y∨q∈aw ds:=by
     rcases hq with(h|h|h|h)|h<;>simp_all
    rw[ad (hne q hm)]
    refine hk.2 q ?_
    simp only[aq,ax]
    rcases hm with h|h|h|h<;>simp[h]
def Ji(t:Nat)(Q:PV→Prop)(e:Ex)(y:Fr×St):Prop:=iA e∧∃ el sz s n cs,y.1 t= .osl el sz s n∧y.2.objs s=some cs∧cs.length=n*sz∧n≤140737488355328∧aG cs=true∧bc cs=true∧a6 y.2 (aw cs)∧y.2.fl=0∧Q (.list n (aB cs) .no)
theorem JA{f:Nat}{F:bn}{as:List PV}{t:Nat}(hown:F.own=true)(hres:F.res=[.tmp t])(hnk:F.nk=0)(N:Nat){ns:List Nat}{Q:PV→Prop}(hnt:as.length≤F.nt)(h:Wp cf N F.body (eP as,cF ns []) (Ji t Q)):
  ∃ r ns',ff cf N F as ns []=some (r,ns',[])∧cW 0 ns' r∧(∀ nx,cW nx ns' (ren (fun k=>some (nx+k)) false r))∧Q (aA r):=by
 obtain⟨e,⟨fr,s1⟩,hev,he,el,sz,s,n,cs,hr,ho,hl,hb,hn,hs,hk,hfl,hQ⟩:=h
 have hb':n≤dh:=hb
 have hso:aH (.list n cs (.own s1.nx el))=true:=by simp only[aH,hs,am]
 have hk2:a6 {s1.more [n]with objs:=fun k=>if k=s then none else s1.objs k} (aq (.list n cs (.own s1.nx el))):=by
  have hm:=ew hk (by omega) [n]
  have hm2:a6 (s1.more [n]) (aq (.list n cs (.own s1.nx el))):=BE hm (fun q=>by simp only[aq,bW,ck,cY];omega) (fun q hq=>by
   simp only[aq,cY,ax,aJ,eD,or_false]at hq ⊢
   exact hq.symm)
  exact hm2
 have hf:ge F 0 fr s1=some (ren (bG ((aq (.list n cs (.own s1.nx el))).map (·.1))) false (.list n cs (.own s1.nx el)),(aq (.list n cs (.own s1.nx el))).map (·.2),[]):=by
  have h0:cE s1 (List.range 0)=some []:=rfl
  have hp:ei fr s1 F.res=some [.osl el sz s n]:=by rw[hres];simp only[ei,lw];rw[show fr t=_ from hr]
  have hm:b9 F.nk [.osl el sz s n] s1=([.list n cs (.own s1.nx el)],{s1.more [n]with objs:=fun k=>if k=s then none else s1.objs k}):=by
   rw[b9]
   simp only[show s1.objs s=some cs from ho,hnk,aY,hl,hb',lL,if_true,bK,b9]
  have hnp:np (.list n cs (.own s1.nx el))=true:=hn
  simp only[ge,hp,h0,hm,eq,hnp,du,am,if_true,hown,rZ hk2]
 refine⟨_,_,?_,(kA hso hn hk2.1 0).2,fun nx=>(kA hso hn hk2.1 nx).1,by rw[hO,ep];exact hQ⟩
 unfold ff
 rw[ai ⟨hnt,aY _⟩,hev]
 cases e with
 |go=>exact hf
 |ret=>exact hf
 |exit i=>exact he.elim
theorem Gn{f:Nat}{F:bn}{as:List PV}{t:Nat}(K:gT cf)(hT:T f=some F)(hres:F.res=[.tmp t])(hown:F.own=true)(hnk:F.nk=0)(hnt:as.length≤F.nt)(has:∀ p∈as,cL p)(N:Nat){v:PV}
  (h:Wp cf N F.body (eP as,cF [] []) (Ji t (· =v))):∃ r ns,ar cf f as [] st=some (r,st.more ns)∧cW st.nx ns r∧aA r=v:=by
 obtain⟨h1,h2⟩:=dR has
 obtain⟨r,ns,hrun,hF0,hF,hQ⟩:=JA (f:=f) hown hres hnk N hnt h
 have hcf:=K f F hT N _ _ _ _ hrun
 exact⟨_,ns,ue h1 (by rw[h2];exact hcf) hF0.so,hF st.nx,by rw[hO];exact hQ⟩
end Go.PM
namespace Go.PM
open Go.Lib
variable {cf:au} {st:St} {mk:PV→St→Fr×St} {A:Fr×St→Prop} {s:Nat}
structure Ng (g:bj) (n:Int) (k:Nat) (st:St) (pre:List PV):Prop where
 len:pre.length=k*2
 so:bc pre=true
 np:aG pre=true
 st:aB pre=(oJ g n k).flatMap gc
theorem cZ(cs:List PV):(aB cs).length=cs.length:=by rw[ct,bu]
theorem HX(x:Nd):∀ l:List Nd,(oZ x l).length=l.length+1
 | []=>rfl
 |y::l=>by
  rw[oZ]
  split
  ·rw[ao,HX x l,ao]
  ·rw[ao]
theorem yL{x:Nd}:bT (nc x) 0 1 false=some (I x.id):=rfl
def F6(sz g:Nat):CC:=
 .seq (.reg [⟨none,(some 4),.mv (.k (.bool false))⟩] [])
 (.seq (.seq (.reg [⟨none,(some 6),.mv (.sl 0)⟩,
  ⟨none,(some 7),.len (.sl 6)⟩,
  ⟨none,(some 8),.mv (.sl 1)⟩,
  ⟨none,(some 9),.len (.sl 8)⟩,
  ⟨none,(some 10),.bin .neq (.sl 7) (.sl 9)⟩] [])
 (.cond (.sl 10) (.seq (.reg [⟨none,(some 4),.mv (.k (.bool false))⟩] [])
  (.ret)) (.skip)))
 (.seq (.seq (.reg [⟨none,(some 5),.mv (.k (.int .i64 0))⟩] [])
 (.block 0 (.loop (.seq (.seq (.reg [⟨none,(some 11),.mv (.sl 5)⟩,
   ⟨none,(some 12),.mv (.sl 0)⟩,
   ⟨none,(some 13),.len (.sl 12)⟩,
   ⟨none,(some 14),.bin .lss (.sl 11) (.sl 13)⟩] [])
  (.cond (.sl 14) (.skip) (.exit 0)))
  (.seq (.block 1 (.seq (.reg [⟨none,(some 17),.mv (.sl 0)⟩,
    ⟨none,(some 18),.mv (.sl 5)⟩,
    ⟨none,(some 19),.iad sz (.sl 17) (.sl 18)⟩,
    ⟨none,(some 20),.load sz true (.sl 19)⟩,
    ⟨none,(some 21),.mv (.sl 1)⟩,
    ⟨none,(some 22),.mv (.sl 5)⟩,
    ⟨none,(some 23),.iad sz (.sl 21) (.sl 22)⟩,
    ⟨none,(some 24),.load sz true (.sl 23)⟩,
    ⟨none,(some 25),.call g [(.sl 20),(.sl 24)] []⟩,
    ⟨none,(some 26),.un .not (.sl 25)⟩] [])
   (.cond (.sl 26) (.seq (.reg [⟨none,(some 4),.mv (.k (.bool false))⟩] [])
   (.ret)) (.skip))))
  (.reg [⟨none,(some 15),.mv (.sl 5)⟩,
   ⟨none,(some 16),.bin .add (.sl 15) (.k (.int .i64 1))⟩,
   ⟨none,(some 5),.mv (.sl 16)⟩] []))))))
 (.seq (.reg [⟨none,(some 4),.mv (.k (.bool true))⟩] [])
 (.ret))))
theorem xY{α:Type}{enc:α→List PV}{m:Nat}(hm:∀ a,(enc a).length=m){l:List α}{i:Nat}(h:i<l.length):bT (l.flatMap enc) (i*m) m true=some (.agg (enc l[i])):=by
 have:=cR enc m hm 0 m true (by omega) l i h
 rw[bh]at this
 rw[this]
 simp only[bT,hm,bg,aD,if_true,lZ]
 rw[←hm l[i],kQ]
theorem z7(K:bH cf){f sz g:Nat}{F:bn}(hT:T f=some F)(hF:F.body=F6 sz g∧F.res=[.tmp 4]∧F.own=false∧2≤F.nt){α:Type}(enc:α→List PV)(hm:∀ a,(enc a).length=sz)(hp:∀ a,b8 (enc a))(l:List α)(hl:l.length≤2000000)
  (he:∀ a∈l,∀ st,ar cf g [.agg (enc a),.agg (enc a)] [] st=some (.bool true,st)):ar cf f [.list l.length (l.flatMap enc) .no,.list l.length (l.flatMap enc) .no] [] st=some (.bool true,st):=by
 obtain⟨h1,h2,h3,h4⟩:=hF
 refine cB K.tab (F:=F) (t:=4) hT h2 h3 (by simpa using h4) (by simp[eB (fw enc hp l)]) (bD _) (l.length+1) ?_
 have hlen:=ce enc sz hm l
 rw[h1,F6]
 simp only[↓pa,pb,↓reduceIte,reduceEqDiff,dD,reduceCtorEq]
 refine aX (fun k fr st=>∃ i:Nat,k=l.length-i∧i≤l.length∧fr 0= .list l.length (l.flatMap enc) .no∧fr 1= .list l.length (l.flatMap enc) .no∧fr 5=I i) l.length (by omega) ⟨0,by simp,by omega,by simp only[↓pa,↓reduceIte,reduceCtorEq],by simp only[↓pa,↓reduceIte,reduceEqDiff],by simp only[↓pa,↓reduceIte];rfl⟩ ?_
 rintro k fr st ⟨i,rfl,hi,f0,f1,f5⟩
 simp only[↓pa,pb,aT,↓reduceIte,reduceEqDiff,reduceCtorEq,f0,f5]
 refine ab (fun h=>?_) (fun h=>?_)
 ·have hlt:i<l.length:=h
  have hc:=he _ (bL hlt)
  simp (disch:=omega)only[↓pa,pb,aT,↓reduceIte,reduceEqDiff,reduceCtorEq,f0,f1,f5,h,xY hm hlt,hc]
  exact⟨l.length- (i+1),by omega,i+1,rfl,by omega,rfl⟩
 ·simp only[↓pa,pb,↓reduceIte,h]
theorem LD(K:bH cf)(x:Fd):ar cf 176 [.agg (fc x),.agg (fc x)] [] st=some (.bool true,st):=by
 refine cB K.tab (F:=F176) (t:=4) rfl rfl rfl (lb rfl) (by have:=(jJ [x]);simp at this;simp[fu this]) (bD _) 1 ?_
 unfold F176 qg qr qc qb ql qf qo
 simp only[↓pa,pb,aj,↓reduceIte,reduceEqDiff,reduceAdd,dD,fc]
theorem Jb(K:bH cf)(l:List Fd)(hl:l.length≤2000000):ar cf 130 [FX l,FX l] [] st=some (.bool true,st):=
 z7 K (F:=F130) rfl ⟨rfl,rfl,rfl,(lb rfl)⟩ fc (fun _=>rfl) (fun a=>by have:=jJ [a];simpa using this) l hl fun a _ st=>LD K a
theorem Mp(K:bH cf)(l:List (List UInt8))(hl:l.length≤2000000):ar cf 129 [TX l,TX l] [] st=some (.bool true,st):=by
 refine cB K.tab (F:=F129) (t:=4) rfl rfl rfl (lb rfl) (by simp[iH]) (bD _) (l.length+1) ?_
 have hm:(l.map S).length=l.length:=by simp
 unfold F129 qg qr qd qm qi qc qb qk ql qa qn
 simp only[↓pa,pb,↓reduceIte,reduceEqDiff,dD,reduceCtorEq]
 refine aX (fun k fr st=>∃ i:Nat,k=l.length-i∧i≤l.length∧fr 0=TX l∧fr 1=TX l∧fr 5=I i) l.length (by omega) ⟨0,by simp,by omega,by simp only[↓pa,↓reduceIte,reduceCtorEq],by simp only[↓pa,↓reduceIte,reduceEqDiff],by simp only[↓pa,↓reduceIte];rfl⟩ ?_
 rintro k fr st ⟨i,rfl,hi,f0,f1,f5⟩
 simp only[↓pa,pb,aT,↓reduceIte,reduceEqDiff,reduceCtorEq,f0,f5]
 refine ab (fun h=>?_) (fun h=>?_)
 ·have hlt:i<l.length:=h
  simp (disch:=omega)only[↓pa,pb,aT,↓reduceIte,reduceEqDiff,dD,reduceCtorEq,f0,f1,f5,h,fk,iY hlt]
  exact⟨l.length- (i+1),by omega,i+1,rfl,by omega,rfl⟩
 ·simp only[↓pa,pb,↓reduceIte,h]
theorem LA(K:bH cf)(x:Nd)(h1:x.labels.length≤2000000)(h2:x.fields.length≤2000000):ar cf 93 [.agg (nc x),.agg (nc x)] [] st=some (.bool true,st):=by
 refine cB K.tab (F:=F93) (t:=4) rfl rfl rfl (lb rfl) (by simp[hY]) (bD _) 1 ?_
 have ht:=fun st=>Mp (st:=st) K x.labels h1
 have hf:=fun st=>Jb (st:=st) K x.fields h2
 unfold F93 qg qr qc qb ql qf qu qo
 simp only[↓pa,pb,aj,↓reduceIte,reduceEqDiff,reduceAdd,dD,nc,ht,hf]
theorem LE(K:bH cf)(x:Eg)(h2:x.fields.length≤2000000):ar cf 94 [.agg (ec x),.agg (ec x)] [] st=some (.bool true,st):=by
 refine cB K.tab (F:=F94) (t:=4) rfl rfl rfl (lb rfl) (by simp[hZ]) (bD _) 1 ?_
 have hf:=fun st=>Jb (st:=st) K x.fields h2
 unfold F94 qg qr qc qb ql qf qu qo
 simp only[↓pa,pb,aj,↓reduceIte,reduceEqDiff,reduceAdd,dD,ec,hf]
structure sS (g:bj):Prop where
 ns:g.nodes.length≤2000000
 es:g.edges.length≤2000000
 nf:∀ x∈g.nodes,x.fields.length≤2000000∧x.labels.length≤2000000
 ef:∀ e∈g.edges,e.fields.length≤2000000
theorem Gx(K:bH cf)(g:bj)(h:sS g):ar cf 13 [.agg (gc g),.agg (gc g)] [] st=some (.bool true,st):=by
 refine cB K.tab (F:=F13) (t:=4) rfl rfl rfl (lb rfl) (by simp[gQ]) (bD _) 1 ?_
 have ht:=fun st=>z7 (st:=st) K (f:=48) (F:=F48) rfl ⟨rfl,rfl,rfl,(lb rfl)⟩ nc dI gE g.nodes h.ns fun a ha st=>LA K a (h.nf a ha).2 (h.nf a ha).1
 have hf:=fun st=>z7 (st:=st) K (f:=49) (F:=F49) rfl ⟨rfl,rfl,rfl,(lb rfl)⟩ ec dl jL g.edges h.es fun a ha st=>LE K a (h.ef a ha)
 unfold F13 qg qr qc ql qf qu qo
 simp only[↓pa,pb,aj,↓reduceIte,reduceEqDiff,reduceAdd,gc,ht,hf]
theorem LB(K:bH cf)(l:List bj)(hl:l.length≤2000000)(h:∀ g∈l,sS g):ar cf 12 [GX l,GX l] [] st=some (.bool true,st):=
 z7 K (F:=F12) rfl ⟨rfl,rfl,rfl,(lb rfl)⟩ gc ki qj l hl fun a ha st=>Gx K a (h a ha)
def dg:Nat→Nat→List UInt8→List UInt8
 |0,_,out=>out
 |f+1,k,out=>if k=0 then out else dg f (k / 10) (UInt8.ofNat (48+k % 10)::out)
def mt(k:Nat):List UInt8:=if k=0 then [109,48]else 109::dg k k []
theorem J3:∀ (f:Nat) (out:List UInt8),dg f 0 out=out
 |0,_=>rfl
 |f+1,out=>by rw[dg,ai rfl]
theorem jz(K:bH cf)(k:Nat)(hk:k≤1000000000000):ar cf 59 [I k] [] st=some (S (mt k),st):=by
 refine cB K.tab (F:=F59) (t:=2) rfl rfl rfl (lb rfl) (by simp[aQ]) (oq _) (k+1) ?_
 unfold F59 qg qr qd qm qc qb qk qo
 simp only[↓pa,pb,↓reduceIte,reduceCtorEq]
 refine ab (fun h0=>?_) (fun h0=>?_)
 ·have:k=0:=by omega
  subst this
  simp only[↓pa,pb,↓reduceIte,reduceAdd]
  rfl
 simp only[↓pa,pb,h0]
 refine aX (fun q fr st=>∃ (f j:Nat) (out:List UInt8),q=j∧j≤f∧fr 0=I j∧fr 3=S out∧out.length+j≤k∧dg f j out=dg k k []) k (by omega) ⟨k,k,[],rfl,by omega,by simp only[↓pa,↓reduceIte,reduceCtorEq],by simp only[↓pa,↓reduceIte],by simp,rfl⟩ ?_
 rintro q fr st ⟨f,j,out,rfl,hf,f0,f3,hl,hQ⟩
 simp only[↓pa,pb,↓reduceIte,f0]
 refine ab (fun h1=>?_) (fun h1=>?_)
 ·obtain⟨f,rfl⟩:∃ g,f=g+1:=⟨f-1,by omega⟩
  rw[dg,ad (by omega)]at hQ
  have hr:= @kN .i64 (q:Int) 10 (by omega)
  have hq:= @pA .i64 (q:Int) 10 (by omega)
  have e1:(q:Int).tmod 10=((q % 10:Nat):Int):=by rw[Int.ofNat_tmod];rfl
  have e2:(q:Int).tdiv 10=((q / 10:Nat):Int):=by rw[Int.ofNat_tdiv];rfl
  have e3:IntKind.i64.wrap ((q / 10:Nat):Int)=((q / 10:Nat):Int):=wrap_i64 (by omega) (by omega)
  have e4:IntKind.u8.wrap (48+((q % 10:Nat):Int))=48+((q % 10:Nat):Int):=Cj (by omega) (by omega)
  have e5:(48+((q % 10:Nat):Int)).toNat=48+q % 10:=by omega
  have e6:([UInt8.ofNat (48+q % 10)]:List UInt8).length+out.length≤9223372036854775807:=by simp only[ao,aV];omega
  simp (disch:=omega)only[↓pa,↓bM,pb,aj,↓reduceIte,reduceEqDiff,reduceAdd,reduceLeDiff,reduceLT,reduceCtorEq,f0,f3,h1,hr,hq,e1,e2,e3,e4,sN,e5]
  exact⟨q / 10,by omega,f,q / 10,_,rfl,by omega,rfl,rfl,by simp only[aM,bf,ao];omega,hQ⟩
 ·have:q=0:=by omega
  subst this
  rw[J3]at hQ
  have e6:([109]:List UInt8).length+out.length≤9223372036854775807:=by simp only[ao,aV];omega
  have e7:(PV.str ⟨#[109]⟩)=S [109]:=rfl
  simp (disch:=omega)only[↓pa,pb,↓reduceIte,reduceEqDiff,f3,h1,e7]
  rw[mt,ad (by omega),←hQ];rfl
def nQ(k n:Nat):List (List UInt8):=(List.range n).map fun i=>mt (k+i)
def kx(k n:Nat):List Fd:=(List.range n).map fun i=>(mt (k+2*i),mt (k+2*i+1))
def kw:List (Nat×Nat)→Nat→List Nd
 | [],_=>[]
 |(a,b)::l,k=>⟨k,nQ (k+1) a,kx (k+1+a) b⟩::kw l (k+1+a+2*b)
def bO:List (Nat×Nat)→Nat→Nat
 | [],k=>k
 |(a,b)::l,k=>bO l (k+1+a+2*b)
def jQ:List Nat→Nat→List Eg
 | [],_=>[]
 |b::l,k=>⟨k,mt (k+1),(k+2:Nat),(k+3:Nat),kx (k+4) b⟩::jQ l (k+4+2*b)
def cg:List Nat→Nat→Nat
 | [],k=>k
 |b::l,k=>cg l (k+4+2*b)
def rG:List (List (Nat×Nat)×List Nat)→Nat→List bj
 | [],_=>[]
 |(a,b)::l,k=>⟨kw a k,jQ b (bO a k)⟩::rG l (cg b (bO a k))
def fy:List (List (Nat×Nat)×List Nat)→Nat→Nat
 | [],k=>k
 |(a,b)::l,k=>fy l (cg b (bO a k))
theorem uJ:∀ (l:List (Nat×Nat)) (k:Nat),k≤bO l k
 | [],_=>aD _
 |(a,b)::l,k=>by have:=uJ l (k+1+a+2*b);rw[bO];omega
theorem oh:∀ (l:List Nat) (k:Nat),k≤cg l k
 | [],_=>aD _
 |b::l,k=>by have:=oh l (k+4+2*b);rw[cg];omega
theorem CY:∀ (l:List (List (Nat×Nat)×List Nat)) (k:Nat),k≤fy l k
 | [],_=>aD _
 |(a,b)::l,k=>by have:=CY l (cg b (bO a k));have:=oh b (bO a k);have:=uJ a k;rw[fy];omega
theorem x7(k n:Nat):(nQ k n).length=n:=by simp[nQ]
theorem x8(k n:Nat):(kx k n).length=n:=by simp[kx]
theorem KY{k n i:Nat}(h:i<n):iV (nQ k n) i=mt (k+i):=by simp[iV,nQ,h]
theorem Kj(K:bH cf)(k n:Nat)(hk:k+n≤1000000000000):ar cf 60 [TX (nQ k n),I k] [] st=some (I (k+n:Nat),st):=by
 refine cB K.tab (F:=F60) (t:=4) rfl rfl rfl (lb rfl) (by simp[iH,aQ]) (dn _ _) (n+1) ?_
 have hm:((nQ k n).map S).length=n:=by simp[x7]
 have hl:=x7 k n
 unfold F60 qr qd qm qi qb qk ql qt qa qn
 simp only[↓pa]
 refine aX (fun q fr st=>∃ i:Nat,q=n-i∧i≤n∧fr 0=TX (nQ k n)∧fr 1=I (k+i:Nat)∧fr 5=I i) n (by omega) ⟨0,by simp,by omega,by simp only[↓pa,↓reduceIte,reduceCtorEq],by simp only[↓pa,↓reduceIte,reduceEqDiff,bh],by simp only[↓pa,↓reduceIte];rfl⟩ ?_
 rintro q fr st ⟨i,rfl,hi,f0,f1,f5⟩
 simp only[↓pa,pb,aT,↓reduceIte,reduceEqDiff,reduceCtorEq,f0,f5,hl]
 refine ab (fun h=>?_) (fun h=>?_)
 ·have hlt:i<n:=by omega
  have hp:= @iY (nQ k n) i (by rw[hl];exact hlt)
  have ht:=fun st=>jz (st:=st) K (k+i) (by omega)
  rw[KY hlt]at hp
  simp (disch:=omega)only[↓pa,↓dV,pb,cS,fS,aT,ah,af,↓reduceIte,reduceEqDiff,dD,reduceCtorEq,f0,f1,f5,hl,h,fk,hp,ht]
  exact⟨n- (i+1),by omega,i+1,rfl,by omega,by congr 1,rfl⟩
 ·have:i=n:=by omega
  subst this
  simp only[↓pa,pb,↓reduceIte,reduceEqDiff,f1,h]
def eM(left size:Nat):Int:=if size≤left then((left-size:Nat):Int)else-1
def eo{α:Type}(m:α→Nat)(l:List α):Nat:=l.length+(l.map m).sum
def ld(l:List (List UInt8)):Nat:=eo List.length l
def nU(x:Fd):Nat:=x.1.length+x.2.length
def mF(l:List Fd):Nat:=eo nU l
def gy(x:Nd):Nat:=ld x.labels+mF x.fields
def kD(x:Eg):Nat:=x.type.length+mF x.fields
def kc(g:bj):Nat:=eo gy g.nodes+eo kD g.edges
theorem Ae{α:Type}(m:α→Nat){l:List α}{i:Nat}(h:i<l.length):((l.take (i+1)).map m).sum=((l.take i).map m).sum+m l[i]:=by
 rw[aL h,bS,List.sum_append];simp
theorem vC{α:Type}(m:α→Nat):∀ (l:List α) (i:Nat),((l.take i).map m).sum≤(l.map m).sum
 | [],i=>by simp
 |a::l,0=>by simp
 |a::l,i+1=>by have:=vC m l i;simp only[ji,aF,List.sum_cons];omega
def eA:Nat:=9223372036854775807
def E0(sz g:Nat):CC:=
 .seq (.reg [⟨none,(some 4),.mv (.k (.int .i64 0))⟩] [])
 (.seq (.reg [⟨none,(some 6),.mv (.sl 1)⟩,
  ⟨none,(some 7),.mv (.sl 0)⟩,
  ⟨none,(some 8),.len (.sl 7)⟩,
  ⟨none,(some 9),.bin .sub (.sl 6) (.sl 8)⟩,
  ⟨none,(some 1),.mv (.sl 9)⟩] [])
 (.seq (.seq (.reg [⟨none,(some 10),.mv (.sl 1)⟩,
  ⟨none,(some 11),.bin .lss (.sl 10) (.k (.int .i64 0))⟩] [])
 (.cond (.sl 11) (.seq (.reg [⟨none,(some 4),.mv (.k (.int .i64 (-1)))⟩] [])
  (.ret)) (.skip)))
 (.seq (.seq (.reg [⟨none,(some 5),.mv (.k (.int .i64 0))⟩] [])
 (.block 0 (.loop (.seq (.seq (.reg [⟨none,(some 12),.mv (.sl 5)⟩,
   ⟨none,(some 13),.mv (.sl 0)⟩,
   ⟨none,(some 14),.len (.sl 13)⟩,
   ⟨none,(some 15),.bin .lss (.sl 12) (.sl 14)⟩] [])
  (.cond (.sl 15) (.skip) (.exit 0)))
  (.seq (.block 1 (.seq (.reg [⟨none,(some 18),.mv (.sl 0)⟩,
    ⟨none,(some 19),.mv (.sl 5)⟩,
    ⟨none,(some 20),.iad sz (.sl 18) (.sl 19)⟩,
    ⟨none,(some 21),.load sz true (.sl 20)⟩,
    ⟨none,(some 22),.mv (.sl 1)⟩,
    ⟨none,(some 23),.call g [(.sl 21),(.sl 22)] []⟩,
    ⟨none,(some 1),.mv (.sl 23)⟩] [])
   (.seq (.reg [⟨none,(some 24),.mv (.sl 1)⟩,
    ⟨none,(some 25),.bin .lss (.sl 24) (.k (.int .i64 0))⟩] [])
   (.cond (.sl 25) (.seq (.reg [⟨none,(some 4),.mv (.k (.int .i64 (-1)))⟩] [])
   (.ret)) (.skip)))))
  (.reg [⟨none,(some 16),.mv (.sl 5)⟩,
   ⟨none,(some 17),.bin .add (.sl 16) (.k (.int .i64 1))⟩,
   ⟨none,(some 5),.mv (.sl 17)⟩] []))))))
 (.seq (.reg [⟨none,(some 26),.mv (.sl 1)⟩,
  ⟨none,(some 4),.mv (.sl 26)⟩] [])
 (.ret)))))
set_option maxHeartbeats 1000000 in
theorem z6(K:bH cf){f sz g:Nat}{F:bn}(hT:T f=some F)(hF:F.body=E0 sz g∧F.res=[.tmp 4]∧F.own=false∧2≤F.nt){α:Type}(enc:α→List PV)(hm:∀ a,(enc a).length=sz)(hp:∀ a,b8 (enc a))(m:α→Nat)(l:List α)(hl:l.length≤eA)(left:Nat)(hle:left≤2000000)
  (he:∀ a∈l,∀ left st,left≤2000000→ar cf g [.agg (enc a),I (left:Nat)] [] st=some (I (eM left (m a)),st)):ar cf f [.list l.length (l.flatMap enc) .no,I left] [] st=some (I (eM left (eo m l)),st):=by
 obtain⟨h1,h2,h3,h4⟩:=hF
 refine cB K.tab (F:=F) (t:=4) hT h2 h3 (by simpa using h4) (by simp[eB (fw enc hp l),aQ]) (dn _ _) (l.length+1) ?_
 have hlen:=ce enc sz hm l
 have hb:l.length≤9223372036854775807:=hl
 rw[h1,E0]
 simp (disch:=omega)only[↓pa,pb,↓reduceIte,reduceEqDiff,reduceCtorEq]
 refine ab (fun h0=>?_) (fun h0=>?_)
 ·simp only[↓pa,pb,↓reduceIte,h0]
  rw[eM,ad (by unfold eo;omega)]
 simp only[↓pa,pb,h0]
 refine aX (fun k fr st=>∃ i r:Nat,k=l.length-i∧i≤l.length∧fr 0= .list l.length (l.flatMap enc) .no∧fr 1=I (r:Nat)∧fr 5=I i∧r+(l.length+((l.take i).map m).sum)=left) l.length (by omega) ⟨0,left-l.length,by simp,by omega,by simp only[↓pa,↓reduceIte,reduceCtorEq],by simp only[↓pa,↓reduceIte,reduceEqDiff];congr 1;omega,by simp only[↓pa,↓reduceIte];rfl,by simp;omega⟩ ?_
 rintro k fr st ⟨i,r,rfl,hi,f0,f1,f5,hr⟩
 simp only[↓pa,pb,aT,↓reduceIte,reduceEqDiff,reduceCtorEq,f0,f5]
 have hsum:=vC m l (i+1)
 refine ab (fun h=>?_) (fun h=>?_)
 ·have hlt:i<l.length:=h
  have hc:=fun st=>he _ (bL hlt) r st (by omega)
  have hn:=Ae m hlt
  simp (disch:=omega)only[↓pa,pb,↓reduceIte,reduceEqDiff,reduceCtorEq,f0,f1,f5,h,xY hm hlt,hc]
  by_cases hd:m l[i]≤r
  ·have hdd:eM r (m l[i])=((r-m l[i]:Nat):Int):=by rw[eM,ai hd]
   have hneg:¬ (((r-m l[i]:Nat):Int)<0):=by omega
   simp (disch:=omega)only[↓pa,pb,aT,↓reduceIte,reduceEqDiff,reduceCtorEq,f0,f5,hdd,hneg]
   exact⟨l.length- (i+1),by omega,i+1,r-m l[i],rfl,by omega,rfl,rfl,by rw[hn];omega⟩
  ·have hdd:eM r (m l[i])= -1:=by rw[eM,ad hd]
   simp only[↓pa,pb,↓reduceIte,Int.reduceLT,hdd]
   rw[eM,ad (by unfold eo;rw[hn]at hsum;omega)]
 ·have hie:l.take i=l:=bC (by omega)
  simp only[↓pa,pb,↓reduceIte,reduceEqDiff,f1,h]
  rw[hie]at hr
  rw[eM,ai (by unfold eo;omega)]
  congr 1;unfold eo;omega
theorem Mm(K:bH cf)(l:List (List UInt8))(hl:l.length≤eA∧∀ x∈l,x.length≤eA)(left:Nat)(hle:left≤2000000):ar cf 116 [TX l,I left] [] st=some (I (eM left (ld l)),st):=by
 refine cB K.tab (F:=F116) (t:=4) rfl rfl rfl (lb rfl) (by simp[iH,aQ]) (dn _ _) (l.length+1) ?_
 have hm:(l.map S).length=l.length:=by simp
 have hb:l.length≤9223372036854775807:=hl.1
 unfold F116 qg qr qd qm qi qb qk ql qa qn qo
 simp (disch:=omega)only[↓pa,pb,↓reduceIte,reduceEqDiff,reduceCtorEq]
 refine ab (fun h0=>?_) (fun h0=>?_)
 ·simp only[↓pa,pb,↓reduceIte,h0]
  rw[eM,ad (by unfold ld eo;omega)]
 simp only[↓pa,pb,h0]
 refine aX (fun k fr st=>∃ i r:Nat,k=l.length-i∧i≤l.length∧fr 0=TX l∧fr 1=I (r:Nat)∧fr 5=I i∧r+(l.length+((l.take i).map List.length).sum)=left) l.length (by omega) ⟨0,left-l.length,by simp,by omega,by simp only[↓pa,↓reduceIte,reduceCtorEq],by simp only[↓pa,↓reduceIte,reduceEqDiff];congr 1;omega,by simp only[↓pa,↓reduceIte];rfl,by simp;omega⟩ ?_
 rintro k fr st ⟨i,r,rfl,hi,f0,f1,f5,hr⟩
 simp only[↓pa,pb,aT,↓reduceIte,reduceEqDiff,reduceCtorEq,f0,f5]
 have hsum:=vC List.length l (i+1)
 refine ab (fun h=>?_) (fun h=>?_)
 ·have hlt:i<l.length:=h
  have hn:=Ae List.length hlt
  have ht:iV l i=l[i]:=by simp[iV,hlt]
  have hb2:l[i].length≤9223372036854775807:=hl.2 _ (bL hlt)
  simp (disch:=omega)only[↓pa,pb,↓reduceIte,reduceEqDiff,reduceCtorEq,f0,f1,f5,h,fk,iY hlt,ht]
  refine ab (fun h2=>?_) (fun h2=>?_)
  ·simp only[↓pa,pb,↓reduceIte,h2]
   rw[eM,ad (by unfold ld eo;rw[hn]at hsum;omega)]
  ·simp (disch:=omega)only[↓pa,pb,aT,↓reduceIte,reduceEqDiff,reduceCtorEq,f0,f5,h2]
   exact⟨l.length- (i+1),by omega,i+1,r-l[i].length,rfl,by omega,by congr 1;omega,rfl,by rw[hn];omega⟩
 ·have hie:l.take i=l:=bC (by omega)
  simp only[↓pa,pb,↓reduceIte,reduceEqDiff,f1,h]
  rw[hie]at hr
  rw[eM,ai (by unfold ld eo;omega)]
  congr 1;unfold ld eo;omega
theorem Lk(K:bH cf)(x:Fd)(h:x.1.length≤eA∧x.2.length≤eA)(left:Nat)(hle:left≤2000000):ar cf 165 [.agg (fc x),I left] [] st=some (I (eM left (nU x)),st):=by
 refine cB K.tab (F:=F165) (t:=4) rfl rfl rfl (lb rfl) (by have:=(jJ [x]);simp at this;simp[fu this,aQ]) (dn _ _) 1 ?_
 have h1:x.1.length≤9223372036854775807:=h.1
 have h2:x.2.length≤9223372036854775807:=h.2
 unfold F165 qg qr qm qi qb qk ql qf qo
 simp (disch:=omega)only[↓pa,pb,aj,↓reduceIte,reduceEqDiff,reduceAdd,fc]
 refine ab (fun h3=>?_) (fun h3=>?_)
 ·simp only[↓pa,pb,↓reduceIte,h3]
  rw[eM,ad (by unfold nU;omega)]
 simp (disch:=omega)only[↓pa,pb,aj,↓reduceIte,reduceEqDiff,reduceAdd,h3]
 refine ab (fun h4=>?_) (fun h4=>?_)
 ·simp only[↓pa,pb,↓reduceIte,h4]
  rw[eM,ad (by unfold nU;omega)]
 simp only[↓pa,pb,↓reduceIte,reduceEqDiff,h4]
 rw[eM,ai (by unfold nU;omega)]
 congr 1;unfold nU;omega
structure uV (g:bj):Prop where
 ns:g.nodes.length≤eA
 es:g.edges.length≤eA
 nl:∀ x∈g.nodes,x.labels.length≤eA∧∀ t∈x.labels,t.length≤eA
 nf:∀ x∈g.nodes,x.fields.length≤eA∧∀ f∈x.fields,f.1.length≤eA∧f.2.length≤eA
 et:∀ x∈g.edges,x.type.length≤eA
 ef:∀ x∈g.edges,x.fields.length≤eA∧∀ f∈x.fields,f.1.length≤eA∧f.2.length≤eA
theorem Gq(K:bH cf)(l:List Fd)(h:l.length≤eA∧∀ f∈l,f.1.length≤eA∧f.2.length≤eA)(left:Nat)(hle:left≤2000000):ar cf 117 [FX l,I left] [] st=some (I (eM left (mF l)),st):=
 z6 K (f:=117) (F:=F117) rfl ⟨rfl,rfl,rfl,(lb rfl)⟩ fc (fun _=>rfl) (fun a=>by have:=jJ [a];simpa using this) nU l h.1 left hle fun a ha left st hl=>Lk K a (h.2 a ha) left hl
theorem Lh(K:bH cf)(x:Nd)(h1:x.labels.length≤eA∧∀ t∈x.labels,t.length≤eA)(h2:x.fields.length≤eA∧∀ f∈x.fields,f.1.length≤eA∧f.2.length≤eA)(left:Nat)(hle:left≤2000000):ar cf 79 [.agg (nc x),I left] [] st=some (I (eM left (gy x)),st):=by
 refine cB K.tab (F:=F79) (t:=4) rfl rfl rfl (lb rfl) (by simp[hY,aQ]) (dn _ _) 1 ?_
 have ht:=fun st=>Mm (st:=st) K x.labels h1 left hle
 have hf:=fun(left:Nat) (hl:left≤2000000) st=>Gq (st:=st) K x.fields h2 left hl
 unfold F79 qg qr qm qi qk ql qf qu qo
 simp only[↓pa,pb,aj,↓reduceIte,reduceEqDiff,reduceAdd,nc,ht]
 by_cases hd:ld x.labels≤left
 ·have hdd:eM left (ld x.labels)=((left-ld x.labels:Nat):Int):=by rw[eM,ai hd]
  have hneg:¬ (((left-ld x.labels:Nat):Int)<0):=by omega
  have hf2:=hf (left-ld x.labels) (by omega)
  simp only[↓pa,pb,aj,↓reduceIte,reduceEqDiff,reduceAdd,hdd,hneg,hf2]
  by_cases hd2:mF x.fields≤left-ld x.labels
  ·have hdd2:eM (left-ld x.labels) (mF x.fields)=((left-ld x.labels-mF x.fields:Nat):Int):=by rw[eM,ai hd2]
   have hneg2:¬ (((left-ld x.labels-mF x.fields:Nat):Int)<0):=by omega
   simp only[↓pa,pb,↓reduceIte,reduceEqDiff,hdd2,hneg2]
   rw[eM,ai (by unfold gy;omega)]
   congr 1;unfold gy;omega
  ·have hdd2:eM (left-ld x.labels) (mF x.fields)= -1:=by rw[eM,ad hd2]
   simp only[↓pa,pb,↓reduceIte,Int.reduceLT,hdd2]
   rw[eM,ad (by unfold gy;omega)]
 ·have hdd:eM left (ld x.labels)= -1:=by rw[eM,ad hd]
  simp only[↓pa,pb,↓reduceIte,Int.reduceLT,hdd]
  rw[eM,ad (by unfold gy;omega)]
theorem Ll(K:bH cf)(x:Eg)(h1:x.type.length≤eA)(h2:x.fields.length≤eA∧∀ f∈x.fields,f.1.length≤eA∧f.2.length≤eA)(left:Nat)(hle:left≤2000000):ar cf 80 [.agg (ec x),I left] [] st=some (I (eM left (kD x)),st):=by
 refine cB K.tab (F:=F80) (t:=4) rfl rfl rfl (lb rfl) (by simp[hZ,aQ]) (dn _ _) 1 ?_
 have hb:x.type.length≤9223372036854775807:=h1
 have hf:=fun(left:Nat) (hl:left≤2000000) st=>Gq (st:=st) K x.fields h2 left hl
 unfold F80 qg qr qm qi qb qk ql qf qu qo
 simp (disch:=omega)only[↓pa,pb,aj,↓reduceIte,reduceEqDiff,reduceAdd,ec]
 refine ab (fun h0=>?_) (fun h0=>?_)
 ·simp only[↓pa,pb,↓reduceIte,h0]
  rw[eM,ad (by unfold kD;omega)]
 have e0:(left:Int) - (x.type.length:Int)=((left-x.type.length:Nat):Int):=by omega
 have hf2:=hf (left-x.type.length) (by omega)
 simp only[↓pa,pb,aj,↓reduceIte,reduceEqDiff,reduceAdd,e0,hf2]
 by_cases hd2:mF x.fields≤left-x.type.length
 ·have hdd2:eM (left-x.type.length) (mF x.fields)=((left-x.type.length-mF x.fields:Nat):Int):=by rw[eM,ai hd2]
  have hneg2:¬ (((left-x.type.length-mF x.fields:Nat):Int)<0):=by omega
  simp only[↓pa,pb,↓reduceIte,reduceEqDiff,hdd2,hneg2]
  rw[eM,ai (by unfold kD;omega)]
  congr 1;unfold kD;omega
 ·have hdd2:eM (left-x.type.length) (mF x.fields)= -1:=by rw[eM,ad hd2]
  simp only[↓pa,pb,↓reduceIte,Int.reduceLT,hdd2]
  rw[eM,ad (by unfold kD;omega)]
theorem Li(K:bH cf)(g:bj)(h:uV g)(left:Nat)(hle:left≤2000000):ar cf 8 [.agg (gc g),I left] [] st=some (I (eM left (kc g)),st):=by
 refine cB K.tab (F:=F8) (t:=4) rfl rfl rfl (lb rfl) (by simp[gQ,aQ]) (dn _ _) 1 ?_
 have ht:=fun st=>z6 (st:=st) K (f:=38) (F:=F38) rfl ⟨rfl,rfl,rfl,(lb rfl)⟩ nc dI gE gy g.nodes h.ns left hle fun a ha left st hl=>Lh K a (h.nl a ha) (h.nf a ha) left hl
 have hf:=fun(left:Nat) (hl:left≤2000000) st=>z6 (st:=st) K (f:=39) (F:=F39) rfl ⟨rfl,rfl,rfl,(lb rfl)⟩ ec dl jL kD g.edges h.es left hl fun a ha left st hl=>Ll K a (h.et a ha) (h.ef a ha) left hl
 unfold F8 qg qr qm qi qk ql qf qu qo
 simp only[↓pa,pb,aj,↓reduceIte,reduceEqDiff,reduceAdd,gc,ht]
 by_cases hd:eo gy g.nodes≤left
 ·have hdd:eM left (eo gy g.nodes)=((left-eo gy g.nodes:Nat):Int):=by rw[eM,ai hd]
  have hneg:¬ (((left-eo gy g.nodes:Nat):Int)<0):=by omega
  have hf2:=hf (left-eo gy g.nodes) (by omega)
  simp only[↓pa,pb,aj,↓reduceIte,reduceEqDiff,reduceAdd,hdd,hneg,hf2]
  by_cases hd2:eo kD g.edges≤left-eo gy g.nodes
  ·have hdd2:eM (left-eo gy g.nodes) (eo kD g.edges)=((left-eo gy g.nodes-eo kD g.edges:Nat):Int):=by rw[eM,ai hd2]
   have hneg2:¬ (((left-eo gy g.nodes-eo kD g.edges:Nat):Int)<0):=by omega
   simp only[↓pa,pb,↓reduceIte,reduceEqDiff,hdd2,hneg2]
   rw[eM,ai (by unfold kc;omega)]
   congr 1;unfold kc;omega
  ·have hdd2:eM (left-eo gy g.nodes) (eo kD g.edges)= -1:=by rw[eM,ad hd2]
   simp only[↓pa,pb,↓reduceIte,Int.reduceLT,hdd2]
   rw[eM,ad (by unfold kc;omega)]
 ·have hdd:eM left (eo gy g.nodes)= -1:=by rw[eM,ad hd]
  simp only[↓pa,pb,↓reduceIte,Int.reduceLT,hdd]
  rw[eM,ad (by unfold kc;omega)]
theorem lQ{α:Type}{m:α→Nat}{l:List α}:l.length≤eo m l:=by unfold eo;omega
theorem xU{α:Type}{m:α→Nat}{l:List α}{a:α}(h:a∈l):m a≤eo m l:=by
 unfold eo
 have:m a≤(l.map m).sum:=by
  induction l with
  |nil=>simp at h
  |cons x l ih=>
   rw[aF,List.sum_cons]
   rcases aJ.1 h with rfl|h
   ·omega
   ·have:=ih h;omega
 omega
theorem J0{g:bj}(h:kc g≤1048576):sS g:=by
 have h1:eo gy g.nodes≤1048576:=by unfold kc at h;omega
 have h2:eo kD g.edges≤1048576:=by unfold kc at h;omega
 refine⟨by have:= @lQ _ gy g.nodes;omega,by have:= @lQ _ kD g.edges;omega,fun x hx=>?_,fun x hx=>?_⟩
 ·have h3:gy x≤1048576:=di (xU (m:=gy) hx) h1
  unfold gy ld mF at h3
  have h4:= @lQ _ List.length x.labels
  have h5:= @lQ _ nU x.fields
  exact⟨by omega,by omega⟩
 ·have h3:kD x≤1048576:=di (xU (m:=kD) hx) h2
  unfold kD mF at h3
  have h5:= @lQ _ nU x.fields
  omega
theorem AA:∀ (vs as cs bs:List PV),vs.length=cs.length→putCells (as++(cs++bs)) as.length vs=as++(vs++bs)
 | [],as,[],bs,_=>rfl
 |v::vs,as,c::cs,bs,h=>by
  rw[sY]
  have:(as++(c::cs++bs)).set as.length v=(as++[v])++(cs++bs):=by simp
  rw[this]
  have h2:=AA vs (as++[v]) cs bs (by simpa using h)
  rw[ak]at h2
  simp only[ao,aV,bg]at h2
  rw[h2]
  simp
def EW(e sz by_ g:Nat)(zs:List PV):CC:=
 .seq (.reg [⟨none,(some 2),.mv (.k (.list 0 [] .nil))⟩] [])
 (.seq (.reg [⟨none,(some 5),.mv (.sl 0)⟩,
  ⟨none,(some 6),.len (.sl 5)⟩,
  ⟨none,(some 7),.mks e sz by_ zs (.sl 6) (.sl 6)⟩,
  ⟨none,(some 3),.mv (.sl 7)⟩] [])
 (.seq (.seq (.reg [⟨none,(some 4),.mv (.k (.int .i64 0))⟩] [])
 (.block 0 (.loop (.seq (.seq (.reg [⟨none,(some 8),.mv (.sl 4)⟩,
   ⟨none,(some 9),.mv (.sl 0)⟩,
   ⟨none,(some 10),.len (.sl 9)⟩,
   ⟨none,(some 11),.bin .lss (.sl 8) (.sl 10)⟩] [])
  (.cond (.sl 11) (.skip) (.exit 0)))
  (.seq (.block 1 (.reg [⟨none,(some 14),.mv (.sl 3)⟩,
    ⟨none,(some 15),.mv (.sl 4)⟩,
    ⟨none,(some 16),.mv (.sl 0)⟩,
    ⟨none,(some 17),.mv (.sl 4)⟩,
    ⟨none,(some 18),.iad sz (.sl 16) (.sl 17)⟩,
    ⟨none,(some 19),.load sz true (.sl 18)⟩,
    ⟨none,(some 20),.call g [(.sl 19)] []⟩,
    ⟨none,(some 21),.iad sz (.sl 14) (.sl 15)⟩,
    ⟨none,none,.store sz (.sl 21) (.sl 20)⟩] []))
  (.reg [⟨none,(some 12),.mv (.sl 4)⟩,
   ⟨none,(some 13),.bin .add (.sl 12) (.k (.int .i64 1))⟩,
   ⟨none,(some 4),.mv (.sl 13)⟩] []))))))
 (.seq (.reg [⟨none,(some 22),.mv (.sl 3)⟩,
  ⟨none,(some 2),.mv (.sl 22)⟩] [])
 (.ret))))
theorem yw:∀ l:List (List UInt8),b8 (l.map S)
 | []=>dK
 |x::l=>bq (cD _) (yw l)
theorem Hl(m:Nat)(zs:List PV):(List.replicate (m+1) zs).flatten=zs++(List.replicate m zs).flatten:=by simp[jj]
set_option maxHeartbeats 1000000 in
theorem zZ(K:bH cf){f e sz by_ g:Nat}{zs:List PV}{F:bn}(hT:T f=some F)(hF:F.body=EW e sz by_ g zs∧F.res=[.tmp 2]∧F.own=true∧F.nk=0∧1≤F.nt)(hz:zs.length=sz)(hsz:0<sz)(hby:by_≤1000){α:Type}(enc:α→List PV)(hm:∀ a,(enc a).length=sz)(hp:∀ a,b8 (enc a))(l:List α)(hl:l.length≤2000000)
  (he:∀ a∈l,∀ st,∃ r ns,ar cf g [.agg (enc a)] [] st=some (r,st.more ns)∧cW st.nx ns r∧aA r= .agg (enc a)):
  ∃ r ns,ar cf f [.list l.length (l.flatMap enc) .no] [] st=some (r,st.more ns)∧cW st.nx ns r∧aA r= .list l.length (l.flatMap enc) .no:=by
 obtain⟨h1,h2,h3,h5,h4⟩:=hF
 refine Gn K.tab (F:=F) (t:=2) hT h2 h3 h5 (by simpa using h4) (by simp[eB (fw enc hp l)]) (l.length+1) ?_
 have hlen:=ce enc sz hm l
 have hby2:=Nat.mul_le_mul hby hl
 have hmks:=fun s st=> @CI e sz by_ s zs (l.length:Int) st (by omega) (by simp only[gN];omega) (by omega) hz hsz
 rw[h1,EW]
 simp only[↓pa,pb,↓reduceIte,reduceCtorEq,lx,hmks]
 refine aX (fun k fr st=>∃ (i:Nat) (cs:List PV),k=l.length-i∧i≤l.length∧fr 0= .list l.length (l.flatMap enc) .no∧fr 3= .osl e sz 7 l.length∧fr 4=I i∧st.objs 7=some (cs++(List.replicate (l.length-i) zs).flatten)∧cs.length=i*sz∧aB cs=(l.take i).flatMap enc∧aG cs=true∧bc cs=true∧a6 st (aw cs)∧st.fl=0) l.length (by omega)
  ⟨0,[],by simp,by omega,by simp only[↓pa,pb,↓reduceIte,reduceCtorEq],by simp only[↓pa,↓reduceIte,reduceEqDiff]<;>simp,by simp only[↓pa,↓reduceIte]<;>rfl,by simp only[pb,aj,↓reduceIte]<;>simp,by simp,rfl,rfl,rfl,br fp,rfl⟩ ?_
 rintro k fr st ⟨i,cs,rfl,hi,f0,f3,f4,o7,hc1,hc2,hc3,hc4,hT2,hfl⟩
 simp only[↓pa,pb,aT,↓reduceIte,reduceEqDiff,reduceCtorEq,f0,f4]
 refine ab (fun h=>?_) (fun h=>?_)
 ·have hlt:i<l.length:=h
  have hrep:l.length-i=(l.length- (i+1))+1:=by omega
  rw[hrep,Hl]at o7
  simp (disch:=omega)only[↓pa,pb,↓reduceIte,reduceEqDiff,reduceCtorEq,f0,f3,f4,h,xY hm hlt]
  refine eV (he _ (bL hlt) _) (fun r ns hFr hr=>?_)
  obtain⟨ds,rfl,hds⟩:=jl hr
  have hdl:ds.length=sz:=by rw[←hm l[i],←hds,ct,bu]
  have hw:putCells (cs++(zs++(List.replicate (l.length- (i+1)) zs).flatten)) (i*sz) ds=(cs++ds)++(List.replicate (l.length- (i+1)) zs).flatten:=by
   rw[←hc1,AA ds cs zs _ (by rw[hdl,hz]),cK]
  have hle:(i*sz+sz≤(cs++(zs++(List.replicate (l.length- (i+1)) zs).flatten)).length)=True:=by
   refine eq_true ?_
   rw[ak,ak,hc1,hz];omega
  simp (disch:=omega)only[↓pa,pb,aj,aT,↓reduceIte,reduceEqDiff,reduceCtorEq,f0,f3,f4,lx,o7,hdl,hw,hle]
  refine⟨l.length- (i+1),by omega,i+1,cs++ds,rfl,by omega,rfl,rfl,?_,?_,?_,?_,?_,by rw[St.more_fl];exact hfl⟩
  ·rw[ak,hc1,hdl,fm,Nat.one_mul]
  ·rw[gg,hc2,hds,aL hlt,dF];simp
  ·exact kF hc3 hFr.np
  ·have:=hFr.so
   simp only[aH]at this
   rw[gh,hc4,this];rfl
  ·rw[gb]
   have:=hFr.tk
   simp only[aq]at this
   rw[this]
   exact br (ew hT2 (by omega) ns)
 ·have hie:i=l.length:=by omega
  subst hie
  simp only[↓pa,pb,↓reduceIte,reduceEqDiff,f3,h]
  rw[Nat.sub_self]at o7
  refine⟨m9.2 trivial,e,sz,7,l.length,cs,by simp only[↓pa,↓reduceIte],by rw[o7];simp,hc1,by omega,hc3,hc4,hT2,hfl,?_⟩
  rw[hc2,bC (aD _)]
set_option maxHeartbeats 1000000 in
theorem Mi(K:bH cf)(l:List (List UInt8))(hl:l.length≤2000000):∃ r ns,ar cf 122 [TX l] [] st=some (r,st.more ns)∧cW st.nx ns r∧aA r=TX l:=by
 refine Gn K.tab (F:=F122) (t:=2) rfl rfl rfl rfl (lb rfl) (by simp[iH]) (l.length+1) ?_
 have hlen:(l.map S).length=l.length:=by simp
 have hmks:=fun s st=> @CI 9 1 16 s [(PV.str ⟨#[]⟩)] (l.length:Int) st (by omega) (by simp only[gN];omega) (by omega) rfl (by decide)
 unfold F122 qr qd qm qi qc qb qk ql qa qn qs qo qN
 simp only[↓pa,pb,↓reduceIte,reduceCtorEq,lx,hmks]
 refine aX (fun k fr st=>∃ (i:Nat),k=l.length-i∧i≤l.length∧fr 0=TX l∧fr 3= .osl 9 1 7 l.length∧fr 4=I i∧st.objs 7=some ((l.take i).map S++List.replicate (l.length-i) (.str ⟨#[]⟩))∧a6 st []∧st.fl=0) l.length (by omega)
  ⟨0,by simp,by omega,by simp only[↓pa,pb,↓reduceIte,reduceCtorEq],by simp only[↓pa,↓reduceIte,reduceEqDiff]<;>simp,by simp only[↓pa,↓reduceIte]<;>rfl,by simp only[pb,↓reduceIte]<;>simp,br fp,rfl⟩ ?_
 rintro k fr st ⟨i,rfl,hi,f0,f3,f4,o7,hT2,hfl⟩
 simp only[↓pa,pb,aT,↓reduceIte,reduceEqDiff,reduceCtorEq,f0,f4]
 refine ab (fun h=>?_) (fun h=>?_)
 ·have hlt:i<l.length:=h
  have ht:iV l i=l[i]:=by simp[iV,hlt]
  have hrep:l.length-i=(l.length- (i+1))+1:=by omega
  rw[hrep,jj]at o7
  have hc1:((l.take i).map S).length=i:=by simp;omega
  have hw:putCells ((l.take i).map S++(PV.str ⟨#[]⟩)::List.replicate (l.length- (i+1)) (.str ⟨#[]⟩)) i [S l[i]]=(l.take (i+1)).map S++List.replicate (l.length- (i+1)) (.str ⟨#[]⟩):=by
   have:=AA [S l[i]] ((l.take i).map S) [(PV.str ⟨#[]⟩)] (List.replicate (l.length- (i+1)) (.str ⟨#[]⟩)) rfl
   rw[hc1]at this
   simp only[aM,bf]at this
   rw[this,aL hlt,bS]
   simp only[aF,bK,cK,aM,bf]
  have hle:(i+1≤((l.take i).map S++(PV.str ⟨#[]⟩)::List.replicate (l.length- (i+1)) (.str ⟨#[]⟩)).length)=True:=by
   refine eq_true ?_
   rw[ak,hc1,ao];omega
  simp (disch:=omega)only[↓pa,pb,aj,aT,↓reduceIte,reduceEqDiff,reduceAdd,reduceCtorEq,f0,f3,f4,h,fk,iY hlt,ht,o7,hw,hle]
  exact⟨l.length- (i+1),by omega,i+1,rfl,by omega,rfl,rfl,br hT2,hfl⟩
 ·have hie:i=l.length:=by omega
  subst hie
  simp only[↓pa,pb,↓reduceIte,reduceEqDiff,f3,h]
  rw[Nat.sub_self]at o7
  obtain⟨s1,s2⟩:=CT (cs:=l.map S) (by simp[xz,S])
  have hpl:=yw l
  refine⟨m9.2 trivial,9,1,7,l.length,l.map S,by simp only[↓pa,↓reduceIte],by rw[o7];simp,by simp,by omega,hpl.1,s1,by rw[s2];exact hT2,hfl,?_⟩
  rw[hpl.2.1]
theorem Lg(K:bH cf)(x:Fd):∃ r ns,ar cf 170 [.agg (fc x)] [] st=some (r,st.more ns)∧cW st.nx ns r∧aA r= .agg (fc x):=by
 refine oW K.tab (F:=F170) (Q:=fun r=>r= .agg (fc x)) rfl rfl rfl (lb rfl) (by have:=(jJ [x]);simp at this;simp[fu this]) 1 ?_
 unfold F170 qr ql qf qs qo
 simp only[↓pa,pb,aj,↓reduceIte,reduceEqDiff,reduceAdd,reduceLeDiff,fc,lx]
 exact⟨rfl,rfl,rfl,br (br (br (br (br (br fp))))),rfl⟩
theorem Gp(K:bH cf)(l:List Fd)(hl:l.length≤2000000):∃ r ns,ar cf 123 [FX l] [] st=some (r,st.more ns)∧cW st.nx ns r∧aA r=FX l:=
 zZ K (f:=123) (F:=F123) rfl ⟨rfl,rfl,rfl,rfl,(lb rfl)⟩ rfl (by decide) (by decide) fc (fun _=>rfl) (fun a=>by have:=jJ [a];simpa using this) l hl fun a _ st=>Lg K a
theorem Mj(K:bH cf)(x:Nd)(h1:x.labels.length≤2000000)(h2:x.fields.length≤2000000):∃ r ns,ar cf 86 [.agg (nc x)] [] st=some (r,st.more ns)∧cW st.nx ns r∧aA r= .agg (nc x):=by
 refine oW K.tab (F:=F86) (Q:=fun r=>r= .agg (nc x)) rfl rfl rfl (lb rfl) (by simp[hY]) 1 ?_
 unfold F86 qr ql qf qt qs qo qN
 simp only[↓pa,pb,aj,↓reduceIte,reduceEqDiff,reduceAdd,reduceLeDiff,nc]
 refine eV (Mi K x.labels h1) (fun r ns hF hr=>?_)
 obtain⟨ds,u,rfl,hd,-⟩:=cw hr
 simp only[↓pa,pb,aj,↓reduceIte,reduceEqDiff,reduceAdd,reduceLeDiff,lx]
 refine eV (Gp K x.fields h2) (fun r2 ns2 hF2 hr2=>?_)
 obtain⟨ds2,u2,rfl,hd2,-⟩:=cw hr2
 simp only[↓pa,pb,aj,↓reduceIte,reduceEqDiff,reduceAdd,reduceLeDiff,lx]
 refine⟨rfl,?_,?_,?_,?_⟩
 ·simp only[av,bX,cr];have a:=hF.np;have b:=hF2.np;simp only[av]at a b;rw[a,b];rfl
 ·have a:=hF.so;have b:=hF2.so;simp only[aH,bc,bX,cr]at a b ⊢;rw[a,b];rfl
 ·have a:=hF.tk
  have b:=hF2.tk
  simp only[aq,aw,bf,aO]at a b ⊢
  rw[a,b]
  exact br (br (ew (br (ew (br (br (br (br fp)))) (aY _) ns)) (by simp only[bU,St.more_fl,cF];exact aY _) ns2))
 ·simp only[av,hd,hd2]
theorem Ml(K:bH cf)(x:Eg)(h2:x.fields.length≤2000000):∃ r ns,ar cf 87 [.agg (ec x)] [] st=some (r,st.more ns)∧cW st.nx ns r∧aA r= .agg (ec x):=by
 refine oW K.tab (F:=F87) (Q:=fun r=>r= .agg (ec x)) rfl rfl rfl (lb rfl) (by simp[hZ]) 1 ?_
 unfold F87 qr ql qf qt qs qo qN
 simp only[↓pa,pb,aj,↓reduceIte,reduceEqDiff,reduceAdd,reduceLeDiff,ec]
 refine eV (Gp K x.fields h2) (fun r2 ns2 hF2 hr2=>?_)
 obtain⟨ds2,u2,rfl,hd2,-⟩:=cw hr2
 simp only[↓pa,pb,aj,↓reduceIte,reduceEqDiff,reduceAdd,reduceLeDiff,lx]
 refine⟨rfl,?_,?_,?_,?_⟩
 ·simp only[av,bX,cr];have b:=hF2.np;simp only[av]at b;exact b
 ·have b:=hF2.so;simp only[aH,bc,bX,cr]at b ⊢;exact b
 ·have b:=hF2.tk
  simp only[aq,aw,bf,aO]at b ⊢
  rw[b]
  refine br (br (ew (st:=bU _ _ _) (l:=[]) ?_ (aY _) ns2))
  exact fp
 ·simp only[av,hd2]
theorem Mk(K:bH cf)(g:bj)(h:sS g):∃ r ns,ar cf 10 [.agg (gc g)] [] st=some (r,st.more ns)∧cW st.nx ns r∧aA r= .agg (gc g):=by
 refine oW K.tab (F:=F10) (Q:=fun r=>r= .agg (gc g)) rfl rfl rfl (lb rfl) (by simp[gQ]) 1 ?_
 unfold F10 qr ql qf qt qs qo qN
 simp only[↓pa,pb,aj,↓reduceIte,reduceEqDiff,reduceAdd,gc]
 refine eV (zZ K (f:=44) (F:=F44) rfl ⟨rfl,rfl,rfl,rfl,(lb rfl)⟩ rfl (by decide) (by decide) nc dI gE g.nodes h.ns fun a ha st=>Mj K a (h.nf a ha).2 (h.nf a ha).1) (fun r ns hF hr=>?_)
 obtain⟨ds,u,rfl,hd,-⟩:=cw hr
 simp only[↓pa,pb,aj,↓reduceIte,reduceEqDiff,reduceAdd,reduceLeDiff,lx]
 refine eV (zZ K (f:=45) (F:=F45) rfl ⟨rfl,rfl,rfl,rfl,(lb rfl)⟩ rfl (by decide) (by decide) ec dl jL g.edges h.es fun a ha st=>Ml K a (h.ef a ha)) (fun r2 ns2 hF2 hr2=>?_)
 obtain⟨ds2,u2,rfl,hd2,-⟩:=cw hr2
 simp only[↓pa,pb,aj,↓reduceIte,reduceEqDiff,reduceAdd,reduceLeDiff,lx]
 refine⟨rfl,?_,?_,?_,?_⟩
 ·simp only[av,cr];have a:=hF.np;have b:=hF2.np;simp only[av]at a b;rw[a,b];rfl
 ·have a:=hF.so;have b:=hF2.so;simp only[aH,bc,cr]at a b ⊢;rw[a,b];rfl
 ·have a:=hF.tk
  have b:=hF2.tk
  simp only[aq,aw,aO]at a b ⊢
  rw[a,b]
  refine br (br (ew (br (ew (st:=bU _ _ _) (l:=[]) ?_ (aY _) ns)) (by simp only[bU,St.more_fl,cF];exact aY _) ns2))
  exact fp
 ·simp only[av,hd,hd2]
theorem tC{n:Nat}{c:PV}{pre post:List PV}{tk:ay}(h:aH (.list n (pre++c::post) tk)=true):∃ k e,tk= .own k e:=by
 cases tk with
 |own k e=>exact⟨k,e,rfl⟩
 |_=>simp[aH]at h
theorem HD(k i:Nat):nQ k (i+1)=nQ k i++[mt (k+i)]:=by
 unfold nQ
 rw[List.range_succ,bS];rfl
theorem HE(k i:Nat):kx k (i+1)=kx k i++[(mt (k+2*i),mt (k+2*i+1))]:=by
 unfold kx
 rw[List.range_succ,bS];rfl
set_option maxHeartbeats 1000000 in
theorem Ke(K:bH cf)(k n:Nat)(hk:k+n≤1000000000000){cs:List PV}{tk:ay}(hs:aH (.list n cs tk)=true)(hn:aG cs=true)(hl:cs.length=n)(hT:a6 st (aq (.list n cs tk))):
  ∃ p ns,uP cf 57 [.list n cs tk,I k] st=some (I (k+n:Nat),p,ez ((aq (.list n cs tk)).map (·.1)) ns st)∧cW st.nx ns p∧aA p= .list n ((nQ k n).map S) .no∧cX [.list n cs tk,I k] [0] st=(aq (.list n cs tk)).map (·.1):=by
 refine ug K.tab (f:=57) (F:=FB57) (t:=4) rfl rfl rfl hs hn hT (lb rfl) (n+1) (fun cs0 tk0 ns h1 h2 h3 h4 h5=>?_)
 have hcl:cs0.length=n:=by rw[h2,hl]
 clear hs hn hT
 unfold FB57 qr qd qm qi qb qk qt qa qn qe
 simp only[↓pa]
 refine aX (fun q fr st=>∃ (i:Nat) (ds rs:List PV),q=n-i∧i≤n∧fr 0= .list n (ds++rs) tk0∧fr 1=I (k+i:Nat)∧fr 5=I i∧ds.length=i∧rs.length=n-i∧aB ds=(nQ k i).map S∧aG (ds++rs)=true∧aH (.list n (ds++rs) tk0)=true∧a6 st ([]++aq (.list n (ds++rs) tk0)++[])∧st.fl=0) n (by omega)
  ⟨0,[],cs0,by simp,by omega,by simp only[↓pa,aj,↓reduceIte,reduceCtorEq]<;>simp,by simp only[↓pa,↓reduceIte,reduceEqDiff]<;>simp,by simp only[↓pa,↓reduceIte]<;>rfl,rfl,by omega,rfl,by simpa using h3,by simpa using h4,by simpa using h5,rfl⟩ ?_
 rintro q fr st ⟨i,ds,rs,rfl,hi,f0,f1,f5,hd1,hr1,hd2,hnp,hso,hTk,hfl⟩
 simp only[↓pa,pb,aT,↓reduceIte,reduceEqDiff,reduceCtorEq,f0,f5]
 refine ab (fun h=>?_) (fun h=>?_)
 ·have hlt:i<n:=by omega
  obtain⟨c,rs',rfl⟩:∃ c rs',rs=c::rs':=by
   cases rs with
   |nil=>simp at hr1;omega
   |cons c rs'=>exact⟨c,rs',rfl⟩
  obtain⟨j,e,rfl⟩:=tC hso
  have ht:=fun st=>jz (st:=st) K (k+i) (by omega)
  have hlen:(ds++c::rs').length=n:=by rw[ak,hd1];simp at hr1 ⊢;omega
  simp (disch:=omega)only[↓pa,pb,aj,↓reduceIte,reduceEqDiff,reduceCtorEq,f0,f1,f5,h,ht,g9,fk]
  refine iO (X:=[]) (Y:=[]) hd1.symm (by omega) hso hnp hTk ⟨rfl,rfl,rfl⟩ (fun hso' hnp' hTk'=>?_)
  have hbk:=fun cs' E'=> @nd n j e E' i ds rs' cs' c (S (mt (k+i))) hd1.symm
  simp (disch:=omega)only[↓pa,pb,aT,↓reduceIte,reduceEqDiff,reduceCtorEq,f0,f1,f5,g9,hbk]
  have hcat:ds++[S (mt (k+i))]++rs'=ds++S (mt (k+i))::rs':=by simp
  refine⟨n- (i+1),by omega,i+1,ds++[S (mt (k+i))],rs',rfl,by omega,by rw[hcat],by congr 1,rfl,by simp[hd1],by simp at hr1;omega,?_,by rw[hcat];exact hnp',by rw[hcat];exact hso',by rw[hcat];exact hTk',hfl⟩
  rw[gg,hd2,HD,bS];rfl
 ·have hie:i=n:=by omega
  subst hie
  have hrn:rs=[]:=aP (by omega)
  subst hrn
  rw[aO]at hnp hso hTk f0
  simp only[↓pa,pb,↓reduceIte,reduceEqDiff,reduceCtorEq,f0,f1,h,g9]
  refine⟨_,rfl,rfl,hnp,hso,by simpa using hTk,rfl,?_⟩
  rw[ep,hd2]
set_option maxHeartbeats 2000000 in
theorem Db(K:bH cf)(k n:Nat)(hk:k+2*n≤1000000000000){cs:List PV}{tk:ay}(hs:aH (.list n cs tk)=true)(hn:aG cs=true)(hl:cs.length=n*2)(hT:a6 st (aq (.list n cs tk))):
  ∃ p ns,uP cf 58 [.list n cs tk,I k] st=some (I (k+2*n:Nat),p,ez ((aq (.list n cs tk)).map (·.1)) ns st)∧cW st.nx ns p∧aA p= .list n ((kx k n).flatMap fc) .no∧cX [.list n cs tk,I k] [0] st=(aq (.list n cs tk)).map (·.1):=by
 refine ug K.tab (f:=58) (F:=FB58) (t:=4) rfl rfl rfl hs hn hT (lb rfl) (n+1) (fun cs0 tk0 ns h1 h2 h3 h4 h5=>?_)
 have hcl:cs0.length=n*2:=by rw[h2,hl]
 clear hs hn hT
 unfold FB58 qr qd qm qi qb qk qf qt qa qn qe
 simp only[↓pa]
 refine aX (fun q fr st=>∃ (i:Nat) (ds rs:List PV),q=n-i∧i≤n∧fr 0= .list n (ds++rs) tk0∧fr 1=I (k+2*i:Nat)∧fr 5=I i∧ds.length=i*2∧rs.length=(n-i) *2∧aB ds=(kx k i).flatMap fc∧aG (ds++rs)=true∧aH (.list n (ds++rs) tk0)=true∧a6 st ([]++aq (.list n (ds++rs) tk0)++[])∧st.fl=0) n (by omega)
  ⟨0,[],cs0,by simp,by omega,by simp only[↓pa,aj,↓reduceIte,reduceCtorEq]<;>simp,by simp only[↓pa,↓reduceIte,reduceEqDiff,reduceMul]<;>simp,by simp only[↓pa,↓reduceIte]<;>rfl,rfl,by omega,rfl,by simpa using h3,by simpa using h4,by simpa using h5,rfl⟩ ?_
 rintro q fr st ⟨i,ds,rs,rfl,hi,f0,f1,f5,hd1,hr1,hd2,hnp,hso,hTk,hfl⟩
 simp only[↓pa,pb,aT,↓reduceIte,reduceEqDiff,reduceCtorEq,f0,f5]
 refine ab (fun h=>?_) (fun h=>?_)
 ·have hlt:i<n:=by omega
  obtain⟨c,d,rs',rfl⟩:∃ c d rs',rs=c::d::rs':=by
   match rs,hr1 with
   | [],h=>simp at h;omega
   | [c],h=>simp at h;omega
   |c::d::rs',_=>exact⟨c,d,rs',rfl⟩
  obtain⟨j,e,rfl⟩:=tC hso
  have ht:=fun st=>jz (st:=st) K (k+2*i) (by omega)
  have ht2:=fun st=>jz (st:=st) K (k+2*i+1) (by omega)
  have hr2:rs'.length+2=(n-i) *2:=by simpa using hr1
  have hlen:(ds++c::d::rs').length=n*2:=by rw[ak,hd1];simp only[ao];omega
  simp (disch:=omega)only[↓pa,pb,aj,↓reduceIte,reduceEqDiff,reduceCtorEq,f0,f1,f5,h,ht,g9,bh]
  refine iO (X:=[]) (Y:=[]) hd1.symm (by omega) hso hnp hTk ⟨rfl,rfl,rfl⟩ (fun hso' hnp' hTk'=>?_)
  have hbk:=fun cs' E'=> @nd n j e E' (i*2) ds (d::rs') cs' c (S (mt (k+2*i))) hd1.symm
  have hcat1:ds++S (mt (k+2*i))::d::rs'=(ds++[S (mt (k+2*i))])++d::rs':=by simp
  rw[hcat1]at hbk hso' hnp' hTk'
  have hlen2:(ds++[S (mt (k+2*i))]++d::rs').length=n*2:=by rw[ak,ak,hd1];simp only[ao,aV];omega
  have hoff:i*2+1=(ds++[S (mt (k+2*i))]).length:=by rw[ak,hd1];rfl
  simp (disch:=omega)only[↓pa,pb,aj,aT,↓reduceIte,reduceEqDiff,reduceCtorEq,f0,f1,f5,g9,hbk,ht2]
  refine iO (X:=[]) (Y:=[]) hoff (by omega) hso' hnp' hTk' ⟨rfl,rfl,rfl⟩ (fun hso2 hnp2 hTk2=>?_)
  have hbk2:=fun cs' E'=> @nd n j e E' (i*2+1) (ds++[S (mt (k+2*i))]) rs' cs' d (S (mt (k+2*i+1))) hoff
  simp (disch:=omega)only[↓pa,pb,aT,↓reduceIte,reduceEqDiff,reduceCtorEq,f0,f5,g9,hbk,hbk2]
  have hcat:ds++[S (mt (k+2*i)),S (mt (k+2*i+1))]++rs'=ds++[S (mt (k+2*i))]++S (mt (k+2*i+1))::rs':=by simp
  refine⟨n- (i+1),by omega,i+1,ds++[S (mt (k+2*i)),S (mt (k+2*i+1))],rs',rfl,by omega,by rw[hcat],by congr 1,rfl,by simp only[ak,hd1,ao,aV];omega,by omega,?_,by rw[hcat];exact hnp2,by rw[hcat];exact hso2,by rw[hcat];exact hTk2,hfl⟩
  rw[gg,hd2,HE,dF];rfl
 ·have hie:i=n:=by omega
  subst hie
  have hrn:rs=[]:=aP (by omega)
  subst hrn
  rw[aO]at hnp hso hTk f0
  simp only[↓pa,pb,↓reduceIte,reduceEqDiff,reduceCtorEq,f0,f1,h,g9]
  refine⟨_,rfl,rfl,hnp,hso,by simpa using hTk,rfl,?_⟩
  rw[ep,hd2]
theorem vT:∀ (l:List (Nat×Nat)) (a b k:Nat),kw (l++[(a,b)]) k=kw l k++[⟨bO l k,nQ (bO l k+1) a,kx (bO l k+1+a) b⟩]∧bO (l++[(a,b)]) k=bO l k+1+a+2*b
 | [],a,b,k=>⟨rfl,rfl⟩
 |(x,y)::l,a,b,k=>by
  obtain⟨h1,h2⟩:=vT l a b (k+1+x+2*y)
  exact⟨by simp only[aM,kw,bO,h1],by simp only[aM,bO,h2]⟩
theorem vV:∀ (l:List Nat) (b k:Nat),jQ (l++[b]) k=jQ l k++[⟨cg l k,mt (cg l k+1),(cg l k+2:Nat),(cg l k+3:Nat),kx (cg l k+4) b⟩]∧cg (l++[b]) k=cg l k+4+2*b
 | [],b,k=>⟨rfl,rfl⟩
 |y::l,b,k=>by
  obtain⟨h1,h2⟩:=vV l b (k+4+2*y)
  exact⟨by simp only[aM,jQ,cg,h1],by simp only[aM,cg,h2]⟩
theorem wb:∀ (l m:List (Nat×Nat)) (k:Nat),bO (l++m) k=bO m (bO l k)
 | [],_,_=>rfl
 |(x,y)::l,m,k=>by rw[aM,bO,bO,wb l m]
theorem wd:∀ (l m:List Nat) (k:Nat),cg (l++m) k=cg m (cg l k)
 | [],_,_=>rfl
 |y::l,m,k=>by rw[aM,cg,cg,wd l m]
theorem wa:∀ (l:List (Nat×Nat)) (k:Nat),k+l.length≤bO l k
 | [],_=>aD _
 |(a,b)::l,k=>by have:=wa l (k+1+a+2*b);rw[bO,ao];omega
theorem wc:∀ (l:List Nat) (k:Nat),k+l.length≤cg l k
 | [],_=>aD _
 |b::l,k=>by have:=wc l (k+4+2*b);rw[cg,ao];omega
def eL(x:Nd):Nat×Nat:=(x.labels.length,x.fields.length)
def e9(x:Eg):Nat:=x.fields.length
theorem pY{pre post:List PV}{c:PV}{k:Nat}(h:pre.length=k):bT (pre++c::post) k 1 false=some c:=by
 have:= @vg pre (c::post) 0 1 false
 rw[bh,h]at this
 rw[this,wX]
theorem qE{N K E:Nat}{pre post:List PV}{c:PV}{X Y:List (Nat×Nat)}(h:a6 st (X++aq (.list N (pre++c::post) (.own K E))++Y)):a6 st (aq c):=
 fH h (fun k=>by simp only[aq,gb,aw,bW];omega) (fun q hq=>by simp only[aq,gb,aw,ax];simp[hq])
theorem pN{N:Nat}{pre post:List PV}{c:PV}{tk:ay}(h:aH (.list N (pre++c::post) tk)=true):aH c=true:=by
 simp only[aH,gh,bc,aa]at h
 exact h.2.2.1
theorem w4{pre post:List PV}{c:PV}(h:aG (pre++c::post)=true):np c=true:=eF h (by simp)
set_option maxHeartbeats 4000000 in
theorem Da(K:bH cf)(k:Nat)(l:List Nd)(hk:bO (l.map eL) k≤1000000000000){cs:List PV}{tk:ay}(hs:aH (.list l.length cs tk)=true)(hL:kO nc 3 l cs)(hT:a6 st (aq (.list l.length cs tk))):
  ∃ p ns,uP cf 50 [.list l.length cs tk,I k] st=some (I (bO (l.map eL) k:Nat),p,ez ((aq (.list l.length cs tk)).map (·.1)) ns st)∧cW st.nx ns p∧aA p= .list l.length ((kw (l.map eL) k).flatMap nc) .no∧cX [.list l.length cs tk,I k] [0] st=(aq (.list l.length cs tk)).map (·.1):=by
 refine ug K.tab (f:=50) (F:=FB50) (t:=4) rfl rfl rfl hs hL.np hT (lb rfl) (l.length+1) (fun cs0 tk0 ns h1 h2 h3 h4 h5=>?_)
 have hcl:cs0.length=l.length*3:=by rw[h2,hL.len]
 have hst:aB cs0=l.flatMap nc:=by rw[h1,hL.st]
 have hN:l.length≤1000000000000:=by have:=wa (l.map eL) k;rw[bu]at this;omega
 clear hs hL hT h1 h2
 unfold FB50 qr qd qm qi qb qk ql qf qa qn qo qe
 simp only[↓pa]
 refine aX (fun q fr st=>∃ (i:Nat) (ds rs:List PV),q=l.length-i∧i≤l.length∧fr 0= .list l.length (ds++rs) tk0∧fr 1=I (bO ((l.take i).map eL) k:Nat)∧fr 5=I i∧ds.length=i*3∧aB ds=(kw ((l.take i).map eL) k).flatMap nc∧aB rs=(l.drop i).flatMap nc∧aG (ds++rs)=true∧aH (.list l.length (ds++rs) tk0)=true∧a6 st ([]++aq (.list l.length (ds++rs) tk0)++[])∧st.fl=0) l.length (by omega)
  ⟨0,[],cs0,by simp,by omega,by simp only[↓pa,aj,↓reduceIte,reduceCtorEq]<;>simp,by simp only[↓pa,↓reduceIte,reduceEqDiff]<;>simp[bO],by simp only[↓pa,↓reduceIte]<;>rfl,rfl,rfl,hst,by simpa using h3,by simpa using h4,by simpa using h5,rfl⟩ ?_
 rintro q fr st ⟨i,ds,rs,rfl,hi,f0,f1,f5,hd1,hd2,hr2,hnp,hso,hTk,hfl⟩
 simp only[↓pa,pb,aT,↓reduceIte,reduceEqDiff,reduceCtorEq,f0,f5]
 refine ab (fun h=>?_) (fun h=>?_)
 ·have hlt:i<l.length:=h
  rw[aK hlt,aI]at hr2
  have hkk:bO ((l.take (i+1)).map eL) k=bO ((l.take i).map eL) k+1+l[i].labels.length+2*l[i].fields.length:=by
   rw[aL hlt,bS];exact(vT _ _ _ _).2
  have hkm:kw ((l.take (i+1)).map eL) k=kw ((l.take i).map eL) k++[⟨bO ((l.take i).map eL) k,nQ (bO ((l.take i).map eL) k+1) l[i].labels.length,kx (bO ((l.take i).map eL) k+1+l[i].labels.length) l[i].fields.length⟩]:=by
   rw[aL hlt,bS];exact(vT _ _ _ _).1
  have hkl:bO ((l.take (i+1)).map eL) k≤bO (l.map eL) k:=by
   have e:l.map eL=(l.take (i+1)).map eL++(l.drop (i+1)).map eL:=by rw[←bS,eO]
   rw[e,wb];exact uJ _ _
  generalize hm:bO ((l.take i).map eL) k=m at*
  obtain⟨c,d,e,rs',rfl⟩:∃ c d e rs',rs=c::d::e::rs':=by
   have hlen:(aB rs).length=3+((l.drop (i+1)).flatMap nc).length:=by rw[hr2,ak,dI]
   rw[cZ]at hlen
   match rs,hlen with
   | [],h=>simp at h;omega
   | [c],h=>simp at h;omega
   | [c,d],h=>simp at h;omega
   |c::d::e::rs',_=>exact⟨c,d,e,rs',rfl⟩
  simp only[ct,aF,nc,aM,bf,List.cons.injEq]at hr2
  obtain⟨-,hr3,hr4,hr5⟩:=hr2
  rw[←ct]at hr5
  obtain⟨ca,ta,rfl,hca,-⟩:=cw hr3
  obtain⟨cb,tb,rfl,hcb,-⟩:=cw hr4
  have hrl:rs'.length+3=(l.length-i) *3:=by
   have:=aC List.length hr5
   rw[cZ,ce nc 3 dI,cV]at this
   omega
  obtain⟨j,t0,rfl⟩:=tC hso
  have hlen:∀ x y z:PV,(ds++x::y::z::rs').length=l.length*3:=fun x y z=>by rw[ak,hd1];simp only[ao];omega
  have hl0:=hlen c (.list l[i].labels.length ca ta) (.list l[i].fields.length cb tb)
  have hl1:=hlen (I m) (.list l[i].labels.length ca ta) (.list l[i].fields.length cb tb)
  simp (disch:=omega)only[↓pa,pb,aj,↓reduceIte,reduceEqDiff,reduceCtorEq,f0,f1,f5,h,g9,bh]
  refine iO (X:=[]) (Y:=[]) hd1.symm (by omega) hso hnp hTk ⟨rfl,rfl,rfl⟩ (fun hso' hnp' hTk'=>?_)
  have hbk:=fun cs' E'=> @nd l.length j t0 E' (i*3) ds (.list l[i].labels.length ca ta:: .list l[i].fields.length cb tb::rs') cs' c (I m) hd1.symm
  have hp1:bT (ds++I m:: .list l[i].labels.length ca ta:: .list l[i].fields.length cb tb::rs') (i*3+1) 1 false=some (.list l[i].labels.length ca ta):=by
   have:= @pY (ds++[I m]) (.list l[i].fields.length cb tb::rs') (.list l[i].labels.length ca ta) (i*3+1) (by rw[ak,hd1];rfl)
   rw[cK]at this
   exact this
  simp (disch:=omega)only[↓pa,pb,aT,↓reduceIte,reduceEqDiff,reduceCtorEq,f0,f1,f5,g9,hbk,hp1]
  have hcat1:ds++I m:: .list l[i].labels.length ca ta:: .list l[i].fields.length cb tb::rs'=(ds++[I m])++ .list l[i].labels.length ca ta::(.list l[i].fields.length cb tb::rs'):=by simp
  rw[hcat1]at hso' hnp' hTk'
  have la:ca.length=l[i].labels.length:=by rw[←cZ,hca,bu]
  have lb:cb.length=l[i].fields.length*2:=by rw[←cZ,hcb,qp]
  refine nN (sz:=1) (X:=[]) (Y:=[]) (Ke K (m+1) l[i].labels.length (by omega) (pN hso') (w4 hnp') la (qE hTk')) (by omega) (by decide) (fun e=>by rw[e];rfl) hso' hnp' hTk' hfl (fun p ns' q hu k1 k2 k3 k5 k6=>?_)
  rw[←hcat1]at k1
  have hl2:(ds++[I m]++q:: .list l[i].fields.length cb tb::rs').length=l.length*3:=by rw[ak,ak,hd1];simp only[ao,aV];omega
  have hcat2:ds++[I m]++q:: .list l[i].fields.length cb tb::rs'=(ds++[I m,q])++ .list l[i].fields.length cb tb::rs':=by simp
  have hp2:bT (ds++[I m]++q:: .list l[i].fields.length cb tb::rs') (i*3+2) 1 false=some (.list l[i].fields.length cb tb):=by
   rw[hcat2]
   exact pY (by rw[ak,hd1];rfl)
  simp (disch:=omega)only[↓pa,pb,↓reduceIte,reduceEqDiff,reduceCtorEq,f0,f5,g9,hbk,hu,k1,hp2]
  rw[hcat2]at k2 k3 k6
  refine nN (sz:=2) (X:=[]) (Y:=[]) (Db K (m+1+l[i].labels.length) l[i].fields.length (by omega) (pN k2) (w4 k3) lb (qE k6)) lb (by decide) (fun e=>by rw[e];rfl) k2 k3 k6 hfl (fun p2 ns2 q2 hu2 j1 j2 j3 j5 j6=>?_)
  rw[←hcat2]at j1
  simp (disch:=omega)only[↓pa,pb,aT,↓reduceIte,reduceEqDiff,reduceCtorEq,f0,f5,g9,hbk,k1,hu2,j1]
  have hcat:ds++[I m,q,q2]++rs'=ds++[I m,q]++q2::rs':=by simp
  refine⟨l.length- (i+1),by omega,i+1,ds++[I m,q,q2],rs',rfl,by omega,by rw[hcat],by rw[hkk],rfl,by simp only[ak,hd1,ao,aV];omega,?_,hr5,by rw[hcat];exact j3,by rw[hcat];exact j2,by rw[hcat];exact j6,hfl⟩
  rw[gg,hd2,hkm,dF]
  simp only[av,k5,j5,nc,aI,je,aO,TX,FX,x7,x8]
 ·have hie:l.take i=l:=bC (by omega)
  have hdr:l.drop i=[]:=cz (by omega)
  rw[hdr]at hr2
  have hrn:rs=[]:=aP (by rw[←cZ,hr2];rfl)
  subst hrn
  rw[aO]at hnp hso hTk f0
  rw[hie]at hd2 f1
  simp only[↓pa,pb,↓reduceIte,reduceEqDiff,reduceCtorEq,f0,f1,h,g9]
  refine⟨_,rfl,rfl,hnp,hso,by simpa using hTk,rfl,?_⟩
  rw[ep,hd2]
set_option maxHeartbeats 8000000 in
theorem Dc(K:bH cf)(k:Nat)(l:List Eg)(hk:cg (l.map e9) k≤1000000000000){cs:List PV}{tk:ay}(hs:aH (.list l.length cs tk)=true)(hL:kO ec 5 l cs)(hT:a6 st (aq (.list l.length cs tk))):
  ∃ p ns,uP cf 51 [.list l.length cs tk,I k] st=some (I (cg (l.map e9) k:Nat),p,ez ((aq (.list l.length cs tk)).map (·.1)) ns st)∧cW st.nx ns p∧aA p= .list l.length ((jQ (l.map e9) k).flatMap ec) .no∧cX [.list l.length cs tk,I k] [0] st=(aq (.list l.length cs tk)).map (·.1):=by
 refine ug K.tab (f:=51) (F:=FB51) (t:=4) rfl rfl rfl hs hL.np hT (lb rfl) (l.length+1) (fun cs0 tk0 ns h1 h2 h3 h4 h5=>?_)
 have hcl:cs0.length=l.length*5:=by rw[h2,hL.len]
 have hst:aB cs0=l.flatMap ec:=by rw[h1,hL.st]
 have hN:l.length≤1000000000000:=by have:=wc (l.map e9) k;rw[bu]at this;omega
 clear hs hL hT h1 h2
 unfold FB51 qr qd qm qi qb qk ql qf qt qa qn qo qe
 simp only[↓pa]
 refine aX (fun q fr st=>∃ (i:Nat) (ds rs:List PV),q=l.length-i∧i≤l.length∧fr 0= .list l.length (ds++rs) tk0∧fr 1=I (cg ((l.take i).map e9) k:Nat)∧fr 5=I i∧ds.length=i*5∧aB ds=(jQ ((l.take i).map e9) k).flatMap ec∧aB rs=(l.drop i).flatMap ec∧aG (ds++rs)=true∧aH (.list l.length (ds++rs) tk0)=true∧a6 st ([]++aq (.list l.length (ds++rs) tk0)++[])∧st.fl=0) l.length (by omega)
  ⟨0,[],cs0,by simp,by omega,by simp only[↓pa,aj,↓reduceIte,reduceCtorEq]<;>simp,by simp only[↓pa,↓reduceIte,reduceEqDiff]<;>simp[cg],by simp only[↓pa,↓reduceIte]<;>rfl,rfl,rfl,hst,by simpa using h3,by simpa using h4,by simpa using h5,rfl⟩ ?_
 rintro q fr st ⟨i,ds,rs,rfl,hi,f0,f1,f5,hd1,hd2,hr2,hnp,hso,hTk,hfl⟩
 simp only[↓pa,pb,aT,↓reduceIte,reduceEqDiff,reduceCtorEq,f0,f5]
 refine ab (fun h=>?_) (fun h=>?_)
 ·have hlt:i<l.length:=h
  rw[aK hlt,aI]at hr2
  have hkk:cg ((l.take (i+1)).map e9) k=cg ((l.take i).map e9) k+4+2*l[i].fields.length:=by
   rw[aL hlt,bS];exact(vV _ _ _).2
  have hkm:jQ ((l.take (i+1)).map e9) k=jQ ((l.take i).map e9) k++[⟨cg ((l.take i).map e9) k,mt (cg ((l.take i).map e9) k+1),(cg ((l.take i).map e9) k+2:Nat),(cg ((l.take i).map e9) k+3:Nat),kx (cg ((l.take i).map e9) k+4) l[i].fields.length⟩]:=by
   rw[aL hlt,bS];exact(vV _ _ _).1
  have hkl:cg ((l.take (i+1)).map e9) k≤cg (l.map e9) k:=by
   have e:l.map e9=(l.take (i+1)).map e9++(l.drop (i+1)).map e9:=by rw[←bS,eO]
   rw[e,wd];exact oh _ _
  generalize hm:cg ((l.take i).map e9) k=m at*
  obtain⟨c0,c1,c2,c3,c4,rs',rfl⟩:∃ c0 c1 c2 c3 c4 rs',rs=c0::c1::c2::c3::c4::rs':=by
   have hlen:(aB rs).length=5+((l.drop (i+1)).flatMap ec).length:=by rw[hr2,ak,dl]
   rw[cZ]at hlen
   match rs,hlen with
   | [],h=>simp at h;omega
   | [_],h=>simp at h;omega
   | [_,_],h=>simp at h;omega
   | [_,_,_],h=>simp at h;omega
   | [_,_,_,_],h=>simp at h;omega
   |c0::c1::c2::c3::c4::rs',_=>exact⟨c0,c1,c2,c3,c4,rs',rfl⟩
  simp only[ct,aF,ec,aM,bf,List.cons.injEq]at hr2
  obtain⟨-,-,-,-,hr4,hr5⟩:=hr2
  rw[←ct]at hr5
  obtain⟨cb,tb,rfl,hcb,-⟩:=cw hr4
  have hrl:rs'.length+5=(l.length-i) *5:=by
   have:=aC List.length hr5
   rw[cZ,ce ec 5 dl,cV]at this
   omega
  obtain⟨j,t0,rfl⟩:=tC hso
  have lb:cb.length=l[i].fields.length*2:=by rw[←cZ,hcb,qp]
  have ht:=fun st=>jz (st:=st) K (m+1) (by omega)
  have len:∀ (a:List PV) (b:PV) (c:List PV),a.length+(c.length+1)=l.length*5→(a++b::c).length=l.length*5:=fun a b c h=>by rw[ak,ao];exact h
  have l0:=len ds c0 (c1::c2::c3:: .list l[i].fields.length cb tb::rs') (by simp only[ao];omega)
  simp (disch:=omega)only[↓pa,pb,aj,↓reduceIte,reduceEqDiff,reduceCtorEq,f0,f1,f5,h,g9,bh]
  refine iO (X:=[]) (Y:=[]) hd1.symm (by omega) hso hnp hTk ⟨rfl,rfl,rfl⟩ (fun hso1 hnp1 hT1=>?_)
  have b1:=fun cs' E'=> @nd l.length j t0 E' (i*5) ds (c1::c2::c3:: .list l[i].fields.length cb tb::rs') cs' c0 (I m) hd1.symm
  have e1:ds++I m::c1::c2::c3:: .list l[i].fields.length cb tb::rs'=(ds++[I m])++c1::c2::c3:: .list l[i].fields.length cb tb::rs':=by simp
  rw[e1]at b1 hso1 hnp1 hT1
  have o1:i*5+1=(ds++[I m]).length:=by rw[ak,hd1];rfl
  have l1:=len (ds++[I m]) c1 (c2::c3:: .list l[i].fields.length cb tb::rs') (by simp only[ak,ao,aV];omega)
  simp (disch:=omega)only[↓pa,pb,aj,aT,↓reduceIte,reduceEqDiff,reduceCtorEq,f0,f1,f5,g9,b1,ht]
  refine iO (X:=[]) (Y:=[]) o1 (by omega) hso1 hnp1 hT1 ⟨rfl,rfl,rfl⟩ (fun hso2 hnp2 hT2=>?_)
  have b2:=fun cs' E'=> @nd l.length j t0 E' (i*5+1) (ds++[I m]) (c2::c3:: .list l[i].fields.length cb tb::rs') cs' c1 (S (mt (m+1))) o1
  have e2:ds++[I m]++S (mt (m+1))::c2::c3:: .list l[i].fields.length cb tb::rs'=(ds++[I m,S (mt (m+1))])++c2::c3:: .list l[i].fields.length cb tb::rs':=by simp
  rw[e2]at b2 hso2 hnp2 hT2
  have o2:i*5+2=(ds++[I m,S (mt (m+1))]).length:=by rw[ak,hd1];rfl
  have l2:=len (ds++[I m,S (mt (m+1))]) c2 (c3:: .list l[i].fields.length cb tb::rs') (by simp only[ak,ao,aV];omega)
  simp (disch:=omega)only[↓pa,pb,aj,aT,↓reduceIte,reduceEqDiff,reduceCtorEq,f0,f5,g9,b1,b2]
  refine iO (X:=[]) (Y:=[]) o2 (by omega) hso2 hnp2 hT2 ⟨rfl,rfl,rfl⟩ (fun hso3 hnp3 hT3=>?_)
  have b3:=fun cs' E'=> @nd l.length j t0 E' (i*5+2) (ds++[I m,S (mt (m+1))]) (c3:: .list l[i].fields.length cb tb::rs') cs' c2 (I (m+2:Nat)) o2
  have e3:ds++[I m,S (mt (m+1))]++I (m+2:Nat)::c3:: .list l[i].fields.length cb tb::rs'=(ds++[I m,S (mt (m+1)),I (m+2:Nat)])++c3:: .list l[i].fields.length cb tb::rs':=by simp
  rw[e3]at b3 hso3 hnp3 hT3
  have o3:i*5+3=(ds++[I m,S (mt (m+1)),I (m+2:Nat)]).length:=by rw[ak,hd1];rfl
  have l3:=len (ds++[I m,S (mt (m+1)),I (m+2:Nat)]) c3 (.list l[i].fields.length cb tb::rs') (by simp only[ak,ao,aV];omega)
  simp (disch:=omega)only[↓pa,pb,aj,aT,↓reduceIte,reduceEqDiff,reduceCtorEq,f0,f5,g9,b1,b2,b3]
  refine iO (X:=[]) (Y:=[]) o3 (by omega) hso3 hnp3 hT3 ⟨rfl,rfl,rfl⟩ (fun hso4 hnp4 hT4=>?_)
  have b4:=fun cs' E'=> @nd l.length j t0 E' (i*5+3) (ds++[I m,S (mt (m+1)),I (m+2:Nat)]) (.list l[i].fields.length cb tb::rs') cs' c3 (I (m+3:Nat)) o3
  have e4:ds++[I m,S (mt (m+1)),I (m+2:Nat)]++I (m+3:Nat):: .list l[i].fields.length cb tb::rs'=(ds++[I m,S (mt (m+1)),I (m+2:Nat),I (m+3:Nat)])++ .list l[i].fields.length cb tb::rs':=by simp
  rw[e4]at b4 hso4 hnp4 hT4
  have hp4:bT (ds++[I m,S (mt (m+1)),I (m+2:Nat),I (m+3:Nat)]++ .list l[i].fields.length cb tb::rs') (i*5+4) 1 false=some (.list l[i].fields.length cb tb):=pY (by rw[ak,hd1];rfl)
  have l4:=len (ds++[I m,S (mt (m+1)),I (m+2:Nat),I (m+3:Nat)]) (.list l[i].fields.length cb tb) rs' (by simp only[ak,ao,aV];omega)
  simp (disch:=omega)only[↓pa,pb,aT,↓reduceIte,reduceEqDiff,reduceCtorEq,f0,f5,g9,b1,b2,b3,b4,hp4]
  refine nN (sz:=2) (X:=[]) (Y:=[]) (Db K (m+4) l[i].fields.length (by omega) (pN hso4) (w4 hnp4) lb (qE hT4)) lb (by decide) (fun e=>by rw[e];rfl) hso4 hnp4 hT4 hfl (fun p2 ns2 q2 hu2 j1 j2 j3 j5 j6=>?_)
  simp (disch:=omega)only[↓pa,pb,aT,↓reduceIte,reduceEqDiff,reduceCtorEq,f0,f5,g9,b1,b2,b3,b4,hu2,j1]
  have hcat:ds++[I m,S (mt (m+1)),I (m+2:Nat),I (m+3:Nat),q2]++rs'=ds++[I m,S (mt (m+1)),I (m+2:Nat),I (m+3:Nat)]++q2::rs':=by simp
  refine⟨l.length- (i+1),by omega,i+1,ds++[I m,S (mt (m+1)),I (m+2:Nat),I (m+3:Nat),q2],rs',rfl,by omega,by rw[hcat],by rw[hkk],rfl,by simp only[ak,hd1,ao,aV];omega,?_,hr5,by rw[hcat];exact j3,by rw[hcat];exact j2,by rw[hcat];exact j6,hfl⟩
  rw[gg,hd2,hkm,dF]
  simp only[av,j5,ec,aI,je,aO,FX,x8]
 ·have hie:l.take i=l:=bC (by omega)
  have hdr:l.drop i=[]:=cz (by omega)
  rw[hdr]at hr2
  have hrn:rs=[]:=aP (by rw[←cZ,hr2];rfl)
  subst hrn
  rw[aO]at hnp hso hTk f0
  rw[hie]at hd2 f1
  simp only[↓pa,pb,↓reduceIte,reduceEqDiff,reduceCtorEq,f0,f1,h,g9]
  refine⟨_,rfl,rfl,hnp,hso,by simpa using hTk,rfl,?_⟩
  rw[ep,hd2]
end Go.PM
