/- A part of the proof: texts PgP, PgQ, PgR, PgS, PgT, PgU, PgV, PgW, PgX, PgY, PgZ, PhA, PhB, PhC, PhD, PhE, PhF, PhG, PhH, PhI, PhJ, PhK, PhL, PhM, PhN, PhO, PhP, PhQ, joined. Conditions: none. -/
import Derived.Test.YtdpamjikmlbmhaaGreatDoorPD
set_option linter.all false
set_option maxHeartbeats 32000000
open Nat (reduceEqDiff reduceAdd reduceLeDiff reduceLT reduceMul reduceSub)
namespace Go.PM
open Go.Lib
variable {cf:aJ} {st:St} {mk:PV->St->Fr×St} {A:Fr×St->Prop} {s:Nat}
def ed{a b c d e f:PV}{vs:List PV}(h:vs.length=6):bS [a,b,c,d,e,f] 0 vs=vs:=jm (by rw[h];rfl)
def gb{vs:List PV}(h:vs.length=6):vs.take 6=vs:=aM (by omega)
def IF{v:V}:bL v.ca 0 1 false=some (I v.kind):=by cases v;rfl
def IE{v:V}:bL v.cb 0 1 false=some (I v.kind):=by cases v;rfl
def zg{t:List UInt8}{k:Int}{i j:Nat}{v:V}(hi:i<=t.length)(h:eX t k i=some (v,j)):v.kind=k/\i<=j/\j<=t.length:=by
 unfold eX at h;simp only[av,cL]at h;obtain⟨⟨n,j'⟩,h1,rfl,rfl⟩:=h;exact⟨rfl,OW hi h1⟩
def EE{t:List UInt8}{i j:Nat}{v:V}(h:j4 t i=some (v,j)):(v.kind=9/\cI t i=101/\eX t 9 (i+1)=some (v,j)\/v.kind=8/\cI t i=110/\eX t 8 (i+1)=some (v,j))/\i<j/\j<=t.length:=by
 unfold j4 at h;split at h
 ·rename_i hc;have hlt:=dH (show cI t i≠0 by rw[hc];decide);obtain⟨h1,h2,h3⟩:=zg hlt h;exact⟨.inl ⟨h1,hc,h⟩,h2,h3⟩
 ·split at h
  ·rename_i hc;have hlt:=dH (show cI t i≠0 by rw[hc];decide);obtain⟨h1,h2,h3⟩:=zg hlt h;exact⟨.inr ⟨h1,hc,h⟩,h2,h3⟩
  ·cases h
def dr{vs:List V}{v:V}:(vs++[v]).length=vs.length+1:=by simp
def Hb{t:List UInt8}{n j:Nat}{node:Bool}{acc:List V}(hn:0<n):nS t n node j acc=
  if cI t j=(if node then 110 else 101)then match eX t (if node then 8 else 9) (j+1)with
   |some (v,j)=>
    if node=true/\cI t j=62 then some (.mk 10 0 0 [] [] (acc++[v]),j+1)
    else if cI t j=32 then nS t (n-1) (!node) (j+1) (acc++[v])
    else none
   |none=>none
  else none:=by
 obtain⟨m,rfl⟩:∃ m,n=m+1:=⟨n-1,by omega⟩;rw[nS];rfl
def DT(node:Bool):Int:=if node then 8 else 9
def LQ{acc:List V}{v:V}:PV.agg [I 10,I 0,I 0,S [],.list 0 [] .no,.list (acc.length+1) (V.cas (acc++[v])) .no]=VA (.mk 10 0 0 [] [] (acc++[v])):=by
 rw[VA,V.ca,dr];rfl
def PB(K:bO cf){t:List UInt8}{i:Nat}(hs:st.objs s=some [S t,I i])(hi:i<=t.length)(hl:t.length<=2000000)(h60:cI t i=60):
  ∃ r c',oh t VA (sj t (i+1)) fq r c'/\∃ fl,az cf 225 [.ptr s 0] [] st=some (r,db (cA st s c') fl):=by
 refine hU K.tab (F:=F225) rfl rfl rfl (lb rfl) (lb rfl) (by simp) hs (gt t i) (t.length+1) ?_;simp only[F225,↓qU,reduceAdd,reduceSub];have hlt:=dH (show cI t i≠0 by rw[h60];decide);simp only[↓pa,↓au,pb,ah,↓reduceIte,reduceEqDiff,reduceAdd,reduceLeDiff,reduceCtorEq];refine(gR K (t:=t) (i:=i) 60 rfl (by decide) (by simp only[pb,↓reduceIte,reduceCtorEq]) hi hl).2 ?_;simp only[↓pa,pb,↓reduceIte,h60];refine a7 (fun k fr st=>∃ (j n:Nat) (node:Bool) (acc:List V) (tok:aF),k=t.length-j/\j<=t.length/\acc.length<=j/\t.length-j<n/\fr 0= .ptr 0 0/\fr 2= .ptr 2 0/\fr 4= .ptr 4 0/\fr 5=I (DT node)/\st.objs 0=some [S t,I j]/\st.objs 2=some [I 0,I 0,I 0,S [],.list 0 [] .nil,.list 0 [] .nil]/\
  st.objs 4=some [I 10,I 0,I 0,S [],.list 0 [] .nil,.list acc.length (V.cas acc) tok]/\Gr 204 st.nx st.cnt acc.length tok/\nS t n node j acc=sj t (i+1)) (t.length- (i+1)) (by omega)
  ⟨i+1,t.length+1- (i+1),true,[],.nil,rfl,by omega,aW _,by omega,by simp only[↓pa,pb,↓reduceIte,reduceCtorEq],by simp only[↓pa,pb,↓reduceIte,reduceEqDiff],by simp only[↓pa,↓reduceIte,reduceEqDiff],by simp only[↓pa,↓reduceIte];rfl,by simp only[pb,↓reduceIte],by simp only[pb,↓reduceIte,reduceEqDiff,reduceCtorEq],by simp only[pb,↓reduceIte,reduceCtorEq];rfl,rfl,rfl⟩ ?_
 rintro k fr st ⟨j,n,node,acc,tok,rfl,hj,hacc,hn,f0,f2,f4,f5,o0,o2,o4,hG,hQ⟩;rw[Hb (by omega)]at hQ;simp only[↓pa,pb,↓reduceIte,f0];refine iF (Cm K (t:=t) (i:=j) (by simp only[o0]) hj hl) (fun v j1 fl hv hj1=>?_) (fun p j1 fl hv hp hj1=>?_);rotate_left
 ·obtain⟨cs,rfl,hcs,hcn,hct⟩:=hp;have hno:sj t (i+1)=none:=by
   rw[<-hQ];unfold j4 at hv;cases node
   ·simp only[cz,if_false];by_cases hc:cI t j=101
    ·rw[am hc]at hv;rw[am hc,hv]
    ·rw[ai hc]
   ·simp only[if_true];by_cases hc:cI t j=110
    ·rw[ai (by omega),am hc]at hv;rw[am hc,hv]
    ·rw[ai hc]
  simp (maxSteps:=1000000) (disch:=omega)only[↓pa,pb,ah,aH,eB,ad,aa,↓reduceIte,reduceEqDiff,reduceAdd,reduceLeDiff,reduceCtorEq,f2,f4,o2,o4,hcs,ed];exact bH hno ⟨_,rfl,rfl,by simp only[aH,eB,ay],by simp only[aH,eB]⟩ rfl rfl hj1
 obtain⟨hk,hlt1,-⟩:=EE hv;have hvl:=v.ca_len;by_cases hw:v.kind=DT node;rotate_left
 ·have hno:sj t (i+1)=none:=by
   rw[<-hQ,ai];intro hc;apply hw;cases node
   ·have hc:cI t j=101:=hc;rcases hk with⟨h1,-⟩|⟨-,h2,-⟩
    ·exact h1
    ·omega
   ·have hc:cI t j=110:=hc;rcases hk with⟨-,h2,-⟩|⟨h1,-⟩
    ·omega
    ·exact h1
  simp (maxSteps:=1000000) (disch:=omega)only[↓pa,pb,ah,aH,eB,ad,aa,↓reduceIte,reduceEqDiff,reduceAdd,reduceLeDiff,al,reduceCtorEq,f2,f4,f5,o2,o4,hvl,ed,IF,hw];exact bH hno ⟨_,rfl,rfl,by simp only[aH,eB,ay],by simp only[aH,eB]⟩ rfl rfl hj1
 have hstep:sj t (i+1)=if node=true/\cI t j1=62 then some (.mk 10 0 0 [] [] (acc++[v]),j1+1)else if cI t j1=32 then nS t (n-1) (!node) (j1+1) (acc++[v])else none:=by
  rw[<-hQ];cases node
  ·rcases hk with⟨h1,h2,h3⟩|⟨h1,h2,h3⟩
   ·rw[am (by exact h2)];simp only[cz,if_false];rw[h3]
   ·rw[h1]at hw;exact absurd hw (by decide)
  ·rcases hk with⟨h1,h2,h3⟩|⟨h1,h2,h3⟩
   ·rw[h1]at hw;exact absurd hw (by decide)
   ·rw[am (by exact h2)];simp only[if_true];rw[h3]
 clear hQ;simp (maxSteps:=1000000) (disch:=omega)only[↓pa,↓au,pb,ah,ad,aa,↓reduceIte,reduceEqDiff,reduceAdd,reduceLeDiff,reduceLT,al,reduceCtorEq,f4,f5,o4,hvl,ed,gb,IF,hw];refine bc (n:=acc.length) (m:=1) hG (by rw[V.cas_len]) (by rw[hvl]) (by omega) (by omega) (by decide) ?_;rw[V.cas_snoc];have hw8:DT true=8:=rfl;have hw9:DT false=9:=rfl;cases node
 ·rw[ai (by simp)]at hstep;simp only[↓pa,pb,ah,↓reduceIte,reduceEqDiff,reduceAdd,reduceLeDiff,Int.reduceEq,reduceCtorEq,f0,f4,f5,o4,hw9];refine(gR K (t:=t) (i:=j1) 32 rfl (by decide) (by simp only[pb,ah,↓reduceIte,reduceCtorEq]) hj1 hl).2 ?_;refine af (fun h32=>?_) (fun h32=>?_)
  ·rw[am h32]at hstep;have hjl:=dH (show cI t j1≠0 by rw[h32];decide);simp (maxSteps:=1000000) (disch:=omega)only[↓pa,pb,ah,↓reduceIte,reduceEqDiff,reduceCtorEq,f0,f2,f4,f5,o2,hw9];exact⟨t.length- (j1+1),by omega,j1+1,n-1,true,acc++[v],_,rfl,by omega,by rw[dr];omega,by omega,rfl,rfl,by rw[dr],by rw[dr];exact cD hG,hstep.symm⟩
  ·rw[ai h32]at hstep;simp only[↓pa,pb,ah,aH,eB,↓reduceIte,reduceEqDiff,reduceAdd,reduceLeDiff,reduceCtorEq,f2,f4,o2];exact bH hstep ⟨_,rfl,rfl,by simp only[aH,eB,ay],by simp only[aH,eB]⟩ rfl rfl hj1
 ·simp only[↓pa,pb,ah,↓reduceIte,reduceEqDiff,reduceAdd,reduceLeDiff,reduceCtorEq,f0,f4,f5,o4,hw8];refine(gR K (t:=t) (i:=j1) 62 rfl (by decide) (by simp only[pb,ah,↓reduceIte,reduceCtorEq]) hj1 hl).2 ?_;refine af (fun h62=>?_) (fun h62=>?_)
  ·rw[am ⟨rfl,h62⟩]at hstep;have hjl:=dH (show cI t j1≠0 by rw[h62];decide);simp only[↓pa,pb,ah,aH,eB,↓reduceIte,reduceEqDiff,reduceAdd,reduceLeDiff,reduceCtorEq,f2,f4,o2];rw[LQ];exact ek hstep rfl rfl hjl
  rw[ai fun h=>h62 h.2]at hstep;simp only[↓pa,pb,↓reduceIte,reduceEqDiff,reduceCtorEq,f0];refine(gR K (t:=t) (i:=j1) 32 rfl (by decide) (by simp only[pb,ah,↓reduceIte,reduceCtorEq]) hj1 hl).2 ?_;refine af (fun h32=>?_) (fun h32=>?_)
  ·rw[am h32]at hstep;have hjl:=dH (show cI t j1≠0 by rw[h32];decide);simp (maxSteps:=1000000) (disch:=omega)only[↓pa,pb,ah,↓reduceIte,reduceEqDiff,reduceCtorEq,f0,f2,f4,f5,o2,hw8];exact⟨t.length- (j1+1),by omega,j1+1,n-1,false,acc++[v],_,rfl,by omega,by rw[dr];omega,by omega,rfl,rfl,by rw[dr],by rw[dr];exact cD hG,hstep.symm⟩
  ·rw[ai h32]at hstep;simp only[↓pa,pb,ah,aH,eB,↓reduceIte,reduceEqDiff,reduceAdd,reduceLeDiff,reduceCtorEq,f2,f4,o2];exact bH hstep ⟨_,rfl,rfl,by simp only[aH,eB,ay],by simp only[aH,eB]⟩ rfl rfl hj1
def uC{t:List UInt8}{i j:Nat}{n:Int}(h:gl t i=some (n,j)):i<=j:=by
 unfold gl at h;simp only[av,cL]at h;obtain⟨_,_,_,rfl⟩:=h;split
 ·exact Nat.le_of_succ_le (mO _ _ _)
 ·exact mO _ _ _
def pO{t:List UInt8}{k:Int}{i j:Nat}{v:V}(h:eX t k i=some (v,j)):i<=j:=by
 unfold eX uD at h;simp only[av,cL]at h;obtain⟨⟨n,j'⟩,h1,rfl,rfl⟩:=h;split at h1
 ·rename_i hp;split at h1
  ·cases h1;exact uC hp
  ·cases h1
 ·cases h1
def w9{t:List UInt8}:∀ (n i:Nat) (acc:List UInt8) {r:List UInt8} {j:Nat},iW t n i acc=some (r,j)->i<=j
 |0,_,_,_,_,h=>by cases h
 |n+1,i,acc,r,j,h=>by
  have ih:=fun i acc=>w9 (t:=t) n i acc (r:=r) (j:=j);rw[iW]at h
  repeat' split at h
  all_goals first
   |(cases h;done)
   |(have:=ih _ _ h;omega)
   |(cases h;omega)
def zi{t:List UInt8}:∀ (n:Nat) (node:Bool) (i:Nat) (acc:List V) {v:V} {j:Nat},nS t n node i acc=some (v,j)->i<=j
 |0,_,_,_,_,_,h=>by cases h
 |n+1,node,i,acc,v,j,h=>by
  have ih:=fun node i acc=>zi (t:=t) n node i acc (v:=v) (j:=j);rw[nS]at h;by_cases hc:cI t i=(if node then 110 else 101)
  ·rw[am hc]at h;cases hv:eX t (if node then 8 else 9) (i+1)with
   |none=>rw[hv]at h;cases h
   |some q=>
    obtain⟨w,j1⟩:=q;rw[hv]at h;simp only at h;have:=pO hv;split at h
    ·cases h;omega
    ·split at h
     ·have:=ih _ _ _ h;omega
     ·cases h
  ·rw[ai hc]at h;cases h
def zm{t:List UInt8}{rd:Nat->Option (V×Nat)}(hr:∀ i v j,rd i=some (v,j)->i<=j):∀ (n i:Nat) (acc:List V) {v:V} {j:Nat},mQ t rd n i acc=some (v,j)->i<=j
 |0,_,_,_,_,h=>by cases h
 |n+1,i,acc,v,j,h=>by
  have ih:=fun i acc=>zm (t:=t) hr n i acc (v:=v) (j:=j);rw[mQ]at h;split at h
  ·rename_i hv;have:=hr _ _ _ hv;split at h
   ·cases h;omega
   ·split at h
    ·have:=ih _ _ h;omega
    ·cases h
  ·cases h
def wc{t:List UInt8}{i j:Nat}{l:List UInt8}(h:sk t i=some (l,j)):i<=j:=by
 unfold sk at h;split at h
 ·cases h;exact mO _ _ _
 ·cases h
def AV{t:List UInt8}{rd:Nat->Option (V×Nat)}(hr:∀ i v j,rd i=some (v,j)->i<=j):∀ (n i:Nat) (ns:List (List UInt8)) (acc:List V) {v:V} {j:Nat},nz t rd n i ns acc=some (v,j)->i<=j
 |0,_,_,_,_,_,h=>by cases h
 |n+1,i,ns,acc,v,j,h=>by
  have ih:=fun i ns acc=>AV (t:=t) hr n i ns acc (v:=v) (j:=j);rw[nz]at h;split at h
  ·rename_i hn;have h1:=wc hn;split at h
   ·split at h
    ·rename_i hv;have h2:=hr _ _ _ hv;split at h
     ·split at h
      ·cases h;omega
      ·cases h
     ·split at h
      ·have:=ih _ _ _ h;omega
      ·cases h
    ·cases h
   ·cases h
  ·cases h
def AN{t:List UInt8}{o:Option (Nat->Option (V×Nat))}(hr:∀ rd,o=some rd->∀ i v j,rd i=some (v,j)->i<=j){i:Nat}{v:V}{j:Nat}(h:om t o i=some (v,j)):i<=j:=by
 unfold om at h;by_cases c1:cI t i=34
 ·rw[am c1]at h;simp only[av,cL]at h;obtain⟨⟨l,j'⟩,h1,_,rfl⟩:=h;have:=w9 _ _ _ h1
  show i<=j';omega
 rw[ai c1]at h;by_cases c2:cI t i=64
 ·rw[am c2]at h;simp only[av,cL]at h;obtain⟨⟨l,j'⟩,h1,_,rfl⟩:=h;unfold ie at h1;split at h1
  ·split at h1
   ·simp only[av,cL]at h1;obtain⟨_,_,_,h2⟩:=h1
    show i<=j';omega
   ·cases h1
  ·cases h1
 rw[ai c2]at h;by_cases c3:cI t i=45\/fB (cI t i)=true
 ·rw[am c3]at h;simp only[av,cL]at h;obtain⟨⟨l,j'⟩,h1,_,rfl⟩:=h;exact uC h1
 rw[ai c3]at h;by_cases c4:cI t i=40
 ·rw[am c4]at h;unfold ik at h;split at h
  ·rename_i h1;have:=uC h1;split at h
   ·split at h
    ·rename_i h2;have:=uC h2;split at h
     ·cases h;omega
     ·cases h
    ·cases h
   ·cases h
  ·cases h
 rw[ai c4]at h;by_cases c5:cI t i=91
 ·rw[am c5]at h;cases o with
  |none=>cases h
  |some rd=>
   change mF t rd (i+1)=some (v,j)at h;unfold mF at h;split at h
   ·cases h;omega
   ·have:=zm (hr _ rfl) _ _ _ h;omega
 rw[ai c5]at h;by_cases c6:cI t i=123
 ·rw[am c6]at h;cases o with
  |none=>cases h
  |some rd=>
   change kB t rd (i+1)=some (v,j)at h;unfold kB at h;split at h
   ·cases h;omega
   ·have:=AV (hr _ rfl) _ _ _ _ h;omega
 rw[ai c6]at h;by_cases c7:cI t i=60
 ·rw[am c7]at h;have:=zi _ _ _ _ h;omega
 rw[ai c7]at h;by_cases c8:tk t i [110,117,108,108]=true
 ·rw[am c8]at h;cases h;omega
 rw[ai c8]at h;by_cases c9:tk t i [116,114,117,101]=true
 ·rw[am c9]at h;cases h;omega
 rw[ai c9]at h;by_cases c10:tk t i [102,97,108,115,101]=true
 ·rw[am c10]at h;cases h;omega
 rw[ai c10]at h;by_cases c11:cI t i=110
 ·rw[am c11]at h;have:=pO h;omega
 rw[ai c11]at h;by_cases c12:cI t i=101
 ·rw[am c12]at h;have:=pO h;omega
 rw[ai c12]at h;cases h
def qJ{t:List UInt8}:∀ (b i:Nat) (v:V) (j:Nat),eW t b i=some (v,j)->i<=j
 |0,i,v,j,h=>AN (fun rd h=>by cases h) (show om t none i=some (v,j)from h)
 |b+1,i,v,j,h=>AN (fun rd h=>by cases h;exact qJ b) (show om t (some (eW t b)) i=some (v,j)from h)
def BD(cf:aJ)(t:List UInt8)(b:Nat):Prop:=∀ (st:St) (s i:Nat),st.objs s=some [S t,I i]->i<=t.length->
 ∃ r c',oh t VA (eW t b i) fq r c'/\∃ fl,az cf 201 [.ptr s 0,I (5- (b:Int))] [] st=some (r,db (cA st s c') fl)
def Hq{t:List UInt8}{rd:Nat->Option (V×Nat)}{n j:Nat}{acc:List V}(hn:0<n):mQ t rd n j acc=match rd j with
  |some (v,j)=>
   if cI t j=93 then some (.mk 6 0 0 [] [] (acc++[v]),j+1)
   else if cI t j=44 then mQ t rd (n-1) (j+1) (acc++[v])
   else none
  |none=>none:=by
 obtain⟨m,rfl⟩:∃ m,n=m+1:=⟨n-1,by omega⟩;rw[mQ];rfl
def L9{acc:List V}{v:V}:PV.agg [I 6,I 0,I 0,S [],.list 0 [] .no,.list (acc.length+1) (V.cas (acc++[v])) .no]=VA (.mk 6 0 0 [] [] (acc++[v])):=by
 rw[VA,V.ca,dr];rfl
def Ou(K:bO cf){t:List UInt8}{i:Nat}(hs:st.objs s=some [S t,I i])(hi:i<=t.length)(hl:t.length<=2000000)(h91:cI t i=91):
  ∃ r c',oh t VA none fq r c'/\∃ fl,az cf 223 [.ptr s 0,I 5] [] st=some (r,db (cA st s c') fl):=by
 refine hU K.tab (F:=F223) rfl rfl rfl (lb rfl) (lb rfl) (by simp[bh]) hs (gt t i) 1 ?_;simp only[F223,↓qU,seval];have hlt:=dH (show cI t i≠0 by rw[h91];decide);simp only[↓pa,↓au,pb,ah,seval];refine(gR K (t:=t) (i:=i) 91 rfl (by decide) (by simp only[pb,seval]) hi hl).2 ?_;simp only[↓pa,pb,ah,seval,h91];simp only[↓pa,pb,ah,aH,seval];exact bH rfl ⟨_,rfl,rfl,by simp only[aH,ay],by simp only[aH]⟩ rfl rfl hlt
def PE(K:bO cf){t:List UInt8}{i b:Nat}(hs:st.objs s=some [S t,I i])(hi:i<=t.length)(hl:t.length<=2000000)(hb:b<5)(h91:cI t i=91)(ih:BD cf t b):
  ∃ r c',oh t VA (mF t (eW t b) (i+1)) fq r c'/\∃ fl,az cf 223 [.ptr s 0,I (5- ((b+1:Nat):Int))] [] st=some (r,db (cA st s c') fl):=by
 refine hU K.tab (F:=F223) rfl rfl rfl (lb rfl) (lb rfl) (by simp[bh]) hs (gt t i) (t.length+1) ?_;simp only[F223,↓qU,reduceAdd,reduceSub];have hlt:=dH (show cI t i≠0 by rw[h91];decide);have hd5:¬ (5- ((b+1:Nat):Int)=5):=by omega
 have hdd:5- ((b+1:Nat):Int)+1=5- (b:Int):=by omega
 revert hd5 hdd;generalize hdp:5- ((b+1:Nat):Int)=dp;intro hd5 hdd;simp only[↓pa,↓au,pb,ah,↓reduceIte,reduceEqDiff,reduceAdd,reduceLeDiff,reduceCtorEq];refine(gR K (t:=t) (i:=i) 91 rfl (by decide) (by simp only[pb,↓reduceIte,reduceCtorEq]) hi hl).2 ?_;simp only[↓pa,pb,↓reduceIte,reduceEqDiff,reduceCtorEq,h91,hd5];refine(gR K (t:=t) (i:=i+1) 93 rfl (by decide) (by simp only[pb,↓reduceIte]) hlt hl).2 ?_;refine af (fun h93=>?_) (fun h93=>?_)
 ·have hlt2:=dH (show cI t (i+1)≠0 by rw[h93];decide);simp only[↓pa,pb,ah,aH,↓reduceIte,reduceEqDiff,reduceAdd,reduceLeDiff,reduceCtorEq];exact ek (by rw[mF,am h93]) (by rfl) rfl hlt2
 have hP:mF t (eW t b) (i+1)=mQ t (eW t b) (t.length+1- (i+1)) (i+1) []:=by rw[mF,ai h93]
 simp only[↓pa,pb,↓reduceIte];refine a7 (fun k fr st=>∃ (j n:Nat) (acc:List V) (tok:aF),k=t.length-j/\j<=t.length/\acc.length<=j/\t.length-j<n/\fr 0= .ptr 0 0/\fr 1=I dp/\fr 4= .ptr 4 0/\fr 6= .ptr 6 0/\st.objs 0=some [S t,I j]/\st.objs 4=some [I 0,I 0,I 0,S [],.list 0 [] .nil,.list 0 [] .nil]/\
  st.objs 6=some [I 6,I 0,I 0,S [],.list 0 [] .nil,.list acc.length (V.cas acc) tok]/\Gr 204 st.nx st.cnt acc.length tok/\mQ t (eW t b) n j acc=mF t (eW t b) (i+1)) (t.length- (i+1)) (by omega)
  ⟨i+1,t.length+1- (i+1),[],.nil,rfl,by omega,aW _,by omega,by simp only[↓pa,pb,↓reduceIte,reduceCtorEq],by simp only[↓pa,pb,↓reduceIte,reduceEqDiff],by simp only[↓pa,pb,↓reduceIte,reduceEqDiff],by simp only[↓pa,↓reduceIte,reduceEqDiff],by simp only[pb,↓reduceIte],by simp only[pb,↓reduceIte,reduceEqDiff,reduceCtorEq],by simp only[pb,↓reduceIte,reduceCtorEq];rfl,rfl,hP.symm⟩ ?_
 rintro k fr st ⟨j,n,acc,tok,rfl,hj,hacc,hn,f0,f1,f4,f6,o0,o4,o6,hG,hQ⟩;rw[Hq (by omega)]at hQ;simp (maxSteps:=1000000) (disch:=omega)only[↓pa,pb,↓reduceIte,reduceEqDiff,f0,f1,hdd];refine iF (ih _ 0 j (by simp only[o0]) hj) (fun v j1 fl hv hj1=>?_) (fun p j1 fl hv hp hj1=>?_);rotate_left
 ·obtain⟨cs,rfl,hcs,hcn,hct⟩:=hp;rw[hv]at hQ;simp (maxSteps:=1000000) (disch:=omega)only[↓pa,pb,ah,aH,eB,ad,aa,↓reduceIte,reduceEqDiff,reduceAdd,reduceLeDiff,reduceCtorEq,f4,f6,o4,o6,hcs,ed];exact bH hQ.symm ⟨_,rfl,rfl,by simp only[aH,eB,ay],by simp only[aH,eB]⟩ rfl rfl hj1
 have hm:=qJ _ _ _ _ hv;have hvl:=v.ca_len;rw[hv]at hQ;simp only at hQ;simp (maxSteps:=1000000) (disch:=omega)only[↓pa,↓au,pb,ah,ad,aa,↓reduceIte,reduceEqDiff,reduceAdd,reduceLeDiff,reduceLT,reduceCtorEq,f6,o6,hvl,ed,gb];refine bc (n:=acc.length) (m:=1) hG (by rw[V.cas_len]) (by rw[hvl]) (by omega) (by omega) (by decide) ?_;rw[V.cas_snoc];simp only[↓pa,pb,ah,↓reduceIte,reduceEqDiff,reduceAdd,reduceLeDiff,reduceCtorEq,f0,f6,o6];refine(gR K (t:=t) (i:=j1) 93 rfl (by decide) (by simp only[pb,ah,↓reduceIte,reduceCtorEq]) hj1 hl).2 ?_;refine af (fun h1=>?_) (fun h1=>?_)
 ·rw[am h1]at hQ;have hjl:=dH (show cI t j1≠0 by rw[h1];decide);simp only[↓pa,pb,ah,aH,eB,↓reduceIte,reduceEqDiff,reduceAdd,reduceLeDiff,reduceCtorEq,f4,f6,o4];rw[L9];exact ek hQ.symm rfl rfl hjl
 rw[ai h1]at hQ;simp only[↓pa,pb,↓reduceIte,reduceCtorEq,f0];refine(gR K (t:=t) (i:=j1) 44 rfl (by decide) (by simp only[pb,ah,↓reduceIte,reduceCtorEq]) hj1 hl).2 ?_;refine af (fun h2=>?_) (fun h2=>?_)
 ·rw[am h2]at hQ;have hjl:=dH (show cI t j1≠0 by rw[h2];decide);simp only[↓pa,pb,ah,↓reduceIte,reduceEqDiff,reduceCtorEq,f0,f1,f4,f6,o4];exact⟨t.length- (j1+1),by omega,j1+1,n-1,acc++[v],_,rfl,by omega,by rw[dr];omega,by omega,rfl,by rw[dr],by rw[dr];exact cD hG,hQ⟩
 ·rw[ai h2]at hQ;simp only[↓pa,pb,ah,aH,eB,↓reduceIte,reduceEqDiff,reduceAdd,reduceLeDiff,reduceCtorEq,f4,f6,o4];exact bH hQ.symm ⟨_,rfl,rfl,by simp only[aH,eB,ay],by simp only[aH,eB]⟩ rfl rfl hj1
def BP{ns:List (List UInt8)}{x:List UInt8}{i:Nat}(h:i<ns.length):iV (ns++[x]) i=iV ns i:=by
 unfold iV;rw[gP,gP,bW h]
def Nx{ns:List (List UInt8)}{x:List UInt8}:iV (ns++[x]) ns.length=x:=by
 unfold iV;rw[gP];simp
def zb(ns:List (List UInt8))(x:List UInt8):jR (ns++[x])=(jR ns && (decide (ns.length=0)||d4 (iV ns (ns.length-1)) x)):=by
 have hlen:(ns++[x]).length=ns.length+1:=by simp
 have hold:∀ i,i<ns.length->lE (ns++[x]) i=lE ns i:=fun i hi=>by
  unfold lE;rw[BP hi];by_cases h0:i=0
  ·simp[h0]
  ·rw[BP (show i-1<ns.length by omega)]
 have hnew:lE (ns++[x]) ns.length=(decide (ns.length=0)||d4 (iV ns (ns.length-1)) x):=by
  unfold lE;rw[Nx];by_cases h0:ns.length=0
  ·simp[h0]
  ·rw[BP (show ns.length-1<ns.length by omega)]
 rw[oy,aj,jR,jR,hlen,qr,qr,<-hnew];constructor
 ·intro h;exact⟨fun j hj=>by rw[<-hold j hj];exact h j (by omega),h _ (by omega)⟩
 ·rintro⟨h1,h2⟩ j hj;by_cases hjn:j=ns.length
  ·rw[hjn];exact h2
  ·rw[hold j (by omega)];exact h1 j (by omega)
def zd{ns:List (List UInt8)}{x:List UInt8}(h:jR ns=false):jR (ns++[x])=false:=by rw[zb,h];rfl
def Kd{t:List UInt8}{rd:Nat->Option (V×Nat)}{n j:Nat}{ns:List (List UInt8)}{acc:List V}(hn:0<n):nz t rd n j ns acc=match sk t j with
  |some (x,j)=>if cI t j=58 then match rd (j+1)with
   |some (v,j)=>
    if cI t j=125 then(if jR (ns++[x])then some (.mk 7 0 0 [] (ns++[x]) (acc++[v]),j+1)else none)
    else if cI t j=44 then nz t rd (n-1) (j+1) (ns++[x]) (acc++[v])
    else none
   |none=>none
   else none
  |none=>none:=by
 obtain⟨m,rfl⟩:∃ m,n=m+1:=⟨n-1,by omega⟩;rw[nz];rfl
def Hn{t:List UInt8}{rd:Nat->Option (V×Nat)}:∀ (n j:Nat) (ns:List (List UInt8)) (acc:List V),jR ns=false->nz t rd n j ns acc=none
 |0,_,_,_,_=>rfl
 |n+1,j,ns,acc,h=>by
  have ih:=fun j acc x=>Hn (t:=t) (rd:=rd) n j (ns++[x]) acc (zd h);rw[nz];split
  ·split
   ·split
    ·split
     ·rw[ai (by rw[zd h];simp)]
     ·split
      ·exact ih _ _ _
      ·rfl
    ·rfl
   ·rfl
  ·rfl
def gC{t u:aF}(h:jr t u):jr u t:=by
 cases t<;>cases u<;>first|exact trivial|exact fun e=>h e.symm
def BL(ns:List (List UInt8))(x:List UInt8):ns.map S++[S x]=(ns++[x]).map S:=by simp
def l7{ns:List (List UInt8)}{x:List UInt8}:(ns++[x]).length=ns.length+1:=by simp
def Hm{ns:List (List UInt8)}{x:List UInt8}{acc:List V}{v:V}:PV.agg [I 7,I 0,I 0,S [],.list (ns.length+1) ((ns++[x]).map S) .no,.list (acc.length+1) (V.cas (acc++[v])) .no]=VA (.mk 7 0 0 [] (ns++[x]) (acc++[v])):=by
 rw[VA,V.ca,dr,l7]
def jN{e e2 sz bytes n n2 m:Nat}{cs ds:List PV}{tk u w:aF}(h:Gr e st.nx st.cnt n tk)(h1:cs.length=n*sz)(h2:ds.length=m*sz)(h3:(n+m) *bytes<=140737488355328)(h4:n+m<=140737488355328)(h5:0<sz)
  (h':Gr e2 st.nx st.cnt n2 u) (ha:jr tk u) (k:∀ st' t',st'.objs=st.objs->Gr e st'.nx st'.cnt (n+m) t'->Gr e2 st'.nx st'.cnt n2 u->jr t' u->A (mk (.list (n+m) (cs++ds) t') st')):dj (r7 e sz bytes (.list n cs tk) (.list m ds w) st) mk A:=by
 rw[tD h h1 h2 h3 h4 h5,fg];exact k _ _ jX (cD h) (io h h' ha).1 (io (m:=n+m) h h' ha).2
def PD(K:bO cf){t:List UInt8}{i:Nat}(hs:st.objs s=some [S t,I i])(hi:i<=t.length)(hl:t.length<=2000000)(h123:cI t i=123):
  ∃ r c',oh t VA none fq r c'/\∃ fl,az cf 224 [.ptr s 0,I 5] [] st=some (r,db (cA st s c') fl):=by
 refine hU K.tab (F:=F224) rfl rfl rfl (lb rfl) (lb rfl) (by simp[bh]) hs (gt t i) 1 ?_;simp only[F224,↓qU,seval];have hlt:=dH (show cI t i≠0 by rw[h123];decide);simp only[↓pa,↓au,pb,ah,seval];refine(gR K (t:=t) (i:=i) 123 rfl (by decide) (by simp only[pb,seval]) hi hl).2 ?_;simp only[↓pa,pb,ah,seval,h123];simp only[↓pa,pb,ah,aH,seval];exact bH rfl ⟨_,rfl,rfl,by simp only[aH,ay],by simp only[aH]⟩ rfl rfl hlt
def QM(K:bO cf){t:List UInt8}{i b:Nat}(hs:st.objs s=some [S t,I i])(hi:i<=t.length)(hl:t.length<=2000000)(hb:b<5)(h123:cI t i=123)(ih:BD cf t b):
  ∃ r c',oh t VA (kB t (eW t b) (i+1)) fq r c'/\∃ fl,az cf 224 [.ptr s 0,I (5- ((b+1:Nat):Int))] [] st=some (r,db (cA st s c') fl):=by
 refine hU K.tab (F:=F224) rfl rfl rfl (lb rfl) (lb rfl) (by simp[bh]) hs (gt t i) (t.length+1) ?_;simp only[F224,↓qU,reduceAdd,reduceSub];have hlt:=dH (show cI t i≠0 by rw[h123];decide);have hd5:¬ (5- ((b+1:Nat):Int)=5):=by omega
 have hdd:5- ((b+1:Nat):Int)+1=5- (b:Int):=by omega
 revert hd5 hdd;generalize hdp:5- ((b+1:Nat):Int)=dp;intro hd5 hdd;simp only[↓pa,↓au,pb,ah,↓reduceIte,reduceEqDiff,reduceAdd,reduceLeDiff,reduceCtorEq];refine(gR K (t:=t) (i:=i) 123 rfl (by decide) (by simp only[pb,↓reduceIte,reduceCtorEq]) hi hl).2 ?_;simp only[↓pa,pb,↓reduceIte,reduceEqDiff,reduceCtorEq,h123,hd5];refine(gR K (t:=t) (i:=i+1) 125 rfl (by decide) (by simp only[pb,↓reduceIte]) hlt hl).2 ?_;refine af (fun h125=>?_) (fun h125=>?_)
 ·have hlt2:=dH (show cI t (i+1)≠0 by rw[h125];decide);simp only[↓pa,pb,ah,aH,↓reduceIte,reduceEqDiff,reduceAdd,reduceLeDiff,reduceCtorEq];exact ek (by rw[kB,am h125]) (by rfl) rfl hlt2
 have hP:kB t (eW t b) (i+1)=nz t (eW t b) (t.length+1- (i+1)) (i+1) [] []:=by rw[kB,ai h125]
 simp only[↓pa,pb,↓reduceIte];refine a7 (fun k fr st=>∃ (j n:Nat) (ns:List (List UInt8)) (acc:List V) (tok tok2:aF),k=t.length-j/\j<=t.length/\acc.length<=j/\ns.length=acc.length/\t.length-j<n/\jR ns=true/\fr 0= .ptr 0 0/\fr 1=I dp/\fr 4= .ptr 4 0/\fr 6= .ptr 6 0/\st.objs 0=some [S t,I j]/\st.objs 4=some [I 0,I 0,I 0,S [],.list 0 [] .nil,.list 0 [] .nil]/\
  st.objs 6=some [I 7,I 0,I 0,S [],.list ns.length (ns.map S) tok,.list acc.length (V.cas acc) tok2]/\Gr 9 st.nx st.cnt ns.length tok/\Gr 204 st.nx st.cnt acc.length tok2/\jr tok tok2/\nz t (eW t b) n j ns acc=kB t (eW t b) (i+1)) (t.length- (i+1)) (by omega)
  ⟨i+1,t.length+1- (i+1),[],[],.nil,.nil,rfl,by omega,aW _,rfl,by omega,rfl,by simp only[↓pa,pb,↓reduceIte,reduceCtorEq],by simp only[↓pa,pb,↓reduceIte,reduceEqDiff],by simp only[↓pa,pb,↓reduceIte,reduceEqDiff],by simp only[↓pa,↓reduceIte,reduceEqDiff],by simp only[pb,↓reduceIte],by simp only[pb,↓reduceIte,reduceEqDiff,reduceCtorEq],by simp only[pb,↓reduceIte,reduceCtorEq];rfl,rfl,rfl,trivial,hP.symm⟩ ?_
 rintro k fr st ⟨j,n,ns,acc,tok,tok2,rfl,hj,hacc,hnl,hn,hris,f0,f1,f4,f6,o0,o4,o6,hG,hG2,hap,hQ⟩;have hm:(ns.map S).length=ns.length:=bJ _;rw[Kd (by omega)]at hQ;simp only[↓pa,pb,↓reduceIte,f0];refine iF (Om K (t:=t) (i:=j) (by simp only[o0]) hj hl) (fun x j1 fl hx hj1=>?_) (fun p j1 fl hx hp hj1=>?_);rotate_left
 ·obtain⟨l,rfl⟩:=hp;have hno:kB t (eW t b) (i+1)=none:=by rw[<-hQ,hx]
  simp only[↓pa,pb,ah,aH,eB,ad,aa,↓reduceIte,reduceEqDiff,reduceAdd,reduceLeDiff,reduceCtorEq,f4,f6,o4,o6];exact bH hno ⟨_,rfl,rfl,by simp only[aH,eB,ay],by simp only[aH,eB]⟩ rfl rfl (by omega)
 have hm1:=wc hx;rw[hx]at hQ;simp only at hQ;simp only[↓pa,pb,ad,aa,↓reduceIte,reduceEqDiff,reduceCtorEq,f0];refine(gR K (t:=t) (i:=j1) 58 rfl (by decide) (by simp only[pb,ah,↓reduceIte]) hj1 hl).2 ?_;refine af (fun h58=>?_) (fun h58=>?_);rotate_left
 ·have hno:kB t (eW t b) (i+1)=none:=by rw[<-hQ,ai h58]
  simp only[↓pa,pb,ah,aH,eB,↓reduceIte,reduceEqDiff,reduceAdd,reduceLeDiff,reduceCtorEq,f4,f6,o4,o6];exact bH hno ⟨_,rfl,rfl,by simp only[aH,eB,ay],by simp only[aH,eB]⟩ rfl rfl (by omega)
 rw[am h58]at hQ;have hj58:=dH (show cI t j1≠0 by rw[h58];decide);have hrs:=zb ns x;rw[hris,cH]at hrs;simp only[↓pa,pb,ah,↓reduceIte,reduceEqDiff,reduceAdd,reduceCtorEq,f6,o6];by_cases hup:jR (ns++[x])=true;rotate_left
 ·have hup:jR (ns++[x])=false:=by simpa using hup
  have hno:kB t (eW t b) (i+1)=none:=by
   rw[<-hQ];split
   ·split
    ·first|rfl|rw[ai (by rw[hup];simp)]
    ·split
     ·exact Hn _ _ _ _ hup
     ·rfl
   ·rfl
  rw[hup]at hrs;have hrs:=hrs.symm;rw[kH]at hrs;have hpos:0<ns.length:=by have:=hrs.1;simp only[decide_eq_false_iff_not]at this;omega
  have hpos':(0:Int)<(ns.length:Int):=by omega
  have hidx:((ns.length:Int) -1).toNat=ns.length-1:=by omega
  simp (maxSteps:=1000000) (disch:=omega)only[↓pa,pb,ah,↓reduceIte,reduceEqDiff,reduceAdd,reduceLeDiff,reduceCtorEq,f4,f6,o4,o6,hpos',hidx,eh,gZ (show ns.length-1<ns.length by omega),hrs.2];simp only[↓pa,pb,ah,aH,eB,↓reduceIte,reduceEqDiff,reduceAdd,reduceLeDiff,reduceCtorEq,f4];exact bH hno ⟨_,rfl,rfl,by simp only[aH,eB,ay],by simp only[aH,eB]⟩ rfl rfl (by omega)
 rw[hup]at hrs;have hrs:=hrs.symm;by_cases hz:ns.length=0
 ·have hz':¬ (0:Int)<(ns.length:Int):=by omega
  have hz'':¬0<ns.length:=by omega
  simp (maxSteps:=1000000) (disch:=omega)only[↓pa,pb,↓reduceIte,reduceEqDiff,reduceCtorEq,f0,f1,hz',hdd];refine iF (ih _ 0 (j1+1) (by simp only[pb,↓reduceIte]) hj58) (fun v j2 fl hv hj2=>?_) (fun p j2 fl hv hp hj2=>?_);rotate_left
  ·obtain⟨cs,rfl,hcs,hcn,hct⟩:=hp;have hno:kB t (eW t b) (i+1)=none:=by rw[<-hQ,hv]
   simp (maxSteps:=1000000) (disch:=omega)only[↓pa,pb,ah,aH,eB,ad,aa,↓reduceIte,reduceEqDiff,reduceAdd,reduceLeDiff,reduceCtorEq,f4,f6,o4,o6,hcs,ed];exact bH hno ⟨_,rfl,rfl,by simp only[aH,eB,ay],by simp only[aH,eB]⟩ rfl rfl hj2
  have hm2:=qJ _ _ _ _ hv;have hvl:=v.ca_len;rw[hv]at hQ;simp only at hQ;simp (maxSteps:=1000000) (disch:=omega)only[↓pa,↓au,pb,ah,ad,aa,↓reduceIte,reduceEqDiff,reduceAdd,reduceLeDiff,reduceLT,reduceCtorEq,f6,o6,hvl,ed];refine jN (n:=ns.length) (m:=1) (e2:=204) (n2:=acc.length) (u:=tok2) hG (by rw[hm];omega) rfl (by omega) (by omega) (by decide) hG2 hap (fun st1 tok' ho hG' hG2' hap'=>?_);rw[BL];simp (maxSteps:=1000000) (disch:=omega)only[↓pa,↓au,pb,ah,↓reduceIte,reduceEqDiff,reduceAdd,reduceLeDiff,reduceLT,reduceCtorEq,f6,o6,hvl,ed,gb,ho];refine jN (n:=acc.length) (m:=1) (e2:=9) (n2:=ns.length+1) (u:=tok') hG2' (by rw[V.cas_len]) (by rw[hvl]) (by omega) (by omega) (by decide) hG' (gC hap') (fun st2 tok2' ho2 hG2'' hG'' hap''=>?_);rw[V.cas_snoc];simp only[↓pa,pb,ah,↓reduceIte,reduceEqDiff,reduceAdd,reduceLeDiff,reduceCtorEq,f0,f6,ho2];refine(gR K (t:=t) (i:=j2) 125 rfl (by decide) (by simp only[pb,ah,↓reduceIte,reduceCtorEq,ho,ho2]) hj2 hl).2 ?_;refine af (fun k1=>?_) (fun k1=>?_)
  ·rw[am k1,am hup]at hQ;have hjl:=dH (show cI t j2≠0 by rw[k1];decide);simp only[↓pa,pb,ah,aH,eB,↓reduceIte,reduceEqDiff,reduceAdd,reduceLeDiff,reduceCtorEq,f4,f6,o4,ho,ho2];rw[Hm];exact ek hQ.symm rfl rfl hjl
  rw[ai k1]at hQ;simp only[↓pa,pb,↓reduceIte,reduceCtorEq,f0];refine(gR K (t:=t) (i:=j2) 44 rfl (by decide) (by simp only[pb,ah,↓reduceIte,reduceCtorEq,ho,ho2]) hj2 hl).2 ?_;refine af (fun k2=>?_) (fun k2=>?_)
  ·rw[am k2]at hQ;have hjl:=dH (show cI t j2≠0 by rw[k2];decide);simp only[↓pa,pb,ah,↓reduceIte,reduceEqDiff,reduceCtorEq,f0,f1,f4,f6,o4,ho,ho2];exact⟨t.length- (j2+1),by omega,j2+1,n-1,ns++[x],acc++[v],tok',tok2',rfl,by omega,by rw[dr];omega,by rw[dr,l7];omega,by omega,hup,rfl,by rw[dr,l7],by rw[l7];exact hG'',by rw[dr];exact hG2'',gC hap'',hQ⟩
  ·rw[ai k2]at hQ;simp only[↓pa,pb,ah,aH,eB,↓reduceIte,reduceEqDiff,reduceAdd,reduceLeDiff,reduceCtorEq,f4,f6,o4,ho,ho2];exact bH hQ.symm ⟨_,rfl,rfl,by simp only[aH,eB,ay],by simp only[aH,eB]⟩ rfl rfl hj2
 ·have hs1:d4 (iV ns (ns.length-1)) x=true:=by simpa [hz]using hrs
  have hpos:0<ns.length:=by omega
  have hpos':(0:Int)<(ns.length:Int):=by omega
  have hidx:((ns.length:Int) -1).toNat=ns.length-1:=by omega
  simp (maxSteps:=1000000) (disch:=omega)only[↓pa,pb,ah,↓reduceIte,reduceEqDiff,reduceAdd,reduceCtorEq,f0,f1,f6,o6,hpos',hidx,hdd,eh,gZ (show ns.length-1<ns.length by omega),hs1];refine iF (ih _ 0 (j1+1) (by simp only[pb,↓reduceIte]) hj58) (fun v j2 fl hv hj2=>?_) (fun p j2 fl hv hp hj2=>?_);rotate_left
  ·obtain⟨cs,rfl,hcs,hcn,hct⟩:=hp;have hno:kB t (eW t b) (i+1)=none:=by rw[<-hQ,hv]
   simp (maxSteps:=1000000) (disch:=omega)only[↓pa,pb,ah,aH,eB,ad,aa,↓reduceIte,reduceEqDiff,reduceAdd,reduceLeDiff,reduceCtorEq,f4,f6,o4,o6,hcs,ed];exact bH hno ⟨_,rfl,rfl,by simp only[aH,eB,ay],by simp only[aH,eB]⟩ rfl rfl hj2
  have hm2:=qJ _ _ _ _ hv;have hvl:=v.ca_len;rw[hv]at hQ;simp only at hQ;simp (maxSteps:=1000000) (disch:=omega)only[↓pa,↓au,pb,ah,ad,aa,↓reduceIte,reduceEqDiff,reduceAdd,reduceLeDiff,reduceLT,reduceCtorEq,f6,o6,hvl,ed];refine jN (n:=ns.length) (m:=1) (e2:=204) (n2:=acc.length) (u:=tok2) hG (by rw[hm];omega) rfl (by omega) (by omega) (by decide) hG2 hap (fun st1 tok' ho hG' hG2' hap'=>?_);rw[BL];simp (maxSteps:=1000000) (disch:=omega)only[↓pa,↓au,pb,ah,↓reduceIte,reduceEqDiff,reduceAdd,reduceLeDiff,reduceLT,reduceCtorEq,f6,o6,hvl,ed,gb,ho];refine jN (n:=acc.length) (m:=1) (e2:=9) (n2:=ns.length+1) (u:=tok') hG2' (by rw[V.cas_len]) (by rw[hvl]) (by omega) (by omega) (by decide) hG' (gC hap') (fun st2 tok2' ho2 hG2'' hG'' hap''=>?_);rw[V.cas_snoc];simp only[↓pa,pb,ah,↓reduceIte,reduceEqDiff,reduceAdd,reduceLeDiff,reduceCtorEq,f0,f6,ho2];refine(gR K (t:=t) (i:=j2) 125 rfl (by decide) (by simp only[pb,ah,↓reduceIte,reduceCtorEq,ho,ho2]) hj2 hl).2 ?_;refine af (fun k1=>?_) (fun k1=>?_)
  ·rw[am k1,am hup]at hQ;have hjl:=dH (show cI t j2≠0 by rw[k1];decide);simp only[↓pa,pb,ah,aH,eB,↓reduceIte,reduceEqDiff,reduceAdd,reduceLeDiff,reduceCtorEq,f4,f6,o4,ho,ho2];rw[Hm];exact ek hQ.symm rfl rfl hjl
  rw[ai k1]at hQ;simp only[↓pa,pb,↓reduceIte,reduceCtorEq,f0];refine(gR K (t:=t) (i:=j2) 44 rfl (by decide) (by simp only[pb,ah,↓reduceIte,reduceCtorEq,ho,ho2]) hj2 hl).2 ?_;refine af (fun k2=>?_) (fun k2=>?_)
  ·rw[am k2]at hQ;have hjl:=dH (show cI t j2≠0 by rw[k2];decide);simp only[↓pa,pb,ah,↓reduceIte,reduceEqDiff,reduceCtorEq,f0,f1,f4,f6,o4,ho,ho2];exact⟨t.length- (j2+1),by omega,j2+1,n-1,ns++[x],acc++[v],tok',tok2',rfl,by omega,by rw[dr];omega,by rw[dr,l7];omega,by omega,hup,rfl,by rw[dr,l7],by rw[l7];exact hG'',by rw[dr];exact hG2'',gC hap'',hQ⟩
  ·rw[ai k2]at hQ;simp only[↓pa,pb,ah,aH,eB,↓reduceIte,reduceEqDiff,reduceAdd,reduceLeDiff,reduceCtorEq,f4,f6,o4,ho,ho2];exact bH hQ.symm ⟨_,rfl,rfl,by simp only[aH,eB,ay],by simp only[aH,eB]⟩ rfl rfl hj2
def AM(t:List UInt8)(o:Option (Nat->Option (V×Nat)))(i:Nat):Option (V×Nat):=match o with
 |some rd=>mF t rd i
 |none=>none
def DZ(t:List UInt8)(o:Option (Nat->Option (V×Nat)))(i:Nat):Option (V×Nat):=match o with
 |some rd=>kB t rd i
 |none=>none
def zL(t:List UInt8)(o:Option (Nat->Option (V×Nat)))(i:Nat):om t o i=
 if cI t i=34 then(rO t (i+1)).map fun q=>(.mk 3 0 0 q.1 [] [],q.2)
 else if cI t i=64 then(ie t (i+1)).map fun q=>(.mk 4 q.1 0 [] [] [],q.2)
 else if cI t i=45\/fB (cI t i)=true then(gl t i).map fun q=>(.mk 2 q.1 0 [] [] [],q.2)
 else if cI t i=40 then ik t (i+1)
 else if cI t i=91 then AM t o (i+1)
 else if cI t i=123 then DZ t o (i+1)
 else if cI t i=60 then sj t (i+1)
 else if tk t i [110,117,108,108]then some (.mk 0 0 0 [] [] [],i+4)
 else if tk t i [116,114,117,101]then some (.mk 1 1 0 [] [] [],i+4)
 else if tk t i [102,97,108,115,101]then some (.mk 1 0 0 [] [] [],i+5)
 else if cI t i=110 then eX t 8 (i+1)
 else if cI t i=101 then eX t 9 (i+1)
 else none:=by cases o<;>rfl
def yx{t x:List UInt8}{i:Nat}(hi:i<=t.length)(h:tk t i x=true):i+x.length<=t.length:=by
 by_cases hx:t.length-i<x.length
 ·rw[Lk hi hx]at h;cases h
 ·omega
def zy(K:bO cf){t:List UInt8}(hl:t.length<=2000000){b:Nat}{o:Option (Nat->Option (V×Nat))}(hV:∀ i,eW t b i=om t o i)
  (hL:∀ (st:St) (s i:Nat),st.objs s=some [S t,I i]->i<=t.length->cI t i=91->∃ r c',oh t VA (AM t o (i+1)) fq r c'/\∃ fl,az cf 223 [.ptr s 0,I (5- (b:Int))] [] st=some (r,db (cA st s c') fl))
  (hM:∀ (st:St) (s i:Nat),st.objs s=some [S t,I i]->i<=t.length->cI t i=123->∃ r c',oh t VA (DZ t o (i+1)) fq r c'/\∃ fl,az cf 224 [.ptr s 0,I (5- (b:Int))] [] st=some (r,db (cA st s c') fl)):BD cf t b:=by
 intro st s i hs hi;revert hL hM;generalize 5- (b:Int)=dp;intro hL hM;refine hU K.tab (F:=F201) rfl rfl rfl (lb rfl) (lb rfl) (by simp[bh]) hs (gt t i) 1 ?_;simp only[F201,↓qU,seval];have hp:=(hV i).trans (zL t o i);simp only[↓pa,pb,seval];refine(tq K.tab (t:=t) (i:=i) (by simp only[pb,seval])).2 ?_;simp only[↓pa,pb,seval];refine af (fun c1=>?_) (fun c1=>?_)
 ·rw[am c1]at hp;simp only[↓pa,pb,seval,c1];refine iF (MI K (t:=t) (i:=i) (by simp only[pb,seval]) hi hl c1) (fun v j fl hv hj=>?_) (fun p j fl hv hx hj=>?_)
  ·rw[hv]at hp;simp only[↓pa,↓au,pb,ah,aH,ad,aa,seval];exact ek hp rfl rfl hj
  ·obtain⟨l,rfl⟩:=hx;rw[hv]at hp;simp only[↓pa,↓au,pb,ah,aH,ad,aa,seval];exact bH hp ⟨_,rfl,rfl,by simp only[aH,ay],by simp only[aH]⟩ rfl rfl hj
 rw[ai c1]at hp;simp only[↓pa,pb,seval,c1];refine af (fun c2=>?_) (fun c2=>?_)
 ·rw[am c2]at hp;simp only[↓pa,pb,seval,c2];refine iF (PT K (t:=t) (i:=i) (by simp only[pb,seval]) hi hl c2) (fun v j fl hv hj=>?_) (fun p j fl hv hx hj=>?_)
  ·rw[hv]at hp;simp only[↓pa,↓au,pb,ah,aH,ad,aa,seval];exact ek hp rfl rfl hj
  ·obtain⟨l,rfl⟩:=hx;rw[hv]at hp;simp only[↓pa,↓au,pb,ah,aH,ad,aa,seval];exact bH hp ⟨_,rfl,rfl,by simp only[aH,ay],by simp only[aH]⟩ rfl rfl hj
 rw[ai c2]at hp;by_cases c3:cI t i=45\/fB (cI t i)=true
 ·rw[am c3]at hp;have c45:cI t i=45\/(¬cI t i=45/\fB (cI t i)=true):=by
   by_cases h:cI t i=45
   ·exact .inl h
   ·exact .inr ⟨h,c3.resolve_left h⟩
  rcases c45 with c45|⟨c45,cd⟩
  ·simp only[↓pa,pb,seval,c45];refine tL K (t:=t) (i:=i) (by simp only[pb,seval]) hi hl (fun a j fl hv hj=>?_) (fun n j fl hv hj=>?_)
   ·rw[hv]at hp;simp only[↓pa,↓au,pb,ah,aH,ad,aa,seval];exact ek hp rfl rfl hj
   ·rw[hv]at hp;simp only[↓pa,↓au,pb,ah,aH,ad,aa,seval];exact bH hp ⟨_,rfl,rfl,by simp only[aH,ay],by simp only[aH]⟩ rfl rfl hj
  ·simp only[↓pa,pb,seval,c2,c45,rZ K.tab,cd];refine tL K (t:=t) (i:=i) (by simp only[pb,seval]) hi hl (fun a j fl hv hj=>?_) (fun n j fl hv hj=>?_)
   ·rw[hv]at hp;simp only[↓pa,↓au,pb,ah,aH,ad,aa,seval];exact ek hp rfl rfl hj
   ·rw[hv]at hp;simp only[↓pa,↓au,pb,ah,aH,ad,aa,seval];exact bH hp ⟨_,rfl,rfl,by simp only[aH,ay],by simp only[aH]⟩ rfl rfl hj
 rw[ai c3]at hp;have c3a:¬cI t i=45:=fun h=>c3 (.inl h);have c3b:fB (cI t i)=false:=by cases h:fB (cI t i);rfl;exact absurd (.inr h) c3
 simp only[↓pa,pb,seval,c2,c3a,rZ K.tab,c3b];refine af (fun c4=>?_) (fun c4=>?_)
 ·rw[am c4]at hp;simp only[↓pa,pb,seval,c4];refine iF (Oj K (t:=t) (i:=i) (by simp only[pb,seval]) hi hl c4) (fun v j fl hv hj=>?_) (fun p j fl hv hx hj=>?_)
  ·have hvl:=v.ca_len;simp (maxSteps:=1000000) (disch:=omega)only[↓pa,pb,ah,aH,eB,ad,aa,seval,hvl,ed,gb];exact ek (hp.trans hv) rfl rfl hj
  ·obtain⟨cs,rfl,hcs,hcn,hct⟩:=hx;simp (maxSteps:=1000000) (disch:=omega)only[↓pa,pb,ah,aH,ad,aa,seval,hcs,hcn,hct,ed,gb];exact bH (hp.trans hv) ⟨_,rfl,hcs,hcn,hct⟩ rfl rfl hj
 rw[ai c4]at hp;simp only[↓pa,pb,seval,c4];refine af (fun c5=>?_) (fun c5=>?_)
 ·rw[am c5]at hp;simp only[↓pa,pb,seval,c5];refine iF (hL _ 0 i (by simp only[pb,seval]) hi c5) (fun v j fl hv hj=>?_) (fun p j fl hv hx hj=>?_)
  ·have hvl:=v.ca_len;simp (maxSteps:=1000000) (disch:=omega)only[↓pa,pb,ah,aH,eB,ad,aa,seval,hvl,ed,gb];exact ek (hp.trans hv) rfl rfl hj
  ·obtain⟨cs,rfl,hcs,hcn,hct⟩:=hx;simp (maxSteps:=1000000) (disch:=omega)only[↓pa,pb,ah,aH,ad,aa,seval,hcs,hcn,hct,ed,gb];exact bH (hp.trans hv) ⟨_,rfl,hcs,hcn,hct⟩ rfl rfl hj
 rw[ai c5]at hp;simp only[↓pa,pb,seval,c5];refine af (fun c6=>?_) (fun c6=>?_)
 ·rw[am c6]at hp;simp only[↓pa,pb,seval,c6];refine iF (hM _ 0 i (by simp only[pb,seval]) hi c6) (fun v j fl hv hj=>?_) (fun p j fl hv hx hj=>?_)
  ·have hvl:=v.ca_len;simp (maxSteps:=1000000) (disch:=omega)only[↓pa,pb,ah,aH,eB,ad,aa,seval,hvl,ed,gb];exact ek (hp.trans hv) rfl rfl hj
  ·obtain⟨cs,rfl,hcs,hcn,hct⟩:=hx;simp (maxSteps:=1000000) (disch:=omega)only[↓pa,pb,ah,aH,ad,aa,seval,hcs,hcn,hct,ed,gb];exact bH (hp.trans hv) ⟨_,rfl,hcs,hcn,hct⟩ rfl rfl hj
 rw[ai c6]at hp;simp only[↓pa,pb,seval,c6];refine af (fun c7=>?_) (fun c7=>?_)
 ·rw[am c7]at hp;simp only[↓pa,pb,seval,c7];refine iF (PB K (t:=t) (i:=i) (by simp only[pb,seval]) hi hl c7) (fun v j fl hv hj=>?_) (fun p j fl hv hx hj=>?_)
  ·have hvl:=v.ca_len;simp (maxSteps:=1000000) (disch:=omega)only[↓pa,pb,ah,aH,eB,ad,aa,seval,hvl,ed,gb];exact ek (hp.trans hv) rfl rfl hj
  ·obtain⟨cs,rfl,hcs,hcn,hct⟩:=hx;simp (maxSteps:=1000000) (disch:=omega)only[↓pa,pb,ah,aH,ad,aa,seval,hcs,hcn,hct,ed,gb];exact bH (hp.trans hv) ⟨_,rfl,hcs,hcn,hct⟩ rfl rfl hj
 rw[ai c7]at hp;simp only[↓pa,pb,seval,c7];refine(xA K.tab (t:=t) (i:=i) (x:=[110,117,108,108]) (by simp only[pb,seval]) hi hl (by decide)).2 ?_;refine af (fun c8=>?_) (fun c8=>?_)
 ·rw[am c8]at hp;have:=yx hi c8;simp only[↓pa,↓au,pb,ah,aH,seval];exact ek hp rfl rfl this
 rw[ai c8]at hp;simp only[↓pa,pb,seval];refine(xA K.tab (t:=t) (i:=i) (x:=[116,114,117,101]) (by simp only[pb,seval]) hi hl (by decide)).2 ?_;refine af (fun c9=>?_) (fun c9=>?_)
 ·rw[am c9]at hp;have:=yx hi c9;simp only[↓pa,↓au,pb,ah,aH,seval];exact ek hp rfl rfl this
 rw[ai c9]at hp;simp only[↓pa,pb,seval];refine(xA K.tab (t:=t) (i:=i) (x:=[102,97,108,115,101]) (by simp only[pb,seval]) hi hl (by decide)).2 ?_;refine af (fun c10=>?_) (fun c10=>?_)
 ·rw[am c10]at hp;have:=yx hi c10;simp only[↓pa,↓au,pb,ah,aH,seval];exact ek hp rfl rfl this
 rw[ai c10]at hp;simp only[↓pa,pb,seval];refine af (fun c11=>?_) (fun c11=>?_)
 ·rw[am c11]at hp;have hA:j4 t i=eX t 8 (i+1):=by rw[j4,ai (by omega),am c11]
  rw[<-hA]at hp;simp only[↓pa,pb,seval,c11];refine iF (Cm K (t:=t) (i:=i) (by simp only[pb,seval]) hi hl) (fun v j fl hv hj=>?_) (fun p j fl hv hx hj=>?_)
  ·have hvl:=v.ca_len;simp (maxSteps:=1000000) (disch:=omega)only[↓pa,pb,ah,aH,eB,ad,aa,seval,hvl,ed,gb];exact ek (hp.trans hv) rfl rfl hj
  ·obtain⟨cs,rfl,hcs,hcn,hct⟩:=hx;simp (maxSteps:=1000000) (disch:=omega)only[↓pa,pb,ah,aH,ad,aa,seval,hcs,hcn,hct,ed,gb];exact bH (hp.trans hv) ⟨_,rfl,hcs,hcn,hct⟩ rfl rfl hj
 rw[ai c11]at hp;simp only[↓pa,pb,seval,c11];refine af (fun c12=>?_) (fun c12=>?_)
 ·rw[am c12]at hp;have hA:j4 t i=eX t 9 (i+1):=by rw[j4,am c12]
  rw[<-hA]at hp;simp only[↓pa,pb,seval,c12];refine iF (Cm K (t:=t) (i:=i) (by simp only[pb,seval]) hi hl) (fun v j fl hv hj=>?_) (fun p j fl hv hx hj=>?_)
  ·have hvl:=v.ca_len;simp (maxSteps:=1000000) (disch:=omega)only[↓pa,pb,ah,aH,eB,ad,aa,seval,hvl,ed,gb];exact ek (hp.trans hv) rfl rfl hj
  ·obtain⟨cs,rfl,hcs,hcn,hct⟩:=hx;simp (maxSteps:=1000000) (disch:=omega)only[↓pa,pb,ah,aH,ad,aa,seval,hcs,hcn,hct,ed,gb];exact bH (hp.trans hv) ⟨_,rfl,hcs,hcn,hct⟩ rfl rfl hj
 rw[ai c12]at hp;simp only[↓pa,↓au,pb,ah,aH,seval,c12];exact bH hp ⟨_,rfl,rfl,by simp only[aH,ay],by simp only[aH]⟩ rfl rfl hi
def Cj(K:bO cf){t:List UInt8}(hl:t.length<=2000000):∀ b,b<=5->BD cf t b
 |0,_=>zy K hl (o:=none) (fun _=>rfl) (fun _ _ _ hs hi h=>Ou K hs hi hl h) (fun _ _ _ hs hi h=>PD K hs hi hl h)
 |b+1,hb=>zy K hl (o:=some (eW t b)) (fun _=>rfl) (fun _ _ _ hs hi h=>PE K hs hi hl (by omega) h (Cj K hl b (by omega))) (fun _ _ _ hs hi h=>QM K hs hi hl (by omega) h (Cj K hl b (by omega)))
def vm:(∀ {s:Nat},dw [.ptr s 0]=some [s])/\(∀ {s:Nat} {k:IntKind} {n:Int},dw [.ptr s 0,.int k n]=some [s])/\(∀ {s:Nat} {x:ByteArray},dw [.ptr s 0,.str x]=some [s]):=by
 refine⟨?_,?_,?_⟩<;>intros<;>rfl
def fm:fq fZ:=⟨_,rfl,rfl,by simp only[aH,ay],by simp only[aH]⟩
def JX{acc:List V}{v:V}:PV.agg [I 10,I 0,I 0,S [],.list (acc.length+1) (V.cbs (acc++[v])) .no,.list 0 [] .no]=VB (.mk 10 0 0 [] [] (acc++[v])):=by
 rw[VB,V.cb,dr];rfl
def Ke{acc:List V}{v:V}:PV.agg [I 6,I 0,I 0,S [],.list (acc.length+1) (V.cbs (acc++[v])) .no,.list 0 [] .no]=VB (.mk 6 0 0 [] [] (acc++[v])):=by
 rw[VB,V.cb,dr];rfl
def CM(K:bO cf){t:List UInt8}{i:Nat}{k:Int}(hs:st.objs s=some [S t,I i,.bool false])(hi:i<=t.length)(hl:t.length<=2000000)
  (k1:∀ v j fl,eX t k i=some (v,j)->j<=t.length->A (mk (VB v) (db (cA st s [S t,I (j:Nat),.bool false]) fl)))
  (k2:∀ cs j fl,eX t k i=none->cs.length=6->aX cs=true->aQ cs=cs->j<=t.length->A (mk (.agg cs) (db (cA st s [S t,I (j:Nat),.bool true]) fl))):dj (az cf 214 [.ptr s 0,I k] [] st) mk A:=by
 refine jt (Ah K hs hi hl) k1 ?_;rintro p j fl h1 ⟨cs,rfl,h2,h3,h4⟩ h5;exact k2 cs j fl h1 h2 h3 h4 h5
def Ol(K:bO cf){t:List UInt8}{i:Nat}(hs:st.objs s=some [S t,I i,.bool false])(hi:i<=t.length)(hl:t.length<=2000000):
  ∃ r c',qw t VB (sj t i) fq r c'/\∃ fl,az cf 215 [.ptr s 0] [] st=some (r,db (cA st s c') fl):=by
 refine hU K.tab (F:=F215) rfl rfl rfl (lb rfl) (lb rfl) (by simp) hs (gS t i _) (t.length+1) ?_;simp only[F215,↓qU,reduceAdd,reduceSub];simp only[↓pa,↓au,pb,ah,↓reduceIte,reduceEqDiff,reduceAdd,reduceLeDiff];refine a7 (fun k fr st=>∃ (j n:Nat) (node:Bool) (acc:List V) (tok:aF),k=t.length-j/\j<=t.length/\acc.length<=j/\t.length-j<n/\(acc.length:Int).tmod 2=(if node then 0 else 1)/\fr 0= .ptr 0 0/\fr 2= .ptr 2 0/\fr 3= .ptr 3 0/\st.objs 0=some [S t,I j,.bool false]/\st.objs 2=some [I 0,I 0,I 0,S [],.list 0 [] .nil,.list 0 [] .nil]/\
  st.objs 3=some [I 10,I 0,I 0,S [],.list acc.length (V.cbs acc) tok,.list 0 [] .nil]/\Gr 199 st.nx st.cnt acc.length tok/\nS t n node j acc=sj t i) (t.length-i) (by omega)
  ⟨i,t.length+1-i,true,[],.nil,rfl,by omega,aW _,by omega,rfl,by simp only[↓pa,pb,↓reduceIte,reduceCtorEq],by simp only[↓pa,pb,↓reduceIte,reduceEqDiff],by simp only[↓pa,↓reduceIte],by simp only[pb,↓reduceIte,reduceCtorEq],by simp only[pb,↓reduceIte,reduceEqDiff],by simp only[pb,↓reduceIte];rfl,rfl,rfl⟩ ?_
 rintro k fr st ⟨j,n,node,acc,tok,rfl,hj,hacc,hn,hpar,f0,f2,f3,o0,o2,o3,hG,hQ⟩;have hrem:=sv (k:= .i64) (a:=(acc.length:Int)) (show(2:Int)≠0 by decide);rw[Hb (by omega)]at hQ;cases node
 ·have hpar:(acc.length:Int).tmod 2=1:=hpar;have hpar':((acc++[V.mk 0 0 0 [] [] []]).length:Int).tmod 2=0:=by
   rw[dr];have e:((acc.length:Nat):Int).tmod 2=((acc.length % 2:Nat):Int):=rfl;have e2:((acc.length+1:Nat):Int).tmod 2=(((acc.length+1) % 2:Nat):Int):=rfl;rw[e]at hpar;rw[e2];omega
  rw[dr]at hpar';simp only[cz,if_false,false_and]at hQ;simp only[↓pa,pb,ah,↓reduceIte,reduceEqDiff,reduceAdd,reduceCtorEq,f0,f3,o0,o3,hrem,hpar];refine(fk K (t:=t) (i:=j) 101 rfl (by decide) (by simp only[o0]) hj hl).2 ?_;refine af (fun hw=>?_) (fun hw=>?_);rotate_left
  ·rw[ai hw]at hQ;simp only[↓pa,pb,↓reduceIte,reduceCtorEq,f0];refine eA K (t:=t) (i:=j) (b:=false) (by simp only[o0]) fun fl=>?_;simp only[↓pa,pb,ah,aH,↓reduceIte,reduceEqDiff,reduceAdd,reduceLeDiff,reduceCtorEq,f2,o2,fZ];exact bp (dm:=fq) hQ.symm fm rfl hj
  rw[am hw]at hQ;have hjl:=dH (show cI t j≠0 by rw[hw];decide);simp only[↓pa,↓ax,pb,ah,ap,↓reduceIte,reduceEqDiff,reduceAdd,reduceCtorEq,f0,f3,o3];refine CM K (t:=t) (i:=j+1) (by simp only[pb,↓reduceIte]) hjl hl (fun v j1 fl hv hj1=>?_) (fun cs j1 fl hv hcs hcn hct hj1=>?_);rotate_left
  ·rw[hv]at hQ;simp (maxSteps:=1000000) (disch:=omega)only[↓pa,↓au,↓ax,pb,ah,ap,↓reduceIte,reduceEqDiff,reduceAdd,reduceLeDiff,reduceLT,hcs,ed,vm];refine bc (n:=acc.length) (m:=1) hG (by rw[V.cbs_len]) (by rw[hcs]) (by omega) (by omega) (by decide) ?_;simp only[↓pa,↓ax,pb,ah,ap,aq,ad,aa,↓reduceIte,reduceEqDiff,reduceAdd,reduceLeDiff,Int.reduceEq,reduceCtorEq,f0,f3,o3];refine(m5 K.tab (t:=t) (i:=j1) (by simp only[pb,ah,↓reduceIte,reduceCtorEq]) hj1 hl).2 ?_;simp only[↓pa,pb,↓reduceIte,reduceCtorEq,f0];refine eA K (t:=t) (i:=j1) (b:=true) (by simp only[pb,ah,↓reduceIte,reduceCtorEq]) fun fl=>?_;simp only[↓pa,pb,ah,aH,↓reduceIte,reduceEqDiff,reduceAdd,reduceLeDiff,reduceCtorEq,f2,o2,fZ];exact bp (dm:=fq) hQ.symm fm rfl hj1
  have hm:=pO hv;have hvl:=v.cb_len;rw[hv]at hQ;simp only at hQ;simp (maxSteps:=1000000) (disch:=omega)only[↓pa,↓au,↓ax,pb,ah,ap,↓reduceIte,reduceEqDiff,reduceAdd,reduceLeDiff,reduceLT,hvl,ed,vm];refine bc (n:=acc.length) (m:=1) hG (by rw[V.cbs_len]) (by rw[hvl]) (by omega) (by omega) (by decide) ?_;rw[V.cbs_snoc];simp only[↓pa,↓ax,pb,ah,ap,aq,ad,aa,↓reduceIte,reduceEqDiff,reduceAdd,reduceLeDiff,Int.reduceEq,reduceCtorEq,f0,f3,o3];refine(fk K (t:=t) (i:=j1) 32 rfl (by decide) (by simp only[pb,ah,↓reduceIte,reduceCtorEq]) hj1 hl).2 ?_;refine af (fun h32=>?_) (fun h32=>?_)
  ·rw[am h32]at hQ;have hjl2:=dH (show cI t j1≠0 by rw[h32];decide);simp only[↓pa,pb,ah,↓reduceIte,reduceEqDiff,reduceCtorEq,f0,f2,f3,o2];exact⟨t.length- (j1+1),by omega,j1+1,n-1,true,acc++[v],_,rfl,by omega,by rw[dr];omega,by omega,by rw[dr];exact hpar',rfl,by rw[dr],by rw[dr];exact cD hG,hQ⟩
  ·rw[ai h32]at hQ;simp only[↓pa,pb,↓reduceIte,reduceCtorEq,f0];refine eA K (t:=t) (i:=j1) (b:=false) (by simp only[pb,ah,↓reduceIte,reduceCtorEq]) fun fl=>?_;simp only[↓pa,pb,ah,aH,↓reduceIte,reduceEqDiff,reduceAdd,reduceLeDiff,reduceCtorEq,f2,o2,fZ];exact bp (dm:=fq) hQ.symm fm rfl hj1
 ·have hpar:(acc.length:Int).tmod 2=0:=hpar;have hpar':((acc.length+1:Nat):Int).tmod 2=1:=by
   have e:((acc.length:Nat):Int).tmod 2=((acc.length % 2:Nat):Int):=rfl;have e2:((acc.length+1:Nat):Int).tmod 2=(((acc.length+1) % 2:Nat):Int):=rfl;rw[e]at hpar;rw[e2];omega
  simp only[if_true,qy]at hQ;simp only[↓pa,pb,ah,↓reduceIte,reduceEqDiff,reduceAdd,Int.reduceEq,reduceCtorEq,f0,f3,o0,o3,hrem,hpar];refine(fk K (t:=t) (i:=j) 110 rfl (by decide) (by simp only[o0]) hj hl).2 ?_;refine af (fun hw=>?_) (fun hw=>?_);rotate_left
  ·rw[ai hw]at hQ;simp only[↓pa,pb,↓reduceIte,reduceCtorEq,f0];refine eA K (t:=t) (i:=j) (b:=false) (by simp only[o0]) fun fl=>?_;simp only[↓pa,pb,ah,aH,↓reduceIte,reduceEqDiff,reduceAdd,reduceLeDiff,reduceCtorEq,f2,o2,fZ];exact bp (dm:=fq) hQ.symm fm rfl hj
  rw[am hw]at hQ;have hjl:=dH (show cI t j≠0 by rw[hw];decide);simp only[↓pa,↓ax,pb,ah,ap,↓reduceIte,reduceEqDiff,reduceAdd,reduceCtorEq,f0,f3,o3];refine CM K (t:=t) (i:=j+1) (by simp only[pb,↓reduceIte]) hjl hl (fun v j1 fl hv hj1=>?_) (fun cs j1 fl hv hcs hcn hct hj1=>?_);rotate_left
  ·rw[hv]at hQ;simp (maxSteps:=1000000) (disch:=omega)only[↓pa,↓au,↓ax,pb,ah,ap,↓reduceIte,reduceEqDiff,reduceAdd,reduceLeDiff,reduceLT,hcs,ed,vm];refine bc (n:=acc.length) (m:=1) hG (by rw[V.cbs_len]) (by rw[hcs]) (by omega) (by omega) (by decide) ?_;simp only[↓pa,↓ax,pb,ah,ap,aq,ad,aa,↓reduceIte,reduceEqDiff,reduceAdd,reduceLeDiff,reduceCtorEq,f0,f3,o3];refine(m5 K.tab (t:=t) (i:=j1) (by simp only[pb,ah,↓reduceIte,reduceCtorEq]) hj1 hl).2 ?_;simp only[↓pa,pb,↓reduceIte,reduceEqDiff,reduceCtorEq,f0];refine(m5 K.tab (t:=t) (i:=j1) (by simp only[pb,ah,↓reduceIte,reduceCtorEq]) hj1 hl).2 ?_;simp only[↓pa,pb,↓reduceIte,reduceCtorEq,f0];refine eA K (t:=t) (i:=j1) (b:=true) (by simp only[pb,ah,↓reduceIte,reduceCtorEq]) fun fl=>?_;simp only[↓pa,pb,ah,aH,↓reduceIte,reduceEqDiff,reduceAdd,reduceLeDiff,reduceCtorEq,f2,o2,fZ];exact bp (dm:=fq) hQ.symm fm rfl hj1
  have hm:=pO hv;have hvl:=v.cb_len;rw[hv]at hQ;simp only at hQ;simp (maxSteps:=1000000) (disch:=omega)only[↓pa,↓au,↓ax,pb,ah,ap,↓reduceIte,reduceEqDiff,reduceAdd,reduceLeDiff,reduceLT,hvl,ed,vm];refine bc (n:=acc.length) (m:=1) hG (by rw[V.cbs_len]) (by rw[hvl]) (by omega) (by omega) (by decide) ?_;rw[V.cbs_snoc];simp only[↓pa,↓ax,pb,ah,ap,aq,ad,aa,↓reduceIte,reduceEqDiff,reduceAdd,reduceLeDiff,reduceCtorEq,f0,f3,o3];refine(fk K (t:=t) (i:=j1) 62 rfl (by decide) (by simp only[pb,ah,↓reduceIte,reduceCtorEq]) hj1 hl).2 ?_;refine af (fun h62=>?_) (fun h62=>?_)
  ·rw[am h62]at hQ;have hjl2:=dH (show cI t j1≠0 by rw[h62];decide);simp only[↓pa,pb,ah,aH,eB,↓reduceIte,reduceEqDiff,reduceAdd,reduceLeDiff,reduceCtorEq,f2,f3,o2];rw[JX];exact ez hQ.symm rfl rfl hjl2
  rw[ai h62]at hQ;simp only[↓pa,pb,↓reduceIte,reduceEqDiff,reduceCtorEq,f0];refine(fk K (t:=t) (i:=j1) 32 rfl (by decide) (by simp only[pb,ah,↓reduceIte,reduceCtorEq]) hj1 hl).2 ?_;refine af (fun h32=>?_) (fun h32=>?_)
  ·rw[am h32]at hQ;have hjl2:=dH (show cI t j1≠0 by rw[h32];decide);simp only[↓pa,pb,ah,↓reduceIte,reduceEqDiff,reduceCtorEq,f0,f2,f3,o2];exact⟨t.length- (j1+1),by omega,j1+1,n-1,false,acc++[v],_,rfl,by omega,by rw[dr];omega,by omega,by rw[dr];exact hpar',rfl,by rw[dr],by rw[dr];exact cD hG,hQ⟩
  ·rw[ai h32]at hQ;simp only[↓pa,pb,↓reduceIte,reduceCtorEq,f0];refine eA K (t:=t) (i:=j1) (b:=false) (by simp only[pb,ah,↓reduceIte,reduceCtorEq]) fun fl=>?_;simp only[↓pa,pb,ah,aH,↓reduceIte,reduceEqDiff,reduceAdd,reduceLeDiff,reduceCtorEq,f2,o2,fZ];exact bp (dm:=fq) hQ.symm fm rfl hj1
def ym(cf:aJ)(t:List UInt8)(b:Nat):Prop:=∀ (st:St) (s i:Nat),st.objs s=some [S t,I i,.bool false]->i<=t.length->
 ∃ r c',qw t VB (eW t b i) fq r c'/\∃ fl,az cf 200 [.ptr s 0,I (5- (b:Int))] [] st=some (r,db (cA st s c') fl)
def Ot(K:bO cf){t:List UInt8}{i b:Nat}(hs:st.objs s=some [S t,I i,.bool false])(hi:i<=t.length)(hl:t.length<=2000000)(hb:b<5)(ih:ym cf t b):
  ∃ r c',qw t VB (mF t (eW t b) i) fq r c'/\∃ fl,az cf 216 [.ptr s 0,I (5- ((b+1:Nat):Int))] [] st=some (r,db (cA st s c') fl):=by
 refine hU K.tab (F:=F216) rfl rfl rfl (lb rfl) (lb rfl) (by simp[bh]) hs (gS t i _) (t.length+1) ?_;simp only[F216,↓qU,reduceAdd,reduceSub];have hdd:5- ((b+1:Nat):Int)+1=5- (b:Int):=by omega
 have hd0:0<=5- ((b+1:Nat):Int)/\5- ((b+1:Nat):Int)<=5:=by omega
 revert hdd hd0;generalize hdp:5- ((b+1:Nat):Int)=dp;intro hdd hd0;simp only[↓pa,↓au,pb,ah,↓reduceIte,reduceEqDiff,reduceAdd,reduceLeDiff,reduceCtorEq];refine(fk K (t:=t) (i:=i) 93 rfl (by decide) (by simp only[pb,↓reduceIte,reduceCtorEq]) hi hl).2 ?_;refine af (fun h93=>?_) (fun h93=>?_)
 ·have hlt2:=dH (show cI t i≠0 by rw[h93];decide);simp only[↓pa,pb,ah,aH,↓reduceIte,reduceEqDiff,reduceAdd,reduceLeDiff,reduceCtorEq];exact ez (by rw[mF,am h93]) (by rfl) rfl hlt2
 have hP:mF t (eW t b) i=mQ t (eW t b) (t.length+1-i) i []:=by rw[mF,ai h93]
 simp only[↓pa,pb,↓reduceIte];refine a7 (fun k fr st=>∃ (j n:Nat) (acc:List V) (tok:aF),k=t.length-j/\j<=t.length/\acc.length<=j/\t.length-j<n/\fr 0= .ptr 0 0/\fr 1=I dp/\fr 4= .ptr 4 0/\fr 5= .ptr 5 0/\st.objs 0=some [S t,I j,.bool false]/\st.objs 4=some [I 0,I 0,I 0,S [],.list 0 [] .nil,.list 0 [] .nil]/\
  st.objs 5=some [I 6,I 0,I 0,S [],.list acc.length (V.cbs acc) tok,.list 0 [] .nil]/\Gr 199 st.nx st.cnt acc.length tok/\mQ t (eW t b) n j acc=mF t (eW t b) i) (t.length-i) (by omega)
  ⟨i,t.length+1-i,[],.nil,rfl,by omega,aW _,by omega,by simp only[↓pa,pb,↓reduceIte,reduceCtorEq],by simp only[↓pa,pb,↓reduceIte,reduceEqDiff],by simp only[↓pa,pb,↓reduceIte,reduceEqDiff],by simp only[↓pa,↓reduceIte,reduceEqDiff],by simp only[pb,↓reduceIte,reduceCtorEq],by simp only[pb,↓reduceIte,reduceEqDiff],by simp only[pb,↓reduceIte];rfl,rfl,hP.symm⟩ ?_
 rintro k fr st ⟨j,n,acc,tok,rfl,hj,hacc,hn,f0,f1,f4,f5,o0,o4,o5,hG,hQ⟩;rw[Hq (by omega)]at hQ;simp (maxSteps:=1000000) (disch:=omega)only[↓pa,↓ax,pb,ah,ap,↓reduceIte,reduceEqDiff,reduceAdd,reduceCtorEq,f0,f1,f5,o0,o5,hdd];refine jt (ih _ 0 j (by simp only[o0]) hj) (fun v j1 fl hv hj1=>?_) (fun p j1 fl hv hp hj1=>?_);rotate_left
 ·obtain⟨cs,rfl,hcs,hcn,hct⟩:=hp;rw[hv]at hQ;simp (maxSteps:=1000000) (disch:=omega)only[↓pa,↓au,↓ax,pb,ah,ap,↓reduceIte,reduceEqDiff,reduceAdd,reduceLeDiff,reduceLT,hcs,ed,vm];refine bc (n:=acc.length) (m:=1) hG (by rw[V.cbs_len]) (by rw[hcs]) (by omega) (by omega) (by decide) ?_;simp only[↓pa,↓ax,pb,ah,ap,aq,ad,aa,↓reduceIte,reduceEqDiff,reduceAdd,reduceLeDiff,reduceCtorEq,f0,f5,o5];refine(m5 K.tab (t:=t) (i:=j1) (by simp only[pb,ah,↓reduceIte,reduceCtorEq]) hj1 hl).2 ?_;simp only[↓pa,pb,↓reduceIte,reduceCtorEq,f0];refine(m5 K.tab (t:=t) (i:=j1) (by simp only[pb,ah,↓reduceIte,reduceCtorEq]) hj1 hl).2 ?_;simp only[↓pa,pb,↓reduceIte,reduceCtorEq,f0];refine eA K (t:=t) (i:=j1) (b:=true) (by simp only[pb,ah,↓reduceIte,reduceCtorEq]) fun fl=>?_;simp only[↓pa,pb,ah,aH,↓reduceIte,reduceEqDiff,reduceAdd,reduceLeDiff,reduceCtorEq,f4,o4,fZ];exact bp (dm:=fq) hQ.symm fm rfl hj1
 have hm:=qJ _ _ _ _ hv;have hvl:=v.cb_len;rw[hv]at hQ;simp only at hQ;simp (maxSteps:=1000000) (disch:=omega)only[↓pa,↓au,↓ax,pb,ah,ap,↓reduceIte,reduceEqDiff,reduceAdd,reduceLeDiff,reduceLT,hvl,ed,vm];refine bc (n:=acc.length) (m:=1) hG (by rw[V.cbs_len]) (by rw[hvl]) (by omega) (by omega) (by decide) ?_;rw[V.cbs_snoc];simp only[↓pa,↓ax,pb,ah,ap,aq,ad,aa,↓reduceIte,reduceEqDiff,reduceAdd,reduceLeDiff,reduceCtorEq,f0,f5,o5];refine(fk K (t:=t) (i:=j1) 93 rfl (by decide) (by simp only[pb,ah,↓reduceIte,reduceCtorEq]) hj1 hl).2 ?_;refine af (fun h1=>?_) (fun h1=>?_)
 ·rw[am h1]at hQ;have hjl:=dH (show cI t j1≠0 by rw[h1];decide);simp only[↓pa,pb,ah,aH,eB,↓reduceIte,reduceEqDiff,reduceAdd,reduceLeDiff,reduceCtorEq,f4,f5,o4];rw[Ke];exact ez hQ.symm rfl rfl hjl
 rw[ai h1]at hQ;simp only[↓pa,pb,↓reduceIte,reduceCtorEq,f0];refine(fk K (t:=t) (i:=j1) 44 rfl (by decide) (by simp only[pb,ah,↓reduceIte,reduceCtorEq]) hj1 hl).2 ?_;refine af (fun h2=>?_) (fun h2=>?_)
 ·rw[am h2]at hQ;have hjl:=dH (show cI t j1≠0 by rw[h2];decide);simp only[↓pa,pb,ah,↓reduceIte,reduceEqDiff,reduceCtorEq,f0,f1,f4,f5,o4];exact⟨t.length- (j1+1),by omega,j1+1,n-1,acc++[v],_,rfl,by omega,by rw[dr];omega,by omega,rfl,by rw[dr],by rw[dr];exact cD hG,hQ⟩
 ·rw[ai h2]at hQ;simp only[↓pa,pb,↓reduceIte,reduceCtorEq,f0];refine eA K (t:=t) (i:=j1) (b:=false) (by simp only[pb,ah,↓reduceIte,reduceCtorEq]) fun fl=>?_;simp only[↓pa,pb,ah,aH,↓reduceIte,reduceEqDiff,reduceAdd,reduceLeDiff,reduceCtorEq,f4,o4,fZ];exact bp (dm:=fq) hQ.symm fm rfl hj1
def vw{f n:Nat}{cs:List PV}{t:aF}(h:cZ cs)(hf:nU f=false:=by rfl):az cf f [.list n cs t] [] st=az cf f [.list n cs .no] [] st:=by
 have h1:[PV.list n cs t].all bF=true:=by
  have:aX cs=true:=h.1;simp only[cT,dd,bF,aH,this,ay]
 have h2:[PV.list n cs .no].all bF=true:=by
  have:aX cs=true:=h.1;simp only[cT,dd,bF,aH,this,ay]
 simp only[az,eY h1,eY h2,dz,jT 0 0 h1,jT 0 0 h2,bg,cJ,fO,oo,hf,List.isEmpty_nil,Bool.not_true,dO,Bool.or_false]
def L7{ns:List (List UInt8)}{x:List UInt8}{acc:List V}{v:V}:PV.agg [I 7,I 0,I 0,S [],.list (acc.length+1) (V.cbs (acc++[v])) .no,.list (ns.length+1) ((ns++[x]).map S) .no]=VB (.mk 7 0 0 [] (ns++[x]) (acc++[v])):=by
 rw[VB,V.cb,dr,l7]
def PC(K:bO cf){t:List UInt8}{i b:Nat}(hs:st.objs s=some [S t,I i,.bool false])(hi:i<=t.length)(hl:t.length<=2000000)(hb:b<5)(ih:ym cf t b):
  ∃ r c',qw t VB (kB t (eW t b) i) fq r c'/\∃ fl,az cf 217 [.ptr s 0,I (5- ((b+1:Nat):Int))] [] st=some (r,db (cA st s c') fl):=by
 refine hU K.tab (F:=F217) rfl rfl rfl (lb rfl) (lb rfl) (by simp[bh]) hs (gS t i _) (t.length+1) ?_;simp only[F217,↓qU,reduceAdd,reduceSub];have hdd:5- ((b+1:Nat):Int)+1=5- (b:Int):=by omega
 have hd0:0<=5- ((b+1:Nat):Int)/\5- ((b+1:Nat):Int)<=5:=by omega
 revert hdd hd0;generalize hdp:5- ((b+1:Nat):Int)=dp;intro hdd hd0;simp only[↓pa,↓au,pb,ah,↓reduceIte,reduceEqDiff,reduceAdd,reduceLeDiff,reduceCtorEq];refine(fk K (t:=t) (i:=i) 125 rfl (by decide) (by simp only[pb,↓reduceIte,reduceCtorEq]) hi hl).2 ?_;refine af (fun h125=>?_) (fun h125=>?_)
 ·have hlt2:=dH (show cI t i≠0 by rw[h125];decide);simp only[↓pa,pb,ah,aH,↓reduceIte,reduceEqDiff,reduceAdd,reduceLeDiff,reduceCtorEq];exact ez (by rw[kB,am h125]) (by rfl) rfl hlt2
 have hP:kB t (eW t b) i=nz t (eW t b) (t.length+1-i) i [] []:=by rw[kB,ai h125]
 simp only[↓pa,pb,↓reduceIte];refine a7 (fun k fr st=>∃ (j n:Nat) (ns:List (List UInt8)) (acc:List V) (tok tok2:aF),k=t.length-j/\j<=t.length/\acc.length<=j/\ns.length=acc.length/\t.length-j<n/\fr 0= .ptr 0 0/\fr 1=I dp/\fr 4= .ptr 4 0/\fr 5= .ptr 5 0/\st.objs 0=some [S t,I j,.bool false]/\st.objs 4=some [I 0,I 0,I 0,S [],.list 0 [] .nil,.list 0 [] .nil]/\
  st.objs 5=some [I 7,I 0,I 0,S [],.list acc.length (V.cbs acc) tok2,.list ns.length (ns.map S) tok]/\Gr 9 st.nx st.cnt ns.length tok/\Gr 199 st.nx st.cnt acc.length tok2/\jr tok tok2/\nz t (eW t b) n j ns acc=kB t (eW t b) i) (t.length-i) (by omega)
  ⟨i,t.length+1-i,[],[],.nil,.nil,rfl,by omega,aW _,rfl,by omega,by simp only[↓pa,pb,↓reduceIte,reduceCtorEq],by simp only[↓pa,pb,↓reduceIte,reduceEqDiff],by simp only[↓pa,pb,↓reduceIte,reduceEqDiff],by simp only[↓pa,↓reduceIte,reduceEqDiff],by simp only[pb,↓reduceIte,reduceCtorEq],by simp only[pb,↓reduceIte,reduceEqDiff],by simp only[pb,↓reduceIte];rfl,rfl,rfl,trivial,hP.symm⟩ ?_
 rintro k fr st ⟨j,n,ns,acc,tok,tok2,rfl,hj,hacc,hnl,hn,f0,f1,f4,f5,o0,o4,o5,hG,hG2,hap,hQ⟩;have hm:(ns.map S).length=ns.length:=bJ _;rw[Kd (by omega)]at hQ;simp only[↓pa,↓ax,pb,ah,ap,↓reduceIte,reduceEqDiff,reduceAdd,reduceCtorEq,f0,f5,o0,o5];refine jt (MK K (t:=t) (i:=j) (b:=false) (by simp only[o0]) hj hl) (fun x j1 fl hx hj1=>?_) (fun p j1 fl hx hp hj1=>?_);rotate_left
 ·obtain⟨l,rfl⟩:=hp;have hx:sk t j=none:=hx;have hno:kB t (eW t b) i=none:=by rw[<-hQ,hx]
  simp only[↓pa,↓au,↓ax,pb,ah,ap,↓reduceIte,reduceEqDiff,reduceAdd,reduceLeDiff,reduceLT,vm];refine jN (n:=ns.length) (m:=1) (e2:=199) (n2:=acc.length) (u:=tok2) hG (by rw[hm];omega) rfl (by omega) (by omega) (by decide) hG2 hap (fun st1 tok' ho hG' hG2' hap'=>?_);simp only[↓pa,↓ax,pb,ah,ap,aq,ad,aa,↓reduceIte,reduceEqDiff,reduceAdd,reduceLeDiff,reduceCtorEq,f0,f5,o5,ho];refine(m5 K.tab (t:=t) (i:=j1) (by simp only[pb,ah,↓reduceIte,reduceCtorEq,ho]) hj1 hl).2 ?_;simp only[↓pa,pb,↓reduceIte,reduceCtorEq,f0];refine eA K (t:=t) (i:=j1) (b:=true) (by simp only[pb,ah,↓reduceIte,reduceCtorEq,ho]) fun fl=>?_;simp only[↓pa,pb,ah,aH,↓reduceIte,reduceEqDiff,reduceAdd,reduceLeDiff,reduceCtorEq,f4,o4,ho,fZ];exact bp (dm:=fq) hno fm rfl hj1
 have hx:sk t j=some (x,j1):=hx;have hm1:=wc hx;rw[hx]at hQ;simp only at hQ;simp only[↓pa,↓au,↓ax,pb,ah,ap,↓reduceIte,reduceEqDiff,reduceAdd,reduceLeDiff,reduceLT,vm];refine jN (n:=ns.length) (m:=1) (e2:=199) (n2:=acc.length) (u:=tok2) hG (by rw[hm];omega) rfl (by omega) (by omega) (by decide) hG2 hap (fun st1 tok' ho hG' hG2' hap'=>?_);rw[BL];simp only[↓pa,↓ax,pb,ah,ap,aq,ad,aa,↓reduceIte,reduceEqDiff,reduceAdd,reduceLeDiff,reduceCtorEq,f0,f5,o5,ho];refine(fk K (t:=t) (i:=j1) 58 rfl (by decide) (by simp only[pb,ah,↓reduceIte,reduceCtorEq,ho]) hj1 hl).2 ?_;refine af (fun h58=>?_) (fun h58=>?_);rotate_left
 ·have hno:kB t (eW t b) i=none:=by rw[<-hQ,ai h58]
  simp only[↓pa,pb,↓reduceIte,reduceCtorEq,f0];refine eA K (t:=t) (i:=j1) (b:=false) (by simp only[pb,ah,↓reduceIte,reduceCtorEq,ho]) fun fl=>?_;simp only[↓pa,pb,ah,aH,↓reduceIte,reduceEqDiff,reduceAdd,reduceLeDiff,reduceCtorEq,f4,o4,ho,fZ];exact bp (dm:=fq) hno fm rfl hj1
 rw[am h58]at hQ;have hj58:=dH (show cI t j1≠0 by rw[h58];decide);simp (maxSteps:=1000000) (disch:=omega)only[↓pa,↓ax,pb,ah,ap,↓reduceIte,reduceEqDiff,reduceAdd,reduceCtorEq,f0,f1,f5,hdd];refine jt (ih _ 0 (j1+1) (by simp only[pb,↓reduceIte]) hj58) (fun v j2 fl hv hj2=>?_) (fun p j2 fl hv hp hj2=>?_);rotate_left
 ·obtain⟨cs,rfl,hcs,hcn,hct⟩:=hp;have hno:kB t (eW t b) i=none:=by rw[<-hQ,hv]
  simp (maxSteps:=1000000) (disch:=omega)only[↓pa,↓au,↓ax,pb,ah,ap,↓reduceIte,reduceEqDiff,reduceAdd,reduceLeDiff,reduceLT,hcs,ed,vm];refine bc (n:=acc.length) (m:=1) hG2' (by rw[V.cbs_len]) (by rw[hcs]) (by omega) (by omega) (by decide) ?_;simp only[↓pa,↓ax,pb,ah,ap,aq,ad,aa,↓reduceIte,reduceEqDiff,reduceAdd,reduceLeDiff,reduceCtorEq,f0,f5];refine(m5 K.tab (t:=t) (i:=j2) (by simp only[pb,ah,↓reduceIte,reduceCtorEq]) hj2 hl).2 ?_;simp only[↓pa,pb,↓reduceIte,reduceCtorEq,f0];refine(m5 K.tab (t:=t) (i:=j2) (by simp only[pb,ah,↓reduceIte,reduceCtorEq]) hj2 hl).2 ?_;simp only[↓pa,pb,↓reduceIte,reduceCtorEq,f0];refine eA K (t:=t) (i:=j2) (b:=true) (by simp only[pb,ah,↓reduceIte,reduceCtorEq]) fun fl=>?_;simp only[↓pa,pb,ah,aH,↓reduceIte,reduceEqDiff,reduceAdd,reduceLeDiff,reduceCtorEq,f4,o4,ho,fZ];exact bp (dm:=fq) hno fm rfl hj2
 have hm2:=qJ _ _ _ _ hv;have hvl:=v.cb_len;rw[hv]at hQ;simp only at hQ;simp (maxSteps:=1000000) (disch:=omega)only[↓pa,↓au,↓ax,pb,ah,ap,↓reduceIte,reduceEqDiff,reduceAdd,reduceLeDiff,reduceLT,hvl,ed,vm];refine jN (n:=acc.length) (m:=1) (e2:=9) (n2:=ns.length+1) (u:=tok') hG2' (by rw[V.cbs_len]) (by rw[hvl]) (by omega) (by omega) (by decide) hG' (gC hap') (fun st2 tok2' ho2 hG2'' hG'' hap''=>?_);rw[V.cbs_snoc];simp only[↓pa,↓ax,pb,ah,ap,aq,ad,aa,↓reduceIte,reduceEqDiff,reduceAdd,reduceLeDiff,reduceCtorEq,f0,f5,ho2];refine(fk K (t:=t) (i:=j2) 125 rfl (by decide) (by simp only[pb,ah,↓reduceIte,reduceCtorEq,ho2]) hj2 hl).2 ?_;refine af (fun h1=>?_) (fun h1=>?_)
 ·rw[am h1]at hQ;have hjl:=dH (show cI t j2≠0 by rw[h1];decide);simp only[↓pa,pb,ah,↓reduceIte,reduceEqDiff,reduceAdd,reduceCtorEq,f5];rw[vw (rg _),<-l7 (x:=x),Fz K.tab (ns++[x]) (by rw[l7];omega)];simp only[↓pa,pb,↓reduceIte];refine af (fun hr=>?_) (fun hr=>?_)
  ·rw[am hr]at hQ;simp only[↓pa,pb,ah,aH,eB,↓reduceIte,reduceEqDiff,reduceAdd,reduceLeDiff,reduceCtorEq,f4,f5,o4,ho,ho2];rw[l7,L7];exact ez hQ.symm rfl rfl hjl
  ·rw[ai hr]at hQ;simp only[↓pa,pb,↓reduceIte,reduceCtorEq,f0];refine eA K (t:=t) (i:=j2+1) (b:=false) (by simp only[pb,↓reduceIte]) fun fl=>?_;simp only[↓pa,pb,ah,aH,↓reduceIte,reduceEqDiff,reduceAdd,reduceLeDiff,reduceCtorEq,f4,o4,ho,ho2,fZ];exact bp (dm:=fq) hQ.symm fm rfl hjl
 rw[ai h1]at hQ;simp only[↓pa,pb,↓reduceIte,reduceCtorEq,f0];refine(fk K (t:=t) (i:=j2) 44 rfl (by decide) (by simp only[pb,ah,↓reduceIte,reduceCtorEq,ho2]) hj2 hl).2 ?_;refine af (fun h2=>?_) (fun h2=>?_)
 ·rw[am h2]at hQ;have hjl:=dH (show cI t j2≠0 by rw[h2];decide);simp only[↓pa,pb,ah,↓reduceIte,reduceEqDiff,reduceCtorEq,f0,f1,f4,f5,o4,ho,ho2];exact⟨t.length- (j2+1),by omega,j2+1,n-1,ns++[x],acc++[v],tok',tok2',rfl,by omega,by rw[dr];omega,by rw[dr,l7];omega,by omega,rfl,by rw[dr,l7],by rw[l7];exact hG'',by rw[dr];exact hG2'',gC hap'',hQ⟩
 ·rw[ai h2]at hQ;simp only[↓pa,pb,↓reduceIte,reduceCtorEq,f0];refine eA K (t:=t) (i:=j2) (b:=false) (by simp only[pb,ah,↓reduceIte,reduceCtorEq,ho2]) fun fl=>?_;simp only[↓pa,pb,ah,aH,↓reduceIte,reduceEqDiff,reduceAdd,reduceLeDiff,reduceCtorEq,f4,o4,ho,ho2,fZ];exact bp (dm:=fq) hQ.symm fm rfl hj2
def yy{t:List UInt8}{i:Nat}{c:UInt8}{l:List UInt8}(h:tk t i (c::l)=true):cI t i=(c.toNat:Int):=by
 have h:(t.drop i).take (l.length+1)=c::l:=of_decide_eq_true h;by_cases hi:i<t.length
 ·rw[bj hi,oj]at h;rw[rC t i hi,(List.cons.inj h).1]
 ·rw[gX (by omega)]at h;cases h
def BY{t:List UInt8}{i:Nat}(h1:¬cI t i=45)(h2:fB (cI t i)=false):gl t i=none:=by
 unfold gl;rw[ai h1,qF fun _=>h2,rM];cases hr:ic []with
 |none=>rfl
 |some n=>exact absurd (m6 hr).1 (yI n)
def JW{t:List UInt8}{o:Option (Nat->Option (V×Nat))}{i:Nat}(h:t.length<=i):om t o i=none:=by
 have h0:=vR h;have ht:∀ c l,(c.toNat:Int)≠0->tk t i (c::l)=false:=fun c l hc=>by
  cases hk:tk t i (c::l)
  ·rfl
  ·exact absurd ((yy hk).symm.trans h0) hc
 rw[zL];simp[h0,fB,ht]
def CV(t:List UInt8)(o:Option (Nat->Option (V×Nat)))(i:Nat):om t o i=
 if tk t i [110,117,108,108]=true then some (.mk 0 0 0 [] [] [],i+4)
 else if tk t i [116,114,117,101]=true then some (.mk 1 1 0 [] [] [],i+4)
 else if tk t i [102,97,108,115,101]=true then some (.mk 1 0 0 [] [] [],i+5)
 else if cI t i=34 then(rO t (i+1)).map fun q=>(.mk 3 0 0 q.1 [] [],q.2)
 else if cI t i=64 then(ie t (i+1)).map fun q=>(.mk 4 q.1 0 [] [] [],q.2)
 else if cI t i=40 then ik t (i+1)
 else if cI t i=110 then eX t 8 (i+1)
 else if cI t i=101 then eX t 9 (i+1)
 else if cI t i=60 then sj t (i+1)
 else if cI t i=91 then AM t o (i+1)
 else if cI t i=123 then DZ t o (i+1)
 else(gl t i).map fun q=>(.mk 2 q.1 0 [] [] [],q.2):=by
 rw[zL];by_cases a1:tk t i [110,117,108,108]=true
 ·have c:cI t i=110:=yy a1;simp[c,fB,a1]
 by_cases a2:tk t i [116,114,117,101]=true
 ·have c:cI t i=116:=yy a2;simp[c,fB,a1,a2]
 by_cases a3:tk t i [102,97,108,115,101]=true
 ·have c:cI t i=102:=yy a3;simp[c,fB,a1,a2,a3]
 by_cases c1:cI t i=34
 ·simp[c1,a1,a2,a3]
 by_cases c2:cI t i=64
 ·simp[c2,a1,a2,a3]
 by_cases c3:cI t i=40
 ·simp[c3,fB,a1,a2,a3]
 by_cases c4:cI t i=110
 ·simp[c4,fB,a1,a2,a3]
 by_cases c5:cI t i=101
 ·simp[c5,fB,a1,a2,a3]
 by_cases c6:cI t i=60
 ·simp[c6,fB,a1,a2,a3]
 by_cases c7:cI t i=91
 ·simp[c7,fB,a1,a2,a3]
 by_cases c8:cI t i=123
 ·simp[c8,fB,a1,a2,a3]
 by_cases c9:cI t i=45
 ·simp[c9,fB,a1,a2,a3]
 by_cases c10:fB (cI t i)=true
 ·simp[c1,c2,c3,c4,c5,c6,c7,c8,c10,a1,a2,a3]
 ·have c10':fB (cI t i)=false:=by simpa using c10
  rw[BY c9 c10'];simp[c1,c2,c3,c4,c5,c6,c7,c8,c9,c10,a1,a2,a3]
def yf(K:bO cf){t:List UInt8}(hl:t.length<=2000000){b:Nat}{o:Option (Nat->Option (V×Nat))}(hV:∀ i,eW t b i=om t o i)
  (hd:(5- (b:Int)<5/\
   (∀ (st:St) (s i:Nat),st.objs s=some [S t,I i,.bool false]->i<=t.length->∃ r c',qw t VB (AM t o i) fq r c'/\∃ fl,az cf 216 [.ptr s 0,I (5- (b:Int))] [] st=some (r,db (cA st s c') fl))/\
   (∀ (st:St) (s i:Nat),st.objs s=some [S t,I i,.bool false]->i<=t.length->∃ r c',qw t VB (DZ t o i) fq r c'/\∃ fl,az cf 217 [.ptr s 0,I (5- (b:Int))] [] st=some (r,db (cA st s c') fl)))\/
   (¬5- (b:Int)<5/\o=none)):ym cf t b:=by
 intro st s i hs hi;revert hd;generalize 5- (b:Int)=dp;intro hd;refine hU K.tab (F:=F200) rfl rfl rfl (lb rfl) (lb rfl) (by simp[bh]) hs (gS t i _) 1 ?_;simp only[F200,↓qU,seval];simp only[↓pa,pb,ah,ak,seval];refine af (fun h0=>?_) (fun h0=>?_)
 ·have hno:eW t b i=none:=(hV i).trans (JW h0);simp only[↓pa,pb,seval,h0];refine eA K (t:=t) (i:=i) (b:=false) (by simp only[pb,seval]) fun fl=>?_;simp only[↓pa,pb,ah,aH,seval,fZ];exact bp (dm:=fq) hno fm rfl (by omega)
 have hp:=(hV i).trans (CV t o i);simp only[↓pa,pb,seval,h0];refine(rN K.tab (t:=t) (i:=i) (x:=[110,117,108,108]) (by simp only[pb,seval]) hi hl (by decide)).2 ?_;refine af (fun a1=>?_) (fun a1=>?_)
 ·rw[am a1]at hp;have:=yx hi a1;simp only[↓pa,↓au,pb,ah,aH,seval];exact ez hp rfl rfl this
 rw[ai a1]at hp;simp only[↓pa,pb,seval];refine(rN K.tab (t:=t) (i:=i) (x:=[116,114,117,101]) (by simp only[pb,seval]) hi hl (by decide)).2 ?_;refine af (fun a2=>?_) (fun a2=>?_)
 ·rw[am a2]at hp;have:=yx hi a2;simp only[↓pa,↓au,pb,ah,aH,seval];exact ez hp rfl rfl this
 rw[ai a2]at hp;simp only[↓pa,pb,seval];refine(rN K.tab (t:=t) (i:=i) (x:=[102,97,108,115,101]) (by simp only[pb,seval]) hi hl (by decide)).2 ?_;refine af (fun a3=>?_) (fun a3=>?_)
 ·rw[am a3]at hp;have:=yx hi a3;simp only[↓pa,↓au,pb,ah,aH,seval];exact ez hp rfl rfl this
 rw[ai a3]at hp;simp only[↓pa,pb,seval];refine(fk K (t:=t) (i:=i) 34 rfl (by decide) (by simp only[pb,seval]) hi hl).2 ?_;refine af (fun c1=>?_) (fun c1=>?_)
 ·have hlt:=dH (show cI t i≠0 by rw[c1];decide);rw[am c1]at hp;simp only[↓pa,pb,seval];refine jt (KR K (t:=t) (i:=i+1) (by simp only[pb,seval]) hlt hl) (fun v j fl hv hj=>?_) (fun p j fl hv hx hj=>?_)
  ·rw[hv]at hp;simp only[↓pa,↓au,pb,ah,aH,seval];exact ez hp rfl rfl hj
  ·obtain⟨l,rfl⟩:=hx;rw[hv]at hp;simp only[↓pa,↓au,pb,ah,aH,seval];exact bp (dm:=fq) hp ⟨_,rfl,rfl,by simp only[aH,ay],by simp only[aH]⟩ rfl hj
 rw[ai c1]at hp;simp only[↓pa,pb,seval];refine(fk K (t:=t) (i:=i) 64 rfl (by decide) (by simp only[pb,seval]) hi hl).2 ?_;refine af (fun c2=>?_) (fun c2=>?_)
 ·have hlt:=dH (show cI t i≠0 by rw[c2];decide);rw[am c2]at hp;simp only[↓pa,pb,seval];refine jt (Oz K (t:=t) (i:=i+1) (by simp only[pb,seval]) hlt hl) (fun v j fl hv hj=>?_) (fun p j fl hv hx hj=>?_)
  ·have hvl:=v.cb_len;simp (maxSteps:=1000000) (disch:=omega)only[↓pa,pb,ah,aH,eB,seval,hvl,ed,gb];exact ez (hp.trans hv) rfl rfl hj
  ·obtain⟨cs,rfl,hcs,hcn,hct⟩:=hx;simp (maxSteps:=1000000) (disch:=omega)only[↓pa,pb,ah,aH,seval,hcs,hcn,hct,ed,gb];exact bp (dm:=fq) (hp.trans hv) ⟨_,rfl,hcs,hcn,hct⟩ rfl hj
 rw[ai c2]at hp;simp only[↓pa,pb,seval];refine(fk K (t:=t) (i:=i) 40 rfl (by decide) (by simp only[pb,seval]) hi hl).2 ?_;refine af (fun c3=>?_) (fun c3=>?_)
 ·have hlt:=dH (show cI t i≠0 by rw[c3];decide);rw[am c3]at hp;simp only[↓pa,pb,seval];refine oF K (t:=t) (i:=i+1) (b:=false) (by simp only[pb,seval]) hlt hl (fun a j fl _ ha hj=>?_) (fun n j fl h hj=>?_);rotate_left
  ·have ha:gl t (i+1)=none:=by rcases h with h|h;cases h;exact h
   have hno:eW t b i=none:=by rw[hp,ik,ha]
   simp only[↓pa,pb,ah,seval];refine oF K (t:=t) (b:=true) (by simp only[pb,seval]<;>rfl) (by assumption) hl (fun _ _ _ h=>by cases h) (fun _ _ _ _ _=>?_)
   simp only[↓pa,pb,ah,seval];refine eA K (t:=t) (by simp only[pb,ah,seval]<;>rfl) fun fl=>?_
   simp only[↓pa,pb,ah,aH,seval,fZ];exact bp (dm:=fq) hno fm rfl (by omega)
  simp only[↓pa,pb,ah,seval];refine(fk K (t:=t) (i:=j) 32 rfl (by decide) (by simp only[pb,ah,seval]) hj hl).2 ?_;refine af (fun h32=>?_) (fun h32=>?_);rotate_left
  ·have hno:eW t b i=none:=by rw[hp,ik,ha];simp only;rw[ai h32]
   simp only[↓pa,pb,ah,seval];refine oF K (t:=t) (b:=true) (by simp only[pb,seval]<;>rfl) (by assumption) hl (fun _ _ _ h=>by cases h) (fun _ _ _ _ _=>?_)
   simp only[↓pa,pb,ah,seval];refine eA K (t:=t) (by simp only[pb,ah,seval]<;>rfl) fun fl=>?_
   simp only[↓pa,pb,ah,aH,seval,fZ];exact bp (dm:=fq) hno fm rfl (by omega)
  have hjl:=dH (show cI t j≠0 by rw[h32];decide);simp only[↓pa,pb,ah,seval];refine oF K (t:=t) (i:=j+1) (b:=false) (by simp only[pb,seval]) hjl hl (fun b' k fl _ hb hk=>?_) (fun n k fl h hk=>?_);rotate_left
  ·have hb:gl t (j+1)=none:=by rcases h with h|h;cases h;exact h
   have hno:eW t b i=none:=by rw[hp,ik,ha];simp only;rw[am h32,hb]
   simp only[↓pa,pb,ah,seval];refine eA K (t:=t) (by simp only[pb,ah,seval]<;>rfl) fun fl=>?_
   simp only[↓pa,pb,ah,aH,seval,fZ];exact bp (dm:=fq) hno fm rfl (by omega)
  have hpp:eW t b i=if cI t k=41/\rI a=false/\rI b'=false then some (.mk 5 a b' [] [] [],k+1)else none:=by rw[hp,ik,ha];simp only;rw[am h32,hb]
  simp only[↓pa,pb,ah,seval];refine(fk K (t:=t) (i:=k) 41 rfl (by decide) (by simp only[pb,ah,seval]) hk hl).2 ?_;refine af (fun h41=>?_) (fun h41=>?_);rotate_left
  ·have hno:eW t b i=none:=by rw[hpp,ai fun h=>h41 h.1]
   simp only[↓pa,pb,seval];refine eA K (t:=t) (by simp only[pb,ah,seval]<;>rfl) fun fl=>?_
   simp only[↓pa,pb,ah,aH,seval,fZ];exact bp (dm:=fq) hno fm rfl (by omega)
  have hkl:=dH (show cI t k≠0 by rw[h41];decide);have hbig:∀ x,rI x=true↔(x< -1000000\/1000000<x):=fun x=>by simp[rI]
  simp only[↓pa,pb,seval];refine af (fun b1=>?_) (fun b1=>?_)
  ·have hno:eW t b i=none:=by rw[hpp,ai fun h=>by rw[(hbig a).2 (.inl b1)]at h;simp at h]
   simp only[↓pa,pb,seval,b1];refine eA K (t:=t) (by simp only[pb,seval]<;>rfl) fun fl=>?_
   simp only[↓pa,pb,ah,aH,seval,fZ];exact bp (dm:=fq) hno fm rfl (by omega)
  simp only[↓pa,pb,seval,b1];refine af (fun b2=>?_) (fun b2=>?_)
  ·have hno:eW t b i=none:=by rw[hpp,ai fun h=>by rw[(hbig a).2 (.inr b2)]at h;simp at h]
   simp only[↓pa,pb,seval,b2];refine eA K (t:=t) (by simp only[pb,seval]<;>rfl) fun fl=>?_
   simp only[↓pa,pb,ah,aH,seval,fZ];exact bp (dm:=fq) hno fm rfl (by omega)
  simp only[↓pa,pb,seval,b2];refine af (fun b3=>?_) (fun b3=>?_)
  ·have hno:eW t b i=none:=by rw[hpp,ai fun h=>by rw[(hbig b').2 (.inl b3)]at h;simp at h]
   simp only[↓pa,pb,seval,b3];refine eA K (t:=t) (by simp only[pb,seval]<;>rfl) fun fl=>?_
   simp only[↓pa,pb,ah,aH,seval,fZ];exact bp (dm:=fq) hno fm rfl (by omega)
  simp only[↓pa,pb,seval,b3];refine af (fun b4=>?_) (fun b4=>?_)
  ·have hno:eW t b i=none:=by rw[hpp,ai fun h=>by rw[(hbig b').2 (.inr b4)]at h;simp at h]
   simp only[↓pa,pb,seval,b4];refine eA K (t:=t) (by simp only[pb,seval]<;>rfl) fun fl=>?_
   simp only[↓pa,pb,ah,aH,seval,fZ];exact bp (dm:=fq) hno fm rfl (by omega)
  ·have ba:rI a=false:=by cases h:rI a;rfl;exact absurd ((hbig a).1 h) (by omega)
   have bb:rI b'=false:=by cases h:rI b';rfl;exact absurd ((hbig b').1 h) (by omega)
   simp only[↓pa,↓au,pb,ah,aH,seval,b4];exact ez (by rw[hpp,am ⟨h41,ba,bb⟩]) rfl rfl hkl
 rw[ai c3]at hp;simp only[↓pa,pb,seval];refine(fk K (t:=t) (i:=i) 110 rfl (by decide) (by simp only[pb,seval]) hi hl).2 ?_;refine af (fun c4=>?_) (fun c4=>?_)
 ·have hlt:=dH (show cI t i≠0 by rw[c4];decide);rw[am c4]at hp;simp only[↓pa,pb,seval];refine jt (Ah K (t:=t) (i:=i+1) (b:=false) (by simp only[pb,seval]) hlt hl) (fun v j fl hv hj=>?_) (fun p j fl hv hx hj=>?_)
  ·have hvl:=v.cb_len;simp (maxSteps:=1000000) (disch:=omega)only[↓pa,pb,ah,aH,eB,seval,hvl,ed,gb];exact ez (hp.trans hv) rfl rfl hj
  ·obtain⟨cs,rfl,hcs,hcn,hct⟩:=hx;simp (maxSteps:=1000000) (disch:=omega)only[↓pa,pb,ah,aH,seval,hcs,hcn,hct,ed,gb];exact bp (dm:=fq) (hp.trans hv) ⟨_,rfl,hcs,hcn,hct⟩ rfl hj
 rw[ai c4]at hp;simp only[↓pa,pb,seval];refine(fk K (t:=t) (i:=i) 101 rfl (by decide) (by simp only[pb,seval]) hi hl).2 ?_;refine af (fun c5=>?_) (fun c5=>?_)
 ·have hlt:=dH (show cI t i≠0 by rw[c5];decide);rw[am c5]at hp;simp only[↓pa,pb,seval];refine jt (Ah K (t:=t) (i:=i+1) (b:=false) (by simp only[pb,seval]) hlt hl) (fun v j fl hv hj=>?_) (fun p j fl hv hx hj=>?_)
  ·have hvl:=v.cb_len;simp (maxSteps:=1000000) (disch:=omega)only[↓pa,pb,ah,aH,eB,seval,hvl,ed,gb];exact ez (hp.trans hv) rfl rfl hj
  ·obtain⟨cs,rfl,hcs,hcn,hct⟩:=hx;simp (maxSteps:=1000000) (disch:=omega)only[↓pa,pb,ah,aH,seval,hcs,hcn,hct,ed,gb];exact bp (dm:=fq) (hp.trans hv) ⟨_,rfl,hcs,hcn,hct⟩ rfl hj
 rw[ai c5]at hp;simp only[↓pa,pb,seval];refine(fk K (t:=t) (i:=i) 60 rfl (by decide) (by simp only[pb,seval]) hi hl).2 ?_;refine af (fun c6=>?_) (fun c6=>?_)
 ·have hlt:=dH (show cI t i≠0 by rw[c6];decide);rw[am c6]at hp;simp only[↓pa,pb,seval];refine jt (Ol K (t:=t) (i:=i+1) (by simp only[pb,seval]) hlt hl) (fun v j fl hv hj=>?_) (fun p j fl hv hx hj=>?_)
  ·have hvl:=v.cb_len;simp (maxSteps:=1000000) (disch:=omega)only[↓pa,pb,ah,aH,eB,seval,hvl,ed,gb];exact ez (hp.trans hv) rfl rfl hj
  ·obtain⟨cs,rfl,hcs,hcn,hct⟩:=hx;simp (maxSteps:=1000000) (disch:=omega)only[↓pa,pb,ah,aH,seval,hcs,hcn,hct,ed,gb];exact bp (dm:=fq) (hp.trans hv) ⟨_,rfl,hcs,hcn,hct⟩ rfl hj
 rw[ai c6]at hp;rcases hd with⟨h5,hL,hM⟩|⟨h5,ho⟩
 ·simp only[↓pa,pb,seval,h5];refine(fk K (t:=t) (i:=i) 91 rfl (by decide) (by simp only[pb,seval]) hi hl).2 ?_;refine af (fun c7=>?_) (fun c7=>?_)
  ·have hlt:=dH (show cI t i≠0 by rw[c7];decide);rw[am c7]at hp;simp only[↓pa,pb,seval];refine jt (hL _ 0 (i+1) (by simp only[pb,seval]) hlt) (fun v j fl hv hj=>?_) (fun p j fl hv hx hj=>?_)
   ·have hvl:=v.cb_len;simp (maxSteps:=1000000) (disch:=omega)only[↓pa,pb,ah,aH,eB,seval,hvl,ed,gb];exact ez (hp.trans hv) rfl rfl hj
   ·obtain⟨cs,rfl,hcs,hcn,hct⟩:=hx;simp (maxSteps:=1000000) (disch:=omega)only[↓pa,pb,ah,aH,seval,hcs,hcn,hct,ed,gb];exact bp (dm:=fq) (hp.trans hv) ⟨_,rfl,hcs,hcn,hct⟩ rfl hj
  rw[ai c7]at hp;simp only[↓pa,pb,seval,h5];refine(fk K (t:=t) (i:=i) 123 rfl (by decide) (by simp only[pb,seval]) hi hl).2 ?_;refine af (fun c8=>?_) (fun c8=>?_)
  ·have hlt:=dH (show cI t i≠0 by rw[c8];decide);rw[am c8]at hp;simp only[↓pa,pb,seval];refine jt (hM _ 0 (i+1) (by simp only[pb,seval]) hlt) (fun v j fl hv hj=>?_) (fun p j fl hv hx hj=>?_)
   ·have hvl:=v.cb_len;simp (maxSteps:=1000000) (disch:=omega)only[↓pa,pb,ah,aH,eB,seval,hvl,ed,gb];exact ez (hp.trans hv) rfl rfl hj
   ·obtain⟨cs,rfl,hcs,hcn,hct⟩:=hx;simp (maxSteps:=1000000) (disch:=omega)only[↓pa,pb,ah,aH,seval,hcs,hcn,hct,ed,gb];exact bp (dm:=fq) (hp.trans hv) ⟨_,rfl,hcs,hcn,hct⟩ rfl hj
  rw[ai c8]at hp;simp only[↓pa,pb,seval];refine oF K (t:=t) (i:=i) (b:=false) (by simp only[pb,seval]) hi hl (fun a j fl _ ha hj=>?_) (fun n j fl h hj=>?_)
  ·rw[ha]at hp;simp only[↓pa,↓au,pb,ah,aH,seval];exact ez hp rfl rfl hj
  ·have ha:gl t i=none:=by rcases h with h|h;cases h;exact h
   rw[ha]at hp;simp only[↓pa,↓au,pb,ah,aH,seval];exact bp (dm:=fq) hp ⟨_,rfl,rfl,by simp only[aH,ay],by simp only[aH]⟩ rfl hj
 ·subst ho;have hp:eW t b i=(gl t i).map fun q=>(.mk 2 q.1 0 [] [] [],q.2):=by
   rw[hp];by_cases c7:cI t i=91
   ·rw[am c7,BY (by omega) (by rw[c7];rfl)];rfl
   rw[ai c7];by_cases c8:cI t i=123
   ·rw[am c8,BY (by omega) (by rw[c8];rfl)];rfl
   rw[ai c8]
  simp only[↓pa,pb,seval,h5];refine oF K (t:=t) (i:=i) (b:=false) (by simp only[pb,seval]) hi hl (fun a j fl _ ha hj=>?_) (fun n j fl h hj=>?_)
  ·rw[ha]at hp;simp only[↓pa,↓au,pb,ah,aH,seval];exact ez hp rfl rfl hj
  ·have ha:gl t i=none:=by rcases h with h|h;cases h;exact h
   rw[ha]at hp;simp only[↓pa,↓au,pb,ah,aH,seval];exact bp (dm:=fq) hp ⟨_,rfl,rfl,by simp only[aH,ay],by simp only[aH]⟩ rfl hj
def Ag(K:bO cf){t:List UInt8}(hl:t.length<=2000000):∀ b,b<=5->ym cf t b
 |0,_=>yf K hl (o:=none) (fun _=>rfl) (.inr ⟨by decide,rfl⟩)
 |b+1,hb=>yf K hl (o:=some (eW t b)) (fun _=>rfl) (.inl ⟨by omega,fun _ _ _ hs hi=>Ot K hs hi hl (by omega) (Ag K hl b (by omega)),fun _ _ _ hs hi=>PC K hs hi hl (by omega) (Ag K hl b (by omega))⟩)
end Go.PM
namespace Go.PM
mutual
def V.wild:V->Bool
 | .mk k _ _ _ _ vs=>decide (8<=k)||V.wilds vs
def V.wilds:List V->Bool
 | []=>false
 |v::vs=>v.wild||V.wilds vs
end
mutual
def V.plain:V->Bool
 | .mk k _ _ _ _ vs=>!(decide (k<0)||decide (8<=k)) && V.plains vs
def V.plains:List V->Bool
 | []=>true
 |v::vs=>(decide (v.kind=0)||v.plain) && V.plains vs
end
mutual
def V.good:V->Bool
 | .mk k _ _ _ _ vs=>decide (0<=k) && (decide (k≠0)||vs.isEmpty) && (decide (vs.length<=2000000) && V.goods vs)
def V.goods:List V->Bool
 | []=>true
 |v::vs=>v.good && V.goods vs
end
mutual
theorem V.plain_wild:∀ v:V,v.good=true->v.plain=!v.wild
 | .mk k n m s ns vs,h=>by
  rw[V.good,aj,aj]at h;obtain⟨⟨h1,h2⟩,h3⟩:=h;rw[aj]at h3;have h3:=h3.2;have h1:=of_decide_eq_true h1;rw[V.plain,V.wild,V.plains_wilds vs h3];have:decide (k<0)=false:=decide_eq_false (by omega);rw[this];cases decide (8<=k)<;>cases V.wilds vs<;>rfl
theorem V.plains_wilds:∀ vs:List V,V.goods vs=true->V.plains vs=!V.wilds vs
 | [],_=>rfl
 |v::vs,h=>by
  rw[V.goods,aj]at h;have ih:=V.plain_wild v h.1;have hz:v.kind=0->v.wild=false:=fun hk=>by
   match v,h.1,hk with
   | .mk k n m s ns ws,hg,hk=>
    have hk:k=0:=hk;subst hk;rw[V.good,aj,aj]at hg;have h2:(decide ((0:Int)≠0)||ws.isEmpty)=true:=hg.1.2;have:ws=[]:=by simpa using h2
    subst this;rfl
  rw[V.plains,V.wilds,V.plains_wilds vs h.2,ih];by_cases hk:v.kind=0
  ·rw[hz hk];simp[hk]
  ·simp[hk]
end
def V.goods_snoc:∀ (vs:List V) (v:V),V.goods vs=true->v.good=true->V.goods (vs++[v])=true
 | [],v,_,h=>by simp[V.goods,h]
 |w::vs,v,h,k=>by
  rw[V.goods,aj]at h;rw[bo,V.goods,h.1,V.goods_snoc vs v h.2 k];rfl
def qn{k n m:Int}{s:List UInt8}(h:0<=k):(V.mk k n m s [] []).good=true:=by
 rw[V.good,decide_eq_true h];simp[V.goods]
def x4{k n m:Int}{s:List UInt8}{ns:List (List UInt8)}{vs:List V}(h:0<k)(hl:vs.length<=2000000)(g:V.goods vs=true):(V.mk k n m s ns vs).good=true:=by
 rw[V.good,decide_eq_true (show 0<=k by omega),decide_eq_true (show k≠0 by omega),decide_eq_true hl,g];rfl
def vl{t:List UInt8}{k:Int}{i j:Nat}{v:V}(hk:0<=k)(h:eX t k i=some (v,j)):v.good=true:=by
 unfold eX at h;simp only[av,cL]at h;obtain⟨_,_,rfl,_⟩:=h;exact qn hk
def zj{t:List UInt8}:∀ (n:Nat) (node:Bool) (i:Nat) (acc:List V) {v:V} {j:Nat},acc.length+n<=2000000->V.goods acc=true->nS t n node i acc=some (v,j)->v.good=true
 |0,_,_,_,_,_,_,_,h=>by cases h
 |n+1,node,i,acc,v,j,hb,g,h=>by
  have ih:=fun node i acc hb g=>zj (t:=t) n node i acc (v:=v) (j:=j) hb g;rw[nS]at h;by_cases hc:cI t i=(if node then 110 else 101)
  ·rw[am hc]at h;cases hv:eX t (if node then 8 else 9) (i+1)with
   |none=>rw[hv]at h;cases h
   |some q=>
    obtain⟨w,j1⟩:=q;rw[hv]at h;simp only at h;have hw:=vl (by split<;>decide) hv
    split at h
    ·cases h;exact x4 (by decide) (by rw[dr];omega) (V.goods_snoc _ _ g hw)
    ·split at h
     ·exact ih _ _ _ (by rw[dr];omega) (V.goods_snoc _ _ g hw) h
     ·cases h
  ·rw[ai hc]at h;cases h
def zo{t:List UInt8}{rd:Nat->Option (V×Nat)}(hr:∀ i v j,rd i=some (v,j)->v.good=true):∀ (n i:Nat) (acc:List V) {v:V} {j:Nat},acc.length+n<=2000000->V.goods acc=true->mQ t rd n i acc=some (v,j)->v.good=true
 |0,_,_,_,_,_,_,h=>by cases h
 |n+1,i,acc,v,j,hb,g,h=>by
  have ih:=fun i acc hb g=>zo (t:=t) hr n i acc (v:=v) (j:=j) hb g;rw[mQ]at h;split at h
  ·rename_i hv;have hw:=hr _ _ _ hv;split at h
   ·cases h;exact x4 (by decide) (by rw[dr];omega) (V.goods_snoc _ _ g hw)
   ·split at h
    ·exact ih _ _ (by rw[dr];omega) (V.goods_snoc _ _ g hw) h
    ·cases h
  ·cases h
def AW{t:List UInt8}{rd:Nat->Option (V×Nat)}(hr:∀ i v j,rd i=some (v,j)->v.good=true):∀ (n i:Nat) (ns:List (List UInt8)) (acc:List V) {v:V} {j:Nat},acc.length+n<=2000000->V.goods acc=true->nz t rd n i ns acc=some (v,j)->v.good=true
 |0,_,_,_,_,_,_,_,h=>by cases h
 |n+1,i,ns,acc,v,j,hb,g,h=>by
  have ih:=fun i ns acc hb g=>AW (t:=t) hr n i ns acc (v:=v) (j:=j) hb g;rw[nz]at h;split at h
  ·split at h
   ·split at h
    ·rename_i hv;have hw:=hr _ _ _ hv;split at h
     ·split at h
      ·cases h;exact x4 (by decide) (by rw[dr];omega) (V.goods_snoc _ _ g hw)
      ·cases h
     ·split at h
      ·exact ih _ _ _ (by rw[dr];omega) (V.goods_snoc _ _ g hw) h
      ·cases h
    ·cases h
   ·cases h
  ·cases h
def AO{t:List UInt8}(hl:t.length<=999999){o:Option (Nat->Option (V×Nat))}(hr:∀ rd,o=some rd->∀ i v j,rd i=some (v,j)->v.good=true){i:Nat}{v:V}{j:Nat}(h:om t o i=some (v,j)):v.good=true:=by
 rw[CV]at h;have hm:∀ {α:Type} {q:Option (α×Nat)} {f:α->V},(∀ a,(f a).good=true)->(q.map fun p=>(f p.1,p.2))=some (v,j)->v.good=true:=fun hf h=>by
  simp only[av,cL]at h;obtain⟨_,_,rfl,_⟩:=h;exact hf _
 by_cases a1:tk t i [110,117,108,108]=true
 ·rw[am a1]at h;cases h;rfl
 rw[ai a1]at h;by_cases a2:tk t i [116,114,117,101]=true
 ·rw[am a2]at h;cases h;rfl
 rw[ai a2]at h;by_cases a3:tk t i [102,97,108,115,101]=true
 ·rw[am a3]at h;cases h;rfl
 rw[ai a3]at h;by_cases c1:cI t i=34
 ·rw[am c1]at h;exact hm (f:=fun a=>V.mk 3 0 0 a [] []) (fun a=>qn (by decide)) h
 rw[ai c1]at h;by_cases c2:cI t i=64
 ·rw[am c2]at h;exact hm (f:=fun a=>V.mk 4 a 0 [] [] []) (fun a=>qn (by decide)) h
 rw[ai c2]at h;by_cases c3:cI t i=40
 ·rw[am c3]at h;unfold ik at h;split at h
  ·split at h
   ·split at h
    ·split at h
     ·cases h;exact qn (by decide)
     ·cases h
    ·cases h
   ·cases h
  ·cases h
 rw[ai c3]at h;by_cases c4:cI t i=110
 ·rw[am c4]at h;exact vl (by decide) h
 rw[ai c4]at h;by_cases c5:cI t i=101
 ·rw[am c5]at h;exact vl (by decide) h
 rw[ai c5]at h;by_cases c6:cI t i=60
 ·rw[am c6]at h;exact zj _ _ _ _ (by simp only[a6];omega) rfl h
 rw[ai c6]at h;by_cases c7:cI t i=91
 ·rw[am c7]at h;cases o with
  |none=>cases h
  |some rd=>
   change mF t rd (i+1)=some (v,j)at h;unfold mF at h;split at h
   ·cases h;exact qn (by decide)
   ·exact zo (hr _ rfl) _ _ _ (by simp only[a6];omega) rfl h
 rw[ai c7]at h;by_cases c8:cI t i=123
 ·rw[am c8]at h;cases o with
  |none=>cases h
  |some rd=>
   change kB t rd (i+1)=some (v,j)at h;unfold kB at h;split at h
   ·cases h;exact qn (by decide)
   ·exact AW (hr _ rfl) _ _ _ _ (by simp only[a6];omega) rfl h
 rw[ai c8]at h;exact hm (f:=fun a=>V.mk 2 a 0 [] [] []) (fun a=>qn (by decide)) h
def CQ{t:List UInt8}(hl:t.length<=999999):∀ (b i:Nat) (v:V) (j:Nat),eW t b i=some (v,j)->v.good=true
 |0,i,v,j,h=>AO hl (fun rd h=>by cases h) (show om t none i=some (v,j)from h)
 |b+1,i,v,j,h=>AO hl (fun rd h=>by cases h;exact CQ hl b) (show om t (some (eW t b)) i=some (v,j)from h)
def AK{t:List UInt8}{v:V}(h:fV t=some v):v.good=true:=by
 unfold fV at h;split at h
 ·rename_i hlen;split at h
  ·rename_i hv;split at h
   ·cases h;exact CQ (by omega) _ _ _ _ hv
   ·cases h
  ·cases h
 ·cases h
def kX(t:List UInt8):Bool:=match fV t with
 |some v=>decide (v.kind≠0) && !v.wild
 |none=>false
end Go.PM
namespace Go.PM
open Go.Lib
variable {cf:aJ} {st:St} {mk:PV->St->Fr×St} {A:Fr×St->Prop} {s:Nat}
def Iv{as bs:List PV}{off sz:Nat}{ag:Bool}(h:off+sz<=as.length):bL (as++bs) off sz ag=bL as off sz ag:=by
 unfold bL;rw[ae,am (by omega),am h];cases ag with
 |true=>
  simp only[if_true];rw[mD (by omega),mC (by rw[bl];omega)]
 |false=>
  simp only[cz,if_false];split
  ·rw[bW (by omega)]
  ·rfl
def zk{as bs:List PV}{off sz:Nat}{ag:Bool}:bL (as++bs) (as.length+off) sz ag=bL bs off sz ag:=by
 unfold bL;have:as.length+off+sz<=(as++bs).length↔off+sz<=bs.length:=by rw[ae];omega
 simp only[this];split
 ·split
  ·rw[List.drop_append,gX (by omega),aU,show as.length+off-as.length=off by omega]
  ·split
   ·rw[cM (by omega),show as.length+off-as.length=off by omega]
   ·rfl
 ·rfl
def dY{α:Type}(enc:α->List PV)(m:Nat)(henc:∀ a,(enc a).length=m)(off sz:Nat)(ag:Bool)(h:off+sz<=m):∀ (l:List α) (j:Nat) (hj:j<l.length),bL (l.flatMap enc) (j*m+off) sz ag=bL (enc l[j]) off sz ag
 |a::l,0,_=>by
  rw[be,Nat.zero_mul,ar,Iv (by rw[henc];exact h)];rfl
 |a::l,j+1,hj=>by
  have hj':j<l.length:=by simpa using hj
  rw[be,show(j+1) *m+off=(enc a).length+(j*m+off) by rw[henc,fM];omega,zk,dY enc m henc off sz ag h l j hj'];rfl
def Mw(vs:List V):V.cas vs=vs.flatMap V.ca:=by
 induction vs with
 |nil=>rfl
 |cons v vs ih=>rw[V.cas,ih];rfl
def Ft(vs:List V):V.cbs vs=vs.flatMap V.cb:=by
 induction vs with
 |nil=>rfl
 |cons v vs ih=>rw[V.cbs,ih];rfl
def J0{vs:List V}{j:Nat}(h:j<vs.length):bL (V.cas vs) (j*6) 6 true=some (VA vs[j]):=by
 have:=dY V.ca 6 V.ca_len 0 6 true (by decide) vs j h;rw[Mw,show j*6=j*6+0 from rfl,this];exact uG (V.ca_len _)
def JZ{vs:List V}{j:Nat}(h:j<vs.length):bL (V.cbs vs) (j*6) 6 true=some (VB vs[j]):=by
 have:=dY V.cb 6 V.cb_len 0 6 true (by decide) vs j h;rw[Ft,show j*6=j*6+0 from rfl,this];exact uG (V.cb_len _)
def Iw{vs:List V}{j:Nat}(h:j<vs.length):bL (V.cbs vs) (j*6) 1 false=some (I vs[j].kind):=by
 have:=dY V.cb 6 V.cb_len 0 1 false (by decide) vs j h;rw[Ft,show j*6=j*6+0 from rfl,this];exact IE
def ve(t:List UInt8)(r:PV):Prop:=match fV t with
 |some v=>r= .tup [VA v,.bool true]
 |none=>∃ p,fq p/\r= .tup [p,.bool false]
def Ji{t:List UInt8}{r:PV}{v:V}(h:fV t=some v)(k:r= .tup [VA v,.bool true]):ve t r:=by
 unfold ve;rw[h];exact k
def w4{t:List UInt8}{r p:PV}(h:fV t=none)(k:fq p)(e:r= .tup [p,.bool false]):ve t r:=by
 unfold ve;rw[h];exact⟨p,k,e⟩
def FA(K:bO cf){t:List UInt8}:∃ r,ve t r/\∃ fl,az cf 188 [S t] [] st=some (r,db st fl):=by
 refine lu K.tab (F:=F188) rfl rfl rfl (lb rfl) (by simp[bR]) 1 ?_;simp only[F188,↓qU,seval];simp only[↓pa,pb,seval];refine af (fun h=>?_) (fun h=>?_)
 ·simp only[↓pa,↓au,pb,ah,aH,seval,h];exact w4 (by rw[fV,ai (by omega)]) ⟨_,rfl,rfl,by simp only[aH,ay],by simp only[aH]⟩ rfl
 have hr:fV t=match eW t 5 0 with
  |some (v,j)=>if j=t.length then some v else none
  |none=>none:=by rw[fV,am (by omega)];rfl
 have hv5:=Cj K (t:=t) (by omega) 5 (aP 5);have e5:5- ((5:Nat):Int)=0:=rfl;unfold BD at hv5;rw[e5]at hv5;simp only[↓pa,↓au,pb,ah,seval,h];refine iF (hv5 _ 13 0 (by simp only[pb,seval]<;>rfl) (aW _)) (fun v j fl hv hj=>?_) (fun p j fl hv hx hj=>?_)
 ·rw[hv]at hr;have hvl:=v.ca_len;by_cases hjl:j=t.length
  ·have hr:fV t=some v:=by rw[hr];exact am hjl
   simp (maxSteps:=1000000) (disch:=omega)only[↓pa,↓ax,pb,ah,ap,aq,aH,eB,ad,aa,seval,hvl,ed,gb,hjl];exact Ji hr rfl
  ·have hr:fV t=none:=by rw[hr];exact ai hjl
   simp (maxSteps:=1000000) (disch:=omega)only[↓pa,↓ax,pb,ah,ap,aq,aH,ak,eB,ad,aa,seval,hvl,ed,gb,hjl];exact w4 hr ⟨_,rfl,hvl,v.ca_plain.1,v.ca_plain.2.1⟩ rfl
 ·obtain⟨cs,rfl,hcs,hcn,hct⟩:=hx;rw[hv]at hr;simp (maxSteps:=1000000) (disch:=omega)only[↓pa,↓ax,pb,ah,ap,aq,aH,ad,aa,seval,hcs,hcn,hct,ed,gb];exact w4 hr ⟨_,rfl,hcs,hcn,hct⟩ rfl
def vd(t:List UInt8)(r:PV):Prop:=match fV t with
 |some v=>r=VB v
 |none=>r=fZ
def Jh{t:List UInt8}{r:PV}{v:V}(h:fV t=some v)(k:r=VB v):vd t r:=by
 unfold vd;rw[h];exact k
def wZ{t:List UInt8}{r:PV}(h:fV t=none)(e:r=fZ):vd t r:=by
 unfold vd;rw[h];exact e
def Cn(K:bO cf){t:List UInt8}:∃ r,vd t r/\∃ fl,az cf 186 [S t] [] st=some (r,db st fl):=by
 refine lu K.tab (F:=F186) rfl rfl rfl (lb rfl) (by simp[bR]) 1 ?_;simp only[F186,↓qU,seval];simp only[↓pa,pb,seval];refine af (fun h=>?_) (fun h=>?_)
 ·simp only[↓pa,↓au,pb,ah,aH,seval,h];exact wZ (by rw[fV,ai (by omega)]) rfl
 have hr:fV t=match eW t 5 0 with
  |some (v,j)=>if j=t.length then some v else none
  |none=>none:=by rw[fV,am (by omega)];rfl
 have hv5:=Ag K (t:=t) (by omega) 5 (aP 5);have e5:5- ((5:Nat):Int)=0:=rfl;unfold ym at hv5;rw[e5]at hv5;simp only[↓pa,↓au,pb,ah,seval,h];refine jt (hv5 _ 11 0 (by simp only[pb,seval]<;>rfl) (aW _)) (fun v j fl hv hj=>?_) (fun p j fl hv hx hj=>?_)
 ·rw[hv]at hr;have hvl:=v.cb_len;by_cases hjl:j=t.length
  ·have hr:fV t=some v:=by rw[hr];exact am hjl
   simp (maxSteps:=1000000) (disch:=omega)only[↓pa,pb,ah,aH,eB,seval,al,hvl,ed,gb,hjl];exact Jh hr rfl
  ·have hr:fV t=none:=by rw[hr];exact ai hjl
   simp (maxSteps:=1000000) (disch:=omega)only[↓pa,↓au,pb,ah,aH,ak,seval,al,hvl,ed,hjl];exact wZ hr rfl
 ·obtain⟨cs,rfl,hcs,hcn,hct⟩:=hx;rw[hv]at hr;simp (maxSteps:=1000000) (disch:=omega)only[↓pa,↓au,pb,ah,aH,seval,hcs,ed];exact wZ hr rfl
def JT(v:V):dq (VA v):=gd v.ca_plain
def CT(v:V):dq (VB v):=gd v.cb_plain
def Ia{vs:List V}{j:Nat}(h:j<vs.length)(k:vs[j].wild=true):V.wilds vs=true:=by
 induction vs generalizing j with
 |nil=>simp at h
 |cons v vs ih=>
  rw[V.wilds];cases j with
  |zero=>have k:v.wild=true:=k;rw[k];rfl
  |succ j=>rw[ih (by simpa using h) (by simpa using k)];simp
def Ib{vs:List V}(h:∀ j,(hj:j<vs.length)->vs[j].wild=false):V.wilds vs=false:=by
 induction vs with
 |nil=>rfl
 |cons v vs ih=>
  have h0:v.wild=false:=h 0 (by simp);rw[V.wilds,h0,ih fun j hj=>h (j+1) (by simpa using hj)];rfl
def JS{vs:List V}{j:Nat}(h:j<vs.length)(k:(decide (vs[j].kind=0)||vs[j].plain)=false):V.plains vs=false:=by
 induction vs generalizing j with
 |nil=>simp at h
 |cons v vs ih=>
  rw[V.plains];cases j with
  |zero=>have k:(decide (v.kind=0)||v.plain)=false:=k;rw[k];rfl
  |succ j=>rw[ih (by simpa using h) (by simpa using k)];simp
def Is{vs:List V}(h:∀ j,(hj:j<vs.length)->(decide (vs[j].kind=0)||vs[j].plain)=true):V.plains vs=true:=by
 induction vs with
 |nil=>rfl
 |cons v vs ih=>
  have h0:(decide (v.kind=0)||v.plain)=true:=h 0 (by simp);rw[V.plains,h0,ih fun j hj=>h (j+1) (by simpa using hj)];rfl
mutual
theorem KL(K:bO cf):∀ (v:V),v.good=true->∀ st,az cf 192 [VA v] [] st=some (.bool v.wild,st)
 | .mk k n m s ns vs,hg=>by
  intro st;rw[V.good,aj,aj,aj]at hg;have hlen:=of_decide_eq_true hg.2.1;have ih:=HL K vs hg.2.2;have hvl:(V.mk k n m s ns vs).ca.length=6:=rfl;refine df K.tab (F:=F192) (t:=2) rfl rfl rfl (lb rfl) (by simp[JT]) (ct _) (vs.length+1) ?_;simp only[F192,↓qU,seval];rw[V.wild];have hca:(V.mk k n m s ns vs).ca=[I k,I n,I m,S s,.list ns.length (ns.map S) .no,.list vs.length (V.cas vs) .no]:=by rw[V.ca]
  have hcl:=V.cas_len vs;simp only[↓pa,pb,ah,seval,VA,hca];refine af (fun h8=>?_) (fun h8=>?_)
  ·simp only[↓pa,pb,seval,h8]
  simp only[↓pa,pb,ah,seval,h8];refine a7 (fun k' fr st=>∃ j:Nat,k'=vs.length-j/\j<=vs.length/\fr 9= .list vs.length (V.cas vs) .no/\fr 10=I vs.length/\fr 11=I j/\∀ q,q<j->(hq:q<vs.length)->vs[q].wild=false) vs.length (by omega) ⟨0,rfl,by omega,by simp only[↓pa,seval],by simp only[↓pa,seval],by simp only[↓pa,seval]<;>rfl,fun q hq=>by omega⟩ ?_
  rintro k' fr st ⟨j,rfl,hj,f9,f10,f11,hall⟩;simp only[↓pa,pb,ak,seval,f10,f11];refine af (fun h1=>?_) (fun h1=>?_)
  ·have hw:=ih vs[j] (cp h1);have hvj:=vs[j].ca_len;simp (maxSteps:=1000000) (disch:=omega)only[↓pa,pb,ah,seval,f9,f11,h1,J0 h1,hvj,ed,gb,hw];refine af (fun h2=>?_) (fun h2=>?_)
   ·simp only[↓pa,pb,seval,h2];rw[Ia h1 h2]
   ·simp (maxSteps:=1000000) (disch:=omega)only[↓pa,pb,ak,seval,f9,f10,f11,h2];refine⟨vs.length- (j+1),by omega,j+1,rfl,by omega,rfl,fun q hq hq'=>?_⟩;by_cases e:q=j
    ·subst e;simpa using h2
    ·simpa using hall q (by omega) hq'
  ·simp only[↓pa,pb,seval,h1];rw[Ib fun q hq=>hall q (by omega) hq]
theorem HL(K:bO cf):∀ (vs:List V),V.goods vs=true->∀ w∈vs,∀ st,az cf 192 [VA w] [] st=some (.bool w.wild,st)
 | [],_,w,hw=>by cases hw
 |v::vs,hg,w,hw=>by
  rw[V.goods,aj]at hg;intro st;rcases aZ.1 hw with hw|hw
  ·rw[hw];exact KL K v hg.1 st
  ·exact HL K vs hg.2 w hw st
end
mutual
theorem HP(K:bO cf):∀ (v:V),v.good=true->∀ st,az cf 191 [VB v] [] st=some (.bool v.plain,st)
 | .mk k n m s ns vs,hg=>by
  intro st;rw[V.good,aj,aj,aj]at hg;have hlen:=of_decide_eq_true hg.2.1;have ih:=FC K vs hg.2.2;have hvl:(V.mk k n m s ns vs).cb.length=6:=rfl;refine df K.tab (F:=F191) (t:=2) rfl rfl rfl (lb rfl) (by simp[CT]) (ct _) (vs.length+1) ?_;simp only[F191,↓qU,seval];rw[V.plain];have hcb:(V.mk k n m s ns vs).cb=[I k,I n,I m,S s,.list vs.length (V.cbs vs) .no,.list ns.length (ns.map S) .no]:=by rw[V.cb]
  have hcl:=V.cbs_len vs;simp only[↓pa,pb,ah,seval,VB,hcb];refine af (fun h0=>?_) (fun h0=>?_)
  ·simp only[↓pa,pb,seval,h0]
  simp only[↓pa,pb,ah,seval,h0];refine af (fun h8=>?_) (fun h8=>?_)
  ·simp only[↓pa,pb,seval,h8]
  simp only[↓pa,pb,seval,h8];refine a7 (fun k' fr st=>∃ j:Nat,k'=vs.length-j/\j<=vs.length/\fr 1= .ptr 1 0/\st.objs 1=some [I k,I n,I m,S s,.list vs.length (V.cbs vs) .no,.list ns.length (ns.map S) .no]/\fr 3=I j/\∀ q,q<j->(hq:q<vs.length)->(decide (vs[q].kind=0)||vs[q].plain)=true) vs.length (by omega) ⟨0,rfl,by omega,by simp only[↓pa,seval],by simp only[pb,seval],by simp only[↓pa,seval]<;>rfl,fun q hq=>by omega⟩ ?_
  rintro k' fr st ⟨j,rfl,hj,f1,o1,f3,hall⟩;simp only[↓pa,pb,ah,ak,seval,f1,o1,f3];refine af (fun h1=>?_) (fun h1=>?_)
  ·have hw:=ih vs[j] (cp h1);have hvj:=vs[j].cb_len;have next:(decide (vs[j].kind=0)||vs[j].plain)=true->∀ q,q<j+1->(hq:q<vs.length)->(decide (vs[q].kind=0)||vs[q].plain)=true:=fun h q hq hq'=>by
    by_cases e:q=j
    ·subst e;exact h
    ·exact hall q (by omega) hq'
   simp (maxSteps:=1000000) (disch:=omega)only[↓pa,pb,ah,seval,al,f1,o1,f3,h1,Iw h1,aI];refine af (fun h2=>?_) (fun h2=>?_)
   ·simp (maxSteps:=1000000) (disch:=omega)only[↓pa,pb,ak,seval,f1,o1,f3,h2];exact⟨vs.length- (j+1),by omega,j+1,rfl,by omega,rfl,by simpa using next (by rw[h2];rfl)⟩
   ·simp (maxSteps:=1000000) (disch:=omega)only[↓pa,pb,ah,seval,f1,o1,f3,h2,JZ h1,hw];refine af (fun h3=>?_) (fun h3=>?_)
    ·simp (maxSteps:=1000000) (disch:=omega)only[↓pa,pb,ak,seval,f1,o1,f3,h3];exact⟨vs.length- (j+1),by omega,j+1,rfl,by omega,rfl,by simpa using next (by rw[h3];simp)⟩
    ·simp only[↓pa,pb,seval,h3];rw[JS h1 (by simp[h2];simpa using h3)]
  ·simp only[↓pa,pb,seval,h1];rw[Is fun q hq=>hall q (by omega) hq]
theorem FC(K:bO cf):∀ (vs:List V),V.goods vs=true->∀ w∈vs,∀ st,az cf 191 [VB w] [] st=some (.bool w.plain,st)
 | [],_,w,hw=>by cases hw
 |v::vs,hg,w,hw=>by
  rw[V.goods,aj]at hg;intro st;rcases aZ.1 hw with hw|hw
  ·rw[hw];exact HP K v hg.1 st
  ·exact FC K vs hg.2 w hw st
end
def rB(K:bO cf)(t:List UInt8):az cf 171 [S t] [] st=some (.bool (kX t),st):=by
 refine df K.tab (F:=F171) (t:=2) rfl rfl rfl (lb rfl) (by simp[bR]) (ct _) 1 ?_;simp only[F171,↓qU,seval];simp only[↓pa,pb,seval];refine yr (FA K) (fun r fl hr=>?_);unfold ve at hr;cases h:fV t with
 |some v=>
  rw[h]at hr;have hr:r= .tup [VA v,.bool true]:=hr;subst hr;have hvl:=v.ca_len;have hw:=KL K v (AK h);have hf:kX t=(decide (v.kind≠0) && !v.wild):=by rw[kX,h]
  simp (maxSteps:=1000000) (disch:=omega)only[↓pa,pb,ah,ad,aa,seval,al,hvl,ed,IF];by_cases hk:v.kind=0
  ·simp only[↓pa,pb,seval,al,hk,hf]
  ·simp (maxSteps:=1000000) (disch:=omega)only[↓pa,pb,ah,seval,al,hvl,gb,hk,hf,hw]
 |none=>
  rw[h]at hr;obtain⟨p,⟨cs,rfl,hcs,hcn,hct⟩,rfl⟩:=hr;have hf:kX t=false:=by rw[kX,h]
  simp (maxSteps:=1000000) (disch:=omega)only[↓pa,pb,ah,ad,aa,seval,hcs,ed,hf]
def GE(K:bO cf):az cf 191 [fZ] [] st=some (.bool false,st):=by
 have hd:fZ=VB (.mk (-1) 0 0 [] [] []):=by rw[VB,V.cb];rfl
 refine df K.tab (F:=F191) (t:=2) rfl rfl rfl (lb rfl) (by rw[hd];simp[CT]) (ct _) 1 ?_;simp only[F191,↓qU,seval];simp only[↓pa,pb,ah,seval,fZ]
def qa(K:bO cf)(t:List UInt8):az cf 167 [S t] [] st=some (.bool (kX t),st):=by
 refine df K.tab (F:=F167) (t:=2) rfl rfl rfl (lb rfl) (by simp[bR]) (ct _) 1 ?_;simp only[F167,↓qU,seval];simp only[↓pa,pb,seval];refine yr (Cn K) (fun r fl hr=>?_);unfold vd at hr;cases h:fV t with
 |some v=>
  rw[h]at hr;have hr:r=VB v:=hr;subst hr;have hvl:=v.cb_len;have hg:=AK h;have hw:=HP K v hg;have hf:kX t=(decide (v.kind≠0) && v.plain):=by rw[kX,h,V.plain_wild v hg]
  by_cases hk:v.kind=0
  ·simp (maxSteps:=1000000) (disch:=omega)only[↓pa,pb,ah,seval,al,hvl,ed,IE,hk,hf]
  ·simp (maxSteps:=1000000) (disch:=omega)only[↓pa,pb,ah,seval,al,hvl,ed,gb,IE,hk,hf,hw]
 |none=>
  rw[h]at hr;have hr:r=fZ:=hr;subst hr;have hf:kX t=false:=by rw[kX,h]
  simp only[↓pa,pb,ah,seval,al,fZ];rw[<-fZ];simp only[↓pa,pb,seval,GE K,hf]
abbrev Fd:=List UInt8×List UInt8
def fc(f:Fd):List PV:=[S f.1,S f.2]
@[reducible] def FX (l:List Fd):PV:= .list l.length (l.flatMap fc) .no
def ru(f:Fd):(fc f).length=2:=rfl
def eH(l:List Fd):(l.flatMap fc).length=l.length*2:=by
 induction l with
 |nil=>rfl
 |cons f l ih=>rw[be,ae,ih,ru,aA];omega
def Ml(f:Fd):cZ (fc f):=bQ (bR _) (bQ (bR _) eC)
def gK(l:List Fd):cZ (l.flatMap fc):=by
 induction l with
 |nil=>exact eC
 |cons f l ih=>rw[be];exact kW (Ml f) ih
def eL(l:List Fd):dq (FX l):=gk (gK l)
def mn{l:List Fd}{j:Nat}(h:j<l.length):bL (l.flatMap fc) (j*2) 2 true=some (.agg [S l[j].1,S l[j].2]):=by
 have:=dY fc 2 ru 0 2 true (by decide) l j h;rw[show j*2=j*2+0 from rfl,this];rfl
def km{l:List Fd}{j:Nat}(h:j<l.length):bL (l.flatMap fc) (j*2) 1 false=some (S l[j].1):=by
 have:=dY fc 2 ru 0 1 false (by decide) l j h;rw[show j*2=j*2+0 from rfl,this];rfl
def zM{l:List Fd}{j:Nat}(h:j<l.length):bL (l.flatMap fc) (j*2+1) 1 false=some (S l[j].2):=by
 have:=dY fc 2 ru 1 1 false (by decide) l j h;rw[this];rfl
def zw(l:List Fd)(i:Nat):Fd:=l.getD i ([],[])
def ue{l:List Fd}{i:Nat}(h:i<l.length):zw l i=l[i]:=by simp[zw,h]
def pW(l:List Fd)(i:Nat):Bool:=decide (i=0)||d4 (zw l (i-1)).1 (zw l i).1
def ew(l:List Fd)(i:Nat):Bool:=dW (zw l i).1 && (pW l i && kX (zw l i).2)
def iE(l:List Fd):Bool:=decide ((l.length:Int)<=20) && mV l.length (ew l)
def FH(K:bO cf)(l:List Fd):az cf 126 [FX l] [] st=some (.bool (iE l),st):=by
 refine df K.tab (F:=F126) (t:=2) rfl rfl rfl (lb rfl) (by simp[eL]) (ct _) (l.length+1) ?_;have hm:=eH l;simp only[F126,↓qU,seval];simp only[↓pa,pb,seval];refine af (fun h1=>?_) (fun h1=>?_)
 ·simp only[↓pa,pb,seval,h1];have:¬ ((l.length:Int)<=20):=by omega
  simp only[iE,this,decide_false,dO]
 have h1':(l.length:Int)<=20:=by omega
 simp only[↓pa,pb,seval,h1];refine a7 (fun k fr st=>∃ i:Nat,k=l.length-i/\i<=l.length/\fr 0=FX l/\fr 8=FX l/\fr 9=I l.length/\fr 10=I i/\∀ j,j<i->ew l j=true) l.length (by omega) ⟨0,by simp,by omega,by simp only[↓pa,seval],by simp only[↓pa,seval],by simp only[↓pa,seval],by simp only[↓pa,seval]<;>rfl,fun j hj=>by omega⟩ ?_
 rintro k fr st ⟨i,rfl,hi,f0,f8,f9,f10,hall⟩;simp only[↓pa,pb,ak,seval,f9,f10];refine af (fun h4=>?_) (fun h4=>?_);rotate_left
 ·simp only[↓pa,pb,seval,h4];have ha:mV l.length (ew l)=true:=mf fun j hj=>hall j (by omega);simp only[iE,decide_eq_true h1',ha,ay]
 have hlt:i<l.length:=h4;have bad:ew l i=false->iE l=false:=fun h=>by rw[iE,gN hlt h,Bool.and_false]
 have ea:zw l i=l[i]:=ue hlt;simp (maxSteps:=1000000) (disch:=omega)only[↓pa,pb,ah,seval,f8,f10,mn hlt,rA K.tab];refine af (fun h5=>?_) (fun h5=>?_);rotate_left
 ·simp only[↓pa,pb,seval,h5];rw[bad (by rw[ew,ea];simp[h5])]
 simp only[↓pa,pb,seval,h5];refine af (fun h6=>?_) (fun h6=>?_)
 ·have h6':0<i:=by omega
  have hp:((i:Int) -1).toNat=i-1:=by omega
  have eb:zw l (i-1)=l[i-1]:=ue (by omega);have er:pW l i=d4 l[i-1].1 l[i].1:=by rw[pW,ea,eb,decide_eq_false (by omega),kr]
  simp (maxSteps:=1000000) (disch:=omega)only[↓pa,pb,ah,seval,f0,h6,hp,aI,km (show i-1<l.length by omega)];refine af (fun h7=>?_) (fun h7=>?_);rotate_left
  ·simp only[↓pa,pb,seval,h7];rw[bad (by rw[ew,er];simp[h7])]
  simp only[↓pa,pb,ah,seval,h7,rB K];refine af (fun h8=>?_) (fun h8=>?_)
  ·simp (maxSteps:=1000000) (disch:=omega)only[↓pa,pb,ak,seval,f0,f8,f9,f10,h8];have ok:ew l i=true:=by rw[ew,er,ea];simp[h5,h8];try exact h7
   exact⟨l.length- (i+1),by omega,i+1,rfl,by omega,rfl,gM hall ok⟩
  ·simp only[↓pa,pb,seval,h8];rw[bad (by rw[ew,er,ea];simp[h8])]
 ·have er:pW l i=true:=by rw[pW,decide_eq_true (by omega)];rfl
  simp only[↓pa,pb,ah,seval,h6,rB K];refine af (fun h8=>?_) (fun h8=>?_)
  ·simp (maxSteps:=1000000) (disch:=omega)only[↓pa,pb,ak,seval,f0,f8,f9,f10,h8];have ok:ew l i=true:=by rw[ew,er,ea];simp[h5,h8];try exact h7
   exact⟨l.length- (i+1),by omega,i+1,rfl,by omega,rfl,gM hall ok⟩
  ·simp only[↓pa,pb,seval,h8];rw[bad (by rw[ew,er,ea];simp[h8])]
def DB(K:bO cf)(l:List Fd):az cf 120 [FX l] [] st=some (.bool (iE l),st):=by
 refine df K.tab (F:=F120) (t:=2) rfl rfl rfl (lb rfl) (by simp[eL]) (ct _) (l.length+1) ?_;have hm:=eH l;simp only[F120,↓qU,seval];simp only[↓pa,pb,seval];refine af (fun h1=>?_) (fun h1=>?_)
 ·simp only[↓pa,pb,seval,h1];have:¬ ((l.length:Int)<=20):=by omega
  simp only[iE,this,decide_false,dO]
 have h1':(l.length:Int)<=20:=by omega
 simp only[↓pa,pb,seval,h1];refine a7 (fun k fr st=>∃ i:Nat,k=l.length-i/\i<=l.length/\fr 0=FX l/\fr 3=I i/\∀ j,j<i->ew l j=true) l.length (by omega) ⟨0,by simp,by omega,by simp only[↓pa,seval],by simp only[↓pa,seval]<;>rfl,fun j hj=>by omega⟩ ?_
 rintro k fr st ⟨i,rfl,hi,f0,f3,hall⟩;simp only[↓pa,pb,ak,seval,f0,f3];refine af (fun h4=>?_) (fun h4=>?_);rotate_left
 ·simp only[↓pa,pb,seval,h4];have ha:mV l.length (ew l)=true:=mf fun j hj=>hall j (by omega);simp only[iE,decide_eq_true h1',ha,ay]
 have hlt:i<l.length:=h4;have bad:ew l i=false->iE l=false:=fun h=>by rw[iE,gN hlt h,Bool.and_false]
 have ea:zw l i=l[i]:=ue hlt;simp (maxSteps:=1000000) (disch:=omega)only[↓pa,pb,seval,f0,f3,aI,km hlt,pB K.tab];refine af (fun h5=>?_) (fun h5=>?_);rotate_left
 ·simp only[↓pa,pb,seval,h5];rw[bad (by rw[ew,ea];simp[h5])]
 simp only[↓pa,pb,seval,f3,h5];refine af (fun h6=>?_) (fun h6=>?_)
 ·have h6':0<i:=by omega
  have hp:((i:Int) -1).toNat=i-1:=by omega
  have eb:zw l (i-1)=l[i-1]:=ue (by omega);have er:pW l i=d4 l[i-1].1 l[i].1:=by rw[pW,ea,eb,decide_eq_false (by omega),kr]
  simp (maxSteps:=1000000) (disch:=omega)only[↓pa,pb,seval,f0,f3,h6,hp,aI,km (show i-1<l.length by omega),km hlt];refine af (fun h7=>?_) (fun h7=>?_);rotate_left
  ·simp only[↓pa,pb,seval,h7];rw[bad (by rw[ew,er];simp[h7])]
  simp (maxSteps:=1000000) (disch:=omega)only[↓pa,pb,seval,f0,f3,h7,zM hlt,qa K];refine af (fun h8=>?_) (fun h8=>?_)
  ·simp (maxSteps:=1000000) (disch:=omega)only[↓pa,pb,ak,seval,f0,f3,h8];have ok:ew l i=true:=by rw[ew,er,ea];simp[h5,h8];try exact h7
   exact⟨l.length- (i+1),by omega,i+1,rfl,by omega,rfl,gM hall ok⟩
  ·simp only[↓pa,pb,seval,h8];rw[bad (by rw[ew,er,ea];simp[h8])]
 ·have er:pW l i=true:=by rw[pW,decide_eq_true (by omega)];rfl
  simp (maxSteps:=1000000) (disch:=omega)only[↓pa,pb,seval,f0,f3,h6,zM hlt,qa K];refine af (fun h8=>?_) (fun h8=>?_)
  ·simp (maxSteps:=1000000) (disch:=omega)only[↓pa,pb,ak,seval,f0,f3,h8];have ok:ew l i=true:=by rw[ew,er,ea];simp[h5,h8];try exact h7
   exact⟨l.length- (i+1),by omega,i+1,rfl,by omega,rfl,gM hall ok⟩
  ·simp only[↓pa,pb,seval,h8];rw[bad (by rw[ew,er,ea];simp[h8])]
structure Nd where
 id:Int
 labels:List (List UInt8)
 fields:List Fd
structure Eg where
 id:Int
 type:List UInt8
 src:Int
 dst:Int
 fields:List Fd
structure cj where
 nodes:List Nd
 edges:List Eg
def nc(n:Nd):List PV:=[I n.id,TX n.labels,FX n.fields]
def ec(e:Eg):List PV:=[I e.id,S e.type,I e.src,I e.dst,FX e.fields]
@[reducible] def NX (l:List Nd):PV:= .list l.length (l.flatMap nc) .no
@[reducible] def EX (l:List Eg):PV:= .list l.length (l.flatMap ec) .no
def gc(g:cj):List PV:=[NX g.nodes,EX g.edges]
def cP(n:Nd):(nc n).length=3:=rfl
def cN(e:Eg):(ec e).length=5:=rfl
def bC{α:Type}(enc:α->List PV)(m:Nat)(h:∀ a,(enc a).length=m)(l:List α):(l.flatMap enc).length=l.length*m:=by
 induction l with
 |nil=>simp
 |cons a l ih=>rw[be,ae,ih,h,aA,fM];omega
def fP{α:Type}(enc:α->List PV)(h:∀ a,cZ (enc a))(l:List α):cZ (l.flatMap enc):=by
 induction l with
 |nil=>exact eC
 |cons a l ih=>rw[be];exact kW (h a) ih
def ny(n:Nd):cZ (nc n):=bQ (bh _ _) (bQ (fy _) (bQ (eL _) eC))
def nH(e:Eg):cZ (ec e):=bQ (bh _ _) (bQ (bR _) (bQ (bh _ _) (bQ (bh _ _) (bQ (eL _) eC))))
def xF(l:List Nd):dq (NX l):=gk (fP nc ny l)
def CU(l:List Eg):dq (EX l):=gk (fP ec nH l)
def uc(g:cj):cZ (gc g):=bQ (xF _) (bQ (CU _) eC)
def gF(n:Nd):dq (.agg (nc n)):=gd (ny n)
def fR(e:Eg):dq (.agg (ec e)):=gd (nH e)
def dE(g:cj):dq (.agg (gc g)):=gd (uc g)
def pQ(n:Nd):Bool:=lk n.id && (jn 10 n.labels && iE n.fields)
def oN(e:Eg):Bool:=lk e.id && (dW e.type && (lk e.src && (lk e.dst && iE e.fields)))
def FD(K:bO cf)(n:Nd):az cf 88 [.agg (nc n)] [] st=some (.bool (pQ n),st):=by
 refine df K.tab (F:=F88) (t:=2) rfl rfl rfl (lb rfl) (by simp[gF]) (ct _) 1 ?_;simp only[F88,↓qU,seval];unfold pQ;simp only[↓pa,pb,ah,seval,nc,sO K.tab];cases h1:lk n.id
 ·simp only[↓pa,pb,seval]
 simp only[↓pa,pb,ah,seval,FG K.tab n.labels 10 (by decide)];cases h2:jn 10 n.labels
 ·simp only[↓pa,pb,seval]
 simp only[↓pa,pb,ah,seval,FH K n.fields]
def Dy(K:bO cf)(n:Nd):az cf 81 [.agg (nc n)] [] st=some (.bool (pQ n),st):=by
 refine df K.tab (F:=F81) (t:=2) rfl rfl rfl (lb rfl) (by simp[gF]) (ct _) 1 ?_;simp only[F81,↓qU,seval];unfold pQ;simp only[↓pa,pb,ah,seval,nc,qV K.tab];cases h1:lk n.id
 ·simp only[↓pa,pb,seval]
 simp only[↓pa,pb,ah,seval,DA K.tab n.labels];cases h2:jn 10 n.labels
 ·simp only[↓pa,pb,seval]
 simp only[↓pa,pb,ah,seval,DB K n.fields]
def FI(K:bO cf)(e:Eg):az cf 89 [.agg (ec e)] [] st=some (.bool (oN e),st):=by
 refine df K.tab (F:=F89) (t:=2) rfl rfl rfl (lb rfl) (by simp[fR]) (ct _) 1 ?_;simp only[F89,↓qU,seval];unfold oN;simp only[↓pa,pb,ah,seval,ec,sO K.tab];cases h1:lk e.id
 ·simp only[↓pa,pb,seval]
 simp only[↓pa,pb,ah,seval,rA K.tab];cases h2:dW e.type
 ·simp only[↓pa,pb,seval]
 simp only[↓pa,pb,ah,seval,sO K.tab];cases h3:lk e.src
 ·simp only[↓pa,pb,seval]
 simp only[↓pa,pb,ah,seval,sO K.tab];cases h4:lk e.dst
 ·simp only[↓pa,pb,seval]
 simp only[↓pa,pb,ah,seval,FH K e.fields]
def DD(K:bO cf)(e:Eg):az cf 82 [.agg (ec e)] [] st=some (.bool (oN e),st):=by
 refine df K.tab (F:=F82) (t:=2) rfl rfl rfl (lb rfl) (by simp[fR]) (ct _) 1 ?_;simp only[F82,↓qU,seval];unfold oN;simp only[↓pa,pb,ah,seval,ec,qV K.tab];cases h1:lk e.id
 ·simp only[↓pa,pb,seval]
 simp only[↓pa,pb,ah,seval,pB K.tab];cases h2:dW e.type
 ·simp only[↓pa,pb,seval]
 simp only[↓pa,pb,ah,seval,qV K.tab];cases h3:lk e.src
 ·simp only[↓pa,pb,seval]
 simp only[↓pa,pb,ah,seval,qV K.tab];cases h4:lk e.dst
 ·simp only[↓pa,pb,seval]
 simp only[↓pa,pb,ah,seval,DB K e.fields]
def lR{l:List Nd}{j:Nat}(h:j<l.length):bL (l.flatMap nc) (j*3) 3 true=some (.agg (nc l[j])):=by
 have:=dY nc 3 cP 0 3 true (by decide) l j h;rw[show j*3=j*3+0 from rfl,this];exact uG (cP _)
def ja{l:List Nd}{j:Nat}(h:j<l.length):bL (l.flatMap nc) (j*3) 1 false=some (I l[j].id):=by
 have:=dY nc 3 cP 0 1 false (by decide) l j h;rw[show j*3=j*3+0 from rfl,this];rfl
def ia{l:List Eg}{j:Nat}(h:j<l.length):bL (l.flatMap ec) (j*5) 5 true=some (.agg (ec l[j])):=by
 have:=dY ec 5 cN 0 5 true (by decide) l j h;rw[show j*5=j*5+0 from rfl,this];exact uG (cN _)
def m9{l:List Eg}{j:Nat}(h:j<l.length):bL (l.flatMap ec) (j*5) 1 false=some (I l[j].id):=by
 have:=dY ec 5 cN 0 1 false (by decide) l j h;rw[show j*5=j*5+0 from rfl,this];rfl
def nB(id:Int):List Nd->Nat->Int
 | [],_=> -1
 |n::l,k=>if n.id=id then(k:Int)else nB id l (k+1)
def cU(l:List Nd)(id:Int):Int:=nB id l 0
def jL(l:List Nd)(id:Int):Bool:=l.any fun n=>decide (n.id=id)
def ql(id:Int):∀ (l:List Nd) (k:Nat),(nB id l k<0)=(jL l id=false)
 | [],_=>by simp[nB,jL]
 |n::l,k=>by
  have ih:=ql id l (k+1);unfold nB jL;by_cases h:n.id=id
  ·rw[am h];simp[h]
  ·rw[ai h,ih];simp[jL,h]
def sN(K:bO cf)(g:cj)(id:Int)(hl:g.nodes.length<=2000000):az cf 83 [.agg (gc g),I id] [] st=some (I (cU g.nodes id),st):=by
 refine df K.tab (F:=F83) (t:=4) rfl rfl rfl (lb rfl) (by simp[dE,bh]) (d6 _ _) (g.nodes.length+1) ?_;have hm:=bC nc 3 cP g.nodes;simp only[F83,↓qU,seval];simp only[↓pa,ah,seval,gc];refine a7 (fun k fr st=>∃ i:Nat,k=g.nodes.length-i/\i<=g.nodes.length/\fr 1=I id/\fr 2= .ptr 2 0/\st.objs 2=some [NX g.nodes,EX g.edges]/\fr 5=I i/\nB id (g.nodes.drop i) i=cU g.nodes id) g.nodes.length (by omega) ⟨0,by simp,by omega,by simp only[↓pa,pb,seval],by simp only[↓pa,seval],by simp only[pb,seval],by simp only[↓pa,seval]<;>rfl,rfl⟩ ?_
 rintro k fr st ⟨i,rfl,hi,f1,f2,o2,f5,hQ⟩;simp only[↓pa,pb,ah,ak,seval,f2,o2,f5];refine af (fun h1=>?_) (fun h1=>?_)
 ·rw[bj h1,nB]at hQ;simp (maxSteps:=1000000) (disch:=omega)only[↓pa,pb,ah,seval,f1,f2,o2,f5,aI,ja h1];refine af (fun h2=>?_) (fun h2=>?_)
  ·rw[am h2]at hQ;simp only[↓pa,pb,seval,f5,h2];rw[<-hQ]
  ·rw[ai h2]at hQ;simp (maxSteps:=1000000) (disch:=omega)only[↓pa,pb,ak,seval,f1,f2,o2,f5,h2];exact⟨g.nodes.length- (i+1),by omega,i+1,rfl,by omega,rfl,hQ⟩
 ·have:i=g.nodes.length:=by omega
  rw[this,jH]at hQ;simp only[↓pa,pb,seval,h1];rw[<-hQ];rfl
def uK(l:List Nd)(i:Nat):Nd:=l.getD i ⟨0,[],[]⟩
def uf(l:List Eg)(i:Nat):Eg:=l.getD i ⟨0,[],0,0,[]⟩
def l9{l:List Nd}{i:Nat}(h:i<l.length):uK l i=l[i]:=by simp[uK,h]
def oP{l:List Eg}{i:Nat}(h:i<l.length):uf l i=l[i]:=by simp[uf,h]
def sF(l:List Nd)(i:Nat):Bool:=decide (i=0)||decide ((uK l (i-1)).id<(uK l i).id)
def nX(l:List Eg)(i:Nat):Bool:=decide (i=0)||decide ((uf l (i-1)).id<(uf l i).id)
def fj(l:List Nd)(i:Nat):Bool:=pQ (uK l i) && sF l i
def dl(g:cj)(i:Nat):Bool:=oN (uf g.edges i) && (nX g.edges i && (jL g.nodes (uf g.edges i).src && jL g.nodes (uf g.edges i).dst))
def eD(g:cj):Bool:=(decide ((g.nodes.length:Int)<=200) && decide ((g.edges.length:Int)<=400)) && (mV g.nodes.length (fj g.nodes) && mV g.edges.length (dl g))
def ti(g:cj):Int:=if eD g then 0 else 1
def kP{g:cj}(h:eD g=false):ti g=1:=by rw[ti,h];rfl
def Oy(K:bO cf)(g:cj):az cf 40 [.agg (gc g)] [] st=some (I (ti g),st):=by
 refine df K.tab (F:=F40) (t:=2) rfl rfl rfl (lb rfl) (by simp[dE]) (d6 _ _) (g.nodes.length+g.edges.length+1) ?_;have hm:=bC nc 3 cP g.nodes;have hm2:=bC ec 5 cN g.edges;simp only[F40,↓qU,seval];simp only[↓pa,pb,ah,seval,gc];refine af (fun l1=>?_) (fun l1=>?_)
 ·simp only[↓pa,pb,seval,l1];rw[kP (by rw[eD,decide_eq_false (by omega)];simp)]
 simp only[↓pa,pb,ah,seval,l1];refine af (fun l2=>?_) (fun l2=>?_)
 ·simp only[↓pa,pb,seval,l2];rw[kP (by rw[eD,decide_eq_false (p:=(g.edges.length:Int)<=400) (by omega)];simp)]
 have l1':(g.nodes.length:Int)<=200:=by omega
 have l2':(g.edges.length:Int)<=400:=by omega
 simp only[↓pa,pb,seval,l2];refine a7 (fun k fr st=>∃ i:Nat,k=g.nodes.length-i/\i<=g.nodes.length/\fr 1= .ptr 1 0/\st.objs 1=some [NX g.nodes,EX g.edges]/\fr 3=I i/\∀ j,j<i->fj g.nodes j=true) g.nodes.length (by omega) ⟨0,by simp,by omega,by simp only[↓pa,seval],by simp only[pb,seval],by simp only[↓pa,seval]<;>rfl,fun j hj=>by omega⟩ ?_
 rintro k fr st ⟨i,rfl,hi,f1,o1,f3,hall⟩;simp only[↓pa,pb,ah,ak,seval,f1,o1,f3];refine af (fun h1=>?_) (fun h1=>?_)
 ·have hlt:i<g.nodes.length:=h1;have ea:uK g.nodes i=g.nodes[i]:=l9 hlt;simp (maxSteps:=1000000) (disch:=omega)only[↓pa,pb,ah,seval,f1,o1,f3,h1,lR hlt,Dy K];refine af (fun h5=>?_) (fun h5=>?_);rotate_left
  ·have nb:fj g.nodes i=false:=by rw[fj,ea];simp[h5]
   simp only[↓pa,pb,seval,h5];rw[kP (by rw[eD,gN hlt nb];simp)]
  simp only[↓pa,pb,seval,f3,h5];refine af (fun h6=>?_) (fun h6=>?_)
  ·have hp:((i:Int) -1).toNat=i-1:=by omega
   have h6':0<i:=by omega
   have eb:uK g.nodes (i-1)=g.nodes[i-1]:=l9 (by omega);simp (maxSteps:=1000000) (disch:=omega)only[↓pa,pb,ah,seval,f1,o1,f3,h6,hp,aI,ja (show i-1<g.nodes.length by omega),ja hlt];refine af (fun h7=>?_) (fun h7=>?_)
   ·have nb:fj g.nodes i=false:=by rw[fj,sF,ea,eb,decide_eq_false (p:=i=0) (by omega),decide_eq_false (by omega)];simp
    simp only[↓pa,pb,seval,h7];rw[kP (by rw[eD,gN hlt nb];simp)]
   ·have ok:fj g.nodes i=true:=by rw[fj,sF,ea,eb,h5,decide_eq_true (p:=g.nodes[i-1].id<g.nodes[i].id) (by omega)];simp
    simp (maxSteps:=1000000) (disch:=omega)only[↓pa,pb,ak,seval,f1,o1,f3,h7];exact⟨g.nodes.length- (i+1),by omega,i+1,rfl,by omega,rfl,gM hall ok⟩
  ·have ok:fj g.nodes i=true:=by rw[fj,sF,ea,h5,decide_eq_true (p:=i=0) (by omega)];rfl
   simp (maxSteps:=1000000) (disch:=omega)only[↓pa,pb,ak,seval,f1,o1,f3,h6];exact⟨g.nodes.length- (i+1),by omega,i+1,rfl,by omega,rfl,gM hall ok⟩
 have hn:mV g.nodes.length (fj g.nodes)=true:=mf fun j hj=>hall j (by omega);simp only[↓pa,pb,seval,h1];clear hall f3;revert f1 o1;generalize hfr:fr=fr0;intro f1 o1;refine a7 (fun k fr st=>∃ i:Nat,k=g.edges.length-i/\i<=g.edges.length/\fr 1= .ptr 1 0/\st.objs 1=some [NX g.nodes,EX g.edges]/\fr 4=I i/\∀ j,j<i->dl g j=true) g.edges.length (by omega) ⟨0,by simp,by omega,by simp only[↓pa,seval,f1],by simp only[seval,o1],by simp only[↓pa,seval]<;>rfl,fun j hj=>by omega⟩ ?_
 rintro k fr st ⟨i,rfl,hi,f1,o1,f4,hall⟩;simp only[↓pa,pb,ah,ak,seval,f1,o1,f4];refine af (fun k1=>?_) (fun k1=>?_);rotate_left
 ·have he:mV g.edges.length (dl g)=true:=mf fun j hj=>hall j (by omega);simp only[↓pa,pb,seval,k1];rw[ti,eD,hn,he,decide_eq_true l1',decide_eq_true l2'];rfl
 have hlt:i<g.edges.length:=k1;have ea:uf g.edges i=g.edges[i]:=oP hlt;have hec:(ec g.edges[i]).length=5:=rfl;have hna:∀ id st,az cf 83 [.agg [NX g.nodes,EX g.edges],I id] [] st=some (I (cU g.nodes id),st):=fun id st=>sN K g id (by omega);have heo:∀ st,az cf 82 [.agg [I g.edges[i].id,S g.edges[i].type,I g.edges[i].src,I g.edges[i].dst,FX g.edges[i].fields]] [] st=some (.bool (oN g.edges[i]),st):=fun st=>DD K g.edges[i];simp (maxSteps:=1000000) (disch:=omega)only[↓pa,pb,ah,seval,f1,o1,f4,k1,ia hlt,ec,heo];refine af (fun h5=>?_) (fun h5=>?_);rotate_left
 ·have nb:dl g i=false:=by rw[dl,ea];simp[h5]
  simp only[↓pa,pb,seval,h5];rw[kP (by rw[eD,gN hlt nb];simp)]
 simp only[↓pa,pb,seval,f4,h5];refine af (fun h6=>?_) (fun h6=>?_)
 ·have hp:((i:Int) -1).toNat=i-1:=by omega
  have h6':0<i:=by omega
  have eb:uf g.edges (i-1)=g.edges[i-1]:=oP (by omega);simp (maxSteps:=1000000) (disch:=omega)only[↓pa,pb,ah,seval,f1,o1,f4,h6,hp,aI,m9 (show i-1<g.edges.length by omega)];refine af (fun h7=>?_) (fun h7=>?_)
  ·have nb:dl g i=false:=by rw[dl,nX,ea,eb,decide_eq_false (p:=i=0) (by omega),decide_eq_false (p:=g.edges[i-1].id<g.edges[i].id) (by omega)];simp
   simp only[↓pa,pb,seval,h7];rw[kP (by rw[eD,gN hlt nb];simp)]
  ·have er:nX g.edges i=true:=by rw[nX,ea,eb,decide_eq_true (p:=g.edges[i-1].id<g.edges[i].id) (by omega)];simp
   simp only[↓pa,pb,ah,seval,f1,o1,h7,hna];refine af (fun h8=>?_) (fun h8=>?_)
   ·have nb:dl g i=false:=by rw[cU,ql]at h8;rw[dl,ea,h8];simp
    simp only[↓pa,pb,seval,h8];rw[kP (by rw[eD,gN hlt nb];simp)]
   simp only[↓pa,pb,ah,seval,f1,o1,h8,hna];refine af (fun h9=>?_) (fun h9=>?_)
   ·have nb:dl g i=false:=by rw[cU,ql]at h9;rw[dl,ea,h9];simp
    simp only[↓pa,pb,seval,h9];rw[kP (by rw[eD,gN hlt nb];simp)]
   ·have ok:dl g i=true:=by
     rw[cU,ql]at h8 h9;rw[Bool.not_eq_false]at h8 h9;rw[dl,ea,h5,er,h8,h9];rfl
    simp (maxSteps:=1000000) (disch:=omega)only[↓pa,pb,ak,seval,f1,o1,f4,h9];exact⟨g.edges.length- (i+1),by omega,i+1,rfl,by omega,rfl,gM hall ok⟩
 ·have er:nX g.edges i=true:=by rw[nX,decide_eq_true (p:=i=0) (by omega)];rfl
  simp only[↓pa,pb,ah,seval,f1,o1,h6,hna];refine af (fun h8=>?_) (fun h8=>?_)
  ·have nb:dl g i=false:=by rw[cU,ql]at h8;rw[dl,ea,h8];simp
   simp only[↓pa,pb,seval,h8];rw[kP (by rw[eD,gN hlt nb];simp)]
  simp only[↓pa,pb,ah,seval,f1,o1,h8,hna];refine af (fun h9=>?_) (fun h9=>?_)
  ·have nb:dl g i=false:=by rw[cU,ql]at h9;rw[dl,ea,h9];simp
   simp only[↓pa,pb,seval,h9];rw[kP (by rw[eD,gN hlt nb];simp)]
  ·have ok:dl g i=true:=by
    rw[cU,ql]at h8 h9;rw[Bool.not_eq_false]at h8 h9;rw[dl,ea,h5,er,h8,h9];rfl
   simp (maxSteps:=1000000) (disch:=omega)only[↓pa,pb,ak,seval,f1,o1,f4,h9];exact⟨g.edges.length- (i+1),by omega,i+1,rfl,by omega,rfl,gM hall ok⟩
def BU(st:St)(s:Nat)(es:List (PV×PV)):St:={st with maps:=fun k=>if k=s then some es else st.maps k}
def IA(kk:Nat)(m k v:PV)(st:St):Option (PV×St):=match m with
 | .mp s=>match st.maps s with
  |some es=>if mS k=kk/\np v=true then match pt k es 0 with
   |some (some (i,_))=>some (.hole,BU st s (es.set i (k,v)))
   |some none=>some (.hole,BU st s (es++[(k,v)]))
   |none=>none
   else none
  |none=>none
 |_=>none
def EO(ok:Bool)(zero:PV)(kk:Nat)(m k:PV)(st:St):Option (PV×St):=match m with
 | .mp s=>match st.maps s with
  |some es=>if mS k=kk then match pt k es 0 with
   |some (some (_,v))=>some (if ok then .tup [v,.bool true]else v,st)
   |some none=>some (if ok then .tup [zero,.bool false]else zero,st)
   |none=>none
   else none
  |none=>none
 |_=>none
def xE:
  (∀ {cf:aJ} {fr:Fr} {st:St} {s:Nat},aC cf fr st (some s) .mkmap=some (.mp s,BU st s []))/\
  (∀ {cf:aJ} {fr:Fr} {st:St} {d:Option Nat} {kk:Nat} {m k v:CX},aC cf fr st d (.mpset kk m k v)=IA kk (m.ev fr) (k.ev fr) (v.ev fr) st)/\
  (∀ {cf:aJ} {fr:Fr} {st:St} {d:Option Nat} {ok:Bool} {zero:PV} {kk:Nat} {m k:CX},aC cf fr st d (.mpget ok zero kk m k)=EO ok zero kk (m.ev fr) (k.ev fr) st)/\
  (∀ {st:St} {s:Nat} {es:List (PV×PV)},(BU st s es).objs=st.objs)/\(∀ {st:St} {s:Nat} {es:List (PV×PV)} {k:Nat},(BU st s es).maps k=if k=s then some es else st.maps k):=⟨rfl,rfl,rfl,rfl,rfl⟩
def sV(k:Int):PV×PV:=(I k,I 1)
def sL(x:Int):∀ (ks:List Int) (j:Nat),(x∈ks->∃ i,i<ks.length/\ks[i]? =some x/\pt (I x) (ks.map sV) j=some (some (j+i,I 1)))/\(x∉ks->pt (I x) (ks.map sV) j=some none)
 | [],j=>⟨fun h=>by simp at h,fun _=>rfl⟩
 |k::ks,j=>by
  have ih:=sL x ks (j+1);have hf:pt (I x) ((k::ks).map sV) j=if x=k then some (some (j,I 1))else pt (I x) (ks.map sV) (j+1):=by
   rw[bg,pt];have:D2 (I x) (sV k).1=some (x==k):=rfl;rw[this];by_cases h:x=k
   ·have hb:(x==k)=true:=by simp[h]
    rw[hb,am h];rfl
   ·have hb:(x==k)=false:=by simp[h]
    rw[hb,ai h]
  constructor
  ·intro h;by_cases hk:x=k
   ·exact⟨0,by simp,by simp[hk],by rw[hf,am hk];rfl⟩
   ·obtain⟨i,h1,h2,h3⟩:=ih.1 (by simpa [hk]using h);exact⟨i+1,by simpa using h1,by simpa using h2,by rw[hf,ai hk,h3];congr 3;omega⟩
  ·intro h;simp only[aZ,not_or]at h;rw[hf,ai h.1];exact ih.2 h.2
def Ev{ks:List Int}{x:Int}(hs:st.maps s=some (ks.map sV))(k:∀ ks':List Int,(∀ y,y∈ks'↔(y∈ks\/y=x))->A (mk .hole (BU st s (ks'.map sV)))):dj (IA 0 (.mp s) (I x) (I 1) st) mk A:=by
 have h0:mS (I x)=0/\np (I 1)=true:=⟨rfl,rfl⟩;by_cases hx:x∈ks
 ·obtain⟨i,h1,h2,h3⟩:=(sL x ks 0).1 hx;simp only[IA,hs,h0,h3,lw,if_true];rw[fg];have:(ks.map sV).set (0+i) (I x,I 1)=ks.map sV:=by
   apply iH;intro q;rw[List.getElem?_set];split
   ·rename_i e;subst e;simp only[bJ,ar,h1,if_true,dB,h2,eO];rfl
   ·rfl
  rw[this];exact k ks fun y=>⟨.inl,fun h=>h.elim id fun e=>by rw[e];exact hx⟩
 ·have h3:=(sL x ks 0).2 hx;simp only[IA,hs,h0,h3,lw,if_true];rw[fg];have:ks.map sV++[(I x,I 1)]=(ks++[x]).map sV:=by simp[sV]
  rw[this];exact k (ks++[x]) fun y=>by simp
def IB{ks:List Int}{x:Int}(hs:st.maps s=some (ks.map sV)):EO false (I 0) 0 (.mp s) (I x) st=some (I (if x∈ks then 1 else 0),st):=by
 have h0:mS (I x)=0:=rfl;by_cases hx:x∈ks
 ·obtain⟨i,h1,h2,h3⟩:=(sL x ks 0).1 hx;simp only[EO,hs,h0,h3,if_true,hx,cz,if_false]
 ·have h3:=(sL x ks 0).2 hx;simp only[EO,hs,h0,h3,if_true,hx,cz,if_false]
def Bk{l:List Nd}{i:Nat}(h:i<l.length)(x:Int):(jL (l.take (i+1)) x=true)↔(jL (l.take i) x=true\/x=l[i].id):=by
 unfold jL;rw[aV h,List.any_append];simp only[List.any_cons,List.any_nil,Bool.or_false,cY,decide_eq_true_eq];exact⟨fun h=>h.imp id Eq.symm,fun h=>h.imp id Eq.symm⟩
def Dl{g:cj}{i:Nat}(hlt:i<g.nodes.length)(nb:fj g.nodes i=false):eD g=false:=by rw[eD,gN hlt nb];simp
def po{g:cj}{i:Nat}(hlt:i<g.edges.length)(nb:dl g i=false):eD g=false:=by rw[eD,gN hlt nb];simp
def KZ(K:bO cf)(g:cj):az cf 46 [.agg (gc g)] [] st=some (.bool (eD g),st):=by
 refine df K.tab (F:=F46) (t:=2) rfl rfl rfl (lb rfl) (by simp[dE]) (ct _) (g.nodes.length+g.edges.length+1) ?_;have hm:=bC nc 3 cP g.nodes;have hm2:=bC ec 5 cN g.edges;simp only[F46,↓qU,seval];simp only[↓pa,pb,ah,seval,gc];refine af (fun l1=>?_) (fun l1=>?_)
 ·simp only[↓pa,pb,seval,l1];rw[eD,decide_eq_false (by omega)];simp
 simp only[↓pa,pb,ah,seval,l1];refine af (fun l2=>?_) (fun l2=>?_)
 ·simp only[↓pa,pb,seval,l2];rw[eD,decide_eq_false (p:=(g.edges.length:Int)<=400) (by omega)];simp
 have l1':(g.nodes.length:Int)<=200:=by omega
 have l2':(g.edges.length:Int)<=400:=by omega
 simp only[↓pa,pb,ah,seval,xE,l2];refine a7 (fun k fr st=>∃ (i:Nat) (ks:List Int),k=g.nodes.length-i/\i<=g.nodes.length/\fr 1= .ptr 1 0/\st.objs 1=some [NX g.nodes,EX g.edges]/\fr 3= .mp 18/\fr 20=NX g.nodes/\fr 21=I g.nodes.length/\fr 22=I i/\st.maps 18=some (ks.map sV)/\(∀ x,x∈ks↔jL (g.nodes.take i) x=true)/\∀ j,j<i->fj g.nodes j=true) g.nodes.length (by omega)
  ⟨0,[],by simp,by omega,by simp only[↓pa,pb,seval],by simp only[pb,seval,xE],by simp only[↓pa,seval],by simp only[↓pa,seval],by simp only[↓pa,seval],by simp only[↓pa,seval]<;>rfl,by simp only[pb,seval,xE]<;>rfl,by simp[jL],fun j hj=>by omega⟩ ?_
 rintro k fr st ⟨i,ks,rfl,hi,f1,o1,f3,f20,f21,f22,m18,hks,hall⟩;simp only[↓pa,pb,ak,seval,f21,f22];refine af (fun h1=>?_) (fun h1=>?_)
 ·have hlt:i<g.nodes.length:=h1;have ea:uK g.nodes i=g.nodes[i]:=l9 hlt;have hno:∀ st,az cf 88 [.agg [I g.nodes[i].id,TX g.nodes[i].labels,FX g.nodes[i].fields]] [] st=some (.bool (pQ g.nodes[i]),st):=fun st=>FD K g.nodes[i];simp (maxSteps:=1000000) (disch:=omega)only[↓pa,pb,ah,seval,f20,f22,h1,lR hlt,nc,hno];refine af (fun h5=>?_) (fun h5=>?_);rotate_left
  ·have nb:fj g.nodes i=false:=by rw[fj,ea];simp[h5]
   simp only[↓pa,pb,seval,h5];rw[Dl hlt nb]
  simp only[↓pa,pb,seval,h5];refine af (fun h6=>?_) (fun h6=>?_)
  ·have hp:((i:Int) -1).toNat=i-1:=by omega
   have h6':0<i:=by omega
   have eb:uK g.nodes (i-1)=g.nodes[i-1]:=l9 (by omega);simp (maxSteps:=1000000) (disch:=omega)only[↓pa,pb,ah,seval,f1,o1,h6,hp,aI,ja (show i-1<g.nodes.length by omega)];refine af (fun h7=>?_) (fun h7=>?_)
   ·have nb:fj g.nodes i=false:=by rw[fj,sF,ea,eb,decide_eq_false (p:=i=0) (by omega),decide_eq_false (p:=g.nodes[i-1].id<g.nodes[i].id) (by omega)];simp
    simp only[↓pa,pb,seval,h7];rw[Dl hlt nb]
   ·have ok:fj g.nodes i=true:=by rw[fj,sF,ea,eb,h5,decide_eq_true (p:=g.nodes[i-1].id<g.nodes[i].id) (by omega)];simp
    simp only[↓pa,pb,ah,seval,xE,f3,h7];refine Ev (ks:=ks) (by simp only[pb,m18]) (fun ks' hks'=>?_);simp (maxSteps:=1000000) (disch:=omega)only[↓pa,pb,ak,seval,xE,f1,o1,f3,f20,f21,f22];exact⟨g.nodes.length- (i+1),by omega,i+1,ks',rfl,by omega,rfl,rfl,fun x=>by rw[hks',Bk hlt,hks],gM hall ok⟩
  ·have ok:fj g.nodes i=true:=by rw[fj,sF,ea,h5,decide_eq_true (p:=i=0) (by omega)];rfl
   have h7:=h6;simp only[↓pa,pb,ah,seval,xE,f3,h7];refine Ev (ks:=ks) (by simp only[pb,m18]) (fun ks' hks'=>?_);simp (maxSteps:=1000000) (disch:=omega)only[↓pa,pb,ak,seval,xE,f1,o1,f3,f20,f21,f22];exact⟨g.nodes.length- (i+1),by omega,i+1,ks',rfl,by omega,rfl,rfl,fun x=>by rw[hks',Bk hlt,hks],gM hall ok⟩
 have hn:mV g.nodes.length (fj g.nodes)=true:=mf fun j hj=>hall j (by omega);have hks:∀ x,x∈ks↔jL g.nodes x=true:=fun x=>by rw[hks x,aM (by omega)]
 simp only[↓pa,pb,ah,seval,f1,o1,h1];clear hall f20 f21 f22;refine a7 (fun k fr st=>∃ i:Nat,k=g.edges.length-i/\i<=g.edges.length/\fr 1= .ptr 1 0/\st.objs 1=some [NX g.nodes,EX g.edges]/\fr 3= .mp 18/\fr 51=EX g.edges/\fr 52=I g.edges.length/\fr 53=I i/\st.maps 18=some (ks.map sV)/\∀ j,j<i->dl g j=true) g.edges.length (by omega) ⟨0,by simp,by omega,by simp only[↓pa,seval,f1],by simp only[seval,o1],by simp only[↓pa,seval,f3],by simp only[↓pa,seval],by simp only[↓pa,seval],by simp only[↓pa,seval]<;>rfl,by simp only[seval,m18],fun j hj=>by omega⟩ ?_
 rintro k fr st ⟨i,rfl,hi,f1,o1,f3,f51,f52,f53,m18,hall⟩;simp only[↓pa,pb,ak,seval,f52,f53];refine af (fun k1=>?_) (fun k1=>?_);rotate_left
 ·have he:mV g.edges.length (dl g)=true:=mf fun j hj=>hall j (by omega);simp only[↓pa,pb,seval,k1];rw[eD,hn,he,decide_eq_true l1',decide_eq_true l2'];rfl
 have hlt:i<g.edges.length:=k1;have ea:uf g.edges i=g.edges[i]:=oP hlt;have heo:∀ st,az cf 89 [.agg [I g.edges[i].id,S g.edges[i].type,I g.edges[i].src,I g.edges[i].dst,FX g.edges[i].fields]] [] st=some (.bool (oN g.edges[i]),st):=fun st=>FI K g.edges[i];have hget:∀ (x:Int) (st:St),st.maps 18=some (ks.map sV)->EO false (I 0) 0 (.mp 18) (I x) st=some (I (if jL g.nodes x=true then 1 else 0),st):=fun x st h=>by
  rw[IB h];simp only[hks x]
 simp (maxSteps:=1000000) (disch:=omega)only[↓pa,pb,ah,seval,f51,f53,k1,ia hlt,ec,heo];refine af (fun h5=>?_) (fun h5=>?_);rotate_left
 ·have nb:dl g i=false:=by rw[dl,ea];simp[h5]
  simp only[↓pa,pb,seval,h5];rw[po hlt nb]
 simp only[↓pa,pb,seval,h5];refine af (fun h6=>?_) (fun h6=>?_)
 ·have hp:((i:Int) -1).toNat=i-1:=by omega
  have h6':0<i:=by omega
  have eb:uf g.edges (i-1)=g.edges[i-1]:=oP (by omega);simp (maxSteps:=1000000) (disch:=omega)only[↓pa,pb,ah,seval,f1,o1,h6,hp,aI,m9 (show i-1<g.edges.length by omega)];refine af (fun h7=>?_) (fun h7=>?_)
  ·have nb:dl g i=false:=by rw[dl,nX,ea,eb,decide_eq_false (p:=i=0) (by omega),decide_eq_false (p:=g.edges[i-1].id<g.edges[i].id) (by omega)];simp
   simp only[↓pa,pb,seval,h7];rw[po hlt nb]
  ·have er:nX g.edges i=true:=by rw[nX,ea,eb,decide_eq_true (p:=g.edges[i-1].id<g.edges[i].id) (by omega)];simp
   simp only[↓pa,pb,ah,seval,xE,f3,h7];rw[hget _ _ (by simp only[pb,m18])];cases h8:jL g.nodes g.edges[i].src
   ·have nb:dl g i=false:=by rw[dl,ea,h8];simp
    simp only[↓pa,pb,seval];rw[po hlt nb]
   simp only[↓pa,pb,ah,seval,xE,f3];rw[hget _ _ (by simp only[pb,m18])];cases h9:jL g.nodes g.edges[i].dst
   ·have nb:dl g i=false:=by rw[dl,ea,h9];simp
    simp only[↓pa,pb,seval];rw[po hlt nb]
   have ok:dl g i=true:=by rw[dl,ea,h5,er,h8,h9];rfl
   simp (maxSteps:=1000000) (disch:=omega)only[↓pa,pb,ak,seval,f1,o1,f3,f51,f52,f53,m18];exact⟨g.edges.length- (i+1),by omega,i+1,rfl,by omega,rfl,gM hall ok⟩
 ·have er:nX g.edges i=true:=by rw[nX,decide_eq_true (p:=i=0) (by omega)];rfl
  simp only[↓pa,pb,ah,seval,xE,f3,h6];rw[hget _ _ (by simp only[pb,m18])];cases h8:jL g.nodes g.edges[i].src
  ·have nb:dl g i=false:=by rw[dl,ea,h8];simp
   simp only[↓pa,pb,seval];rw[po hlt nb]
  simp only[↓pa,pb,ah,seval,xE,f3];rw[hget _ _ (by simp only[pb,m18])];cases h9:jL g.nodes g.edges[i].dst
  ·have nb:dl g i=false:=by rw[dl,ea,h9];simp
   simp only[↓pa,pb,seval];rw[po hlt nb]
  have ok:dl g i=true:=by rw[dl,ea,h5,er,h8,h9];rfl
  simp (maxSteps:=1000000) (disch:=omega)only[↓pa,pb,ak,seval,f1,o1,f3,f51,f52,f53,m18];exact⟨g.edges.length- (i+1),by omega,i+1,rfl,by omega,rfl,gM hall ok⟩
def jd{o:Option (PV×St)}{m:Nat->St}{p:PV}(h:∃ r,r=p/\∃ fl,o=some (r,m fl))(k:∀ fl,A (mk p (m fl))):dj o mk A:=by
 obtain⟨r,rfl,fl,rfl⟩:=h;exact⟨_,_,rfl,k fl⟩
def EF:(∀ {l:List Fd},aX (l.flatMap fc)=true)/\(∀ {l:List Fd},aQ (l.flatMap fc)=l.flatMap fc)/\(∀ {l:List Nd},aX (l.flatMap nc)=true)/\(∀ {l:List Nd},aQ (l.flatMap nc)=l.flatMap nc)/\(∀ {l:List Eg},aX (l.flatMap ec)=true)/\(∀ {l:List Eg},aQ (l.flatMap ec)=l.flatMap ec):=
 ⟨(gK _).1,(gK _).2.1,(fP nc ny _).1,(fP nc ny _).2.1,(fP ec nH _).1,(fP ec nH _).2.1⟩
def HV(K:bO cf)(l:List Fd)(hl:l.length<=2000000):∃ r,r=FX l/\∃ fl,az cf 84 [FX l] [] st=some (r,db st fl):=by
 refine lu K.tab (F:=F84) (Q:=fun r=>r=FX l) rfl rfl rfl (lb rfl) (by simp[eL]) 1 ?_;simp only[F84,↓qU,seval];have hm:=eH l;simp only[↓pa,↓au,pb,ah,seval,cG,da];refine bc (n:=0) gV rfl (by rw[hm]) (by omega) (by omega) (by decide) ?_;simp only[↓pa,pb,aH,seval,EF,aU,ar]
def Co(K:bO cf)(l:List (List UInt8))(hl:l.length<=2000000):∃ r,r=TX l/\∃ fl,az cf 85 [TX l] [] st=some (r,db st fl):=by
 refine lu K.tab (F:=F85) (Q:=fun r=>r=TX l) rfl rfl rfl (lb rfl) (by simp[fy]) 1 ?_;simp only[F85,↓qU,seval];simp only[↓pa,↓au,pb,ah,seval,cG,da];refine bc (n:=0) gV rfl (by rw[bJ,eh]) (by omega) (by omega) (by decide) ?_;simp only[↓pa,pb,aH,eB,seval,aU,ar]
def Cq(K:bO cf)(e:Eg)(hl:e.fields.length<=2000000):∃ r,r= .agg (ec e)/\∃ fl,az cf 41 [.agg (ec e)] [] st=some (r,db st fl):=by
 refine lu K.tab (F:=F41) (Q:=fun r=>r= .agg (ec e)) rfl rfl rfl (lb rfl) (by simp[fR]) 1 ?_;simp only[F41,↓qU,seval];simp only[↓pa,pb,ah,seval,ec];refine jd (HV K e.fields hl) (fun fl=>?_);simp only[↓pa,pb,ah,aH,seval,EF]
def gG{p:PV}(h:dq p):dw [p]=some []:=eY (dD (ps:=[p]) (by simpa using h)).1
def Cp(K:bO cf)(n:Nd)(h1:n.labels.length<=2000000)(hl:n.fields.length<=2000000):∃ r,r= .agg (nc n)/\∃ fl,az cf 42 [.agg (nc n)] [] st=some (r,db st fl):=by
 refine lu K.tab (F:=F42) (Q:=fun r=>r= .agg (nc n)) rfl rfl rfl (lb rfl) (by simp[gF]) 1 ?_;simp only[F42,↓qU,seval];simp only[↓pa,↓ax,pb,ah,ap,seval,nc];refine jd (Co K n.labels h1) (fun fl=>?_);simp only[↓pa,↓ax,pb,ah,ap,seval];refine jd (HV K n.fields hl) (fun fl=>?_);simp only[↓pa,↓au,↓ax,pb,ah,ap,aq,aH,eB,ad,aa,seval,EF,gG (fy n.labels),gG (eL n.fields)]
def uO(l:List Eg)(id:Int):List Int:=(l.filter fun e=>decide (e.dst=id)).map Eg.id
@[reducible] def IX (l:List Int):PV:= .list l.length (l.map I) .no
def rh{l:List Eg}{j:Nat}(h:j<l.length):bL (l.flatMap ec) (j*5+3) 1 false=some (I l[j].dst):=by
 have:=dY ec 5 cN 3 1 false (by decide) l j h;rw[this];rfl
def Bf(l:List Int):cZ (l.map I):=by
 induction l with
 |nil=>exact eC
 |cons x l ih=>exact bQ (bh _ _) ih
end Go.PM
namespace Go.PM
def Q1(l:List Eg)(n k:Int):List Eg:=l.filter fun e=>decide (e.src.tmod n=k)
def pJ(es:List Eg)(n k:Int)(x:Nd):List Nd:=if x.id.tmod n=k then [x]else if 0<(uO es x.id).length then [⟨x.id,[],[]⟩]else []
def tJ(es:List Eg)(l:List Nd)(n k:Int):List Nd:=l.flatMap (pJ es n k)
def Nb(g:cj)(n k:Int):cj:=⟨tJ (Q1 g.edges n k) g.nodes n k,Q1 g.edges n k⟩
def sC(g:cj)(n:Int):Nat->List cj
 |0=>[]
 |k+1=>sC g n k++[Nb g n k]
def Pc(g:cj):(gc g).length=2:=rfl
def Lr(es:List Eg)(n k:Int)(x:Nd):(pJ es n k x).length<=1:=by
 unfold pJ
 repeat' split
 all_goals simp
def ND(es:List Eg)(n k:Int):∀ l:List Nd,(tJ es l n k).length<=l.length
 | []=>aP _
 |x::l=>by
  have:=ND es n k l;have h1:=Lr es n k x;unfold tJ at this ⊢;rw[be,ae,aA];omega
def AE(g:cj)(n:Int):∀ k,(sC g n k).length=k
 |0=>rfl
 |k+1=>by rw[sC,ae,AE g n k];rfl
end Go.PM
namespace Go.PM
open Go.Lib
variable {cf:aJ} {st:St} {mk:PV->St->Fr×St} {A:Fr×St->Prop} {s:Nat}
def kR{f:Nat}{as:List PV}(h:as.all bF=true)(h2:(as.map aO).all bF=true)(h3:(as.map aO).map aO=as.map aO)(hf:nU f=false:=by rfl):az cf f as [] st=az cf f (as.map aO) [] st:=by
 simp only[az,eY h,eY h2,dz,jT 0 0 h,jT 0 0 h2,h3,oo,hf,List.isEmpty_nil,Bool.not_true,dO,Bool.or_false]
structure fK {α:Type} (enc:α->List PV) (m:Nat) (l:List α) (cs:List PV):Prop where
 len:cs.length=l.length*m
 st:aQ cs=l.flatMap enc
 np:aX cs=true
def fK.len'{g:cj}{n:Int}{k:Nat}{cs:List PV}(h:fK gc 2 (sC g n k) cs):cs.length=k*2:=by rw[h.len,AE]
def qx{α:Type}{enc:α->List PV}{m:Nat}:fK enc m ([]:List α) []:=⟨by simp,rfl,rfl⟩
def gv(xs ys:List PV):aQ (xs++ys)=aQ xs++aQ ys:=by
 induction xs with
 |nil=>rfl
 |cons x xs ih=>simp only[bo,aH,ih]
def gY{α:Type}{enc:α->List PV}{m:Nat}{l:List α}{cs ds:List PV}{a:α}(h:fK enc m l cs)(h1:ds.length=m)(h2:aQ ds=enc a)(h3:aX ds=true):fK enc m (l++[a]) (cs++ds):=by
 refine⟨?_,?_,iz h.np h3⟩
 ·rw[ae,h.len,h1,ae,aA,a6,gW];omega
 ·rw[gv,h.st,h2,bA];simp
def w5{α:Type}{enc:α->List PV}{m:Nat}(hl:∀ a,(enc a).length=m)(hp:∀ a,cZ (enc a))(l:List α):fK enc m l (l.flatMap enc):=
 ⟨bC enc m hl l,(fP enc hp l).2.1,(fP enc hp l).1⟩
def ol{a b c d e:PV}{vs:List PV}(h:vs.length=5):bS [a,b,c,d,e] 0 vs=vs:=jm (by rw[h];rfl)
def pj{a b c:PV}{vs:List PV}(h:vs.length=3):bS [a,b,c] 0 vs=vs:=jm (by rw[h];rfl)
def nw{l:List Eg}{j:Nat}(h:j<l.length):bL (l.flatMap ec) (j*5+2) 1 false=some (I l[j].src):=by
 have:=dY ec 5 cN 2 1 false (by decide) l j h;rw[this];rfl
def Ai(K:bO cf)(g:cj)(id:Int)(hl:g.nodes.length<=2000000):az cf 90 [.agg (gc g),I id] [] st=some (I (cU g.nodes id),st):=by
 refine df K.tab (F:=F90) (t:=4) rfl rfl rfl (lb rfl) (by simp[dE,bh]) (d6 _ _) (g.nodes.length+1) ?_;have hm:=bC nc 3 cP g.nodes;simp only[F90,↓qU,seval];simp only[↓pa,pb,ah,seval,gc];refine a7 (fun k fr st=>∃ i:Nat,k=g.nodes.length-i/\i<=g.nodes.length/\fr 1=I id/\fr 8=NX g.nodes/\fr 9=I g.nodes.length/\fr 10=I i/\nB id (g.nodes.drop i) i=cU g.nodes id) g.nodes.length (by omega) ⟨0,by simp,by omega,by simp only[↓pa,pb,seval],by simp only[↓pa,seval],by simp only[↓pa,seval],by simp only[↓pa,seval]<;>rfl,rfl⟩ ?_
 rintro k fr st ⟨i,rfl,hi,f1,f8,f9,f10,hQ⟩;simp only[↓pa,pb,ak,seval,f9,f10];refine af (fun h1=>?_) (fun h1=>?_)
 ·rw[bj h1,nB]at hQ;simp (maxSteps:=1000000) (disch:=omega)only[↓pa,pb,ah,seval,f1,f8,f10,h1,lR h1,nc];refine af (fun h2=>?_) (fun h2=>?_)
  ·rw[am h2]at hQ;simp only[↓pa,pb,seval,h2];rw[<-hQ]
  ·rw[ai h2]at hQ;simp (maxSteps:=1000000) (disch:=omega)only[↓pa,pb,ak,seval,f1,f8,f9,f10,h2];exact⟨g.nodes.length- (i+1),by omega,i+1,rfl,by omega,rfl,hQ⟩
 ·have:i=g.nodes.length:=by omega
  rw[this,jH]at hQ;simp only[↓pa,pb,seval,h1];rw[<-hQ];rfl
def yJ(p:PV):Bool:=match p with
 | .int _ _=>true
 | .str _=>true
 | .bool _=>true
 |_=>false
def B5{cs:List PV}(h:∀ p∈cs,yJ p=true):bq cs=true/\aw cs=[]:=by
 induction cs with
 |nil=>exact⟨rfl,rfl⟩
 |cons c cs ih=>
  obtain⟨h1,h2⟩:=ih fun p hp=>h p (ce _ hp);have h0:=h c List.mem_cons_self;simp only[bq,aw,h1,h2];cases c<;>simp_all [yJ,aY,aB]
def DN{st:St}{k n:Nat}(h1:k<st.nx)(h2:st.cnt k=n)(h3:st.fl<=k):a8 st [(k,n)]:=by
 refine⟨fun j=>?_,fun q hq=>?_⟩
 ·simp only[ck];split<;>omega
 ·simp only[dM]at hq;subst hq;exact⟨h1,h2,h3⟩
def eN{st:St}:a8 st []:=⟨fun _=>by simp[ck],by simp⟩
def HN{f e sz by_:Nat}{F:bw}(hE:F.res=[.tmp 2]/\F.own=true/\1<=F.nt)(hT:T f=some F)
  (hb:F.body= .seq (.reg [⟨none,(some 2),.mv (.k (.list 0 [] .nil))⟩] []) (.seq (.seq (.reg [⟨none,(some 3),.mv (.sl 0)⟩,⟨none,(some 4),.len (.sl 3)⟩,⟨none,(some 5),.bin .eql (.sl 4) (.k (.int .i64 0))⟩] []) (.cond (.sl 5) (.seq (.reg [⟨none,(some 2),.mv (.k (.list 0 [] .nil))⟩] []) (.ret)) (.skip)))
   (.seq (.reg [⟨none,(some 6),.mv (.sl 0)⟩,⟨none,(some 7),.len (.sl 6)⟩,⟨none,(some 8),.mk0 e sz by_ (.k (.int .i64 0)) (.sl 7)⟩,⟨none,(some 9),.mv (.sl 0)⟩,⟨none,(some 10),.app e sz by_ (.sl 8) (.sl 9)⟩,⟨none,(some 2),.mv (.sl 10)⟩] []) (.ret))))
  (hsz:0<sz) (hby:by_<=1000) (K:bO cf) {n:Nat} {cs:List PV} (hp:cZ cs) (hfl:∀ p∈cs,yJ p=true) (hcl:cs.length=n*sz) (hl:n<=2000000):
  ∃ r ns,az cf f [.list n cs .no] [] st=some (r,st.more ns)/\dC st.nx ns r/\aO r= .list n cs .no:=by
 obtain⟨e1,e2,e3⟩:=hE;refine oT K.tab (F:=F) (Q:=fun r=>r= .list n cs .no) hT e1 e2 (by simpa using e3) (by simp[gk hp]) 1 ?_;rw[hb];simp only[↓pa,pb,seval];refine af (fun h0=>?_) (fun h0=>?_)
 ·have hn:n=0:=by omega
  subst hn;have:cs=[]:=cq (by omega);subst this;simp only[↓pa,pb,seval,di,h0];exact⟨rfl,rfl,rfl,eN,rfl⟩
 ·have hm:= @Hl e sz by_ (n:Int) (bV [] []) (by omega) (by have:=Nat.mul_le_mul hby hl;simp only[eQ];omega) (by omega) hsz;simp only[↓pa,↓au,pb,seval,di,h0,hm];refine bc (n:=0) (e:=e) ⟨by simp[St.more,bV],by simp[St.more,bV],rfl⟩ (by simp) hcl (by rw[ar];have:=Nat.mul_le_mul hl hby;omega) (by omega) hsz ?_;simp only[↓pa,ah,seval,di];obtain⟨s1,s2⟩:=B5 hfl;refine⟨rfl,?_,?_,?_,?_⟩
  ·simp only[aH,hp.1]
  ·simp only[cS,aY,s1,ay]
  ·simp only[cS,aB,s2,aD];refine DN ?_ ?_ ?_<;>simp[cV,St.more,St.count,bV]
  ·simp only[aH,hp.2.1,ar]
def Ck(K:bO cf)(l:List (List UInt8))(hl:l.length<=2000000):∃ r ns,az cf 103 [TX l] [] st=some (r,st.more ns)/\dC st.nx ns r/\aO r=TX l:=
 HN (F:=F103) ⟨rfl,rfl,Nat.le_of_ble_eq_true rfl⟩ rfl rfl (by decide) (by decide) K (by induction l with|nil=>exact eC|cons x l ih=>exact bQ (bR _) (ih (by simp at hl;omega))) (by simp[yJ,S]) (by simp) hl
def HO(K:bO cf)(l:List Fd)(hl:l.length<=2000000):∃ r ns,az cf 108 [FX l] [] st=some (r,st.more ns)/\dC st.nx ns r/\aO r=FX l:=
 HN (F:=F108) ⟨rfl,rfl,Nat.le_of_ble_eq_true rfl⟩ rfl rfl (by decide) (by decide) K (gK l) (by intro p hp;obtain⟨x,-,h⟩:=nP.1 hp;simp only[fc,aZ,eo,or_false]at h;rcases h with rfl|rfl<;>rfl) (by rw[eH]) hl
def yO(K:bO cf)(e:Eg)(hl:e.fields.length<=2000000):∃ r ns,az cf 68 [.agg (ec e)] [] st=some (r,st.more ns)/\dC st.nx ns r/\aO r= .agg (ec e):=by
 refine oT K.tab (F:=F68) (Q:=fun r=>r= .agg (ec e)) rfl rfl rfl (lb rfl) (by simp[fR]) 1 ?_;simp only[F68,↓qU,seval];simp only[↓pa,pb,ah,seval,ec];refine dx (HO K e.fields hl) (fun r ns hF hr=>?_);obtain⟨ds,u,rfl,hd,-⟩:=bu hr;simp only[↓pa,pb,ah,seval,di];refine⟨rfl,?_,?_,?_,?_⟩
 ·simp only[aH,cH,bv];exact hF.np
 ·simp only[aY,bq,cH,bv];exact hF.so
 ·simp only[aB,aw,aU,aD];have:=hF.tk;simp only[aB]at this;rw[this];exact aT (aT (cK (aT (aT eN)) (aW _) ns))
 ·simp only[aH,hd]
def Cl(K:bO cf)(n:Nd)(h1:n.labels.length<=2000000)(hl:n.fields.length<=2000000):∃ r ns,az cf 66 [.agg (nc n)] [] st=some (r,st.more ns)/\dC st.nx ns r/\aO r= .agg (nc n):=by
 refine oT K.tab (F:=F66) (Q:=fun r=>r= .agg (nc n)) rfl rfl rfl (lb rfl) (by simp[gF]) 1 ?_;simp only[F66,↓qU,seval];simp only[↓pa,pb,ah,seval,nc];refine dx (Ck K n.labels h1) (fun r ns hF hr=>?_);obtain⟨ds,u,rfl,hd,-⟩:=bu hr;simp only[↓pa,pb,ah,seval,di];refine dx (HO K n.fields hl) (fun r2 ns2 hF2 hr2=>?_);obtain⟨ds2,u2,rfl,hd2,-⟩:=bu hr2;simp only[↓pa,pb,ah,seval,di];refine⟨rfl,?_,?_,?_,?_⟩
 ·simp only[aH,cH,bv];have a:=hF.np;have b:=hF2.np;simp only[aH]at a b;rw[a,b];rfl
 ·have a:=hF.so;have b:=hF2.so;simp only[aY,bq,cH,bv]at a b ⊢;rw[a,b];rfl
 ·have a:=hF.tk;have b:=hF2.tk;simp only[aB,aw,aU,aD]at a b ⊢;rw[a,b];exact aT (aT (cK (aT (cK (aT (aT eN)) (aW _) ns)) (by simp only[cA,St.more_fl,bV];exact aW _) ns2))
 ·simp only[aH,hd,hd2]
structure RG (cf:aJ):Prop where
 nil:∀ ds:List PV,ds.length=3->aX ds=true->cf 128 [.list 0 [] .nil,I 0,.list 1 ds .no] [] []=some (.list 1 ds (.own 0 72),[1],[])
 own:∀ (n i:Nat) (cs ds:List PV) (ns:List Nat),cs.length=n*3->ds.length=3->aX cs=true->aX ds=true->dN ([0].contains ·) cs=true->dN ([0].contains ·) ds=true->i<=n->n<=10000000->cf 128 [.list n cs (.own 0 72),I i,.list 1 ds .no] (n::ns) []=some (.list (n+1) (cs.take (i*3)++ds++cs.drop (i*3)) (.own 0 72),(n+1)::ns,[])
mutual
theorem Ln(K:Nat->Bool):∀ p:PV,aY p=true->(∀ q∈aB p,K q.1=false)->tf K p=true
 | .list n cs t,h,hk=>by
  simp only[aY,aj]at h;simp only[tf,aj];refine⟨?_,mZ K cs h.2 fun q hq=>hk q (by simp only[aB];exact dG _ hq)⟩;cases t with
  |own k e=>have:=hk (k,n) (by simp[aB]);simpa [aF.free,aF.of]using this
  |sub k=>exact absurd h.1 (by simp)
  |el _ _ _=>exact absurd h.1 (by simp)
  |_=>rfl
 | .agg cs,h,hk=>by simp only[aY]at h;simp only[tf];exact mZ K cs h hk
 | .tup cs,h,hk=>by simp only[aY]at h;simp only[tf];exact mZ K cs h hk
 | .fn _ cs,h,hk=>by simp only[aY]at h;simp only[tf];exact mZ K cs h hk
 | .iptr ..,h,_=>by simp[aY]at h
 | .ptr _ _,_,_=>rfl
 | .osl _ _ _ _,_,_=>rfl
 | .mp _,_,_=>rfl
 | .any,_,_=>rfl
 | .hole,_,_=>rfl
 | .int _ _,_,_=>rfl
 | .bool _,_,_=>rfl
 | .str _,_,_=>rfl
 | .nilp,_,_=>rfl
 | .nili,_,_=>rfl
 | .err,_,_=>rfl
theorem mZ(K:Nat->Bool):∀ ps:List PV,bq ps=true->(∀ q∈aw ps,K q.1=false)->dN K ps=true
 | [],_,_=>rfl
 |p::ps,h,hk=>by
  simp only[bq,aj]at h;simp only[dN,aj];exact⟨Ln K p h.1 fun q hq=>hk q (by simp only[aw];exact dk _ hq),mZ K ps h.2 fun q hq=>hk q (by simp only[aw];exact dG _ hq)⟩
end
def B9:∀ (ns:List Nat) (d:Nat) (q:Nat×Nat),q∈cB d ns->d<=q.1
 | [],_,_,h=>by simp[cB]at h
 |n::ns,d,q,h=>by
  rw[cB,aZ]at h;rcases h with rfl|h
  ·exact aP _
  ·have:=B9 ns (d+1) q h;omega
def dX:∀ cs:List PV,aQ cs=cs.map aO
 | []=>rfl
 |c::cs=>by have:=dX cs;simp only[aH,this,bg]
def vf(k:Nat)(cs:List PV):aQ (cs.take k)=(aQ cs).take k:=by rw[dX,dX,List.map_take]
def vg(k:Nat)(cs:List PV):aQ (cs.drop k)=(aQ cs).drop k:=by rw[dX,dX,List.map_drop]
def iy:∀ xs ys:List PV,aX (xs++ys)=(aX xs && aX ys)
 | [],ys=>rfl
 |x::xs,ys=>by have:=iy xs ys;simp only[bo,aH,this,Bool.and_assoc]
def Fh(nx:Nat):∀ (ns:List Nat) (d:Nat),(cB d ns).map (fun q=>(nx+q.1,q.2))=cB (nx+d) ns
 | [],_=>rfl
 |n::ns,d=>by rw[cB,bg,Fh nx ns (d+1),cB,lU]
def EV(p:PV)(as:List PV):List Nat:=match p with
 | .fn _ cap=>(dw (as++cap)).getD []
 |_=>[]
def zh:(∀ {fr:Fr} {f:CX} {as:List CX},br fr (.cval f as)=EV (f.ev fr) (as.map (·.ev fr)))/\(∀ {g:Nat} {as:List PV},EV (.fn g []) as=(dw as).getD [])/\(∀ {as:List PV},EV .hole as=[]):=by
 refine⟨?_,?_,rfl⟩
 ·intro fr f as;simp only[br,EV];cases f.ev fr<;>rfl
 ·intro g as;simp only[EV,aD]
def pm{cs:List PV}(h:aX cs=true):dw [.agg cs]=some []:=by
 have:np (.agg cs)=true:=h;simp[dw,this]
def jU{α:Type}(enc:α->List PV)(m:Nat)(h:∀ a,(enc a).length=m):∀ (l:List α) (i:Nat),(l.flatMap enc).take (i*m)=(l.take i).flatMap enc
 | [],i=>by simp
 |a::l,0=>by simp
 |a::l,i+1=>by
  rw[be,oj,be,fM,Nat.add_comm,<-h a,List.take_add,kY,jf,h a,jU enc m h l i]
def jV{α:Type}(enc:α->List PV)(m:Nat)(h:∀ a,(enc a).length=m):∀ (l:List α) (i:Nat),(l.flatMap enc).drop (i*m)=(l.drop i).flatMap enc
 | [],i=>by simp
 |a::l,0=>by simp
 |a::l,i+1=>by
  rw[be,List.drop_succ_cons,fM,Nat.add_comm,<-h a,<-jI,jf,h a,jV enc m h l i]
def mq(x:Nd):List Nd->List Nd
 | []=>[x]
 |y::l=>if y.id<x.id then y::mq x l else x::y::l
def yu{α:Type}{enc:α->List PV}{m:Nat}(hm:∀ a,(enc a).length=m){l:List α}{cs:List PV}(hL:aQ cs=l.flatMap enc)(hn:aX cs=true)(hc:cs.length=l.length*m){i:Nat}(h:i<l.length):
  bL cs (i*m) m true=some (.agg ((cs.drop (i*m)).take m))/\aQ ((cs.drop (i*m)).take m)=enc l[i]/\aX ((cs.drop (i*m)).take m)=true:=by
 have hle:i*m+m<=cs.length:=by rw[hc];have:=du m h;rw[fM]at this;exact this
 refine⟨by simp only[bL,am hle,if_true],?_,?_⟩
 ·rw[vf,vg,hL];have:=dY enc m hm 0 m true (by omega) l i h;have hl:(l.flatMap enc).length=l.length*m:=bC enc m hm l;rw[aI]at this;simp only[bL,hl,hm,am (show i*m+m<=l.length*m by rw[<-hc];exact hle),if_true,pF,ar,aP,bB,PV.agg.injEq]at this;rw[this,<-hm l[i],ly]
 ·have h1:=dy (i*m) cs;rw[<-h1,iy,aj]at hn;have h2:=dy m (cs.drop (i*m));rw[<-h2,iy,aj]at hn;exact hn.2.1
end Go.PM
namespace Go.PM
def s6(l:List Nd):Prop:=l.Pairwise fun a b=>a.id<b.id
def Ey:∀ {l:List Nd},(∀ i,(h:i+1<l.length)->l[i].id<l[i+1].id)->s6 l
 | [],_=>List.Pairwise.nil
 | [a],_=>gH _ _
 |a::b::l,h=>by
  have ih:s6 (b::l):=Ey fun i hi=>by
   have:=h (i+1) (by simp only[aA]at hi ⊢;omega);simpa using this
  have h0:a.id<b.id:=by simpa using h 0 (by simp)
  refine List.Pairwise.cons (fun c hc=>?_) ih;rcases aZ.1 hc with rfl|hc
  ·exact h0
  ·exact lA h0 ((bI.1 ih).1 c hc)
def Gy{g:cj}(h:eD g=true):s6 g.nodes:=by
 unfold eD at h;rw[aj,aj,aj]at h;refine Ey fun i hi=>?_;have:=qr.1 h.2.1 (i+1) hi;rw[fj,aj,sF]at this;have h2:=this.2;simp only[pc,l9 hi,l9 (show i<g.nodes.length by omega),cY,decide_eq_true_eq]at h2;rcases h2 with h2|h2
 ·omega
 ·exact h2
def Bi(es:List Eg)(e:Eg)(id:Int):uO (es++[e]) id=if e.dst=id then uO es id++[e.id]else uO es id:=by
 unfold uO;rw[pe,cn];by_cases h:e.dst=id<;>simp[h]
def CL{es:List Eg}{e:Eg}{n k:Int}{x:Nd}(h:x.id.tmod n=k\/e.dst≠x.id\/0<(uO es x.id).length):pJ (es++[e]) n k x=pJ es n k x:=by
 unfold pJ;by_cases h1:x.id.tmod n=k
 ·rw[am h1,am h1]
 ·rw[ai h1,ai h1,Bi];by_cases h2:e.dst=x.id
  ·rw[am h2];rcases h with h|h|h
   ·exact absurd h h1
   ·exact absurd h2 h
   ·rw[am h,am (by rw[ae];omega)]
  ·rw[ai h2]
def tI(es:List Eg)(x:Nd)(l:List Nd)(n k:Int):tJ es (x::l) n k=pJ es n k x++tJ es l n k:=by
 simp only[tJ,be]
def En{es:List Eg}{e:Eg}{n k:Int}:∀ {l:List Nd},(∀ x∈l,x.id.tmod n=k\/e.dst≠x.id\/0<(uO es x.id).length)->tJ (es++[e]) l n k=tJ es l n k
 | [],_=>rfl
 |x::l,h=>by rw[tI,tI,CL (h x List.mem_cons_self),En fun y hy=>h y (ce _ hy)]
def GS{es:List Eg}{n k:Int}{x y:Nd}(h:y∈pJ es n k x):y.id=x.id:=by
 unfold pJ at h;split at h
 ·simp at h;rw[h]
 ·split at h
  ·simp at h;rw[h]
  ·simp at h
def NC{es:List Eg}{n k:Int}{l:List Nd}{y:Nd}(h:y∈tJ es l n k):∃ x∈l,y∈pJ es n k x:=by
 unfold tJ at h;exact nP.1 h
def Dh{x:Nd}:∀ {l r:List Nd},(∀ y∈l,y.id<x.id)->mq x (l++r)=l++mq x r
 | [],r,_=>rfl
 |y::l,r,h=>by
  rw[bo,mq,am (h y List.mem_cons_self),Dh fun z hz=>h z (ce _ hz),bo]
def IL{x:Nd}{l:List Nd}(h:∀ y∈l,x.id<y.id):mq x l=x::l:=by
 cases l with
 |nil=>rfl
 |cons y l=>rw[mq,ai (by have:=h y List.mem_cons_self;omega)]
def NB{es:List Eg}{e:Eg}{n k:Int}(hm:e.dst.tmod n≠k)(h0:(uO es e.dst).length=0):∀ {l:List Nd},s6 l->jL l e.dst=true->tJ (es++[e]) l n k=mq ⟨e.dst,[],[]⟩ (tJ es l n k)
 | [],_,h=>by simp[jL]at h
 |x::l,hr,h=>by
  obtain⟨h1,h2⟩:=bI.1 hr;rw[tI,tI];by_cases hx:x.id=e.dst
  ·have a1:pJ es n k x=[]:=by unfold pJ;rw[hx,ai hm,ai (by omega)]
   have a2:pJ (es++[e]) n k x=[⟨e.dst,[],[]⟩]:=by unfold pJ;rw[hx,ai hm,Bi,am rfl,am (by rw[ae];simp)]
   have a3:tJ (es++[e]) l n k=tJ es l n k:=En fun y hy=> .inr (.inl (by have:=h1 y hy;omega));rw[a1,a2,a3,aU,kf,IL];intro y hy;obtain⟨z,hz,hy⟩:=NC hy;have:=GS hy;have:=h1 z hz
   show e.dst<y.id;omega
  ·have hl:jL l e.dst=true:=by
    simpa [jL,hx]using h
   have hlt:x.id<e.dst:=by
    obtain⟨z,hz,hy⟩:=List.any_eq_true.1 hl;have:=h1 z hz;simp at hy;omega
   rw[CL (.inr (.inl (Ne.symm hx))),NB hm h0 h2 hl,Dh];intro y hy;have:=GS hy
   show y.id<e.dst;omega
end Go.PM
namespace Go.PM
variable {cf:aJ} {st:St} {mk:PV->St->Fr×St} {A:Fr×St->Prop} {s:Nat}
def wU{l l':List (Nat×Nat)}(h:a8 st l)(h1:∀ k,ck k l'<=ck k l)(h2:∀ q∈l',q∈l):a8 st l':=
 ⟨fun k=>dJ (h1 k) (h.1 k),fun q hq=>h.2 q (h2 q hq)⟩
def iR{e sz bytes n m:Nat}{cs ds:List PV}{tk u:aF}{X Y:List (Nat×Nat)}(ht:jA e tk)(hs:aY (.list n cs tk)=true)(hd:bq ds=true)(hk:a8 st (X++aB (.list n cs tk)++Y++aw ds))(hf:st.fl=0)
  (h1:cs.length=n*sz) (h2:ds.length=m*sz) (h3:(n+m) *bytes<=140737488355328) (h4:n+m<=140737488355328) (h5:0<sz)
  (k:∀ st' tk',jA e tk'->aY (.list (n+m) (cs++ds) tk')=true->a8 st' (X++aB (.list (n+m) (cs++ds) tk')++Y)->st'.objs=st.objs->st'.fl=0->A (mk (.list (n+m) (cs++ds) tk') st')):dj (r7 e sz bytes (.list n cs tk) (.list m ds u) st) mk A:=by
 have hsc:bq cs=true:=by simp only[aY,aj]at hs;exact hs.2
 have hsa:bq (cs++ds)=true:=by rw[eu,hsc,hd];rfl
 rcases ht with rfl|⟨j,rfl⟩
 ·have hc:cs=[]:=by simp only[aY,aj,qz]at hs;exact hs.1
  subst hc;have hn:n=0:=by
   simp only[a6]at h1;rcases je n with h|h
   ·exact h
   ·have:=Nat.mul_pos h h5;omega
  subst hn;refine⟨_,_,tD (show Gr e st.nx st.cnt 0 .nil from rfl) h1 h2 h3 h4 h5,?_⟩;refine k _ _ (.inr ⟨_,rfl⟩) (by simp only[cS,aY,hsa,ay]) ?_ jX hf;have:=cK hk (by omega) [0+m];refine wU this (fun q=>?_) (fun q hq=>?_)
  ·simp only[cS,aB,bt,ck,cB,aU,aw];omega
  ·simp only[cS,aB,cB,aU,aw,aG,aZ,eo,or_false]at hq ⊢;rcases hq with(h|h|h)|h<;>simp[h]
 ·have hj:=hk.2 (j,n) (by simp[aB]);refine⟨_,_,tD (show Gr e st.nx st.cnt n (.own j e)from⟨hj.1,hj.2.1,rfl⟩) h1 h2 h3 h4 h5,?_⟩;refine k _ _ (.inr ⟨_,rfl⟩) (by simp only[cS,aY,hsa,ay]) ?_ jX hf;have hne:∀ q,q∈X\/q∈aw cs\/q∈Y\/q∈aw ds->q.1≠j:=by
   intro q hq he;have:=hk.1 j;simp only[aB,bt,ck,if_true]at this;have h0:0<ck j X\/0<ck j (aw cs)\/0<ck j Y\/0<ck j (aw ds):=by
    rcases hq with h|h|h|h
    ·exact .inl (fJ.2 ⟨q,h,he⟩)
    ·exact .inr (.inl (fJ.2 ⟨q,h,he⟩))
    ·exact .inr (.inr (.inl (fJ.2 ⟨q,h,he⟩)))
    ·exact .inr (.inr (.inr (fJ.2 ⟨q,h,he⟩)))
   omega
  refine⟨fun q=>?_,fun q hq=>?_⟩
  ·have:=hk.1 q;simp only[cS,aB,bt,ck,dP]at this ⊢;omega
  ·simp only[cS,aB,dP,aG,aZ,eo,or_false]at hq
   show q.1<st.nx/\(if q.1=j then n+m else st.cnt q.1)=q.2/\st.fl<=q.1;by_cases hqj:q=(j,n+m)
   ·subst hqj;exact⟨hj.1,by simp,by omega⟩
   ·have hm:q∈X\/q∈aw cs\/q∈Y\/q∈aw ds:=by
     rcases hq with(h|h|h|h)|h<;>simp_all
    rw[ai (hne q hm)];refine hk.2 q ?_;simp only[aB,aG];rcases hm with h|h|h|h<;>simp[h]
def Ns(t:Nat)(Q:PV->Prop)(e:Ex)(y:Fr×St):Prop:=kD e/\∃ el sz s n cs,y.1 t= .osl el sz s n/\y.2.objs s=some cs/\cs.length=n*sz/\n<=140737488355328/\aX cs=true/\bq cs=true/\a8 y.2 (aw cs)/\y.2.fl=0/\Q (.list n (aQ cs) .no)
def NH{f:Nat}{F:bw}{as:List PV}{t:Nat}(hown:F.own=true)(hres:F.res=[.tmp t])(hnk:F.nk=0)(N:Nat){ns:List Nat}{Q:PV->Prop}(hnt:as.length<=F.nt)(h:Wp cf N F.body (eM as,bV ns []) (Ns t Q)):
  ∃ r ns',gr cf N F as ns []=some (r,ns',[])/\dC 0 ns' r/\(∀ nx,dC nx ns' (ren (fun k=>some (nx+k)) false r))/\Q (aO r):=by
 obtain⟨e,⟨fr,s1⟩,hev,he,el,sz,s,n,cs,hr,ho,hl,hb,hn,hs,hk,hfl,hQ⟩:=h;have hb':n<=dL:=hb;have hso:aY (.list n cs (.own s1.nx el))=true:=by simp only[aY,hs,ay]
 have hk2:a8 {s1.more [n]with objs:=fun k=>if k=s then none else s1.objs k} (aB (.list n cs (.own s1.nx el))):=by
  have hm:=cK hk (by omega) [n];have hm2:a8 (s1.more [n]) (aB (.list n cs (.own s1.nx el))):=wU hm (fun q=>by simp only[aB,bt,ck,cB];omega) (fun q hq=>by
   simp only[aB,cB,aG,aZ,eo,or_false]at hq ⊢;exact hq.symm)
  exact hm2
 have hf:im F 0 fr s1=some (ren (bi ((aB (.list n cs (.own s1.nx el))).map (·.1))) false (.list n cs (.own s1.nx el)),(aB (.list n cs (.own s1.nx el))).map (·.2),[]):=by
  have h0:dz s1 (List.range 0)=some []:=rfl;have hp:fG fr s1 F.res=some [.osl el sz s n]:=by rw[hres];simp only[fG,od];rw[show fr t=_ from hr]
  have hm:dh F.nk [.osl el sz s n] s1=([.list n cs (.own s1.nx el)],{s1.more [n]with objs:=fun k=>if k=s then none else s1.objs k}):=by
   rw[dh];simp only[show s1.objs s=some cs from ho,hnk,aW,hl,hb',lw,if_true,cJ,dh]
  have hnp:np (.list n cs (.own s1.nx el))=true:=hn;simp only[im,hp,h0,hm,fW,hnp,dd,ay,if_true,hown,v7 hk2]
 refine⟨_,_,?_,(ni hso hn hk2.1 0).2,fun nx=>(ni hso hn hk2.1 nx).1,by rw[ij,fO];exact hQ⟩;unfold gr;rw[am ⟨hnt,aW _⟩,hev];cases e with
 |go=>exact hf
 |ret=>exact hf
 |exit i=>exact he.elim
def KM{f:Nat}{F:bw}{as:List PV}{t:Nat}(K:jj cf)(hT:T f=some F)(hres:F.res=[.tmp t])(hown:F.own=true)(hnk:F.nk=0)(hnt:as.length<=F.nt)(has:∀ p∈as,dq p)(N:Nat){v:PV}
  (h:Wp cf N F.body (eM as,bV [] []) (Ns t (· =v))):∃ r ns,az cf f as [] st=some (r,st.more ns)/\dC st.nx ns r/\aO r=v:=by
 obtain⟨h1,h2⟩:=dD has;obtain⟨r,ns,hrun,hF0,hF,hQ⟩:=NH (f:=f) hown hres hnk N hnt h;have hcf:=K f F hT N _ _ _ _ hrun;exact⟨_,ns,ye h1 (by rw[h2];exact hcf) hF0.so,hF st.nx,by rw[ij];exact hQ⟩
end Go.PM
namespace Go.PM
open Go.Lib
variable {cf:aJ} {st:St} {mk:PV->St->Fr×St} {A:Fr×St->Prop} {s:Nat}
structure RH (g:cj) (n:Int) (k:Nat) (st:St) (pre:List PV):Prop where
 len:pre.length=k*2
 so:bq pre=true
 np:aX pre=true
 st:aQ pre=(sC g n k).flatMap gc
def Dz(K:bO cf)(g:cj)(id:Int)(hl:g.nodes.length<=2000000){cs ds:List PV}{tk tk2:aF}(h1:fK nc 3 g.nodes cs)(h2:fK ec 5 g.edges ds):az cf 90 [.agg [.list g.nodes.length cs tk,.list g.edges.length ds tk2],I id] [] st=some (I (cU g.nodes id),st):=by
 have hm:([.agg [.list g.nodes.length cs tk,.list g.edges.length ds tk2],I id]:List PV).map aO=[.agg (gc g),I id]:=by
  simp only[bg,cJ,aH,h1.st,h2.st];rfl
 have hpl:∀ p∈ [PV.agg (gc g),I id],dq p:=by simp[dE,bh]
 obtain⟨q1,q2⟩:=dD hpl;rw[kR ?_ (by rw[hm];exact q1) (by rw[hm];exact q2),hm,Ai K g id hl];simp only[cT,dd,bF,aH,h1.np,h2.np,ay]
def ch(cs:List PV):(aQ cs).length=cs.length:=by rw[dX,bJ]
def E6(x:Nd):∀ l:List Nd,(mq x l).length=l.length+1
 | []=>rfl
 |y::l=>by
  rw[mq];split
  ·rw[aA,E6 x l,aA]
  ·rw[aA]
def uE{x:Nd}:bL (nc x) 0 1 false=some (I x.id):=rfl
def Ks(sz g:Nat):CC:=
 .seq (.reg [⟨none,(some 4),.mv (.k (.bool false))⟩] [])
 (.seq (.seq (.reg [⟨none,(some 6),.mv (.sl 0)⟩,
  ⟨none,(some 7),.len (.sl 6)⟩,
  ⟨none,(some 8),.mv (.sl 1)⟩,
  ⟨none,(some 9),.len (.sl 8)⟩,
  ⟨none,(some 10),.bin .neq (.sl 7) (.sl 9)⟩] [])
 (.cond (.sl 10) (.seq (.reg [⟨none,(some 4),.mv (.k (.bool false))⟩] [])
  (.ret)) (.skip)))
 (.seq (.seq (.reg [⟨none,(some 5),.mv (.k (.int .i64 0))⟩] [])
 (.block 0 (.loop (.seq (.seq (.reg [⟨none,(some 11),.mv (.sl 5)⟩,
   ⟨none,(some 12),.mv (.sl 0)⟩,
   ⟨none,(some 13),.len (.sl 12)⟩,
   ⟨none,(some 14),.bin .lss (.sl 11) (.sl 13)⟩] [])
  (.cond (.sl 14) (.skip) (.exit 0)))
  (.seq (.block 1 (.seq (.reg [⟨none,(some 17),.mv (.sl 0)⟩,
    ⟨none,(some 18),.mv (.sl 5)⟩,
    ⟨none,(some 19),.iad sz (.sl 17) (.sl 18)⟩,
    ⟨none,(some 20),.load sz true (.sl 19)⟩,
    ⟨none,(some 21),.mv (.sl 1)⟩,
    ⟨none,(some 22),.mv (.sl 5)⟩,
    ⟨none,(some 23),.iad sz (.sl 21) (.sl 22)⟩,
    ⟨none,(some 24),.load sz true (.sl 23)⟩,
    ⟨none,(some 25),.call g [(.sl 20),(.sl 24)] []⟩,
    ⟨none,(some 26),.un .not (.sl 25)⟩] [])
   (.cond (.sl 26) (.seq (.reg [⟨none,(some 4),.mv (.k (.bool false))⟩] [])
   (.ret)) (.skip))))
  (.reg [⟨none,(some 15),.mv (.sl 5)⟩,
   ⟨none,(some 16),.bin .add (.sl 15) (.k (.int .i64 1))⟩,
   ⟨none,(some 5),.mv (.sl 16)⟩] []))))))
 (.seq (.reg [⟨none,(some 4),.mv (.k (.bool true))⟩] [])
 (.ret))))
def BZ{α:Type}{enc:α->List PV}{m:Nat}(hm:∀ a,(enc a).length=m){l:List α}{i:Nat}(h:i<l.length):bL (l.flatMap enc) (i*m) m true=some (.agg (enc l[i])):=by
 have:=dY enc m hm 0 m true (by omega) l i h;rw[aI]at this;rw[this];simp only[bL,hm,ar,aP,if_true,pF];rw[<-hm l[i],ly]
def D8(K:bO cf){f sz g:Nat}{F:bw}(hT:T f=some F)(hF:F.body=Ks sz g/\F.res=[.tmp 4]/\F.own=false/\2<=F.nt){α:Type}(enc:α->List PV)(hm:∀ a,(enc a).length=sz)(hp:∀ a,cZ (enc a))(l:List α)(hl:l.length<=2000000)
  (he:∀ a∈l,∀ st,az cf g [.agg (enc a),.agg (enc a)] [] st=some (.bool true,st)):az cf f [.list l.length (l.flatMap enc) .no,.list l.length (l.flatMap enc) .no] [] st=some (.bool true,st):=by
 obtain⟨h1,h2,h3,h4⟩:=hF;refine df K.tab (F:=F) (t:=4) hT h2 h3 (by simpa using h4) (by simp[gk (fP enc hp l)]) (ct _) (l.length+1) ?_;have hlen:=bC enc sz hm l;rw[h1,Ks];simp only[↓pa,pb,seval,al];refine a7 (fun k fr st=>∃ i:Nat,k=l.length-i/\i<=l.length/\fr 0= .list l.length (l.flatMap enc) .no/\fr 1= .list l.length (l.flatMap enc) .no/\fr 5=I i) l.length (by omega) ⟨0,by simp,by omega,by simp only[↓pa,seval],by simp only[↓pa,seval],by simp only[↓pa,seval]<;>rfl⟩ ?_
 rintro k fr st ⟨i,rfl,hi,f0,f1,f5⟩;simp only[↓pa,pb,ak,seval,f0,f5];refine af (fun h=>?_) (fun h=>?_)
 ·have hlt:i<l.length:=h;have hc:=he _ (cp hlt);simp (maxSteps:=1000000) (disch:=omega)only[↓pa,pb,ak,seval,f0,f1,f5,h,BZ hm hlt,hc];exact⟨l.length- (i+1),by omega,i+1,rfl,by omega,rfl⟩
 ·simp only[↓pa,pb,seval,h]
def PK(K:bO cf)(x:Fd):az cf 176 [.agg (fc x),.agg (fc x)] [] st=some (.bool true,st):=by
 refine df K.tab (F:=F176) (t:=4) rfl rfl rfl (lb rfl) (by have:=(gK [x]);simp at this;simp[gd this]) (ct _) 1 ?_;simp only[F176,↓qU,seval];simp only[↓pa,pb,ah,seval,al,fc]
def Nn(K:bO cf)(l:List Fd)(hl:l.length<=2000000):az cf 130 [FX l,FX l] [] st=some (.bool true,st):=
 D8 K (F:=F130) rfl ⟨rfl,rfl,rfl,(lb rfl)⟩ fc (fun _=>rfl) (fun a=>by have:=gK [a];simpa using this) l hl fun a _ st=>PK K a
def QN(K:bO cf)(l:List (List UInt8))(hl:l.length<=2000000):az cf 129 [TX l,TX l] [] st=some (.bool true,st):=by
 refine df K.tab (F:=F129) (t:=4) rfl rfl rfl (lb rfl) (by simp[fy]) (ct _) (l.length+1) ?_;have hm:(l.map S).length=l.length:=by simp
 simp only[F129,↓qU,seval];simp only[↓pa,pb,seval,al];refine a7 (fun k fr st=>∃ i:Nat,k=l.length-i/\i<=l.length/\fr 0=TX l/\fr 1=TX l/\fr 5=I i) l.length (by omega) ⟨0,by simp,by omega,by simp only[↓pa,seval],by simp only[↓pa,seval],by simp only[↓pa,seval]<;>rfl⟩ ?_
 rintro k fr st ⟨i,rfl,hi,f0,f1,f5⟩;simp only[↓pa,pb,ak,seval,f0,f5];refine af (fun h=>?_) (fun h=>?_)
 ·have hlt:i<l.length:=h;simp (maxSteps:=1000000) (disch:=omega)only[↓pa,pb,ak,seval,al,f0,f1,f5,h,eh,gZ hlt];exact⟨l.length- (i+1),by omega,i+1,rfl,by omega,rfl⟩
 ·simp only[↓pa,pb,seval,h]
def K0(K:bO cf)(x:Nd)(h1:x.labels.length<=2000000)(h2:x.fields.length<=2000000):az cf 93 [.agg (nc x),.agg (nc x)] [] st=some (.bool true,st):=by
 refine df K.tab (F:=F93) (t:=4) rfl rfl rfl (lb rfl) (by simp[gF]) (ct _) 1 ?_;have ht:=fun st=>QN (st:=st) K x.labels h1;have hf:=fun st=>Nn (st:=st) K x.fields h2;simp only[F93,↓qU,seval];simp only[↓pa,pb,ah,seval,al,nc,ht,hf]
def K1(K:bO cf)(x:Eg)(h2:x.fields.length<=2000000):az cf 94 [.agg (ec x),.agg (ec x)] [] st=some (.bool true,st):=by
 refine df K.tab (F:=F94) (t:=4) rfl rfl rfl (lb rfl) (by simp[fR]) (ct _) 1 ?_;have hf:=fun st=>Nn (st:=st) K x.fields h2;simp only[F94,↓qU,seval];simp only[↓pa,pb,ah,seval,al,ec,hf]
structure M6 (g:cj):Prop where
 ns:g.nodes.length<=2000000
 es:g.edges.length<=2000000
 nf:∀ x∈g.nodes,x.fields.length<=2000000/\x.labels.length<=2000000
 ef:∀ e∈g.edges,e.fields.length<=2000000
def PJ(K:bO cf)(g:cj)(h:M6 g):az cf 13 [.agg (gc g),.agg (gc g)] [] st=some (.bool true,st):=by
 refine df K.tab (F:=F13) (t:=4) rfl rfl rfl (lb rfl) (by simp[dE]) (ct _) 1 ?_;have ht:=fun st=>D8 (st:=st) K (f:=48) (F:=F48) rfl ⟨rfl,rfl,rfl,(lb rfl)⟩ nc cP ny g.nodes h.ns fun a ha st=>K0 K a (h.nf a ha).2 (h.nf a ha).1;have hf:=fun st=>D8 (st:=st) K (f:=49) (F:=F49) rfl ⟨rfl,rfl,rfl,(lb rfl)⟩ ec cN nH g.edges h.es fun a ha st=>K1 K a (h.ef a ha);simp only[F13,↓qU,seval];simp only[↓pa,pb,ah,seval,gc,ht,hf]
def dg:Nat->Nat->List UInt8->List UInt8
 |0,_,out=>out
 |f+1,k,out=>if k=0 then out else dg f (k / 10) (UInt8.ofNat (48+k % 10)::out)
def mt(k:Nat):List UInt8:=if k=0 then [109,48]else 109::dg k k []
def N6:∀ (f:Nat) (out:List UInt8),dg f 0 out=out
 |0,_=>rfl
 |f+1,out=>by rw[dg,am rfl]
def gL(K:bO cf)(k:Nat)(hk:k<=1000000000000):az cf 59 [I k] [] st=some (S (mt k),st):=by
 refine df K.tab (F:=F59) (t:=2) rfl rfl rfl (lb rfl) (by simp[bh]) (nK _) (k+1) ?_;simp only[F59,↓qU,reduceAdd,reduceSub];simp only[↓pa,pb,↓reduceIte,reduceCtorEq];refine af (fun h0=>?_) (fun h0=>?_)
 ·have:k=0:=by omega
  subst this;simp only[↓pa,pb,↓reduceIte,reduceAdd];rfl
 simp only[↓pa,pb,h0];refine a7 (fun q fr st=>∃ (f j:Nat) (out:List UInt8),q=j/\j<=f/\fr 0=I j/\fr 3=S out/\out.length+j<=k/\dg f j out=dg k k []) k (by omega) ⟨k,k,[],rfl,by omega,by simp only[↓pa,↓reduceIte,reduceCtorEq],by simp only[↓pa,↓reduceIte],by simp,rfl⟩ ?_;rintro q fr st ⟨f,j,out,rfl,hf,f0,f3,hl,hQ⟩;simp only[↓pa,pb,↓reduceIte,f0];refine af (fun h1=>?_) (fun h1=>?_)
 ·obtain⟨f,rfl⟩:∃ g,f=g+1:=⟨f-1,by omega⟩;rw[dg,ai (by omega)]at hQ;have hr:= @sv .i64 (q:Int) 10 (by omega);have hq:= @tm .i64 (q:Int) 10 (by omega);have e1:(q:Int).tmod 10=((q % 10:Nat):Int):=by rw[Int.ofNat_tmod];rfl
  have e2:(q:Int).tdiv 10=((q / 10:Nat):Int):=by rw[Int.ofNat_tdiv];rfl
  have e3:IntKind.i64.wrap ((q / 10:Nat):Int)=((q / 10:Nat):Int):=wrap_i64 (by omega) (by omega);have e4:IntKind.u8.wrap (48+((q % 10:Nat):Int))=48+((q % 10:Nat):Int):=GL (by omega) (by omega);have e5:(48+((q % 10:Nat):Int)).toNat=48+q % 10:=by omega
  have e6:([UInt8.ofNat (48+q % 10)]:List UInt8).length+out.length<=9223372036854775807:=by simp only[aA,a6];omega
  simp (maxSteps:=1000000) (disch:=omega)only[↓pa,↓au,pb,ah,↓reduceIte,reduceEqDiff,reduceAdd,reduceLeDiff,reduceLT,reduceCtorEq,f0,f3,h1,hr,hq,e1,e2,e3,e4,wQ,e5];exact⟨q / 10,by omega,f,q / 10,_,rfl,by omega,rfl,rfl,by simp only[bo,aU,aA];omega,hQ⟩
 ·have:q=0:=by omega
  subst this;rw[N6]at hQ;have e6:([109]:List UInt8).length+out.length<=9223372036854775807:=by simp only[aA,a6];omega
  have e7:(PV.str ⟨#[109]⟩)=S [109]:=rfl;simp (maxSteps:=1000000) (disch:=omega)only[↓pa,pb,↓reduceIte,reduceEqDiff,f3,h1,e7];rw[mt,ai (by omega),<-hQ];rfl
def rl(k n:Nat):List (List UInt8):=(List.range n).map fun i=>mt (k+i)
def mz(k n:Nat):List Fd:=(List.range n).map fun i=>(mt (k+2*i),mt (k+2*i+1))
def sW:List (Nat×Nat)->Nat->List Nd
 | [],_=>[]
 |(a,b)::l,k=>⟨k,rl (k+1) a,mz (k+1+a) b⟩::sW l (k+1+a+2*b)
def ep:List (Nat×Nat)->Nat->Nat
 | [],k=>k
 |(a,b)::l,k=>ep l (k+1+a+2*b)
def sX:List Nat->Nat->List Eg
 | [],_=>[]
 |b::l,k=>⟨k,mt (k+1),(k+2:Nat),(k+3:Nat),mz (k+4) b⟩::sX l (k+4+2*b)
def ey:List Nat->Nat->Nat
 | [],k=>k
 |b::l,k=>ey l (k+4+2*b)
def AU:List (List (Nat×Nat)×List Nat)->Nat->List cj
 | [],_=>[]
 |(a,b)::l,k=>⟨sW a k,sX b (ep a k)⟩::AU l (ey b (ep a k))
def mr:List (List (Nat×Nat)×List Nat)->Nat->Nat
 | [],k=>k
 |(a,b)::l,k=>mr l (ey b (ep a k))
def Ca:∀ (l:List (Nat×Nat)) (k:Nat),k<=ep l k
 | [],_=>aP _
 |(a,b)::l,k=>by have:=Ca l (k+1+a+2*b);rw[ep];omega
def yK:∀ (l:List Nat) (k:Nat),k<=ey l k
 | [],_=>aP _
 |b::l,k=>by have:=yK l (k+4+2*b);rw[ey];omega
def N4:∀ (l:List (List (Nat×Nat)×List Nat)) (k:Nat),k<=mr l k
 | [],_=>aP _
 |(a,b)::l,k=>by have:=N4 l (ey b (ep a k));have:=yK b (ep a k);have:=Ca a k;rw[mr];omega
def vE(k n:Nat):(rl k n).length=n:=by simp[rl]
def vF(k n:Nat):(mz k n).length=n:=by simp[mz]
def O0{k n i:Nat}(h:i<n):iV (rl k n) i=mt (k+i):=by simp[iV,rl,h]
def Ov(K:bO cf)(k n:Nat)(hk:k+n<=1000000000000):az cf 60 [TX (rl k n),I k] [] st=some (I (k+n:Nat),st):=by
 refine df K.tab (F:=F60) (t:=4) rfl rfl rfl (lb rfl) (by simp[fy,bh]) (d6 _ _) (n+1) ?_;have hm:((rl k n).map S).length=n:=by simp[vE]
 have hl:=vE k n;simp only[F60,↓qU,seval];simp only[↓pa,seval];refine a7 (fun q fr st=>∃ i:Nat,q=n-i/\i<=n/\fr 0=TX (rl k n)/\fr 1=I (k+i:Nat)/\fr 5=I i) n (by omega) ⟨0,by simp,by omega,by simp only[↓pa,seval],by simp only[↓pa,seval,aI],by simp only[↓pa,seval]<;>rfl⟩ ?_
 rintro q fr st ⟨i,rfl,hi,f0,f1,f5⟩;simp only[↓pa,pb,ak,seval,f0,f5,hl];refine af (fun h=>?_) (fun h=>?_)
 ·have hlt:i<n:=by omega
  have hp:= @gZ (rl k n) i (by rw[hl];exact hlt);have ht:=fun st=>gL (st:=st) K (k+i) (by omega);rw[O0 hlt]at hp;simp (maxSteps:=1000000) (disch:=omega)only[↓pa,↓ax,pb,ap,aq,ak,ad,aa,seval,al,f0,f1,f5,hl,h,eh,hp,ht];exact⟨n- (i+1),by omega,i+1,rfl,by omega,by congr 1,rfl⟩
 ·have:i=n:=by omega
  subst this;simp only[↓pa,pb,seval,f1,h]
def eE(left size:Nat):Int:=if size<=left then((left-size:Nat):Int)else-1
def fQ{α:Type}(m:α->Nat)(l:List α):Nat:=l.length+(l.map m).sum
def nq(l:List (List UInt8)):Nat:=fQ List.length l
def nu(x:Fd):Nat:=x.1.length+x.2.length
def oB(l:List Fd):Nat:=fQ nu l
def fE(x:Nd):Nat:=nq x.labels+oB x.fields
def jk(x:Eg):Nat:=x.type.length+oB x.fields
def mN(g:cj):Nat:=fQ fE g.nodes+fQ jk g.edges
def Ej{α:Type}(m:α->Nat){l:List α}{i:Nat}(h:i<l.length):((l.take (i+1)).map m).sum=((l.take i).map m).sum+m l[i]:=by
 rw[aV h,cn,List.sum_append];simp
def zD{α:Type}(m:α->Nat):∀ (l:List α) (i:Nat),((l.take i).map m).sum<=(l.map m).sum
 | [],i=>by simp
 |a::l,0=>by simp
 |a::l,i+1=>by have:=zD m l i;simp only[oj,bg,List.sum_cons];omega
def gg:Nat:=9223372036854775807
def Jt(sz g:Nat):CC:=
 .seq (.reg [⟨none,(some 4),.mv (.k (.int .i64 0))⟩] [])
 (.seq (.reg [⟨none,(some 6),.mv (.sl 1)⟩,
  ⟨none,(some 7),.mv (.sl 0)⟩,
  ⟨none,(some 8),.len (.sl 7)⟩,
  ⟨none,(some 9),.bin .sub (.sl 6) (.sl 8)⟩,
  ⟨none,(some 1),.mv (.sl 9)⟩] [])
 (.seq (.seq (.reg [⟨none,(some 10),.mv (.sl 1)⟩,
  ⟨none,(some 11),.bin .lss (.sl 10) (.k (.int .i64 0))⟩] [])
 (.cond (.sl 11) (.seq (.reg [⟨none,(some 4),.mv (.k (.int .i64 (-1)))⟩] [])
  (.ret)) (.skip)))
 (.seq (.seq (.reg [⟨none,(some 5),.mv (.k (.int .i64 0))⟩] [])
 (.block 0 (.loop (.seq (.seq (.reg [⟨none,(some 12),.mv (.sl 5)⟩,
   ⟨none,(some 13),.mv (.sl 0)⟩,
   ⟨none,(some 14),.len (.sl 13)⟩,
   ⟨none,(some 15),.bin .lss (.sl 12) (.sl 14)⟩] [])
  (.cond (.sl 15) (.skip) (.exit 0)))
  (.seq (.block 1 (.seq (.reg [⟨none,(some 18),.mv (.sl 0)⟩,
    ⟨none,(some 19),.mv (.sl 5)⟩,
    ⟨none,(some 20),.iad sz (.sl 18) (.sl 19)⟩,
    ⟨none,(some 21),.load sz true (.sl 20)⟩,
    ⟨none,(some 22),.mv (.sl 1)⟩,
    ⟨none,(some 23),.call g [(.sl 21),(.sl 22)] []⟩,
    ⟨none,(some 1),.mv (.sl 23)⟩] [])
   (.seq (.reg [⟨none,(some 24),.mv (.sl 1)⟩,
    ⟨none,(some 25),.bin .lss (.sl 24) (.k (.int .i64 0))⟩] [])
   (.cond (.sl 25) (.seq (.reg [⟨none,(some 4),.mv (.k (.int .i64 (-1)))⟩] [])
   (.ret)) (.skip)))))
  (.reg [⟨none,(some 16),.mv (.sl 5)⟩,
   ⟨none,(some 17),.bin .add (.sl 16) (.k (.int .i64 1))⟩,
   ⟨none,(some 5),.mv (.sl 17)⟩] []))))))
 (.seq (.reg [⟨none,(some 26),.mv (.sl 1)⟩,
  ⟨none,(some 4),.mv (.sl 26)⟩] [])
 (.ret)))))
def D7(K:bO cf){f sz g:Nat}{F:bw}(hT:T f=some F)(hF:F.body=Jt sz g/\F.res=[.tmp 4]/\F.own=false/\2<=F.nt){α:Type}(enc:α->List PV)(hm:∀ a,(enc a).length=sz)(hp:∀ a,cZ (enc a))(m:α->Nat)(l:List α)(hl:l.length<=gg)(left:Nat)(hle:left<=2000000)
  (he:∀ a∈l,∀ left st,left<=2000000->az cf g [.agg (enc a),I (left:Nat)] [] st=some (I (eE left (m a)),st)):az cf f [.list l.length (l.flatMap enc) .no,I left] [] st=some (I (eE left (fQ m l)),st):=by
 obtain⟨h1,h2,h3,h4⟩:=hF;refine df K.tab (F:=F) (t:=4) hT h2 h3 (by simpa using h4) (by simp[gk (fP enc hp l),bh]) (d6 _ _) (l.length+1) ?_;have hlen:=bC enc sz hm l;have hb:l.length<=9223372036854775807:=hl;rw[h1,Jt];simp (maxSteps:=1000000) (disch:=omega)only[↓pa,pb,seval];refine af (fun h0=>?_) (fun h0=>?_)
 ·simp only[↓pa,pb,seval,h0];rw[eE,ai (by unfold fQ;omega)]
 simp only[↓pa,pb,seval,h0];refine a7 (fun k fr st=>∃ i r:Nat,k=l.length-i/\i<=l.length/\fr 0= .list l.length (l.flatMap enc) .no/\fr 1=I (r:Nat)/\fr 5=I i/\r+(l.length+((l.take i).map m).sum)=left) l.length (by omega) ⟨0,left-l.length,by simp,by omega,by simp only[↓pa,seval],by simp only[↓pa,seval];congr 1;omega,by simp only[↓pa,seval]<;>rfl,by simp;omega⟩ ?_
 rintro k fr st ⟨i,r,rfl,hi,f0,f1,f5,hr⟩;simp only[↓pa,pb,ak,seval,f0,f5];have hsum:=zD m l (i+1);refine af (fun h=>?_) (fun h=>?_)
 ·have hlt:i<l.length:=h;have hc:=fun st=>he _ (cp hlt) r st (by omega);have hn:=Ej m hlt;simp (maxSteps:=1000000) (disch:=omega)only[↓pa,pb,seval,f0,f1,f5,h,BZ hm hlt,hc];by_cases hd:m l[i]<=r
  ·have hdd:eE r (m l[i])=((r-m l[i]:Nat):Int):=by rw[eE,am hd]
   have hneg:¬ (((r-m l[i]:Nat):Int)<0):=by omega
   simp (maxSteps:=1000000) (disch:=omega)only[↓pa,pb,ak,seval,f0,f5,hdd,hneg];exact⟨l.length- (i+1),by omega,i+1,r-m l[i],rfl,by omega,rfl,rfl,by rw[hn];omega⟩
  ·have hdd:eE r (m l[i])= -1:=by rw[eE,ai hd]
   simp only[↓pa,pb,seval,hdd];rw[eE,ai (by unfold fQ;rw[hn]at hsum;omega)]
 ·have hie:l.take i=l:=aM (by omega);simp only[↓pa,pb,seval,f1,h];rw[hie]at hr;rw[eE,am (by unfold fQ;omega)];congr 1;unfold fQ;omega
def QL(K:bO cf)(l:List (List UInt8))(hl:l.length<=gg/\∀ x∈l,x.length<=gg)(left:Nat)(hle:left<=2000000):az cf 116 [TX l,I left] [] st=some (I (eE left (nq l)),st):=by
 refine df K.tab (F:=F116) (t:=4) rfl rfl rfl (lb rfl) (by simp[fy,bh]) (d6 _ _) (l.length+1) ?_;have hm:(l.map S).length=l.length:=by simp
 have hb:l.length<=9223372036854775807:=hl.1;simp only[F116,↓qU,seval];simp (maxSteps:=1000000) (disch:=omega)only[↓pa,pb,seval];refine af (fun h0=>?_) (fun h0=>?_)
 ·simp only[↓pa,pb,seval,h0];rw[eE,ai (by unfold nq fQ;omega)]
 simp only[↓pa,pb,seval,h0];refine a7 (fun k fr st=>∃ i r:Nat,k=l.length-i/\i<=l.length/\fr 0=TX l/\fr 1=I (r:Nat)/\fr 5=I i/\r+(l.length+((l.take i).map List.length).sum)=left) l.length (by omega) ⟨0,left-l.length,by simp,by omega,by simp only[↓pa,seval],by simp only[↓pa,seval];congr 1;omega,by simp only[↓pa,seval]<;>rfl,by simp;omega⟩ ?_
 rintro k fr st ⟨i,r,rfl,hi,f0,f1,f5,hr⟩;simp only[↓pa,pb,ak,seval,f0,f5];have hsum:=zD List.length l (i+1);refine af (fun h=>?_) (fun h=>?_)
 ·have hlt:i<l.length:=h;have hn:=Ej List.length hlt;have ht:iV l i=l[i]:=by simp[iV,hlt]
  have hb2:l[i].length<=9223372036854775807:=hl.2 _ (cp hlt);simp (maxSteps:=1000000) (disch:=omega)only[↓pa,pb,seval,f0,f1,f5,h,eh,gZ hlt,ht];refine af (fun h2=>?_) (fun h2=>?_)
  ·simp only[↓pa,pb,seval,h2];rw[eE,ai (by unfold nq fQ;rw[hn]at hsum;omega)]
  ·simp (maxSteps:=1000000) (disch:=omega)only[↓pa,pb,ak,seval,f0,f5,h2];exact⟨l.length- (i+1),by omega,i+1,r-l[i].length,rfl,by omega,by congr 1;omega,rfl,by rw[hn];omega⟩
 ·have hie:l.take i=l:=aM (by omega);simp only[↓pa,pb,seval,f1,h];rw[hie]at hr;rw[eE,am (by unfold nq fQ;omega)];congr 1;unfold nq fQ;omega
def Ps(K:bO cf)(x:Fd)(h:x.1.length<=gg/\x.2.length<=gg)(left:Nat)(hle:left<=2000000):az cf 165 [.agg (fc x),I left] [] st=some (I (eE left (nu x)),st):=by
 refine df K.tab (F:=F165) (t:=4) rfl rfl rfl (lb rfl) (by have:=(gK [x]);simp at this;simp[gd this,bh]) (d6 _ _) 1 ?_;have h1:x.1.length<=9223372036854775807:=h.1;have h2:x.2.length<=9223372036854775807:=h.2;simp only[F165,↓qU,seval];simp (maxSteps:=1000000) (disch:=omega)only[↓pa,pb,ah,seval,fc];refine af (fun h3=>?_) (fun h3=>?_)
 ·simp only[↓pa,pb,seval,h3];rw[eE,ai (by unfold nu;omega)]
 simp (maxSteps:=1000000) (disch:=omega)only[↓pa,pb,ah,seval,h3];refine af (fun h4=>?_) (fun h4=>?_)
 ·simp only[↓pa,pb,seval,h4];rw[eE,ai (by unfold nu;omega)]
 simp only[↓pa,pb,seval,h4];rw[eE,am (by unfold nu;omega)];congr 1;unfold nu;omega
structure Jl (g:cj):Prop where
 ns:g.nodes.length<=gg
 es:g.edges.length<=gg
 nl:∀ x∈g.nodes,x.labels.length<=gg/\∀ t∈x.labels,t.length<=gg
 nf:∀ x∈g.nodes,x.fields.length<=gg/\∀ f∈x.fields,f.1.length<=gg/\f.2.length<=gg
 et:∀ x∈g.edges,x.type.length<=gg
 ef:∀ x∈g.edges,x.fields.length<=gg/\∀ f∈x.fields,f.1.length<=gg/\f.2.length<=gg
def KP(K:bO cf)(l:List Fd)(h:l.length<=gg/\∀ f∈l,f.1.length<=gg/\f.2.length<=gg)(left:Nat)(hle:left<=2000000):az cf 117 [FX l,I left] [] st=some (I (eE left (oB l)),st):=
 D7 K (f:=117) (F:=F117) rfl ⟨rfl,rfl,rfl,(lb rfl)⟩ fc (fun _=>rfl) (fun a=>by have:=gK [a];simpa using this) nu l h.1 left hle fun a ha left st hl=>Ps K a (h.2 a ha) left hl
def KO(K:bO cf)(x:Nd)(h1:x.labels.length<=gg/\∀ t∈x.labels,t.length<=gg)(h2:x.fields.length<=gg/\∀ f∈x.fields,f.1.length<=gg/\f.2.length<=gg)(left:Nat)(hle:left<=2000000):az cf 79 [.agg (nc x),I left] [] st=some (I (eE left (fE x)),st):=by
 refine df K.tab (F:=F79) (t:=4) rfl rfl rfl (lb rfl) (by simp[gF,bh]) (d6 _ _) 1 ?_;have ht:=fun st=>QL (st:=st) K x.labels h1 left hle;have hf:=fun(left:Nat) (hl:left<=2000000) st=>KP (st:=st) K x.fields h2 left hl;simp only[F79,↓qU,seval];simp only[↓pa,pb,ah,seval,nc,ht];by_cases hd:nq x.labels<=left
 ·have hdd:eE left (nq x.labels)=((left-nq x.labels:Nat):Int):=by rw[eE,am hd]
  have hneg:¬ (((left-nq x.labels:Nat):Int)<0):=by omega
  have hf2:=hf (left-nq x.labels) (by omega);simp only[↓pa,pb,ah,seval,hdd,hneg,hf2];by_cases hd2:oB x.fields<=left-nq x.labels
  ·have hdd2:eE (left-nq x.labels) (oB x.fields)=((left-nq x.labels-oB x.fields:Nat):Int):=by rw[eE,am hd2]
   have hneg2:¬ (((left-nq x.labels-oB x.fields:Nat):Int)<0):=by omega
   simp only[↓pa,pb,seval,hdd2,hneg2];rw[eE,am (by unfold fE;omega)];congr 1;unfold fE;omega
  ·have hdd2:eE (left-nq x.labels) (oB x.fields)= -1:=by rw[eE,ai hd2]
   simp only[↓pa,pb,seval,hdd2];rw[eE,ai (by unfold fE;omega)]
 ·have hdd:eE left (nq x.labels)= -1:=by rw[eE,ai hd]
  simp only[↓pa,pb,seval,hdd];rw[eE,ai (by unfold fE;omega)]
def KQ(K:bO cf)(x:Eg)(h1:x.type.length<=gg)(h2:x.fields.length<=gg/\∀ f∈x.fields,f.1.length<=gg/\f.2.length<=gg)(left:Nat)(hle:left<=2000000):az cf 80 [.agg (ec x),I left] [] st=some (I (eE left (jk x)),st):=by
 refine df K.tab (F:=F80) (t:=4) rfl rfl rfl (lb rfl) (by simp[fR,bh]) (d6 _ _) 1 ?_;have hb:x.type.length<=9223372036854775807:=h1;have hf:=fun(left:Nat) (hl:left<=2000000) st=>KP (st:=st) K x.fields h2 left hl;simp only[F80,↓qU,seval];simp (maxSteps:=1000000) (disch:=omega)only[↓pa,pb,ah,seval,ec];refine af (fun h0=>?_) (fun h0=>?_)
 ·simp only[↓pa,pb,seval,h0];rw[eE,ai (by unfold jk;omega)]
 have e0:(left:Int) - (x.type.length:Int)=((left-x.type.length:Nat):Int):=by omega
 have hf2:=hf (left-x.type.length) (by omega);simp only[↓pa,pb,ah,seval,e0,hf2];by_cases hd2:oB x.fields<=left-x.type.length
 ·have hdd2:eE (left-x.type.length) (oB x.fields)=((left-x.type.length-oB x.fields:Nat):Int):=by rw[eE,am hd2]
  have hneg2:¬ (((left-x.type.length-oB x.fields:Nat):Int)<0):=by omega
  simp only[↓pa,pb,seval,hdd2,hneg2];rw[eE,am (by unfold jk;omega)];congr 1;unfold jk;omega
 ·have hdd2:eE (left-x.type.length) (oB x.fields)= -1:=by rw[eE,ai hd2]
  simp only[↓pa,pb,seval,hdd2];rw[eE,ai (by unfold jk;omega)]
def Pr(K:bO cf)(g:cj)(h:Jl g)(left:Nat)(hle:left<=2000000):az cf 8 [.agg (gc g),I left] [] st=some (I (eE left (mN g)),st):=by
 refine df K.tab (F:=F8) (t:=4) rfl rfl rfl (lb rfl) (by simp[dE,bh]) (d6 _ _) 1 ?_;have ht:=fun st=>D7 (st:=st) K (f:=38) (F:=F38) rfl ⟨rfl,rfl,rfl,(lb rfl)⟩ nc cP ny fE g.nodes h.ns left hle fun a ha left st hl=>KO K a (h.nl a ha) (h.nf a ha) left hl;have hf:=fun(left:Nat) (hl:left<=2000000) st=>D7 (st:=st) K (f:=39) (F:=F39) rfl ⟨rfl,rfl,rfl,(lb rfl)⟩ ec cN nH jk g.edges h.es left hl fun a ha left st hl=>KQ K a (h.et a ha) (h.ef a ha) left hl;simp only[F8,↓qU,seval];simp only[↓pa,pb,ah,seval,gc,ht];by_cases hd:fQ fE g.nodes<=left
 ·have hdd:eE left (fQ fE g.nodes)=((left-fQ fE g.nodes:Nat):Int):=by rw[eE,am hd]
  have hneg:¬ (((left-fQ fE g.nodes:Nat):Int)<0):=by omega
  have hf2:=hf (left-fQ fE g.nodes) (by omega);simp only[↓pa,pb,ah,seval,hdd,hneg,hf2];by_cases hd2:fQ jk g.edges<=left-fQ fE g.nodes
  ·have hdd2:eE (left-fQ fE g.nodes) (fQ jk g.edges)=((left-fQ fE g.nodes-fQ jk g.edges:Nat):Int):=by rw[eE,am hd2]
   have hneg2:¬ (((left-fQ fE g.nodes-fQ jk g.edges:Nat):Int)<0):=by omega
   simp only[↓pa,pb,seval,hdd2,hneg2];rw[eE,am (by unfold mN;omega)];congr 1;unfold mN;omega
  ·have hdd2:eE (left-fQ fE g.nodes) (fQ jk g.edges)= -1:=by rw[eE,ai hd2]
   simp only[↓pa,pb,seval,hdd2];rw[eE,ai (by unfold mN;omega)]
 ·have hdd:eE left (fQ fE g.nodes)= -1:=by rw[eE,ai hd]
  simp only[↓pa,pb,seval,hdd];rw[eE,ai (by unfold mN;omega)]
def jF{α:Type}{m:α->Nat}{l:List α}:l.length<=fQ m l:=by unfold fQ;omega
def BQ{α:Type}{m:α->Nat}{l:List α}{a:α}(h:a∈l):m a<=fQ m l:=by
 unfold fQ;have:m a<=(l.map m).sum:=by
  induction l with
  |nil=>simp at h
  |cons x l ih=>
   rw[bg,List.sum_cons];rcases aZ.1 h with rfl|h
   ·omega
   ·have:=ih h;omega
 omega
def N1{g:cj}(h:mN g<=1048576):M6 g:=by
 have h1:fQ fE g.nodes<=1048576:=by unfold mN at h;omega
 have h2:fQ jk g.edges<=1048576:=by unfold mN at h;omega
 refine⟨by have:= @jF _ fE g.nodes;omega,by have:= @jF _ jk g.edges;omega,fun x hx=>?_,fun x hx=>?_⟩
 ·have h3:fE x<=1048576:=dJ (BQ (m:=fE) hx) h1;unfold fE nq oB at h3;have h4:= @jF _ List.length x.labels;have h5:= @jF _ nu x.fields;exact⟨by omega,by omega⟩
 ·have h3:jk x<=1048576:=dJ (BQ (m:=jk) hx) h2;unfold jk oB at h3;have h5:= @jF _ nu x.fields;omega
end Go.PM
