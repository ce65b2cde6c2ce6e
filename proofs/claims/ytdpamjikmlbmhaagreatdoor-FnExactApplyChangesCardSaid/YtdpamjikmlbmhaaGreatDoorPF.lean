/- A part of the proof. Conditions: none. -/
import Derived.Test.YtdpamjikmlbmhaaGreatDoorPE
set_option linter.all false
set_option maxHeartbeats 9999999
open Nat (reduceEqDiff reduceAdd reduceLeDiff reduceLT reduceMul)
namespace Go.PM
open Go.Lib
variable {cf:aA} {st:St} {mk:PV->St->Fr×St} {A:Fr×St->Prop} {s:Nat}
def za(t:List UInt8)(o:Option (Nat->Option (V×Nat)))(i:Nat):Option (V×Nat):=match o with
 |some rd=>lI t rd i
 |none=>none
def B2(t:List UInt8)(o:Option (Nat->Option (V×Nat)))(i:Nat):Option (V×Nat):=match o with
 |some rd=>jL t rd i
 |none=>none
def x5(t:List UInt8)(o:Option (Nat->Option (V×Nat)))(i:Nat):mW t o i=
 if cI t i=34 then(qq t (i+1)).map fun q=>(.mk 3 0 0 q.1 [] [],q.2)
 else if cI t i=64 then(gH t (i+1)).map fun q=>(.mk 4 q.1 0 [] [] [],q.2)
 else if cI t i=45\/eW (cI t i)=true then(fF t i).map fun q=>(.mk 2 q.1 0 [] [] [],q.2)
 else if cI t i=40 then gL t (i+1)
 else if cI t i=91 then za t o (i+1)
 else if cI t i=123 then B2 t o (i+1)
 else if cI t i=60 then qR t (i+1)
 else if tk t i [110,117,108,108]then some (.mk 0 0 0 [] [] [],i+4)
 else if tk t i [116,114,117,101]then some (.mk 1 1 0 [] [] [],i+4)
 else if tk t i [102,97,108,115,101]then some (.mk 1 0 0 [] [] [],i+5)
 else if cI t i=110 then eD t 8 (i+1)
 else if cI t i=101 then eD t 9 (i+1)
 else none:=by cases o<;>rfl
def wL{t x:List UInt8}{i:Nat}(hi:i<=t.length)(h:tk t i x=true):i+x.length<=t.length:=by
 by_cases hx:t.length-i<x.length
 ·rw[I8 hi hx]at h;cases h
 ·omega
def xP(K:bJ cf){t:List UInt8}(hl:t.length<=2000000){b:Nat}{o:Option (Nat->Option (V×Nat))}(hV:∀ i,eC t b i=mW t o i)
  (hL:∀ (st:St) (s i:Nat),st.objs s=some [S t,I i]->i<=t.length->cI t i=91->∃ r c',mU t VA (za t o (i+1)) eO r c'/\∃ fl,av cf 223 [.ptr s 0,I (5- (b:Int))] [] st=some (r,cZ (bP st s c') fl))
  (hM:∀ (st:St) (s i:Nat),st.objs s=some [S t,I i]->i<=t.length->cI t i=123->∃ r c',mU t VA (B2 t o (i+1)) eO r c'/\∃ fl,av cf 224 [.ptr s 0,I (5- (b:Int))] [] st=some (r,cZ (bP st s c') fl)):zR cf t b:=by
 intro st s i hs hi;revert hL hM;generalize 5- (b:Int)=dp;intro hL hM;refine gA K.tab (F:=F201) rfl rfl rfl (lb rfl) (lb rfl) (by simp[aQ]) hs (fP t i) 1 ?_;unfold F201 qr qd qm qc qt qu qx qs qo qN;have hp:=(hV i).trans (x5 t o i);simp only[↓pa,pb,↓reduceIte,reduceCtorEq];refine(rS K.tab (t:=t) (i:=i) (by simp only[pb,↓reduceIte,reduceCtorEq])).2 ?_;simp only[↓pa,pb,↓reduceIte];refine aa (fun c1=>?_) (fun c1=>?_)
 ·rw[ak c1]at hp;simp only[↓pa,pb,↓reduceIte,reduceCtorEq,c1];refine hY (Ku K (t:=t) (i:=i) (by simp only[pb,↓reduceIte,reduceCtorEq]) hi hl c1) (fun v j fl hv hj=>?_) (fun p j fl hv hx hj=>?_)
  ·rw[hv]at hp;simp only[↓pa,↓bT,pb,ai,az,aj,ah,↓reduceIte,reduceEqDiff,reduceAdd,reduceLeDiff,reduceCtorEq];exact dO hp rfl rfl hj
  ·obtain⟨l,rfl⟩:=hx;rw[hv]at hp;simp only[↓pa,↓bT,pb,ai,az,aj,ah,↓reduceIte,reduceEqDiff,reduceAdd,reduceLeDiff,reduceCtorEq];exact bv hp ⟨_,rfl,rfl,by simp only[az,ap],by simp only[az]⟩ rfl rfl hj
 rw[ad c1]at hp;simp only[↓pa,pb,↓reduceIte,reduceEqDiff,c1];refine aa (fun c2=>?_) (fun c2=>?_)
 ·rw[ak c2]at hp;simp only[↓pa,pb,↓reduceIte,reduceCtorEq,c2];refine hY (Nt K (t:=t) (i:=i) (by simp only[pb,↓reduceIte,reduceCtorEq]) hi hl c2) (fun v j fl hv hj=>?_) (fun p j fl hv hx hj=>?_)
  ·rw[hv]at hp;simp only[↓pa,↓bT,pb,ai,az,aj,ah,↓reduceIte,reduceEqDiff,reduceAdd,reduceLeDiff,reduceCtorEq];exact dO hp rfl rfl hj
  ·obtain⟨l,rfl⟩:=hx;rw[hv]at hp;simp only[↓pa,↓bT,pb,ai,az,aj,ah,↓reduceIte,reduceEqDiff,reduceAdd,reduceLeDiff,reduceCtorEq];exact bv hp ⟨_,rfl,rfl,by simp only[az,ap],by simp only[az]⟩ rfl rfl hj
 rw[ad c2]at hp;by_cases c3:cI t i=45\/eW (cI t i)=true
 ·rw[ak c3]at hp;have c45:cI t i=45\/(¬cI t i=45/\eW (cI t i)=true):=by
   by_cases h:cI t i=45
   ·exact .inl h
   ·exact .inr ⟨h,c3.resolve_left h⟩
  rcases c45 with c45|⟨c45,cd⟩
  ·simp only[↓pa,pb,↓reduceIte,reduceEqDiff,Int.reduceEq,reduceCtorEq,c45];refine sg K (t:=t) (i:=i) (by simp only[pb,↓reduceIte,reduceCtorEq]) hi hl (fun a j fl hv hj=>?_) (fun n j fl hv hj=>?_)
   ·rw[hv]at hp;simp only[↓pa,↓bT,pb,ai,az,aj,ah,↓reduceIte,reduceEqDiff,reduceAdd,reduceLeDiff,reduceCtorEq];exact dO hp rfl rfl hj
   ·rw[hv]at hp;simp only[↓pa,↓bT,pb,ai,az,aj,ah,↓reduceIte,reduceEqDiff,reduceAdd,reduceLeDiff,reduceCtorEq];exact bv hp ⟨_,rfl,rfl,by simp only[az,ap],by simp only[az]⟩ rfl rfl hj
  ·simp only[↓pa,pb,↓reduceIte,reduceEqDiff,reduceCtorEq,c2,c45,qG K.tab,cd];refine sg K (t:=t) (i:=i) (by simp only[pb,↓reduceIte,reduceCtorEq]) hi hl (fun a j fl hv hj=>?_) (fun n j fl hv hj=>?_)
   ·rw[hv]at hp;simp only[↓pa,↓bT,pb,ai,az,aj,ah,↓reduceIte,reduceEqDiff,reduceAdd,reduceLeDiff,reduceCtorEq];exact dO hp rfl rfl hj
   ·rw[hv]at hp;simp only[↓pa,↓bT,pb,ai,az,aj,ah,↓reduceIte,reduceEqDiff,reduceAdd,reduceLeDiff,reduceCtorEq];exact bv hp ⟨_,rfl,rfl,by simp only[az,ap],by simp only[az]⟩ rfl rfl hj
 rw[ad c3]at hp;have c3a:¬cI t i=45:=fun h=>c3 (.inl h);have c3b:eW (cI t i)=false:=by cases h:eW (cI t i);rfl;exact absurd (.inr h) c3
 simp only[↓pa,pb,↓reduceIte,reduceEqDiff,c2,c3a,qG K.tab,c3b];refine aa (fun c4=>?_) (fun c4=>?_)
 ·rw[ak c4]at hp;simp only[↓pa,pb,↓reduceIte,reduceCtorEq,c4];refine hY (L7 K (t:=t) (i:=i) (by simp only[pb,↓reduceIte,reduceCtorEq]) hi hl c4) (fun v j fl hv hj=>?_) (fun p j fl hv hx hj=>?_)
  ·have hvl:=v.ca_len;simp (disch:=omega)only[↓pa,pb,ai,az,fg,aj,ah,↓reduceIte,reduceEqDiff,reduceAdd,reduceLeDiff,reduceCtorEq,hvl,d6,fz];exact dO (hp.trans hv) rfl rfl hj
  ·obtain⟨cs,rfl,hcs,hcn,hct⟩:=hx;simp (disch:=omega)only[↓pa,pb,ai,az,aj,ah,↓reduceIte,reduceEqDiff,reduceAdd,reduceLeDiff,reduceCtorEq,hcs,hcn,hct,d6,fz];exact bv (hp.trans hv) ⟨_,rfl,hcs,hcn,hct⟩ rfl rfl hj
 rw[ad c4]at hp;simp only[↓pa,pb,↓reduceIte,reduceEqDiff,c4];refine aa (fun c5=>?_) (fun c5=>?_)
 ·rw[ak c5]at hp;simp only[↓pa,pb,↓reduceIte,reduceEqDiff,reduceCtorEq,c5];refine hY (hL _ 0 i (by simp only[pb,↓reduceIte,reduceCtorEq]) hi c5) (fun v j fl hv hj=>?_) (fun p j fl hv hx hj=>?_)
  ·have hvl:=v.ca_len;simp (disch:=omega)only[↓pa,pb,ai,az,fg,aj,ah,↓reduceIte,reduceEqDiff,reduceAdd,reduceLeDiff,reduceCtorEq,hvl,d6,fz];exact dO (hp.trans hv) rfl rfl hj
  ·obtain⟨cs,rfl,hcs,hcn,hct⟩:=hx;simp (disch:=omega)only[↓pa,pb,ai,az,aj,ah,↓reduceIte,reduceEqDiff,reduceAdd,reduceLeDiff,reduceCtorEq,hcs,hcn,hct,d6,fz];exact bv (hp.trans hv) ⟨_,rfl,hcs,hcn,hct⟩ rfl rfl hj
 rw[ad c5]at hp;simp only[↓pa,pb,↓reduceIte,reduceEqDiff,c5];refine aa (fun c6=>?_) (fun c6=>?_)
 ·rw[ak c6]at hp;simp only[↓pa,pb,↓reduceIte,reduceEqDiff,reduceCtorEq,c6];refine hY (hM _ 0 i (by simp only[pb,↓reduceIte,reduceCtorEq]) hi c6) (fun v j fl hv hj=>?_) (fun p j fl hv hx hj=>?_)
  ·have hvl:=v.ca_len;simp (disch:=omega)only[↓pa,pb,ai,az,fg,aj,ah,↓reduceIte,reduceEqDiff,reduceAdd,reduceLeDiff,reduceCtorEq,hvl,d6,fz];exact dO (hp.trans hv) rfl rfl hj
  ·obtain⟨cs,rfl,hcs,hcn,hct⟩:=hx;simp (disch:=omega)only[↓pa,pb,ai,az,aj,ah,↓reduceIte,reduceEqDiff,reduceAdd,reduceLeDiff,reduceCtorEq,hcs,hcn,hct,d6,fz];exact bv (hp.trans hv) ⟨_,rfl,hcs,hcn,hct⟩ rfl rfl hj
 rw[ad c6]at hp;simp only[↓pa,pb,↓reduceIte,reduceEqDiff,c6];refine aa (fun c7=>?_) (fun c7=>?_)
 ·rw[ak c7]at hp;simp only[↓pa,pb,↓reduceIte,reduceCtorEq,c7];refine hY (Nc K (t:=t) (i:=i) (by simp only[pb,↓reduceIte,reduceCtorEq]) hi hl c7) (fun v j fl hv hj=>?_) (fun p j fl hv hx hj=>?_)
  ·have hvl:=v.ca_len;simp (disch:=omega)only[↓pa,pb,ai,az,fg,aj,ah,↓reduceIte,reduceEqDiff,reduceAdd,reduceLeDiff,reduceCtorEq,hvl,d6,fz];exact dO (hp.trans hv) rfl rfl hj
  ·obtain⟨cs,rfl,hcs,hcn,hct⟩:=hx;simp (disch:=omega)only[↓pa,pb,ai,az,aj,ah,↓reduceIte,reduceEqDiff,reduceAdd,reduceLeDiff,reduceCtorEq,hcs,hcn,hct,d6,fz];exact bv (hp.trans hv) ⟨_,rfl,hcs,hcn,hct⟩ rfl rfl hj
 rw[ad c7]at hp;simp only[↓pa,pb,↓reduceIte,reduceCtorEq,c7];refine(vQ K.tab (t:=t) (i:=i) (x:=[110,117,108,108]) (by simp only[pb,↓reduceIte,reduceCtorEq]) hi hl (by decide)).2 ?_;refine aa (fun c8=>?_) (fun c8=>?_)
 ·rw[ak c8]at hp;have:=wL hi c8;simp only[↓pa,↓bT,pb,ai,az,↓reduceIte,reduceEqDiff,reduceAdd,reduceLeDiff,reduceCtorEq];exact dO hp rfl rfl this
 rw[ad c8]at hp;simp only[↓pa,pb,↓reduceIte,reduceCtorEq];refine(vQ K.tab (t:=t) (i:=i) (x:=[116,114,117,101]) (by simp only[pb,↓reduceIte,reduceCtorEq]) hi hl (by decide)).2 ?_;refine aa (fun c9=>?_) (fun c9=>?_)
 ·rw[ak c9]at hp;have:=wL hi c9;simp only[↓pa,↓bT,pb,ai,az,↓reduceIte,reduceEqDiff,reduceAdd,reduceLeDiff,reduceCtorEq];exact dO hp rfl rfl this
 rw[ad c9]at hp;simp only[↓pa,pb,↓reduceIte,reduceCtorEq];refine(vQ K.tab (t:=t) (i:=i) (x:=[102,97,108,115,101]) (by simp only[pb,↓reduceIte,reduceCtorEq]) hi hl (by decide)).2 ?_;refine aa (fun c10=>?_) (fun c10=>?_)
 ·rw[ak c10]at hp;have:=wL hi c10;simp only[↓pa,↓bT,pb,ai,az,↓reduceIte,reduceEqDiff,reduceAdd,reduceLeDiff,reduceCtorEq];exact dO hp rfl rfl this
 rw[ad c10]at hp;simp only[↓pa,pb,↓reduceIte,reduceEqDiff];refine aa (fun c11=>?_) (fun c11=>?_)
 ·rw[ak c11]at hp;have hA:js t i=eD t 8 (i+1):=by rw[js,ad (by omega),ak c11]
  rw[<-hA]at hp;simp only[↓pa,pb,↓reduceIte,reduceEqDiff,reduceCtorEq,c11];refine hY (AB K (t:=t) (i:=i) (by simp only[pb,↓reduceIte,reduceCtorEq]) hi hl) (fun v j fl hv hj=>?_) (fun p j fl hv hx hj=>?_)
  ·have hvl:=v.ca_len;simp (disch:=omega)only[↓pa,pb,ai,az,fg,aj,ah,↓reduceIte,reduceEqDiff,reduceAdd,reduceLeDiff,reduceCtorEq,hvl,d6,fz];exact dO (hp.trans hv) rfl rfl hj
  ·obtain⟨cs,rfl,hcs,hcn,hct⟩:=hx;simp (disch:=omega)only[↓pa,pb,ai,az,aj,ah,↓reduceIte,reduceEqDiff,reduceAdd,reduceLeDiff,reduceCtorEq,hcs,hcn,hct,d6,fz];exact bv (hp.trans hv) ⟨_,rfl,hcs,hcn,hct⟩ rfl rfl hj
 rw[ad c11]at hp;simp only[↓pa,pb,↓reduceIte,reduceEqDiff,c11];refine aa (fun c12=>?_) (fun c12=>?_)
 ·rw[ak c12]at hp;have hA:js t i=eD t 9 (i+1):=by rw[js,ak c12]
  rw[<-hA]at hp;simp only[↓pa,pb,↓reduceIte,reduceCtorEq,c12];refine hY (AB K (t:=t) (i:=i) (by simp only[pb,↓reduceIte,reduceCtorEq]) hi hl) (fun v j fl hv hj=>?_) (fun p j fl hv hx hj=>?_)
  ·have hvl:=v.ca_len;simp (disch:=omega)only[↓pa,pb,ai,az,fg,aj,ah,↓reduceIte,reduceEqDiff,reduceAdd,reduceLeDiff,reduceCtorEq,hvl,d6,fz];exact dO (hp.trans hv) rfl rfl hj
  ·obtain⟨cs,rfl,hcs,hcn,hct⟩:=hx;simp (disch:=omega)only[↓pa,pb,ai,az,aj,ah,↓reduceIte,reduceEqDiff,reduceAdd,reduceLeDiff,reduceCtorEq,hcs,hcn,hct,d6,fz];exact bv (hp.trans hv) ⟨_,rfl,hcs,hcn,hct⟩ rfl rfl hj
 rw[ad c12]at hp;simp only[↓pa,↓bT,pb,ai,az,↓reduceIte,reduceEqDiff,reduceAdd,reduceLeDiff,reduceCtorEq,c12];exact bv hp ⟨_,rfl,rfl,by simp only[az,ap],by simp only[az]⟩ rfl rfl hi
def AA(K:bJ cf){t:List UInt8}(hl:t.length<=2000000):∀ b,b<=5->zR cf t b
 |0,_=>xP K hl (o:=none) (fun _=>rfl) (fun _ _ _ hs hi h=>Mc K hs hi hl h) (fun _ _ _ hs hi h=>Ng K hs hi hl h)
 |b+1,hb=>xP K hl (o:=some (eC t b)) (fun _=>rfl) (fun _ _ _ hs hi h=>Nh K hs hi hl (by omega) h (AA K hl b (by omega))) (fun _ _ _ hs hi h=>Od K hs hi hl (by omega) h (AA K hl b (by omega)))
def tL:(∀ {s:Nat},cX [.ptr s 0]=some [s])/\(∀ {s:Nat} {k:IntKind} {n:Int},cX [.ptr s 0,.int k n]=some [s])/\(∀ {s:Nat} {x:ByteArray},cX [.ptr s 0,.str x]=some [s]):=by
 refine⟨?_,?_,?_⟩<;>intros<;>rfl
def eM:eO fx:=⟨_,rfl,rfl,by simp only[az,ap],by simp only[az]⟩
def HF{acc:List V}{v:V}:PV.agg [I 10,I 0,I 0,S [],.list (acc.length+1) (V.cbs (acc++[v])) .no,.list 0 [] .no]=VB (.mk 10 0 0 [] [] (acc++[v])):=by
 rw[VB,V.cb,cS];rfl
def H0{acc:List V}{v:V}:PV.agg [I 6,I 0,I 0,S [],.list (acc.length+1) (V.cbs (acc++[v])) .no,.list 0 [] .no]=VB (.mk 6 0 0 [] [] (acc++[v])):=by
 rw[VB,V.cb,cS];rfl
def AP(K:bJ cf){t:List UInt8}{i:Nat}{k:Int}(hs:st.objs s=some [S t,I i,.bool false])(hi:i<=t.length)(hl:t.length<=2000000)
  (k1:∀ v j fl,eD t k i=some (v,j)->j<=t.length->A (mk (VB v) (cZ (bP st s [S t,I (j:Nat),.bool false]) fl)))
  (k2:∀ cs j fl,eD t k i=none->cs.length=6->aI cs=true->aF cs=cs->j<=t.length->A (mk (.agg cs) (cZ (bP st s [S t,I (j:Nat),.bool true]) fl))):cP (av cf 214 [.ptr s 0,I k] [] st) mk A:=by
 refine iQ (yC K hs hi hl) k1 ?_;rintro p j fl h1 ⟨cs,rfl,h2,h3,h4⟩ h5;exact k2 cs j fl h1 h2 h3 h4 h5
def L8(K:bJ cf){t:List UInt8}{i:Nat}(hs:st.objs s=some [S t,I i,.bool false])(hi:i<=t.length)(hl:t.length<=2000000):
  ∃ r c',oS t VB (qR t i) eO r c'/\∃ fl,av cf 215 [.ptr s 0] [] st=some (r,cZ (bP st s c') fl):=by
 refine gA K.tab (F:=F215) rfl rfl rfl (lb rfl) (lb rfl) (by simp) hs (gm t i _) (t.length+1) ?_;unfold F215 qr qd qm qi qc qk ql qf qt qu qy qn qs qo qN;simp only[↓pa,↓bT,pb,ai,↓reduceIte,reduceEqDiff,reduceAdd,reduceLeDiff];refine be (fun k fr st=>∃ (j n:Nat) (node:Bool) (acc:List V) (tok:aB),k=t.length-j/\j<=t.length/\acc.length<=j/\t.length-j<n/\(acc.length:Int).tmod 2=(if node then 0 else 1)/\fr 0= .ptr 0 0/\fr 2= .ptr 2 0/\fr 3= .ptr 3 0/\st.objs 0=some [S t,I j,.bool false]/\st.objs 2=some [I 0,I 0,I 0,S [],.list 0 [] .nil,.list 0 [] .nil]/\
  st.objs 3=some [I 10,I 0,I 0,S [],.list acc.length (V.cbs acc) tok,.list 0 [] .nil]/\Gr 199 st.nx st.cnt acc.length tok/\mJ t n node j acc=qR t i) (t.length-i) (by omega)
  ⟨i,t.length+1-i,true,[],.nil,rfl,by omega,aM _,by omega,rfl,by simp only[↓pa,pb,↓reduceIte,reduceCtorEq],by simp only[↓pa,pb,↓reduceIte,reduceEqDiff],by simp only[↓pa,↓reduceIte],by simp only[pb,↓reduceIte,reduceCtorEq],by simp only[pb,↓reduceIte,reduceEqDiff],by simp only[pb,↓reduceIte];rfl,rfl,rfl⟩ ?_
 rintro k fr st ⟨j,n,node,acc,tok,rfl,hj,hacc,hn,hpar,f0,f2,f3,o0,o2,o3,hG,hQ⟩;have hrem:=qZ (k:= .i64) (a:=(acc.length:Int)) (show(2:Int)≠0 by decide);rw[ER (by omega)]at hQ;cases node
 ·have hpar:(acc.length:Int).tmod 2=1:=hpar;have hpar':((acc++[V.mk 0 0 0 [] [] []]).length:Int).tmod 2=0:=by
   rw[cS];have e:((acc.length:Nat):Int).tmod 2=((acc.length % 2:Nat):Int):=rfl;have e2:((acc.length+1:Nat):Int).tmod 2=(((acc.length+1) % 2:Nat):Int):=rfl;rw[e]at hpar;rw[e2];omega
  rw[cS]at hpar';simp only[bG,if_false,false_and]at hQ;simp only[↓pa,pb,ai,↓reduceIte,reduceEqDiff,reduceAdd,reduceCtorEq,f0,f3,o0,o3,hrem,hpar];refine(eL K (t:=t) (i:=j) 101 rfl (by decide) (by simp only[o0]) hj hl).2 ?_;refine aa (fun hw=>?_) (fun hw=>?_);rotate_left
  ·rw[ad hw]at hQ;simp only[↓pa,pb,↓reduceIte,reduceCtorEq,f0];refine d8 K (t:=t) (i:=j) (b:=false) (by simp only[o0]) fun fl=>?_;simp only[↓pa,pb,ai,az,↓reduceIte,reduceEqDiff,reduceAdd,reduceLeDiff,reduceCtorEq,f2,o2,fx];exact a7 (dm:=eO) hQ.symm eM rfl hj
  rw[ak hw]at hQ;have hjl:=dt (show cI t j≠0 by rw[hw];decide);simp only[↓pa,↓dx,pb,ai,cB,↓reduceIte,reduceEqDiff,reduceAdd,reduceCtorEq,f0,f3,o3];refine AP K (t:=t) (i:=j+1) (by simp only[pb,↓reduceIte]) hjl hl (fun v j1 fl hv hj1=>?_) (fun cs j1 fl hv hcs hcn hct hj1=>?_);rotate_left
  ·rw[hv]at hQ;simp (disch:=omega)only[↓pa,↓bT,↓dx,pb,ai,cB,↓reduceIte,reduceEqDiff,reduceAdd,reduceLeDiff,reduceLT,hcs,d6,tL];refine bj (n:=acc.length) (m:=1) hG (by rw[V.cbs_len]) (by rw[hcs]) (by omega) (by omega) (by decide) ?_;simp only[↓pa,↓dx,pb,ai,cB,fD,aj,ah,↓reduceIte,reduceEqDiff,reduceAdd,reduceLeDiff,Int.reduceEq,reduceCtorEq,f0,f3,o3];refine(md K.tab (t:=t) (i:=j1) (by simp only[pb,ai,↓reduceIte,reduceCtorEq]) hj1 hl).2 ?_;simp only[↓pa,pb,↓reduceIte,reduceCtorEq,f0];refine d8 K (t:=t) (i:=j1) (b:=true) (by simp only[pb,ai,↓reduceIte,reduceCtorEq]) fun fl=>?_;simp only[↓pa,pb,ai,az,↓reduceIte,reduceEqDiff,reduceAdd,reduceLeDiff,reduceCtorEq,f2,o2,fx];exact a7 (dm:=eO) hQ.symm eM rfl hj1
  have hm:=oc hv;have hvl:=v.cb_len;rw[hv]at hQ;simp only at hQ;simp (disch:=omega)only[↓pa,↓bT,↓dx,pb,ai,cB,↓reduceIte,reduceEqDiff,reduceAdd,reduceLeDiff,reduceLT,hvl,d6,tL];refine bj (n:=acc.length) (m:=1) hG (by rw[V.cbs_len]) (by rw[hvl]) (by omega) (by omega) (by decide) ?_;rw[V.cbs_snoc];simp only[↓pa,↓dx,pb,ai,cB,fD,aj,ah,↓reduceIte,reduceEqDiff,reduceAdd,reduceLeDiff,Int.reduceEq,reduceCtorEq,f0,f3,o3];refine(eL K (t:=t) (i:=j1) 32 rfl (by decide) (by simp only[pb,ai,↓reduceIte,reduceCtorEq]) hj1 hl).2 ?_;refine aa (fun h32=>?_) (fun h32=>?_)
  ·rw[ak h32]at hQ;have hjl2:=dt (show cI t j1≠0 by rw[h32];decide);simp only[↓pa,pb,ai,↓reduceIte,reduceEqDiff,reduceCtorEq,f0,f2,f3,o2];exact⟨t.length- (j1+1),by omega,j1+1,n-1,true,acc++[v],_,rfl,by omega,by rw[cS];omega,by omega,by rw[cS];exact hpar',rfl,by rw[cS],by rw[cS];exact di hG,hQ⟩
  ·rw[ad h32]at hQ;simp only[↓pa,pb,↓reduceIte,reduceCtorEq,f0];refine d8 K (t:=t) (i:=j1) (b:=false) (by simp only[pb,ai,↓reduceIte,reduceCtorEq]) fun fl=>?_;simp only[↓pa,pb,ai,az,↓reduceIte,reduceEqDiff,reduceAdd,reduceLeDiff,reduceCtorEq,f2,o2,fx];exact a7 (dm:=eO) hQ.symm eM rfl hj1
 ·have hpar:(acc.length:Int).tmod 2=0:=hpar;have hpar':((acc.length+1:Nat):Int).tmod 2=1:=by
   have e:((acc.length:Nat):Int).tmod 2=((acc.length % 2:Nat):Int):=rfl;have e2:((acc.length+1:Nat):Int).tmod 2=(((acc.length+1) % 2:Nat):Int):=rfl;rw[e]at hpar;rw[e2];omega
  simp only[if_true,true_and]at hQ;simp only[↓pa,pb,ai,↓reduceIte,reduceEqDiff,reduceAdd,Int.reduceEq,reduceCtorEq,f0,f3,o0,o3,hrem,hpar];refine(eL K (t:=t) (i:=j) 110 rfl (by decide) (by simp only[o0]) hj hl).2 ?_;refine aa (fun hw=>?_) (fun hw=>?_);rotate_left
  ·rw[ad hw]at hQ;simp only[↓pa,pb,↓reduceIte,reduceCtorEq,f0];refine d8 K (t:=t) (i:=j) (b:=false) (by simp only[o0]) fun fl=>?_;simp only[↓pa,pb,ai,az,↓reduceIte,reduceEqDiff,reduceAdd,reduceLeDiff,reduceCtorEq,f2,o2,fx];exact a7 (dm:=eO) hQ.symm eM rfl hj
  rw[ak hw]at hQ;have hjl:=dt (show cI t j≠0 by rw[hw];decide);simp only[↓pa,↓dx,pb,ai,cB,↓reduceIte,reduceEqDiff,reduceAdd,reduceCtorEq,f0,f3,o3];refine AP K (t:=t) (i:=j+1) (by simp only[pb,↓reduceIte]) hjl hl (fun v j1 fl hv hj1=>?_) (fun cs j1 fl hv hcs hcn hct hj1=>?_);rotate_left
  ·rw[hv]at hQ;simp (disch:=omega)only[↓pa,↓bT,↓dx,pb,ai,cB,↓reduceIte,reduceEqDiff,reduceAdd,reduceLeDiff,reduceLT,hcs,d6,tL];refine bj (n:=acc.length) (m:=1) hG (by rw[V.cbs_len]) (by rw[hcs]) (by omega) (by omega) (by decide) ?_;simp only[↓pa,↓dx,pb,ai,cB,fD,aj,ah,↓reduceIte,reduceEqDiff,reduceAdd,reduceLeDiff,reduceCtorEq,f0,f3,o3];refine(md K.tab (t:=t) (i:=j1) (by simp only[pb,ai,↓reduceIte,reduceCtorEq]) hj1 hl).2 ?_;simp only[↓pa,pb,↓reduceIte,reduceEqDiff,reduceCtorEq,f0];refine(md K.tab (t:=t) (i:=j1) (by simp only[pb,ai,↓reduceIte,reduceCtorEq]) hj1 hl).2 ?_;simp only[↓pa,pb,↓reduceIte,reduceCtorEq,f0];refine d8 K (t:=t) (i:=j1) (b:=true) (by simp only[pb,ai,↓reduceIte,reduceCtorEq]) fun fl=>?_;simp only[↓pa,pb,ai,az,↓reduceIte,reduceEqDiff,reduceAdd,reduceLeDiff,reduceCtorEq,f2,o2,fx];exact a7 (dm:=eO) hQ.symm eM rfl hj1
  have hm:=oc hv;have hvl:=v.cb_len;rw[hv]at hQ;simp only at hQ;simp (disch:=omega)only[↓pa,↓bT,↓dx,pb,ai,cB,↓reduceIte,reduceEqDiff,reduceAdd,reduceLeDiff,reduceLT,hvl,d6,tL];refine bj (n:=acc.length) (m:=1) hG (by rw[V.cbs_len]) (by rw[hvl]) (by omega) (by omega) (by decide) ?_;rw[V.cbs_snoc];simp only[↓pa,↓dx,pb,ai,cB,fD,aj,ah,↓reduceIte,reduceEqDiff,reduceAdd,reduceLeDiff,reduceCtorEq,f0,f3,o3];refine(eL K (t:=t) (i:=j1) 62 rfl (by decide) (by simp only[pb,ai,↓reduceIte,reduceCtorEq]) hj1 hl).2 ?_;refine aa (fun h62=>?_) (fun h62=>?_)
  ·rw[ak h62]at hQ;have hjl2:=dt (show cI t j1≠0 by rw[h62];decide);simp only[↓pa,pb,ai,az,fg,↓reduceIte,reduceEqDiff,reduceAdd,reduceLeDiff,reduceCtorEq,f2,f3,o2];rw[HF];exact d7 hQ.symm rfl rfl hjl2
  rw[ad h62]at hQ;simp only[↓pa,pb,↓reduceIte,reduceEqDiff,reduceCtorEq,f0];refine(eL K (t:=t) (i:=j1) 32 rfl (by decide) (by simp only[pb,ai,↓reduceIte,reduceCtorEq]) hj1 hl).2 ?_;refine aa (fun h32=>?_) (fun h32=>?_)
  ·rw[ak h32]at hQ;have hjl2:=dt (show cI t j1≠0 by rw[h32];decide);simp only[↓pa,pb,ai,↓reduceIte,reduceEqDiff,reduceCtorEq,f0,f2,f3,o2];exact⟨t.length- (j1+1),by omega,j1+1,n-1,false,acc++[v],_,rfl,by omega,by rw[cS];omega,by omega,by rw[cS];exact hpar',rfl,by rw[cS],by rw[cS];exact di hG,hQ⟩
  ·rw[ad h32]at hQ;simp only[↓pa,pb,↓reduceIte,reduceCtorEq,f0];refine d8 K (t:=t) (i:=j1) (b:=false) (by simp only[pb,ai,↓reduceIte,reduceCtorEq]) fun fl=>?_;simp only[↓pa,pb,ai,az,↓reduceIte,reduceEqDiff,reduceAdd,reduceLeDiff,reduceCtorEq,f2,o2,fx];exact a7 (dm:=eO) hQ.symm eM rfl hj1
def wF(cf:aA)(t:List UInt8)(b:Nat):Prop:=∀ (st:St) (s i:Nat),st.objs s=some [S t,I i,.bool false]->i<=t.length->
 ∃ r c',oS t VB (eC t b i) eO r c'/\∃ fl,av cf 200 [.ptr s 0,I (5- (b:Int))] [] st=some (r,cZ (bP st s c') fl)
def Mb(K:bJ cf){t:List UInt8}{i b:Nat}(hs:st.objs s=some [S t,I i,.bool false])(hi:i<=t.length)(hl:t.length<=2000000)(hb:b<5)(ih:wF cf t b):
  ∃ r c',oS t VB (lI t (eC t b) i) eO r c'/\∃ fl,av cf 216 [.ptr s 0,I (5- ((b+1:Nat):Int))] [] st=some (r,cZ (bP st s c') fl):=by
 refine gA K.tab (F:=F216) rfl rfl rfl (lb rfl) (lb rfl) (by simp[aQ]) hs (gm t i _) (t.length+1) ?_;unfold F216 qr qd qm qk ql qf qt qu qs qo qN;have hdd:5- ((b+1:Nat):Int)+1=5- (b:Int):=by omega
 have hd0:0<=5- ((b+1:Nat):Int)/\5- ((b+1:Nat):Int)<=5:=by omega
 revert hdd hd0;generalize hdp:5- ((b+1:Nat):Int)=dp;intro hdd hd0;simp only[↓pa,↓bT,pb,ai,↓reduceIte,reduceEqDiff,reduceAdd,reduceLeDiff,reduceCtorEq];refine(eL K (t:=t) (i:=i) 93 rfl (by decide) (by simp only[pb,↓reduceIte,reduceCtorEq]) hi hl).2 ?_;refine aa (fun h93=>?_) (fun h93=>?_)
 ·have hlt2:=dt (show cI t i≠0 by rw[h93];decide);simp only[↓pa,pb,ai,az,↓reduceIte,reduceEqDiff,reduceAdd,reduceLeDiff,reduceCtorEq];exact d7 (by rw[lI,ak h93]) (by rfl) rfl hlt2
 have hP:lI t (eC t b) i=lU t (eC t b) (t.length+1-i) i []:=by rw[lI,ad h93]
 simp only[↓pa,pb,↓reduceIte];refine be (fun k fr st=>∃ (j n:Nat) (acc:List V) (tok:aB),k=t.length-j/\j<=t.length/\acc.length<=j/\t.length-j<n/\fr 0= .ptr 0 0/\fr 1=I dp/\fr 4= .ptr 4 0/\fr 5= .ptr 5 0/\st.objs 0=some [S t,I j,.bool false]/\st.objs 4=some [I 0,I 0,I 0,S [],.list 0 [] .nil,.list 0 [] .nil]/\
  st.objs 5=some [I 6,I 0,I 0,S [],.list acc.length (V.cbs acc) tok,.list 0 [] .nil]/\Gr 199 st.nx st.cnt acc.length tok/\lU t (eC t b) n j acc=lI t (eC t b) i) (t.length-i) (by omega)
  ⟨i,t.length+1-i,[],.nil,rfl,by omega,aM _,by omega,by simp only[↓pa,pb,↓reduceIte,reduceCtorEq],by simp only[↓pa,pb,↓reduceIte,reduceEqDiff],by simp only[↓pa,pb,↓reduceIte,reduceEqDiff],by simp only[↓pa,↓reduceIte,reduceEqDiff],by simp only[pb,↓reduceIte,reduceCtorEq],by simp only[pb,↓reduceIte,reduceEqDiff],by simp only[pb,↓reduceIte];rfl,rfl,hP.symm⟩ ?_
 rintro k fr st ⟨j,n,acc,tok,rfl,hj,hacc,hn,f0,f1,f4,f5,o0,o4,o5,hG,hQ⟩;rw[E1 (by omega)]at hQ;simp (disch:=omega)only[↓pa,↓dx,pb,ai,cB,↓reduceIte,reduceEqDiff,reduceAdd,reduceCtorEq,f0,f1,f5,o0,o5,hdd];refine iQ (ih _ 0 j (by simp only[o0]) hj) (fun v j1 fl hv hj1=>?_) (fun p j1 fl hv hp hj1=>?_);rotate_left
 ·obtain⟨cs,rfl,hcs,hcn,hct⟩:=hp;rw[hv]at hQ;simp (disch:=omega)only[↓pa,↓bT,↓dx,pb,ai,cB,↓reduceIte,reduceEqDiff,reduceAdd,reduceLeDiff,reduceLT,hcs,d6,tL];refine bj (n:=acc.length) (m:=1) hG (by rw[V.cbs_len]) (by rw[hcs]) (by omega) (by omega) (by decide) ?_;simp only[↓pa,↓dx,pb,ai,cB,fD,aj,ah,↓reduceIte,reduceEqDiff,reduceAdd,reduceLeDiff,reduceCtorEq,f0,f5,o5];refine(md K.tab (t:=t) (i:=j1) (by simp only[pb,ai,↓reduceIte,reduceCtorEq]) hj1 hl).2 ?_;simp only[↓pa,pb,↓reduceIte,reduceCtorEq,f0];refine(md K.tab (t:=t) (i:=j1) (by simp only[pb,ai,↓reduceIte,reduceCtorEq]) hj1 hl).2 ?_;simp only[↓pa,pb,↓reduceIte,reduceCtorEq,f0];refine d8 K (t:=t) (i:=j1) (b:=true) (by simp only[pb,ai,↓reduceIte,reduceCtorEq]) fun fl=>?_;simp only[↓pa,pb,ai,az,↓reduceIte,reduceEqDiff,reduceAdd,reduceLeDiff,reduceCtorEq,f4,o4,fx];exact a7 (dm:=eO) hQ.symm eM rfl hj1
 have hm:=pe _ _ _ _ hv;have hvl:=v.cb_len;rw[hv]at hQ;simp only at hQ;simp (disch:=omega)only[↓pa,↓bT,↓dx,pb,ai,cB,↓reduceIte,reduceEqDiff,reduceAdd,reduceLeDiff,reduceLT,hvl,d6,tL];refine bj (n:=acc.length) (m:=1) hG (by rw[V.cbs_len]) (by rw[hvl]) (by omega) (by omega) (by decide) ?_;rw[V.cbs_snoc];simp only[↓pa,↓dx,pb,ai,cB,fD,aj,ah,↓reduceIte,reduceEqDiff,reduceAdd,reduceLeDiff,reduceCtorEq,f0,f5,o5];refine(eL K (t:=t) (i:=j1) 93 rfl (by decide) (by simp only[pb,ai,↓reduceIte,reduceCtorEq]) hj1 hl).2 ?_;refine aa (fun h1=>?_) (fun h1=>?_)
 ·rw[ak h1]at hQ;have hjl:=dt (show cI t j1≠0 by rw[h1];decide);simp only[↓pa,pb,ai,az,fg,↓reduceIte,reduceEqDiff,reduceAdd,reduceLeDiff,reduceCtorEq,f4,f5,o4];rw[H0];exact d7 hQ.symm rfl rfl hjl
 rw[ad h1]at hQ;simp only[↓pa,pb,↓reduceIte,reduceCtorEq,f0];refine(eL K (t:=t) (i:=j1) 44 rfl (by decide) (by simp only[pb,ai,↓reduceIte,reduceCtorEq]) hj1 hl).2 ?_;refine aa (fun h2=>?_) (fun h2=>?_)
 ·rw[ak h2]at hQ;have hjl:=dt (show cI t j1≠0 by rw[h2];decide);simp only[↓pa,pb,ai,↓reduceIte,reduceEqDiff,reduceCtorEq,f0,f1,f4,f5,o4];exact⟨t.length- (j1+1),by omega,j1+1,n-1,acc++[v],_,rfl,by omega,by rw[cS];omega,by omega,rfl,by rw[cS],by rw[cS];exact di hG,hQ⟩
 ·rw[ad h2]at hQ;simp only[↓pa,pb,↓reduceIte,reduceCtorEq,f0];refine d8 K (t:=t) (i:=j1) (b:=false) (by simp only[pb,ai,↓reduceIte,reduceCtorEq]) fun fl=>?_;simp only[↓pa,pb,ai,az,↓reduceIte,reduceEqDiff,reduceAdd,reduceLeDiff,reduceCtorEq,f4,o4,fx];exact a7 (dm:=eO) hQ.symm eM rfl hj1
def xO{f n:Nat}{cs:List PV}{t:aB}(h:cK cs)(hf:nj f=false:=by rfl):av cf f [.list n cs t] [] st=av cf f [.list n cs .no] [] st:=by
 have h1:[PV.list n cs t].all bR=true:=by
  have:aI cs=true:=h.1;simp only[cN,cU,bR,az,this,ap]
 have h2:[PV.list n cs .no].all bR=true:=by
  have:aI cs=true:=h.1;simp only[cN,cU,bR,az,this,ap]
 simp only[av,fj h1,fj h2,dl,jl 0 0 h1,jl 0 0 h2,aH,bM,eF,oy,hf,List.isEmpty_nil,Bool.not_true,g8,Bool.or_false]
def JT{ns:List (List UInt8)}{x:List UInt8}{acc:List V}{v:V}:PV.agg [I 7,I 0,I 0,S [],.list (acc.length+1) (V.cbs (acc++[v])) .no,.list (ns.length+1) ((ns++[x]).map S) .no]=VB (.mk 7 0 0 [] (ns++[x]) (acc++[v])):=by
 rw[VB,V.cb,cS,kY]
def Nf(K:bJ cf){t:List UInt8}{i b:Nat}(hs:st.objs s=some [S t,I i,.bool false])(hi:i<=t.length)(hl:t.length<=2000000)(hb:b<5)(ih:wF cf t b):
  ∃ r c',oS t VB (jL t (eC t b) i) eO r c'/\∃ fl,av cf 217 [.ptr s 0,I (5- ((b+1:Nat):Int))] [] st=some (r,cZ (bP st s c') fl):=by
 refine gA K.tab (F:=F217) rfl rfl rfl (lb rfl) (lb rfl) (by simp[aQ]) hs (gm t i _) (t.length+1) ?_;unfold F217 qr qd qm qk ql qf qt qu qs qo qN;have hdd:5- ((b+1:Nat):Int)+1=5- (b:Int):=by omega
 have hd0:0<=5- ((b+1:Nat):Int)/\5- ((b+1:Nat):Int)<=5:=by omega
 revert hdd hd0;generalize hdp:5- ((b+1:Nat):Int)=dp;intro hdd hd0;simp only[↓pa,↓bT,pb,ai,↓reduceIte,reduceEqDiff,reduceAdd,reduceLeDiff,reduceCtorEq];refine(eL K (t:=t) (i:=i) 125 rfl (by decide) (by simp only[pb,↓reduceIte,reduceCtorEq]) hi hl).2 ?_;refine aa (fun h125=>?_) (fun h125=>?_)
 ·have hlt2:=dt (show cI t i≠0 by rw[h125];decide);simp only[↓pa,pb,ai,az,↓reduceIte,reduceEqDiff,reduceAdd,reduceLeDiff,reduceCtorEq];exact d7 (by rw[jL,ak h125]) (by rfl) rfl hlt2
 have hP:jL t (eC t b) i=mr t (eC t b) (t.length+1-i) i [] []:=by rw[jL,ad h125]
 simp only[↓pa,pb,↓reduceIte];refine be (fun k fr st=>∃ (j n:Nat) (ns:List (List UInt8)) (acc:List V) (tok tok2:aB),k=t.length-j/\j<=t.length/\acc.length<=j/\ns.length=acc.length/\t.length-j<n/\fr 0= .ptr 0 0/\fr 1=I dp/\fr 4= .ptr 4 0/\fr 5= .ptr 5 0/\st.objs 0=some [S t,I j,.bool false]/\st.objs 4=some [I 0,I 0,I 0,S [],.list 0 [] .nil,.list 0 [] .nil]/\
  st.objs 5=some [I 7,I 0,I 0,S [],.list acc.length (V.cbs acc) tok2,.list ns.length (ns.map S) tok]/\Gr 9 st.nx st.cnt ns.length tok/\Gr 199 st.nx st.cnt acc.length tok2/\i8 tok tok2/\mr t (eC t b) n j ns acc=jL t (eC t b) i) (t.length-i) (by omega)
  ⟨i,t.length+1-i,[],[],.nil,.nil,rfl,by omega,aM _,rfl,by omega,by simp only[↓pa,pb,↓reduceIte,reduceCtorEq],by simp only[↓pa,pb,↓reduceIte,reduceEqDiff],by simp only[↓pa,pb,↓reduceIte,reduceEqDiff],by simp only[↓pa,↓reduceIte,reduceEqDiff],by simp only[pb,↓reduceIte,reduceCtorEq],by simp only[pb,↓reduceIte,reduceEqDiff],by simp only[pb,↓reduceIte];rfl,rfl,rfl,trivial,hP.symm⟩ ?_
 rintro k fr st ⟨j,n,ns,acc,tok,tok2,rfl,hj,hacc,hnl,hn,f0,f1,f4,f5,o0,o4,o5,hG,hG2,hap,hQ⟩;have hm:(ns.map S).length=ns.length:=b8 _;rw[HZ (by omega)]at hQ;simp only[↓pa,↓dx,pb,ai,cB,↓reduceIte,reduceEqDiff,reduceAdd,reduceCtorEq,f0,f5,o0,o5];refine iQ (Kx K (t:=t) (i:=j) (b:=false) (by simp only[o0]) hj hl) (fun x j1 fl hx hj1=>?_) (fun p j1 fl hx hp hj1=>?_);rotate_left
 ·obtain⟨l,rfl⟩:=hp;have hx:qS t j=none:=hx;have hno:jL t (eC t b) i=none:=by rw[<-hQ,hx]
  simp only[↓pa,↓bT,↓dx,pb,ai,cB,↓reduceIte,reduceEqDiff,reduceAdd,reduceLeDiff,reduceLT,tL];refine lD (n:=ns.length) (m:=1) (e2:=199) (n2:=acc.length) (u:=tok2) hG (by rw[hm];omega) rfl (by omega) (by omega) (by decide) hG2 hap (fun st1 tok' ho hG' hG2' hap'=>?_);simp only[↓pa,↓dx,pb,ai,cB,fD,aj,ah,↓reduceIte,reduceEqDiff,reduceAdd,reduceLeDiff,reduceCtorEq,f0,f5,o5,ho];refine(md K.tab (t:=t) (i:=j1) (by simp only[pb,ai,↓reduceIte,reduceCtorEq,ho]) hj1 hl).2 ?_;simp only[↓pa,pb,↓reduceIte,reduceCtorEq,f0];refine d8 K (t:=t) (i:=j1) (b:=true) (by simp only[pb,ai,↓reduceIte,reduceCtorEq,ho]) fun fl=>?_;simp only[↓pa,pb,ai,az,↓reduceIte,reduceEqDiff,reduceAdd,reduceLeDiff,reduceCtorEq,f4,o4,ho,fx];exact a7 (dm:=eO) hno eM rfl hj1
 have hx:qS t j=some (x,j1):=hx;have hm1:=uE hx;rw[hx]at hQ;simp only at hQ;simp only[↓pa,↓bT,↓dx,pb,ai,cB,↓reduceIte,reduceEqDiff,reduceAdd,reduceLeDiff,reduceLT,tL];refine lD (n:=ns.length) (m:=1) (e2:=199) (n2:=acc.length) (u:=tok2) hG (by rw[hm];omega) rfl (by omega) (by omega) (by decide) hG2 hap (fun st1 tok' ho hG' hG2' hap'=>?_);rw[zZ];simp only[↓pa,↓dx,pb,ai,cB,fD,aj,ah,↓reduceIte,reduceEqDiff,reduceAdd,reduceLeDiff,reduceCtorEq,f0,f5,o5,ho];refine(eL K (t:=t) (i:=j1) 58 rfl (by decide) (by simp only[pb,ai,↓reduceIte,reduceCtorEq,ho]) hj1 hl).2 ?_;refine aa (fun h58=>?_) (fun h58=>?_);rotate_left
 ·have hno:jL t (eC t b) i=none:=by rw[<-hQ,ad h58]
  simp only[↓pa,pb,↓reduceIte,reduceCtorEq,f0];refine d8 K (t:=t) (i:=j1) (b:=false) (by simp only[pb,ai,↓reduceIte,reduceCtorEq,ho]) fun fl=>?_;simp only[↓pa,pb,ai,az,↓reduceIte,reduceEqDiff,reduceAdd,reduceLeDiff,reduceCtorEq,f4,o4,ho,fx];exact a7 (dm:=eO) hno eM rfl hj1
 rw[ak h58]at hQ;have hj58:=dt (show cI t j1≠0 by rw[h58];decide);simp (disch:=omega)only[↓pa,↓dx,pb,ai,cB,↓reduceIte,reduceEqDiff,reduceAdd,reduceCtorEq,f0,f1,f5,hdd];refine iQ (ih _ 0 (j1+1) (by simp only[pb,↓reduceIte]) hj58) (fun v j2 fl hv hj2=>?_) (fun p j2 fl hv hp hj2=>?_);rotate_left
 ·obtain⟨cs,rfl,hcs,hcn,hct⟩:=hp;have hno:jL t (eC t b) i=none:=by rw[<-hQ,hv]
  simp (disch:=omega)only[↓pa,↓bT,↓dx,pb,ai,cB,↓reduceIte,reduceEqDiff,reduceAdd,reduceLeDiff,reduceLT,hcs,d6,tL];refine bj (n:=acc.length) (m:=1) hG2' (by rw[V.cbs_len]) (by rw[hcs]) (by omega) (by omega) (by decide) ?_;simp only[↓pa,↓dx,pb,ai,cB,fD,aj,ah,↓reduceIte,reduceEqDiff,reduceAdd,reduceLeDiff,reduceCtorEq,f0,f5];refine(md K.tab (t:=t) (i:=j2) (by simp only[pb,ai,↓reduceIte,reduceCtorEq]) hj2 hl).2 ?_;simp only[↓pa,pb,↓reduceIte,reduceCtorEq,f0];refine(md K.tab (t:=t) (i:=j2) (by simp only[pb,ai,↓reduceIte,reduceCtorEq]) hj2 hl).2 ?_;simp only[↓pa,pb,↓reduceIte,reduceCtorEq,f0];refine d8 K (t:=t) (i:=j2) (b:=true) (by simp only[pb,ai,↓reduceIte,reduceCtorEq]) fun fl=>?_;simp only[↓pa,pb,ai,az,↓reduceIte,reduceEqDiff,reduceAdd,reduceLeDiff,reduceCtorEq,f4,o4,ho,fx];exact a7 (dm:=eO) hno eM rfl hj2
 have hm2:=pe _ _ _ _ hv;have hvl:=v.cb_len;rw[hv]at hQ;simp only at hQ;simp (disch:=omega)only[↓pa,↓bT,↓dx,pb,ai,cB,↓reduceIte,reduceEqDiff,reduceAdd,reduceLeDiff,reduceLT,hvl,d6,tL];refine lD (n:=acc.length) (m:=1) (e2:=9) (n2:=ns.length+1) (u:=tok') hG2' (by rw[V.cbs_len]) (by rw[hvl]) (by omega) (by omega) (by decide) hG' (gS hap') (fun st2 tok2' ho2 hG2'' hG'' hap''=>?_);rw[V.cbs_snoc];simp only[↓pa,↓dx,pb,ai,cB,fD,aj,ah,↓reduceIte,reduceEqDiff,reduceAdd,reduceLeDiff,reduceCtorEq,f0,f5,ho2];refine(eL K (t:=t) (i:=j2) 125 rfl (by decide) (by simp only[pb,ai,↓reduceIte,reduceCtorEq,ho2]) hj2 hl).2 ?_;refine aa (fun h1=>?_) (fun h1=>?_)
 ·rw[ak h1]at hQ;have hjl:=dt (show cI t j2≠0 by rw[h1];decide);simp only[↓pa,pb,ai,↓reduceIte,reduceEqDiff,reduceAdd,reduceCtorEq,f5];rw[xO (pE _),<-kY (x:=x),Dl K.tab (ns++[x]) (by rw[kY];omega)];simp only[↓pa,pb,↓reduceIte];refine aa (fun hr=>?_) (fun hr=>?_)
  ·rw[ak hr]at hQ;simp only[↓pa,pb,ai,az,fg,↓reduceIte,reduceEqDiff,reduceAdd,reduceLeDiff,reduceCtorEq,f4,f5,o4,ho,ho2];rw[kY,JT];exact d7 hQ.symm rfl rfl hjl
  ·rw[ad hr]at hQ;simp only[↓pa,pb,↓reduceIte,reduceCtorEq,f0];refine d8 K (t:=t) (i:=j2+1) (b:=false) (by simp only[pb,↓reduceIte]) fun fl=>?_;simp only[↓pa,pb,ai,az,↓reduceIte,reduceEqDiff,reduceAdd,reduceLeDiff,reduceCtorEq,f4,o4,ho,ho2,fx];exact a7 (dm:=eO) hQ.symm eM rfl hjl
 rw[ad h1]at hQ;simp only[↓pa,pb,↓reduceIte,reduceCtorEq,f0];refine(eL K (t:=t) (i:=j2) 44 rfl (by decide) (by simp only[pb,ai,↓reduceIte,reduceCtorEq,ho2]) hj2 hl).2 ?_;refine aa (fun h2=>?_) (fun h2=>?_)
 ·rw[ak h2]at hQ;have hjl:=dt (show cI t j2≠0 by rw[h2];decide);simp only[↓pa,pb,ai,↓reduceIte,reduceEqDiff,reduceCtorEq,f0,f1,f4,f5,o4,ho,ho2];exact⟨t.length- (j2+1),by omega,j2+1,n-1,ns++[x],acc++[v],tok',tok2',rfl,by omega,by rw[cS];omega,by rw[cS,kY];omega,by omega,rfl,by rw[cS,kY],by rw[kY];exact hG'',by rw[cS];exact hG2'',gS hap'',hQ⟩
 ·rw[ad h2]at hQ;simp only[↓pa,pb,↓reduceIte,reduceCtorEq,f0];refine d8 K (t:=t) (i:=j2) (b:=false) (by simp only[pb,ai,↓reduceIte,reduceCtorEq,ho2]) fun fl=>?_;simp only[↓pa,pb,ai,az,↓reduceIte,reduceEqDiff,reduceAdd,reduceLeDiff,reduceCtorEq,f4,o4,ho,ho2,fx];exact a7 (dm:=eO) hQ.symm eM rfl hj2
def wM{t:List UInt8}{i:Nat}{c:UInt8}{l:List UInt8}(h:tk t i (c::l)=true):cI t i=(c.toNat:Int):=by
 have h:(t.drop i).take (l.length+1)=c::l:=of_decide_eq_true h;by_cases hi:i<t.length
 ·rw[a6 hi,mV]at h;rw[pT t i hi,(List.cons.inj h).1]
 ·rw[fG (by omega)]at h;cases h
def Aj{t:List UInt8}{i:Nat}(h1:¬cI t i=45)(h2:eW (cI t i)=false):fF t i=none:=by
 unfold fF;rw[ad h1,oY fun _=>h2,qj];cases hr:gG []with
 |none=>rfl
 |some n=>exact absurd (me hr).1 (w4 n)
def HE{t:List UInt8}{o:Option (Nat->Option (V×Nat))}{i:Nat}(h:t.length<=i):mW t o i=none:=by
 have h0:=ui h;have ht:∀ c l,(c.toNat:Int)≠0->tk t i (c::l)=false:=fun c l hc=>by
  cases hk:tk t i (c::l)
  ·rfl
  ·exact absurd ((wM hk).symm.trans h0) hc
 rw[x5];simp[h0,eW,ht]
def AX(t:List UInt8)(o:Option (Nat->Option (V×Nat)))(i:Nat):mW t o i=
 if tk t i [110,117,108,108]=true then some (.mk 0 0 0 [] [] [],i+4)
 else if tk t i [116,114,117,101]=true then some (.mk 1 1 0 [] [] [],i+4)
 else if tk t i [102,97,108,115,101]=true then some (.mk 1 0 0 [] [] [],i+5)
 else if cI t i=34 then(qq t (i+1)).map fun q=>(.mk 3 0 0 q.1 [] [],q.2)
 else if cI t i=64 then(gH t (i+1)).map fun q=>(.mk 4 q.1 0 [] [] [],q.2)
 else if cI t i=40 then gL t (i+1)
 else if cI t i=110 then eD t 8 (i+1)
 else if cI t i=101 then eD t 9 (i+1)
 else if cI t i=60 then qR t (i+1)
 else if cI t i=91 then za t o (i+1)
 else if cI t i=123 then B2 t o (i+1)
 else(fF t i).map fun q=>(.mk 2 q.1 0 [] [] [],q.2):=by
 rw[x5];by_cases a1:tk t i [110,117,108,108]=true
 ·have c:cI t i=110:=wM a1;simp[c,eW,a1]
 by_cases a2:tk t i [116,114,117,101]=true
 ·have c:cI t i=116:=wM a2;simp[c,eW,a1,a2]
 by_cases a3:tk t i [102,97,108,115,101]=true
 ·have c:cI t i=102:=wM a3;simp[c,eW,a1,a2,a3]
 by_cases c1:cI t i=34
 ·simp[c1,a1,a2,a3]
 by_cases c2:cI t i=64
 ·simp[c2,a1,a2,a3]
 by_cases c3:cI t i=40
 ·simp[c3,eW,a1,a2,a3]
 by_cases c4:cI t i=110
 ·simp[c4,eW,a1,a2,a3]
 by_cases c5:cI t i=101
 ·simp[c5,eW,a1,a2,a3]
 by_cases c6:cI t i=60
 ·simp[c6,eW,a1,a2,a3]
 by_cases c7:cI t i=91
 ·simp[c7,eW,a1,a2,a3]
 by_cases c8:cI t i=123
 ·simp[c8,eW,a1,a2,a3]
 by_cases c9:cI t i=45
 ·simp[c9,eW,a1,a2,a3]
 by_cases c10:eW (cI t i)=true
 ·simp[c1,c2,c3,c4,c5,c6,c7,c8,c10,a1,a2,a3]
 ·have c10':eW (cI t i)=false:=by simpa using c10
  rw[Aj c9 c10'];simp[c1,c2,c3,c4,c5,c6,c7,c8,c9,c10,a1,a2,a3]
def wy(K:bJ cf){t:List UInt8}(hl:t.length<=2000000){b:Nat}{o:Option (Nat->Option (V×Nat))}(hV:∀ i,eC t b i=mW t o i)
  (hd:(5- (b:Int)<5/\
   (∀ (st:St) (s i:Nat),st.objs s=some [S t,I i,.bool false]->i<=t.length->∃ r c',oS t VB (za t o i) eO r c'/\∃ fl,av cf 216 [.ptr s 0,I (5- (b:Int))] [] st=some (r,cZ (bP st s c') fl))/\
   (∀ (st:St) (s i:Nat),st.objs s=some [S t,I i,.bool false]->i<=t.length->∃ r c',oS t VB (B2 t o i) eO r c'/\∃ fl,av cf 217 [.ptr s 0,I (5- (b:Int))] [] st=some (r,cZ (bP st s c') fl)))\/
   (¬5- (b:Int)<5/\o=none)):wF cf t b:=by
 intro st s i hs hi;revert hd;generalize 5- (b:Int)=dp;intro hd;refine gA K.tab (F:=F200) rfl rfl rfl (lb rfl) (lb rfl) (by simp[aQ]) hs (gm t i _) 1 ?_;unfold F200 qr qd qm qk ql qf qt qu qx qy qs qo qN;simp only[↓pa,pb,ai,aV,↓reduceIte,reduceEqDiff,reduceAdd,reduceCtorEq];refine aa (fun h0=>?_) (fun h0=>?_)
 ·have hno:eC t b i=none:=(hV i).trans (HE h0);simp only[↓pa,pb,↓reduceIte,reduceCtorEq,h0];refine d8 K (t:=t) (i:=i) (b:=false) (by simp only[pb,↓reduceIte,reduceCtorEq]) fun fl=>?_;simp only[↓pa,pb,ai,az,↓reduceIte,reduceEqDiff,reduceAdd,reduceLeDiff,reduceCtorEq,fx];exact a7 (dm:=eO) hno eM rfl (by omega)
 have hp:=(hV i).trans (AX t o i);simp only[↓pa,pb,↓reduceIte,reduceCtorEq,h0];refine(qp K.tab (t:=t) (i:=i) (x:=[110,117,108,108]) (by simp only[pb,↓reduceIte,reduceCtorEq]) hi hl (by decide)).2 ?_;refine aa (fun a1=>?_) (fun a1=>?_)
 ·rw[ak a1]at hp;have:=wL hi a1;simp only[↓pa,↓bT,pb,ai,az,↓reduceIte,reduceEqDiff,reduceAdd,reduceLeDiff,reduceCtorEq];exact d7 hp rfl rfl this
 rw[ad a1]at hp;simp only[↓pa,pb,↓reduceIte,reduceCtorEq];refine(qp K.tab (t:=t) (i:=i) (x:=[116,114,117,101]) (by simp only[pb,↓reduceIte,reduceCtorEq]) hi hl (by decide)).2 ?_;refine aa (fun a2=>?_) (fun a2=>?_)
 ·rw[ak a2]at hp;have:=wL hi a2;simp only[↓pa,↓bT,pb,ai,az,↓reduceIte,reduceEqDiff,reduceAdd,reduceLeDiff,reduceCtorEq];exact d7 hp rfl rfl this
 rw[ad a2]at hp;simp only[↓pa,pb,↓reduceIte,reduceCtorEq];refine(qp K.tab (t:=t) (i:=i) (x:=[102,97,108,115,101]) (by simp only[pb,↓reduceIte,reduceCtorEq]) hi hl (by decide)).2 ?_;refine aa (fun a3=>?_) (fun a3=>?_)
 ·rw[ak a3]at hp;have:=wL hi a3;simp only[↓pa,↓bT,pb,ai,az,↓reduceIte,reduceEqDiff,reduceAdd,reduceLeDiff,reduceCtorEq];exact d7 hp rfl rfl this
 rw[ad a3]at hp;simp only[↓pa,pb,↓reduceIte,reduceCtorEq];refine(eL K (t:=t) (i:=i) 34 rfl (by decide) (by simp only[pb,↓reduceIte,reduceCtorEq]) hi hl).2 ?_;refine aa (fun c1=>?_) (fun c1=>?_)
 ·have hlt:=dt (show cI t i≠0 by rw[c1];decide);rw[ak c1]at hp;simp only[↓pa,pb,↓reduceIte,reduceCtorEq];refine iQ (IG K (t:=t) (i:=i+1) (by simp only[pb,↓reduceIte]) hlt hl) (fun v j fl hv hj=>?_) (fun p j fl hv hx hj=>?_)
  ·rw[hv]at hp;simp only[↓pa,↓bT,pb,ai,az,↓reduceIte,reduceEqDiff,reduceAdd,reduceLeDiff,reduceCtorEq];exact d7 hp rfl rfl hj
  ·obtain⟨l,rfl⟩:=hx;rw[hv]at hp;simp only[↓pa,↓bT,pb,ai,az,↓reduceIte,reduceEqDiff,reduceAdd,reduceLeDiff,reduceCtorEq];exact a7 (dm:=eO) hp ⟨_,rfl,rfl,by simp only[az,ap],by simp only[az]⟩ rfl hj
 rw[ad c1]at hp;simp only[↓pa,pb,↓reduceIte,reduceCtorEq];refine(eL K (t:=t) (i:=i) 64 rfl (by decide) (by simp only[pb,↓reduceIte,reduceCtorEq]) hi hl).2 ?_;refine aa (fun c2=>?_) (fun c2=>?_)
 ·have hlt:=dt (show cI t i≠0 by rw[c2];decide);rw[ak c2]at hp;simp only[↓pa,pb,↓reduceIte,reduceCtorEq];refine iQ (Mk K (t:=t) (i:=i+1) (by simp only[pb,↓reduceIte]) hlt hl) (fun v j fl hv hj=>?_) (fun p j fl hv hx hj=>?_)
  ·have hvl:=v.cb_len;simp (disch:=omega)only[↓pa,pb,ai,az,fg,↓reduceIte,reduceEqDiff,reduceAdd,reduceLeDiff,reduceCtorEq,hvl,d6,fz];exact d7 (hp.trans hv) rfl rfl hj
  ·obtain⟨cs,rfl,hcs,hcn,hct⟩:=hx;simp (disch:=omega)only[↓pa,pb,ai,az,↓reduceIte,reduceEqDiff,reduceAdd,reduceLeDiff,reduceCtorEq,hcs,hcn,hct,d6,fz];exact a7 (dm:=eO) (hp.trans hv) ⟨_,rfl,hcs,hcn,hct⟩ rfl hj
 rw[ad c2]at hp;simp only[↓pa,pb,↓reduceIte,reduceCtorEq];refine(eL K (t:=t) (i:=i) 40 rfl (by decide) (by simp only[pb,↓reduceIte,reduceCtorEq]) hi hl).2 ?_;refine aa (fun c3=>?_) (fun c3=>?_)
 ·have hlt:=dt (show cI t i≠0 by rw[c3];decide);rw[ak c3]at hp;simp only[↓pa,pb,↓reduceIte,reduceCtorEq];refine m9 K (t:=t) (i:=i+1) (b:=false) (by simp only[pb,↓reduceIte]) hlt hl (fun a j fl _ ha hj=>?_) (fun n j fl h hj=>?_);rotate_left
  ·have ha:fF t (i+1)=none:=by rcases h with h|h;cases h;exact h
   have hno:eC t b i=none:=by rw[hp,gL,ha]
   simp only[↓pa,pb,ai,↓reduceIte,reduceEqDiff,reduceAdd,reduceLeDiff,reduceCtorEq];refine m9 K (t:=t) (b:=true) (by simp only[pb,↓reduceIte]<;>rfl) (by assumption) hl (fun _ _ _ h=>by cases h) (fun _ _ _ _ _=>?_)
   simp only[↓pa,pb,ai,↓reduceIte,reduceEqDiff,reduceAdd,reduceCtorEq];refine d8 K (t:=t) (by simp only[pb,ai,↓reduceIte]<;>rfl) fun fl=>?_
   simp only[↓pa,pb,ai,az,↓reduceIte,reduceEqDiff,reduceAdd,reduceLeDiff,reduceCtorEq,fx];exact a7 (dm:=eO) hno eM rfl (by omega)
  simp only[↓pa,pb,ai,↓reduceIte,reduceEqDiff,reduceAdd,reduceCtorEq];refine(eL K (t:=t) (i:=j) 32 rfl (by decide) (by simp only[pb,ai,↓reduceIte]) hj hl).2 ?_;refine aa (fun h32=>?_) (fun h32=>?_);rotate_left
  ·have hno:eC t b i=none:=by rw[hp,gL,ha];simp only;rw[ad h32]
   simp only[↓pa,pb,ai,↓reduceIte,reduceEqDiff,reduceAdd,reduceLeDiff,reduceCtorEq];refine m9 K (t:=t) (b:=true) (by simp only[pb,↓reduceIte]<;>rfl) (by assumption) hl (fun _ _ _ h=>by cases h) (fun _ _ _ _ _=>?_)
   simp only[↓pa,pb,ai,↓reduceIte,reduceEqDiff,reduceAdd,reduceCtorEq];refine d8 K (t:=t) (by simp only[pb,ai,↓reduceIte]<;>rfl) fun fl=>?_
   simp only[↓pa,pb,ai,az,↓reduceIte,reduceEqDiff,reduceAdd,reduceLeDiff,reduceCtorEq,fx];exact a7 (dm:=eO) hno eM rfl (by omega)
  have hjl:=dt (show cI t j≠0 by rw[h32];decide);simp only[↓pa,pb,ai,↓reduceIte,reduceEqDiff,reduceAdd,reduceLeDiff,reduceCtorEq];refine m9 K (t:=t) (i:=j+1) (b:=false) (by simp only[pb,↓reduceIte]) hjl hl (fun b' k fl _ hb hk=>?_) (fun n k fl h hk=>?_);rotate_left
  ·have hb:fF t (j+1)=none:=by rcases h with h|h;cases h;exact h
   have hno:eC t b i=none:=by rw[hp,gL,ha];simp only;rw[ak h32,hb]
   simp only[↓pa,pb,ai,↓reduceIte,reduceEqDiff,reduceAdd,reduceCtorEq];refine d8 K (t:=t) (by simp only[pb,ai,↓reduceIte]<;>rfl) fun fl=>?_
   simp only[↓pa,pb,ai,az,↓reduceIte,reduceEqDiff,reduceAdd,reduceLeDiff,reduceCtorEq,fx];exact a7 (dm:=eO) hno eM rfl (by omega)
  have hpp:eC t b i=if cI t k=41/\pY a=false/\pY b'=false then some (.mk 5 a b' [] [] [],k+1)else none:=by rw[hp,gL,ha];simp only;rw[ak h32,hb]
  simp only[↓pa,pb,ai,↓reduceIte,reduceEqDiff,reduceAdd,reduceCtorEq];refine(eL K (t:=t) (i:=k) 41 rfl (by decide) (by simp only[pb,ai,↓reduceIte]) hk hl).2 ?_;refine aa (fun h41=>?_) (fun h41=>?_);rotate_left
  ·have hno:eC t b i=none:=by rw[hpp,ad fun h=>h41 h.1]
   simp only[↓pa,pb,↓reduceIte,reduceEqDiff,reduceCtorEq];refine d8 K (t:=t) (by simp only[pb,ai,↓reduceIte]<;>rfl) fun fl=>?_
   simp only[↓pa,pb,ai,az,↓reduceIte,reduceEqDiff,reduceAdd,reduceLeDiff,reduceCtorEq,fx];exact a7 (dm:=eO) hno eM rfl (by omega)
  have hkl:=dt (show cI t k≠0 by rw[h41];decide);have hbig:∀ x,pY x=true↔(x< -1000000\/1000000<x):=fun x=>by simp[pY]
  simp only[↓pa,pb,↓reduceIte,reduceEqDiff];refine aa (fun b1=>?_) (fun b1=>?_)
  ·have hno:eC t b i=none:=by rw[hpp,ad fun h=>by rw[(hbig a).2 (.inl b1)]at h;simp at h]
   simp only[↓pa,pb,↓reduceIte,reduceEqDiff,reduceCtorEq,b1];refine d8 K (t:=t) (by simp only[pb,↓reduceIte]<;>rfl) fun fl=>?_
   simp only[↓pa,pb,ai,az,↓reduceIte,reduceEqDiff,reduceAdd,reduceLeDiff,reduceCtorEq,fx];exact a7 (dm:=eO) hno eM rfl (by omega)
  simp only[↓pa,pb,↓reduceIte,reduceEqDiff,b1];refine aa (fun b2=>?_) (fun b2=>?_)
  ·have hno:eC t b i=none:=by rw[hpp,ad fun h=>by rw[(hbig a).2 (.inr b2)]at h;simp at h]
   simp only[↓pa,pb,↓reduceIte,reduceEqDiff,reduceCtorEq,b2];refine d8 K (t:=t) (by simp only[pb,↓reduceIte]<;>rfl) fun fl=>?_
   simp only[↓pa,pb,ai,az,↓reduceIte,reduceEqDiff,reduceAdd,reduceLeDiff,reduceCtorEq,fx];exact a7 (dm:=eO) hno eM rfl (by omega)
  simp only[↓pa,pb,↓reduceIte,reduceEqDiff,b2];refine aa (fun b3=>?_) (fun b3=>?_)
  ·have hno:eC t b i=none:=by rw[hpp,ad fun h=>by rw[(hbig b').2 (.inl b3)]at h;simp at h]
   simp only[↓pa,pb,↓reduceIte,reduceEqDiff,reduceCtorEq,b3];refine d8 K (t:=t) (by simp only[pb,↓reduceIte]<;>rfl) fun fl=>?_
   simp only[↓pa,pb,ai,az,↓reduceIte,reduceEqDiff,reduceAdd,reduceLeDiff,reduceCtorEq,fx];exact a7 (dm:=eO) hno eM rfl (by omega)
  simp only[↓pa,pb,↓reduceIte,reduceEqDiff,b3];refine aa (fun b4=>?_) (fun b4=>?_)
  ·have hno:eC t b i=none:=by rw[hpp,ad fun h=>by rw[(hbig b').2 (.inr b4)]at h;simp at h]
   simp only[↓pa,pb,↓reduceIte,reduceCtorEq,b4];refine d8 K (t:=t) (by simp only[pb,↓reduceIte]<;>rfl) fun fl=>?_
   simp only[↓pa,pb,ai,az,↓reduceIte,reduceEqDiff,reduceAdd,reduceLeDiff,reduceCtorEq,fx];exact a7 (dm:=eO) hno eM rfl (by omega)
  ·have ba:pY a=false:=by cases h:pY a;rfl;exact absurd ((hbig a).1 h) (by omega)
   have bb:pY b'=false:=by cases h:pY b';rfl;exact absurd ((hbig b').1 h) (by omega)
   simp only[↓pa,↓bT,pb,ai,az,↓reduceIte,reduceEqDiff,reduceAdd,reduceLeDiff,reduceCtorEq,b4];exact d7 (by rw[hpp,ak ⟨h41,ba,bb⟩]) rfl rfl hkl
 rw[ad c3]at hp;simp only[↓pa,pb,↓reduceIte,reduceCtorEq];refine(eL K (t:=t) (i:=i) 110 rfl (by decide) (by simp only[pb,↓reduceIte,reduceCtorEq]) hi hl).2 ?_;refine aa (fun c4=>?_) (fun c4=>?_)
 ·have hlt:=dt (show cI t i≠0 by rw[c4];decide);rw[ak c4]at hp;simp only[↓pa,pb,↓reduceIte,reduceCtorEq];refine iQ (yC K (t:=t) (i:=i+1) (b:=false) (by simp only[pb,↓reduceIte]) hlt hl) (fun v j fl hv hj=>?_) (fun p j fl hv hx hj=>?_)
  ·have hvl:=v.cb_len;simp (disch:=omega)only[↓pa,pb,ai,az,fg,↓reduceIte,reduceEqDiff,reduceAdd,reduceLeDiff,reduceCtorEq,hvl,d6,fz];exact d7 (hp.trans hv) rfl rfl hj
  ·obtain⟨cs,rfl,hcs,hcn,hct⟩:=hx;simp (disch:=omega)only[↓pa,pb,ai,az,↓reduceIte,reduceEqDiff,reduceAdd,reduceLeDiff,reduceCtorEq,hcs,hcn,hct,d6,fz];exact a7 (dm:=eO) (hp.trans hv) ⟨_,rfl,hcs,hcn,hct⟩ rfl hj
 rw[ad c4]at hp;simp only[↓pa,pb,↓reduceIte,reduceCtorEq];refine(eL K (t:=t) (i:=i) 101 rfl (by decide) (by simp only[pb,↓reduceIte,reduceCtorEq]) hi hl).2 ?_;refine aa (fun c5=>?_) (fun c5=>?_)
 ·have hlt:=dt (show cI t i≠0 by rw[c5];decide);rw[ak c5]at hp;simp only[↓pa,pb,↓reduceIte,reduceCtorEq];refine iQ (yC K (t:=t) (i:=i+1) (b:=false) (by simp only[pb,↓reduceIte]) hlt hl) (fun v j fl hv hj=>?_) (fun p j fl hv hx hj=>?_)
  ·have hvl:=v.cb_len;simp (disch:=omega)only[↓pa,pb,ai,az,fg,↓reduceIte,reduceEqDiff,reduceAdd,reduceLeDiff,reduceCtorEq,hvl,d6,fz];exact d7 (hp.trans hv) rfl rfl hj
  ·obtain⟨cs,rfl,hcs,hcn,hct⟩:=hx;simp (disch:=omega)only[↓pa,pb,ai,az,↓reduceIte,reduceEqDiff,reduceAdd,reduceLeDiff,reduceCtorEq,hcs,hcn,hct,d6,fz];exact a7 (dm:=eO) (hp.trans hv) ⟨_,rfl,hcs,hcn,hct⟩ rfl hj
 rw[ad c5]at hp;simp only[↓pa,pb,↓reduceIte,reduceCtorEq];refine(eL K (t:=t) (i:=i) 60 rfl (by decide) (by simp only[pb,↓reduceIte,reduceCtorEq]) hi hl).2 ?_;refine aa (fun c6=>?_) (fun c6=>?_)
 ·have hlt:=dt (show cI t i≠0 by rw[c6];decide);rw[ak c6]at hp;simp only[↓pa,pb,↓reduceIte,reduceCtorEq];refine iQ (L8 K (t:=t) (i:=i+1) (by simp only[pb,↓reduceIte]) hlt hl) (fun v j fl hv hj=>?_) (fun p j fl hv hx hj=>?_)
  ·have hvl:=v.cb_len;simp (disch:=omega)only[↓pa,pb,ai,az,fg,↓reduceIte,reduceEqDiff,reduceAdd,reduceLeDiff,reduceCtorEq,hvl,d6,fz];exact d7 (hp.trans hv) rfl rfl hj
  ·obtain⟨cs,rfl,hcs,hcn,hct⟩:=hx;simp (disch:=omega)only[↓pa,pb,ai,az,↓reduceIte,reduceEqDiff,reduceAdd,reduceLeDiff,reduceCtorEq,hcs,hcn,hct,d6,fz];exact a7 (dm:=eO) (hp.trans hv) ⟨_,rfl,hcs,hcn,hct⟩ rfl hj
 rw[ad c6]at hp;rcases hd with⟨h5,hL,hM⟩|⟨h5,ho⟩
 ·simp only[↓pa,pb,↓reduceIte,reduceEqDiff,reduceCtorEq,h5];refine(eL K (t:=t) (i:=i) 91 rfl (by decide) (by simp only[pb,↓reduceIte,reduceCtorEq]) hi hl).2 ?_;refine aa (fun c7=>?_) (fun c7=>?_)
  ·have hlt:=dt (show cI t i≠0 by rw[c7];decide);rw[ak c7]at hp;simp only[↓pa,pb,↓reduceIte,reduceEqDiff,reduceCtorEq];refine iQ (hL _ 0 (i+1) (by simp only[pb,↓reduceIte]) hlt) (fun v j fl hv hj=>?_) (fun p j fl hv hx hj=>?_)
   ·have hvl:=v.cb_len;simp (disch:=omega)only[↓pa,pb,ai,az,fg,↓reduceIte,reduceEqDiff,reduceAdd,reduceLeDiff,reduceCtorEq,hvl,d6,fz];exact d7 (hp.trans hv) rfl rfl hj
   ·obtain⟨cs,rfl,hcs,hcn,hct⟩:=hx;simp (disch:=omega)only[↓pa,pb,ai,az,↓reduceIte,reduceEqDiff,reduceAdd,reduceLeDiff,reduceCtorEq,hcs,hcn,hct,d6,fz];exact a7 (dm:=eO) (hp.trans hv) ⟨_,rfl,hcs,hcn,hct⟩ rfl hj
  rw[ad c7]at hp;simp only[↓pa,pb,↓reduceIte,reduceEqDiff,reduceCtorEq,h5];refine(eL K (t:=t) (i:=i) 123 rfl (by decide) (by simp only[pb,↓reduceIte,reduceCtorEq]) hi hl).2 ?_;refine aa (fun c8=>?_) (fun c8=>?_)
  ·have hlt:=dt (show cI t i≠0 by rw[c8];decide);rw[ak c8]at hp;simp only[↓pa,pb,↓reduceIte,reduceEqDiff,reduceCtorEq];refine iQ (hM _ 0 (i+1) (by simp only[pb,↓reduceIte]) hlt) (fun v j fl hv hj=>?_) (fun p j fl hv hx hj=>?_)
   ·have hvl:=v.cb_len;simp (disch:=omega)only[↓pa,pb,ai,az,fg,↓reduceIte,reduceEqDiff,reduceAdd,reduceLeDiff,reduceCtorEq,hvl,d6,fz];exact d7 (hp.trans hv) rfl rfl hj
   ·obtain⟨cs,rfl,hcs,hcn,hct⟩:=hx;simp (disch:=omega)only[↓pa,pb,ai,az,↓reduceIte,reduceEqDiff,reduceAdd,reduceLeDiff,reduceCtorEq,hcs,hcn,hct,d6,fz];exact a7 (dm:=eO) (hp.trans hv) ⟨_,rfl,hcs,hcn,hct⟩ rfl hj
  rw[ad c8]at hp;simp only[↓pa,pb,↓reduceIte,reduceEqDiff,reduceCtorEq];refine m9 K (t:=t) (i:=i) (b:=false) (by simp only[pb,↓reduceIte,reduceCtorEq]) hi hl (fun a j fl _ ha hj=>?_) (fun n j fl h hj=>?_)
  ·rw[ha]at hp;simp only[↓pa,↓bT,pb,ai,az,↓reduceIte,reduceEqDiff,reduceAdd,reduceLeDiff,reduceCtorEq];exact d7 hp rfl rfl hj
  ·have ha:fF t i=none:=by rcases h with h|h;cases h;exact h
   rw[ha]at hp;simp only[↓pa,↓bT,pb,ai,az,↓reduceIte,reduceEqDiff,reduceAdd,reduceLeDiff,reduceCtorEq];exact a7 (dm:=eO) hp ⟨_,rfl,rfl,by simp only[az,ap],by simp only[az]⟩ rfl hj
 ·subst ho;have hp:eC t b i=(fF t i).map fun q=>(.mk 2 q.1 0 [] [] [],q.2):=by
   rw[hp];by_cases c7:cI t i=91
   ·rw[ak c7,Aj (by omega) (by rw[c7];rfl)];rfl
   rw[ad c7];by_cases c8:cI t i=123
   ·rw[ak c8,Aj (by omega) (by rw[c8];rfl)];rfl
   rw[ad c8]
  simp only[↓pa,pb,↓reduceIte,reduceEqDiff,reduceCtorEq,h5];refine m9 K (t:=t) (i:=i) (b:=false) (by simp only[pb,↓reduceIte,reduceCtorEq]) hi hl (fun a j fl _ ha hj=>?_) (fun n j fl h hj=>?_)
  ·rw[ha]at hp;simp only[↓pa,↓bT,pb,ai,az,↓reduceIte,reduceEqDiff,reduceAdd,reduceLeDiff,reduceCtorEq];exact d7 hp rfl rfl hj
  ·have ha:fF t i=none:=by rcases h with h|h;cases h;exact h
   rw[ha]at hp;simp only[↓pa,↓bT,pb,ai,az,↓reduceIte,reduceEqDiff,reduceAdd,reduceLeDiff,reduceCtorEq];exact a7 (dm:=eO) hp ⟨_,rfl,rfl,by simp only[az,ap],by simp only[az]⟩ rfl hj
def yB(K:bJ cf){t:List UInt8}(hl:t.length<=2000000):∀ b,b<=5->wF cf t b
 |0,_=>wy K hl (o:=none) (fun _=>rfl) (.inr ⟨by decide,rfl⟩)
 |b+1,hb=>wy K hl (o:=some (eC t b)) (fun _=>rfl) (.inl ⟨by omega,fun _ _ _ hs hi=>Mb K hs hi hl (by omega) (yB K hl b (by omega)),fun _ _ _ hs hi=>Nf K hs hi hl (by omega) (yB K hl b (by omega))⟩)
end Go.PM
namespace Go.PM
mutual
def V.wild:V->Bool
 | .mk k _ _ _ _ vs=>decide (8<=k)||V.wilds vs
def V.wilds:List V->Bool
 | []=>false
 |v::vs=>v.wild||V.wilds vs
end
mutual
def V.plain:V->Bool
 | .mk k _ _ _ _ vs=>!(decide (k<0)||decide (8<=k)) && V.plains vs
def V.plains:List V->Bool
 | []=>true
 |v::vs=>(decide (v.kind=0)||v.plain) && V.plains vs
end
mutual
def V.good:V->Bool
 | .mk k _ _ _ _ vs=>decide (0<=k) && (decide (k≠0)||vs.isEmpty) && (decide (vs.length<=2000000) && V.goods vs)
def V.goods:List V->Bool
 | []=>true
 |v::vs=>v.good && V.goods vs
end
mutual
theorem V.plain_wild:∀ v:V,v.good=true->v.plain=!v.wild
 | .mk k n m s ns vs,h=>by
  rw[V.good,ae,ae]at h;obtain⟨⟨h1,h2⟩,h3⟩:=h;rw[ae]at h3;have h3:=h3.2;have h1:=of_decide_eq_true h1;rw[V.plain,V.wild,V.plains_wilds vs h3];have:decide (k<0)=false:=decide_eq_false (by omega);rw[this];cases decide (8<=k)<;>cases V.wilds vs<;>rfl
theorem V.plains_wilds:∀ vs:List V,V.goods vs=true->V.plains vs=!V.wilds vs
 | [],_=>rfl
 |v::vs,h=>by
  rw[V.goods,ae]at h;have ih:=V.plain_wild v h.1;have hz:v.kind=0->v.wild=false:=fun hk=>by
   match v,h.1,hk with
   | .mk k n m s ns ws,hg,hk=>
    have hk:k=0:=hk;subst hk;rw[V.good,ae,ae]at hg;have h2:(decide ((0:Int)≠0)||ws.isEmpty)=true:=hg.1.2;have:ws=[]:=by simpa using h2
    subst this;rfl
  rw[V.plains,V.wilds,V.plains_wilds vs h.2,ih];by_cases hk:v.kind=0
  ·rw[hz hk];simp[hk]
  ·simp[hk]
end
def V.goods_snoc:∀ (vs:List V) (v:V),V.goods vs=true->v.good=true->V.goods (vs++[v])=true
 | [],v,_,h=>by simp[V.goods,h]
 |w::vs,v,h,k=>by
  rw[V.goods,ae]at h;rw[a8,V.goods,h.1,V.goods_snoc vs v h.2 k];rfl
def oK{k n m:Int}{s:List UInt8}(h:0<=k):(V.mk k n m s [] []).good=true:=by
 rw[V.good,decide_eq_true h];simp[V.goods]
def wo{k n m:Int}{s:List UInt8}{ns:List (List UInt8)}{vs:List V}(h:0<k)(hl:vs.length<=2000000)(g:V.goods vs=true):(V.mk k n m s ns vs).good=true:=by
 rw[V.good,decide_eq_true (show 0<=k by omega),decide_eq_true (show k≠0 by omega),decide_eq_true hl,g];rfl
def tK{t:List UInt8}{k:Int}{i j:Nat}{v:V}(hk:0<=k)(h:eD t k i=some (v,j)):v.good=true:=by
 unfold eD at h;simp only[am,cn]at h;obtain⟨_,_,rfl,_⟩:=h;exact oK hk
def xE{t:List UInt8}:∀ (n:Nat) (node:Bool) (i:Nat) (acc:List V) {v:V} {j:Nat},acc.length+n<=2000000->V.goods acc=true->mJ t n node i acc=some (v,j)->v.good=true
 |0,_,_,_,_,_,_,_,h=>by cases h
 |n+1,node,i,acc,v,j,hb,g,h=>by
  have ih:=fun node i acc hb g=>xE (t:=t) n node i acc (v:=v) (j:=j) hb g;rw[mJ]at h;by_cases hc:cI t i=(if node then 110 else 101)
  ·rw[ak hc]at h;cases hv:eD t (if node then 8 else 9) (i+1)with
   |none=>rw[hv]at h;cases h
   |some q=>
    obtain⟨w,j1⟩:=q;rw[hv]at h;simp only at h;have hw:=tK (by split<;>decide) hv
    split at h
    ·cases h;exact wo (by decide) (by rw[cS];omega) (V.goods_snoc _ _ g hw)
    ·split at h
     ·exact ih _ _ _ (by rw[cS];omega) (V.goods_snoc _ _ g hw) h
     ·cases h
  ·rw[ad hc]at h;cases h
def xI{t:List UInt8}{rd:Nat->Option (V×Nat)}(hr:∀ i v j,rd i=some (v,j)->v.good=true):∀ (n i:Nat) (acc:List V) {v:V} {j:Nat},acc.length+n<=2000000->V.goods acc=true->lU t rd n i acc=some (v,j)->v.good=true
 |0,_,_,_,_,_,_,h=>by cases h
 |n+1,i,acc,v,j,hb,g,h=>by
  have ih:=fun i acc hb g=>xI (t:=t) hr n i acc (v:=v) (j:=j) hb g;rw[lU]at h;split at h
  ·rename_i hv;have hw:=hr _ _ _ hv;split at h
   ·cases h;exact wo (by decide) (by rw[cS];omega) (V.goods_snoc _ _ g hw)
   ·split at h
    ·exact ih _ _ (by rw[cS];omega) (V.goods_snoc _ _ g hw) h
    ·cases h
  ·cases h
def zl{t:List UInt8}{rd:Nat->Option (V×Nat)}(hr:∀ i v j,rd i=some (v,j)->v.good=true):∀ (n i:Nat) (ns:List (List UInt8)) (acc:List V) {v:V} {j:Nat},acc.length+n<=2000000->V.goods acc=true->mr t rd n i ns acc=some (v,j)->v.good=true
 |0,_,_,_,_,_,_,_,h=>by cases h
 |n+1,i,ns,acc,v,j,hb,g,h=>by
  have ih:=fun i ns acc hb g=>zl (t:=t) hr n i ns acc (v:=v) (j:=j) hb g;rw[mr]at h;split at h
  ·split at h
   ·split at h
    ·rename_i hv;have hw:=hr _ _ _ hv;split at h
     ·split at h
      ·cases h;exact wo (by decide) (by rw[cS];omega) (V.goods_snoc _ _ g hw)
      ·cases h
     ·split at h
      ·exact ih _ _ _ (by rw[cS];omega) (V.goods_snoc _ _ g hw) h
      ·cases h
    ·cases h
   ·cases h
  ·cases h
def zd{t:List UInt8}(hl:t.length<=999999){o:Option (Nat->Option (V×Nat))}(hr:∀ rd,o=some rd->∀ i v j,rd i=some (v,j)->v.good=true){i:Nat}{v:V}{j:Nat}(h:mW t o i=some (v,j)):v.good=true:=by
 rw[AX]at h;have hm:∀ {α:Type} {q:Option (α×Nat)} {f:α->V},(∀ a,(f a).good=true)->(q.map fun p=>(f p.1,p.2))=some (v,j)->v.good=true:=fun hf h=>by
  simp only[am,cn]at h;obtain⟨_,_,rfl,_⟩:=h;exact hf _
 by_cases a1:tk t i [110,117,108,108]=true
 ·rw[ak a1]at h;cases h;rfl
 rw[ad a1]at h;by_cases a2:tk t i [116,114,117,101]=true
 ·rw[ak a2]at h;cases h;rfl
 rw[ad a2]at h;by_cases a3:tk t i [102,97,108,115,101]=true
 ·rw[ak a3]at h;cases h;rfl
 rw[ad a3]at h;by_cases c1:cI t i=34
 ·rw[ak c1]at h;exact hm (f:=fun a=>V.mk 3 0 0 a [] []) (fun a=>oK (by decide)) h
 rw[ad c1]at h;by_cases c2:cI t i=64
 ·rw[ak c2]at h;exact hm (f:=fun a=>V.mk 4 a 0 [] [] []) (fun a=>oK (by decide)) h
 rw[ad c2]at h;by_cases c3:cI t i=40
 ·rw[ak c3]at h;unfold gL at h;split at h
  ·split at h
   ·split at h
    ·split at h
     ·cases h;exact oK (by decide)
     ·cases h
    ·cases h
   ·cases h
  ·cases h
 rw[ad c3]at h;by_cases c4:cI t i=110
 ·rw[ak c4]at h;exact tK (by decide) h
 rw[ad c4]at h;by_cases c5:cI t i=101
 ·rw[ak c5]at h;exact tK (by decide) h
 rw[ad c5]at h;by_cases c6:cI t i=60
 ·rw[ak c6]at h;exact xE _ _ _ _ (by simp only[aO];omega) rfl h
 rw[ad c6]at h;by_cases c7:cI t i=91
 ·rw[ak c7]at h;cases o with
  |none=>cases h
  |some rd=>
   change lI t rd (i+1)=some (v,j)at h;unfold lI at h;split at h
   ·cases h;exact oK (by decide)
   ·exact xI (hr _ rfl) _ _ _ (by simp only[aO];omega) rfl h
 rw[ad c7]at h;by_cases c8:cI t i=123
 ·rw[ak c8]at h;cases o with
  |none=>cases h
  |some rd=>
   change jL t rd (i+1)=some (v,j)at h;unfold jL at h;split at h
   ·cases h;exact oK (by decide)
   ·exact zl (hr _ rfl) _ _ _ _ (by simp only[aO];omega) rfl h
 rw[ad c8]at h;exact hm (f:=fun a=>V.mk 2 a 0 [] [] []) (fun a=>oK (by decide)) h
def AT{t:List UInt8}(hl:t.length<=999999):∀ (b i:Nat) (v:V) (j:Nat),eC t b i=some (v,j)->v.good=true
 |0,i,v,j,h=>zd hl (fun rd h=>by cases h) (show mW t none i=some (v,j)from h)
 |b+1,i,v,j,h=>zd hl (fun rd h=>by cases h;exact AT hl b) (show mW t (some (eC t b)) i=some (v,j)from h)
def y6{t:List UInt8}{v:V}(h:fu t=some v):v.good=true:=by
 unfold fu at h;split at h
 ·rename_i hlen;split at h
  ·rename_i hv;split at h
   ·cases h;exact AT (by omega) _ _ _ _ hv
   ·cases h
  ·cases h
 ·cases h
def jZ(t:List UInt8):Bool:=match fu t with
 |some v=>decide (v.kind≠0) && !v.wild
 |none=>false
end Go.PM
namespace Go.PM
open Go.Lib
variable {cf:aA} {st:St} {mk:PV->St->Fr×St} {A:Fr×St->Prop} {s:Nat}
def F7{as bs:List PV}{off sz:Nat}{ag:Bool}(h:off+sz<=as.length):bI (as++bs) off sz ag=bI as off sz ag:=by
 unfold bI;rw[af,ak (by omega),ak h];cases ag with
 |true=>
  simp only[if_true];rw[iZ (by omega),gJ (by rw[aU];omega)]
 |false=>
  simp only[bG,if_false];split
  ·rw[bL (by omega)]
  ·rfl
def xF{as bs:List PV}{off sz:Nat}{ag:Bool}:bI (as++bs) (as.length+off) sz ag=bI bs off sz ag:=by
 unfold bI;have:as.length+off+sz<=(as++bs).length↔off+sz<=bs.length:=by rw[af];omega
 simp only[this];split
 ·split
  ·rw[List.drop_append,fG (by omega),aN,show as.length+off-as.length=off by omega]
  ·split
   ·rw[cp (by omega),show as.length+off-as.length=off by omega]
   ·rfl
 ·rfl
def df{α:Type}(enc:α->List PV)(m:Nat)(henc:∀ a,(enc a).length=m)(off sz:Nat)(ag:Bool)(h:off+sz<=m):∀ (l:List α) (j:Nat) (hj:j<l.length),bI (l.flatMap enc) (j*m+off) sz ag=bI (enc l[j]) off sz ag
 |a::l,0,_=>by
  rw[bf,Nat.zero_mul,aq,F7 (by rw[henc];exact h)];rfl
 |a::l,j+1,hj=>by
  have hj':j<l.length:=by simpa using hj
  rw[bf,show(j+1) *m+off=(enc a).length+(j*m+off) by rw[henc,gg];omega,xF,df enc m henc off sz ag h l j hj'];rfl
def Kk(vs:List V):V.cas vs=vs.flatMap V.ca:=by
 induction vs with
 |nil=>rfl
 |cons v vs ih=>rw[V.cas,ih];rfl
def Dg(vs:List V):V.cbs vs=vs.flatMap V.cb:=by
 induction vs with
 |nil=>rfl
 |cons v vs ih=>rw[V.cbs,ih];rfl
def HL{vs:List V}{j:Nat}(h:j<vs.length):bI (V.cas vs) (j*6) 6 true=some (VA vs[j]):=by
 have:=df V.ca 6 V.ca_len 0 6 true (by decide) vs j h;rw[Kk,show j*6=j*6+0 from rfl,this];exact sY (V.ca_len _)
def HK{vs:List V}{j:Nat}(h:j<vs.length):bI (V.cbs vs) (j*6) 6 true=some (VB vs[j]):=by
 have:=df V.cb 6 V.cb_len 0 6 true (by decide) vs j h;rw[Dg,show j*6=j*6+0 from rfl,this];exact sY (V.cb_len _)
def Gb{vs:List V}{j:Nat}(h:j<vs.length):bI (V.cbs vs) (j*6) 1 false=some (I vs[j].kind):=by
 have:=df V.cb 6 V.cb_len 0 1 false (by decide) vs j h;rw[Dg,show j*6=j*6+0 from rfl,this];exact Gj
def tD(t:List UInt8)(r:PV):Prop:=match fu t with
 |some v=>r= .tup [VA v,.bool true]
 |none=>∃ p,eO p/\r= .tup [p,.bool false]
def GZ{t:List UInt8}{r:PV}{v:V}(h:fu t=some v)(k:r= .tup [VA v,.bool true]):tD t r:=by
 unfold tD;rw[h];exact k
def vq{t:List UInt8}{r p:PV}(h:fu t=none)(k:eO p)(e:r= .tup [p,.bool false]):tD t r:=by
 unfold tD;rw[h];exact⟨p,k,e⟩
def Dm(K:bJ cf){t:List UInt8}:∃ r,tD t r/\∃ fl,av cf 188 [S t] [] st=some (r,cZ st fl):=by
 refine ou K.tab (F:=F188) rfl rfl rfl (lb rfl) (by simp[bZ]) 1 ?_;unfold F188 qr qd qm qc qk ql qy qs qo qN;simp only[↓pa,pb,↓reduceIte,reduceCtorEq];refine aa (fun h=>?_) (fun h=>?_)
 ·simp only[↓pa,↓bT,pb,ai,az,↓reduceIte,reduceEqDiff,reduceAdd,reduceLeDiff,h];exact vq (by rw[fu,ad (by omega)]) ⟨_,rfl,rfl,by simp only[az,ap],by simp only[az]⟩ rfl
 have hr:fu t=match eC t 5 0 with
  |some (v,j)=>if j=t.length then some v else none
  |none=>none:=by rw[fu,ak (by omega)];rfl
 have hv5:=AA K (t:=t) (by omega) 5 (aE 5);have e5:5- ((5:Nat):Int)=0:=rfl;unfold zR at hv5;rw[e5]at hv5;simp only[↓pa,↓bT,pb,ai,↓reduceIte,reduceAdd,reduceLeDiff,reduceCtorEq,h];refine hY (hv5 _ 13 0 (by simp only[pb,↓reduceIte];rfl) (aM _)) (fun v j fl hv hj=>?_) (fun p j fl hv hx hj=>?_)
 ·rw[hv]at hr;have hvl:=v.ca_len;by_cases hjl:j=t.length
  ·have hr:fu t=some v:=by rw[hr];exact ak hjl
   simp (disch:=omega)only[↓pa,↓dx,pb,ai,cB,fD,az,fg,aj,ah,↓reduceIte,reduceEqDiff,reduceAdd,reduceLeDiff,reduceCtorEq,hvl,d6,fz,hjl];exact GZ hr rfl
  ·have hr:fu t=none:=by rw[hr];exact ad hjl
   simp (disch:=omega)only[↓pa,↓dx,pb,ai,cB,fD,az,aV,fg,aj,ah,↓reduceIte,reduceEqDiff,reduceAdd,reduceLeDiff,reduceCtorEq,hvl,d6,fz,hjl];exact vq hr ⟨_,rfl,hvl,v.ca_plain.1,v.ca_plain.2.1⟩ rfl
 ·obtain⟨cs,rfl,hcs,hcn,hct⟩:=hx;rw[hv]at hr;simp (disch:=omega)only[↓pa,↓dx,pb,ai,cB,fD,az,aj,ah,↓reduceIte,reduceEqDiff,reduceAdd,reduceLeDiff,hcs,hcn,hct,d6,fz];exact vq hr ⟨_,rfl,hcs,hcn,hct⟩ rfl
def tC(t:List UInt8)(r:PV):Prop:=match fu t with
 |some v=>r=VB v
 |none=>r=fx
def GY{t:List UInt8}{r:PV}{v:V}(h:fu t=some v)(k:r=VB v):tC t r:=by
 unfold tC;rw[h];exact k
def vp{t:List UInt8}{r:PV}(h:fu t=none)(e:r=fx):tC t r:=by
 unfold tC;rw[h];exact e
def AC(K:bJ cf){t:List UInt8}:∃ r,tC t r/\∃ fl,av cf 186 [S t] [] st=some (r,cZ st fl):=by
 refine ou K.tab (F:=F186) rfl rfl rfl (lb rfl) (by simp[bZ]) 1 ?_;unfold F186 qr qd qm qk ql qf qx qs qo qN;simp only[↓pa,pb,↓reduceIte,reduceCtorEq];refine aa (fun h=>?_) (fun h=>?_)
 ·simp only[↓pa,↓bT,pb,ai,az,↓reduceIte,reduceEqDiff,reduceAdd,reduceLeDiff,h];exact vp (by rw[fu,ad (by omega)]) rfl
 have hr:fu t=match eC t 5 0 with
  |some (v,j)=>if j=t.length then some v else none
  |none=>none:=by rw[fu,ak (by omega)];rfl
 have hv5:=yB K (t:=t) (by omega) 5 (aE 5);have e5:5- ((5:Nat):Int)=0:=rfl;unfold wF at hv5;rw[e5]at hv5;simp only[↓pa,↓bT,pb,ai,↓reduceIte,reduceAdd,reduceLeDiff,reduceCtorEq,h];refine iQ (hv5 _ 11 0 (by simp only[pb,↓reduceIte];rfl) (aM _)) (fun v j fl hv hj=>?_) (fun p j fl hv hx hj=>?_)
 ·rw[hv]at hr;have hvl:=v.cb_len;by_cases hjl:j=t.length
  ·have hr:fu t=some v:=by rw[hr];exact ak hjl
   simp (disch:=omega)only[↓pa,pb,ai,az,fg,↓reduceIte,reduceEqDiff,reduceAdd,reduceLeDiff,du,reduceCtorEq,hvl,d6,fz,hjl];exact GY hr rfl
  ·have hr:fu t=none:=by rw[hr];exact ad hjl
   simp (disch:=omega)only[↓pa,↓bT,pb,ai,az,aV,↓reduceIte,reduceEqDiff,reduceAdd,reduceLeDiff,du,reduceCtorEq,hvl,d6,hjl];exact vp hr rfl
 ·obtain⟨cs,rfl,hcs,hcn,hct⟩:=hx;rw[hv]at hr;simp (disch:=omega)only[↓pa,↓bT,pb,ai,az,↓reduceIte,reduceEqDiff,reduceAdd,reduceLeDiff,hcs,d6];exact vp hr rfl
def HB(v:V):cT (VA v):=ej v.ca_plain
def AW(v:V):cT (VB v):=ej v.cb_plain
def FL{vs:List V}{j:Nat}(h:j<vs.length)(k:vs[j].wild=true):V.wilds vs=true:=by
 induction vs generalizing j with
 |nil=>simp at h
 |cons v vs ih=>
  rw[V.wilds];cases j with
  |zero=>have k:v.wild=true:=k;rw[k];rfl
  |succ j=>rw[ih (by simpa using h) (by simpa using k)];simp
def FM{vs:List V}(h:∀ j,(hj:j<vs.length)->vs[j].wild=false):V.wilds vs=false:=by
 induction vs with
 |nil=>rfl
 |cons v vs ih=>
  have h0:v.wild=false:=h 0 (by simp);rw[V.wilds,h0,ih fun j hj=>h (j+1) (by simpa using hj)];rfl
def HA{vs:List V}{j:Nat}(h:j<vs.length)(k:(decide (vs[j].kind=0)||vs[j].plain)=false):V.plains vs=false:=by
 induction vs generalizing j with
 |nil=>simp at h
 |cons v vs ih=>
  rw[V.plains];cases j with
  |zero=>have k:(decide (v.kind=0)||v.plain)=false:=k;rw[k];rfl
  |succ j=>rw[ih (by simpa using h) (by simpa using k)];simp
def F3{vs:List V}(h:∀ j,(hj:j<vs.length)->(decide (vs[j].kind=0)||vs[j].plain)=true):V.plains vs=true:=by
 induction vs with
 |nil=>rfl
 |cons v vs ih=>
  have h0:(decide (v.kind=0)||v.plain)=true:=h 0 (by simp);rw[V.plains,h0,ih fun j hj=>h (j+1) (by simpa using hj)];rfl
mutual
theorem IA(K:bJ cf):∀ (v:V),v.good=true->∀ st,av cf 192 [VA v] [] st=some (.bool v.wild,st)
 | .mk k n m s ns vs,hg=>by
  intro st;rw[V.good,ae,ae,ae]at hg;have hlen:=of_decide_eq_true hg.2.1;have ih:=Fh K vs hg.2.2;have hvl:(V.mk k n m s ns vs).ca.length=6:=rfl;refine cQ K.tab (F:=F192) (t:=2) rfl rfl rfl (lb rfl) (by simp[HB]) (ce _) (vs.length+1) ?_;unfold F192 qg qr qd qm qi qc qb qk ql qf qt qa qn qs qo qN;rw[V.wild];have hca:(V.mk k n m s ns vs).ca=[I k,I n,I m,S s,.list ns.length (ns.map S) .no,.list vs.length (V.cas vs) .no]:=by rw[V.ca]
  have hcl:=V.cas_len vs;simp only[↓pa,pb,ai,↓reduceIte,reduceEqDiff,reduceAdd,VA,hca];refine aa (fun h8=>?_) (fun h8=>?_)
  ·simp only[↓pa,pb,↓reduceIte,h8]
  simp only[↓pa,pb,ai,↓reduceIte,reduceEqDiff,reduceAdd,h8];refine be (fun k' fr st=>∃ j:Nat,k'=vs.length-j/\j<=vs.length/\fr 9= .list vs.length (V.cas vs) .no/\fr 10=I vs.length/\fr 11=I j/\∀ q,q<j->(hq:q<vs.length)->vs[q].wild=false) vs.length (by omega) ⟨0,rfl,by omega,by simp only[↓pa,↓reduceIte,reduceEqDiff],by simp only[↓pa,↓reduceIte,reduceEqDiff],by simp only[↓pa,↓reduceIte];rfl,fun q hq=>by omega⟩ ?_;rintro k' fr st ⟨j,rfl,hj,f9,f10,f11,hall⟩;simp only[↓pa,pb,aV,↓reduceIte,f10,f11];refine aa (fun h1=>?_) (fun h1=>?_)
  ·have hw:=ih vs[j] (ct h1);have hvj:=vs[j].ca_len;simp (disch:=omega)only[↓pa,pb,ai,↓reduceIte,reduceEqDiff,reduceAdd,reduceLeDiff,f9,f11,h1,HL h1,hvj,d6,fz,hw];refine aa (fun h2=>?_) (fun h2=>?_)
   ·simp only[↓pa,pb,↓reduceIte,h2];rw[FL h1 h2]
   ·simp (disch:=omega)only[↓pa,pb,aV,↓reduceIte,reduceEqDiff,f9,f10,f11,h2];refine⟨vs.length- (j+1),by omega,j+1,rfl,by omega,rfl,fun q hq hq'=>?_⟩;by_cases e:q=j
    ·subst e;simpa using h2
    ·simpa using hall q (by omega) hq'
  ·simp only[↓pa,pb,↓reduceIte,h1];rw[FM fun q hq=>hall q (by omega) hq]
theorem Fh(K:bJ cf):∀ (vs:List V),V.goods vs=true->∀ w∈vs,∀ st,av cf 192 [VA w] [] st=some (.bool w.wild,st)
 | [],_,w,hw=>by cases hw
 |v::vs,hg,w,hw=>by
  rw[V.goods,ae]at hg;intro st;rcases aX.1 hw with hw|hw
  ·rw[hw];exact IA K v hg.1 st
  ·exact Fh K vs hg.2 w hw st
end
mutual
theorem Fp(K:bJ cf):∀ (v:V),v.good=true->∀ st,av cf 191 [VB v] [] st=some (.bool v.plain,st)
 | .mk k n m s ns vs,hg=>by
  intro st;rw[V.good,ae,ae,ae]at hg;have hlen:=of_decide_eq_true hg.2.1;have ih:=Do K vs hg.2.2;have hvl:(V.mk k n m s ns vs).cb.length=6:=rfl;refine cQ K.tab (F:=F191) (t:=2) rfl rfl rfl (lb rfl) (by simp[AW]) (ce _) (vs.length+1) ?_;unfold F191 qg qr qd qm qi qc qb qk ql qf qa qx qy qn qo;rw[V.plain];have hcb:(V.mk k n m s ns vs).cb=[I k,I n,I m,S s,.list vs.length (V.cbs vs) .no,.list ns.length (ns.map S) .no]:=by rw[V.cb]
  have hcl:=V.cbs_len vs;simp only[↓pa,pb,ai,↓reduceIte,reduceEqDiff,reduceAdd,VB,hcb];refine aa (fun h0=>?_) (fun h0=>?_)
  ·simp only[↓pa,pb,↓reduceIte,reduceEqDiff,h0]
  simp only[↓pa,pb,ai,↓reduceIte,reduceEqDiff,reduceAdd,h0];refine aa (fun h8=>?_) (fun h8=>?_)
  ·simp only[↓pa,pb,↓reduceIte,h8]
  simp only[↓pa,pb,h8];refine be (fun k' fr st=>∃ j:Nat,k'=vs.length-j/\j<=vs.length/\fr 1= .ptr 1 0/\st.objs 1=some [I k,I n,I m,S s,.list vs.length (V.cbs vs) .no,.list ns.length (ns.map S) .no]/\fr 3=I j/\∀ q,q<j->(hq:q<vs.length)->(decide (vs[q].kind=0)||vs[q].plain)=true) vs.length (by omega) ⟨0,rfl,by omega,by simp only[↓pa,↓reduceIte,reduceEqDiff],by simp only[pb,↓reduceIte],by simp only[↓pa,↓reduceIte];rfl,fun q hq=>by omega⟩ ?_;rintro k' fr st ⟨j,rfl,hj,f1,o1,f3,hall⟩;simp only[↓pa,pb,ai,aV,↓reduceIte,reduceEqDiff,reduceAdd,f1,o1,f3];refine aa (fun h1=>?_) (fun h1=>?_)
  ·have hw:=ih vs[j] (ct h1);have hvj:=vs[j].cb_len;have next:(decide (vs[j].kind=0)||vs[j].plain)=true->∀ q,q<j+1->(hq:q<vs.length)->(decide (vs[q].kind=0)||vs[q].plain)=true:=fun h q hq hq'=>by
    by_cases e:q=j
    ·subst e;exact h
    ·exact hall q (by omega) hq'
   simp (disch:=omega)only[↓pa,pb,ai,↓reduceIte,reduceEqDiff,reduceAdd,du,f1,o1,f3,h1,Gb h1,bi];refine aa (fun h2=>?_) (fun h2=>?_)
   ·simp (disch:=omega)only[↓pa,pb,aV,↓reduceIte,reduceEqDiff,f1,o1,f3,h2];exact⟨vs.length- (j+1),by omega,j+1,rfl,by omega,rfl,by simpa using next (by rw[h2];rfl)⟩
   ·simp (disch:=omega)only[↓pa,pb,ai,↓reduceIte,reduceEqDiff,reduceAdd,f1,o1,f3,h2,HK h1,hw];refine aa (fun h3=>?_) (fun h3=>?_)
    ·simp (disch:=omega)only[↓pa,pb,aV,↓reduceIte,reduceEqDiff,f1,o1,f3,h3];exact⟨vs.length- (j+1),by omega,j+1,rfl,by omega,rfl,by simpa using next (by rw[h3];simp)⟩
    ·simp only[↓pa,pb,↓reduceIte,h3];rw[HA h1 (by simp[h2];simpa using h3)]
  ·simp only[↓pa,pb,↓reduceIte,h1];rw[F3 fun q hq=>hall q (by omega) hq]
theorem Do(K:bJ cf):∀ (vs:List V),V.goods vs=true->∀ w∈vs,∀ st,av cf 191 [VB w] [] st=some (.bool w.plain,st)
 | [],_,w,hw=>by cases hw
 |v::vs,hg,w,hw=>by
  rw[V.goods,ae]at hg;intro st;rcases aX.1 hw with hw|hw
  ·rw[hw];exact Fp K v hg.1 st
  ·exact Do K vs hg.2 w hw st
end
def pQ(K:bJ cf)(t:List UInt8):av cf 171 [S t] [] st=some (.bool (jZ t),st):=by
 refine cQ K.tab (F:=F171) (t:=2) rfl rfl rfl (lb rfl) (by simp[bZ]) (ce _) 1 ?_;unfold F171 qr qm qc qt qy qs qo qN;simp only[↓pa,pb,↓reduceIte,reduceCtorEq];refine wI (Dm K) (fun r fl hr=>?_);unfold tD at hr;cases h:fu t with
 |some v=>
  rw[h]at hr;have hr:r= .tup [VA v,.bool true]:=hr;subst hr;have hvl:=v.ca_len;have hw:=IA K v (y6 h);have hf:jZ t=(decide (v.kind≠0) && !v.wild):=by rw[jZ,h]
  simp (disch:=omega)only[↓pa,pb,ai,aj,ah,↓reduceIte,reduceEqDiff,reduceAdd,reduceLeDiff,du,hvl,d6,Gk];by_cases hk:v.kind=0
  ·simp only[↓pa,pb,↓reduceIte,reduceEqDiff,du,hk,hf]
  ·simp (disch:=omega)only[↓pa,pb,ai,↓reduceIte,reduceEqDiff,reduceLeDiff,du,hvl,fz,hk,hf,hw]
 |none=>
  rw[h]at hr;obtain⟨p,⟨cs,rfl,hcs,hcn,hct⟩,rfl⟩:=hr;have hf:jZ t=false:=by rw[jZ,h]
  simp (disch:=omega)only[↓pa,pb,ai,aj,ah,↓reduceIte,reduceEqDiff,reduceAdd,reduceLeDiff,hcs,d6,hf]
def Ek(K:bJ cf):av cf 191 [fx] [] st=some (.bool false,st):=by
 have hd:fx=VB (.mk (-1) 0 0 [] [] []):=by rw[VB,V.cb];rfl
 refine cQ K.tab (F:=F191) (t:=2) rfl rfl rfl (lb rfl) (by rw[hd];simp[AW]) (ce _) 1 ?_;unfold F191 qg qr qd qm qi qc qb qk ql qf qa qx qy qn qo;simp only[↓pa,pb,ai,↓reduceIte,reduceEqDiff,reduceAdd,Int.reduceLT,fx]
def oz(K:bJ cf)(t:List UInt8):av cf 167 [S t] [] st=some (.bool (jZ t),st):=by
 refine cQ K.tab (F:=F167) (t:=2) rfl rfl rfl (lb rfl) (by simp[bZ]) (ce _) 1 ?_;unfold F167 qr qm qc qk ql qf qt qy qs qo qN;simp only[↓pa,pb,↓reduceIte,reduceCtorEq];refine wI (AC K) (fun r fl hr=>?_);unfold tC at hr;cases h:fu t with
 |some v=>
  rw[h]at hr;have hr:r=VB v:=hr;subst hr;have hvl:=v.cb_len;have hg:=y6 h;have hw:=Fp K v hg;have hf:jZ t=(decide (v.kind≠0) && v.plain):=by rw[jZ,h,V.plain_wild v hg]
  by_cases hk:v.kind=0
  ·simp (disch:=omega)only[↓pa,pb,ai,↓reduceIte,reduceEqDiff,reduceAdd,reduceLeDiff,du,hvl,d6,Gj,hk,hf]
  ·simp (disch:=omega)only[↓pa,pb,ai,↓reduceIte,reduceEqDiff,reduceAdd,reduceLeDiff,du,hvl,d6,fz,Gj,hk,hf,hw]
 |none=>
  rw[h]at hr;have hr:r=fx:=hr;subst hr;have hf:jZ t=false:=by rw[jZ,h]
  simp only[↓pa,pb,ai,↓reduceIte,reduceEqDiff,reduceAdd,reduceLeDiff,du,reduceCtorEq,fx];rw[<-fx];simp only[↓pa,pb,↓reduceIte,reduceEqDiff,Ek K,hf]
abbrev Fd:=List UInt8×List UInt8
def fc(f:Fd):List PV:=[S f.1,S f.2]
@[reducible] def FX (l:List Fd):PV:= .list l.length (l.flatMap fc) .no
def pN(f:Fd):(fc f).length=2:=rfl
def fq(l:List Fd):(l.flatMap fc).length=l.length*2:=by
 induction l with
 |nil=>rfl
 |cons f l ih=>rw[bf,af,ih,pN,au];omega
def Kc(f:Fd):cK (fc f):=bu (bZ _) (bu (bZ _) dL)
def hO(l:List Fd):cK (l.flatMap fc):=by
 induction l with
 |nil=>exact dL
 |cons f l ih=>rw[bf];exact jY (Kc f) ih
def ga(l:List Fd):cT (FX l):=fE (hO l)
def qv{l:List Fd}{j:Nat}(h:j<l.length):bI (l.flatMap fc) (j*2) 2 true=some (.agg [S l[j].1,S l[j].2]):=by
 have:=df fc 2 pN 0 2 true (by decide) l j h;rw[show j*2=j*2+0 from rfl,this];rfl
def oE{l:List Fd}{j:Nat}(h:j<l.length):bI (l.flatMap fc) (j*2) 1 false=some (S l[j].1):=by
 have:=df fc 2 pN 0 1 false (by decide) l j h;rw[show j*2=j*2+0 from rfl,this];rfl
def CA{l:List Fd}{j:Nat}(h:j<l.length):bI (l.flatMap fc) (j*2+1) 1 false=some (S l[j].2):=by
 have:=df fc 2 pN 1 1 false (by decide) l j h;rw[this];rfl
def xN(l:List Fd)(i:Nat):Fd:=l.getD i ([],[])
def sC{l:List Fd}{i:Nat}(h:i<l.length):xN l i=l[i]:=by simp[xN,h]
def oi(l:List Fd)(i:Nat):Bool:=decide (i=0)||eq (xN l (i-1)).1 (xN l i).1
def dX(l:List Fd)(i:Nat):Bool:=dH (xN l i).1 && (oi l i && jZ (xN l i).2)
def hU(l:List Fd):Bool:=decide ((l.length:Int)<=20) && lZ l.length (dX l)
def Ds(K:bJ cf)(l:List Fd):av cf 126 [FX l] [] st=some (.bool (hU l),st):=by
 refine cQ K.tab (F:=F126) (t:=2) rfl rfl rfl (lb rfl) (by simp[ga]) (ce _) (l.length+1) ?_;have hm:=fq l;unfold F126 qg qr qd qm qi qc qb qk ql qf qt qa qx qn qs qo;simp only[↓pa,pb,↓reduceIte,reduceCtorEq];refine aa (fun h1=>?_) (fun h1=>?_)
 ·simp only[↓pa,pb,↓reduceIte,h1];have:¬ ((l.length:Int)<=20):=by omega
  simp only[hU,this,decide_false,g8]
 have h1':(l.length:Int)<=20:=by omega
 simp only[↓pa,pb,↓reduceIte,reduceCtorEq,h1];refine be (fun k fr st=>∃ i:Nat,k=l.length-i/\i<=l.length/\fr 0=FX l/\fr 8=FX l/\fr 9=I l.length/\fr 10=I i/\∀ j,j<i->dX l j=true) l.length (by omega) ⟨0,by simp,by omega,by simp only[↓pa,↓reduceIte,reduceCtorEq],by simp only[↓pa,↓reduceIte,reduceEqDiff],by simp only[↓pa,↓reduceIte,reduceEqDiff],by simp only[↓pa,↓reduceIte];rfl,fun j hj=>by omega⟩ ?_;rintro k fr st ⟨i,rfl,hi,f0,f8,f9,f10,hall⟩;simp only[↓pa,pb,aV,↓reduceIte,f9,f10];refine aa (fun h4=>?_) (fun h4=>?_);rotate_left
 ·simp only[↓pa,pb,↓reduceIte,h4];have ha:lZ l.length (dX l)=true:=li fun j hj=>hall j (by omega);simp only[hU,decide_eq_true h1',ha,ap]
 have hlt:i<l.length:=h4;have bad:dX l i=false->hU l=false:=fun h=>by rw[hU,gf hlt h,Bool.and_false]
 have ea:xN l i=l[i]:=sC hlt;simp (disch:=omega)only[↓pa,pb,ai,↓reduceIte,reduceEqDiff,reduceAdd,reduceLeDiff,f8,f10,qv hlt,pP K.tab];refine aa (fun h5=>?_) (fun h5=>?_);rotate_left
 ·simp only[↓pa,pb,↓reduceIte,reduceEqDiff,h5];rw[bad (by rw[dX,ea];simp[h5])]
 simp only[↓pa,pb,↓reduceIte,reduceEqDiff,h5];refine aa (fun h6=>?_) (fun h6=>?_)
 ·have h6':0<i:=by omega
  have hp:((i:Int) -1).toNat=i-1:=by omega
  have eb:xN l (i-1)=l[i-1]:=sC (by omega);have er:oi l i=eq l[i-1].1 l[i].1:=by rw[oi,ea,eb,decide_eq_false (by omega),Bool.false_or]
  simp (disch:=omega)only[↓pa,pb,ai,↓reduceIte,reduceEqDiff,reduceCtorEq,f0,h6,hp,bi,oE (show i-1<l.length by omega)];refine aa (fun h7=>?_) (fun h7=>?_);rotate_left
  ·simp only[↓pa,pb,↓reduceIte,reduceEqDiff,h7];rw[bad (by rw[dX,er];simp[h7])]
  simp only[↓pa,pb,ai,↓reduceIte,reduceEqDiff,reduceAdd,h7,pQ K];refine aa (fun h8=>?_) (fun h8=>?_)
  ·simp (disch:=omega)only[↓pa,pb,aV,↓reduceIte,reduceEqDiff,reduceCtorEq,f0,f8,f9,f10,h8];have ok:dX l i=true:=by rw[dX,er,ea];simp[h5,h8];try exact h7
   exact⟨l.length- (i+1),by omega,i+1,rfl,by omega,rfl,ge hall ok⟩
  ·simp only[↓pa,pb,↓reduceIte,h8];rw[bad (by rw[dX,er,ea];simp[h8])]
 ·have er:oi l i=true:=by rw[oi,decide_eq_true (by omega)];rfl
  simp only[↓pa,pb,ai,↓reduceIte,reduceEqDiff,reduceAdd,h6,pQ K];refine aa (fun h8=>?_) (fun h8=>?_)
  ·simp (disch:=omega)only[↓pa,pb,aV,↓reduceIte,reduceEqDiff,reduceCtorEq,f0,f8,f9,f10,h8];have ok:dX l i=true:=by rw[dX,er,ea];simp[h5,h8];try exact h7
   exact⟨l.length- (i+1),by omega,i+1,rfl,by omega,rfl,ge hall ok⟩
  ·simp only[↓pa,pb,↓reduceIte,h8];rw[bad (by rw[dX,er,ea];simp[h8])]
def BE(K:bJ cf)(l:List Fd):av cf 120 [FX l] [] st=some (.bool (hU l),st):=by
 refine cQ K.tab (F:=F120) (t:=2) rfl rfl rfl (lb rfl) (by simp[ga]) (ce _) (l.length+1) ?_;have hm:=fq l;unfold F120 qg qr qd qm qi qc qb qk ql qf qt qa qx qn qo;simp only[↓pa,pb,↓reduceIte,reduceCtorEq];refine aa (fun h1=>?_) (fun h1=>?_)
 ·simp only[↓pa,pb,↓reduceIte,h1];have:¬ ((l.length:Int)<=20):=by omega
  simp only[hU,this,decide_false,g8]
 have h1':(l.length:Int)<=20:=by omega
 simp only[↓pa,pb,h1];refine be (fun k fr st=>∃ i:Nat,k=l.length-i/\i<=l.length/\fr 0=FX l/\fr 3=I i/\∀ j,j<i->dX l j=true) l.length (by omega) ⟨0,by simp,by omega,by simp only[↓pa,↓reduceIte,reduceCtorEq],by simp only[↓pa,↓reduceIte];rfl,fun j hj=>by omega⟩ ?_;rintro k fr st ⟨i,rfl,hi,f0,f3,hall⟩;simp only[↓pa,pb,aV,↓reduceIte,reduceEqDiff,reduceCtorEq,f0,f3];refine aa (fun h4=>?_) (fun h4=>?_);rotate_left
 ·simp only[↓pa,pb,↓reduceIte,h4];have ha:lZ l.length (dX l)=true:=li fun j hj=>hall j (by omega);simp only[hU,decide_eq_true h1',ha,ap]
 have hlt:i<l.length:=h4;have bad:dX l i=false->hU l=false:=fun h=>by rw[hU,gf hlt h,Bool.and_false]
 have ea:xN l i=l[i]:=sC hlt;simp (disch:=omega)only[↓pa,pb,↓reduceIte,reduceEqDiff,reduceCtorEq,f0,f3,bi,oE hlt,nO K.tab];refine aa (fun h5=>?_) (fun h5=>?_);rotate_left
 ·simp only[↓pa,pb,↓reduceIte,reduceEqDiff,h5];rw[bad (by rw[dX,ea];simp[h5])]
 simp only[↓pa,pb,↓reduceIte,reduceEqDiff,f3,h5];refine aa (fun h6=>?_) (fun h6=>?_)
 ·have h6':0<i:=by omega
  have hp:((i:Int) -1).toNat=i-1:=by omega
  have eb:xN l (i-1)=l[i-1]:=sC (by omega);have er:oi l i=eq l[i-1].1 l[i].1:=by rw[oi,ea,eb,decide_eq_false (by omega),Bool.false_or]
  simp (disch:=omega)only[↓pa,pb,↓reduceIte,reduceEqDiff,reduceCtorEq,f0,f3,h6,hp,bi,oE (show i-1<l.length by omega),oE hlt];refine aa (fun h7=>?_) (fun h7=>?_);rotate_left
  ·simp only[↓pa,pb,↓reduceIte,reduceEqDiff,h7];rw[bad (by rw[dX,er];simp[h7])]
  simp (disch:=omega)only[↓pa,pb,↓reduceIte,reduceEqDiff,reduceCtorEq,f0,f3,h7,CA hlt,oz K];refine aa (fun h8=>?_) (fun h8=>?_)
  ·simp (disch:=omega)only[↓pa,pb,aV,↓reduceIte,reduceEqDiff,reduceCtorEq,f0,f3,h8];have ok:dX l i=true:=by rw[dX,er,ea];simp[h5,h8];try exact h7
   exact⟨l.length- (i+1),by omega,i+1,rfl,by omega,rfl,ge hall ok⟩
  ·simp only[↓pa,pb,↓reduceIte,h8];rw[bad (by rw[dX,er,ea];simp[h8])]
 ·have er:oi l i=true:=by rw[oi,decide_eq_true (by omega)];rfl
  simp (disch:=omega)only[↓pa,pb,↓reduceIte,reduceEqDiff,reduceCtorEq,f0,f3,h6,CA hlt,oz K];refine aa (fun h8=>?_) (fun h8=>?_)
  ·simp (disch:=omega)only[↓pa,pb,aV,↓reduceIte,reduceEqDiff,reduceCtorEq,f0,f3,h8];have ok:dX l i=true:=by rw[dX,er,ea];simp[h5,h8];try exact h7
   exact⟨l.length- (i+1),by omega,i+1,rfl,by omega,rfl,ge hall ok⟩
  ·simp only[↓pa,pb,↓reduceIte,h8];rw[bad (by rw[dX,er,ea];simp[h8])]
structure Nd where
 id:Int
 labels:List (List UInt8)
 fields:List Fd
structure Eg where
 id:Int
 type:List UInt8
 src:Int
 dst:Int
 fields:List Fd
structure bY where
 nodes:List Nd
 edges:List Eg
def nc(n:Nd):List PV:=[I n.id,TX n.labels,FX n.fields]
def ec(e:Eg):List PV:=[I e.id,S e.type,I e.src,I e.dst,FX e.fields]
@[reducible] def NX (l:List Nd):PV:= .list l.length (l.flatMap nc) .no
@[reducible] def EX (l:List Eg):PV:= .list l.length (l.flatMap ec) .no
def gc(g:bY):List PV:=[NX g.nodes,EX g.edges]
def cC(n:Nd):(nc n).length=3:=rfl
def cw(e:Eg):(ec e).length=5:=rfl
def bN{α:Type}(enc:α->List PV)(m:Nat)(h:∀ a,(enc a).length=m)(l:List α):(l.flatMap enc).length=l.length*m:=by
 induction l with
 |nil=>simp
 |cons a l ih=>rw[bf,af,ih,h,au,gg];omega
def gz{α:Type}(enc:α->List PV)(h:∀ a,cK (enc a))(l:List α):cK (l.flatMap enc):=by
 induction l with
 |nil=>exact dL
 |cons a l ih=>rw[bf];exact jY (h a) ih
def lu(n:Nd):cK (nc n):=bu (aQ _ _) (bu (ia _) (bu (ga _) dL))
def ly(e:Eg):cK (ec e):=bu (aQ _ _) (bu (bZ _) (bu (aQ _ _) (bu (aQ _ _) (bu (ga _) dL))))
def sV(l:List Nd):cT (NX l):=fE (gz nc lu l)
def vV(l:List Eg):cT (EX l):=fE (gz ec ly l)
def C1(g:bY):cK (gc g):=bu (sV _) (bu (vV _) dL)
def gu(n:Nd):cT (.agg (nc n)):=ej (lu n)
def gv(e:Eg):cT (.agg (ec e)):=ej (ly e)
def dW(g:bY):cT (.agg (gc g)):=ej (C1 g)
def pF(n:Nd):Bool:=km n.id && (iM 10 n.labels && hU n.fields)
def ol(e:Eg):Bool:=km e.id && (dH e.type && (km e.src && (km e.dst && hU e.fields)))
def Dp(K:bJ cf)(n:Nd):av cf 88 [.agg (nc n)] [] st=some (.bool (pF n),st):=by
 refine cQ K.tab (F:=F88) (t:=2) rfl rfl rfl (lb rfl) (by simp[gu]) (ce _) 1 ?_;unfold F88 qr qm qc ql qf qt qy qo pF;simp only[↓pa,pb,ai,↓reduceIte,reduceEqDiff,reduceAdd,nc,ry K.tab];cases h1:km n.id
 ·simp only[↓pa,pb,↓reduceIte,reduceEqDiff]
 simp only[↓pa,pb,ai,↓reduceIte,reduceEqDiff,reduceAdd,Dr K.tab n.labels 10 (by decide)];cases h2:iM 10 n.labels
 ·simp only[↓pa,pb,↓reduceIte,reduceEqDiff]
 simp only[↓pa,pb,ai,↓reduceIte,reduceEqDiff,reduceAdd,Ds K n.fields]
def BB(K:bJ cf)(n:Nd):av cf 81 [.agg (nc n)] [] st=some (.bool (pF n),st):=by
 refine cQ K.tab (F:=F81) (t:=2) rfl rfl rfl (lb rfl) (by simp[gu]) (ce _) 1 ?_;unfold F81 qr qm qc ql qf qt qy qo pF;simp only[↓pa,pb,ai,↓reduceIte,reduceEqDiff,reduceAdd,nc,po K.tab];cases h1:km n.id
 ·simp only[↓pa,pb,↓reduceIte,reduceEqDiff]
 simp only[↓pa,pb,ai,↓reduceIte,reduceEqDiff,reduceAdd,BD K.tab n.labels];cases h2:iM 10 n.labels
 ·simp only[↓pa,pb,↓reduceIte,reduceEqDiff]
 simp only[↓pa,pb,ai,↓reduceIte,reduceEqDiff,reduceAdd,BE K n.fields]
def Dt(K:bJ cf)(e:Eg):av cf 89 [.agg (ec e)] [] st=some (.bool (ol e),st):=by
 refine cQ K.tab (F:=F89) (t:=2) rfl rfl rfl (lb rfl) (by simp[gv]) (ce _) 1 ?_;unfold F89 qr qm qc ql qf qt qy qo ol;simp only[↓pa,pb,ai,↓reduceIte,reduceEqDiff,reduceAdd,ec,ry K.tab];cases h1:km e.id
 ·simp only[↓pa,pb,↓reduceIte,reduceEqDiff]
 simp only[↓pa,pb,ai,↓reduceIte,reduceEqDiff,reduceAdd,pP K.tab];cases h2:dH e.type
 ·simp only[↓pa,pb,↓reduceIte,reduceEqDiff]
 simp only[↓pa,pb,ai,↓reduceIte,reduceEqDiff,reduceAdd,ry K.tab];cases h3:km e.src
 ·simp only[↓pa,pb,↓reduceIte,reduceEqDiff]
 simp only[↓pa,pb,ai,↓reduceIte,reduceEqDiff,reduceAdd,ry K.tab];cases h4:km e.dst
 ·simp only[↓pa,pb,↓reduceIte,reduceEqDiff]
 simp only[↓pa,pb,ai,↓reduceIte,reduceEqDiff,reduceAdd,Ds K e.fields]
def BF(K:bJ cf)(e:Eg):av cf 82 [.agg (ec e)] [] st=some (.bool (ol e),st):=by
 refine cQ K.tab (F:=F82) (t:=2) rfl rfl rfl (lb rfl) (by simp[gv]) (ce _) 1 ?_;unfold F82 qr qm qc ql qf qt qy qo ol;simp only[↓pa,pb,ai,↓reduceIte,reduceEqDiff,reduceAdd,ec,po K.tab];cases h1:km e.id
 ·simp only[↓pa,pb,↓reduceIte,reduceEqDiff]
 simp only[↓pa,pb,ai,↓reduceIte,reduceEqDiff,reduceAdd,nO K.tab];cases h2:dH e.type
 ·simp only[↓pa,pb,↓reduceIte,reduceEqDiff]
 simp only[↓pa,pb,ai,↓reduceIte,reduceEqDiff,reduceAdd,po K.tab];cases h3:km e.src
 ·simp only[↓pa,pb,↓reduceIte,reduceEqDiff]
 simp only[↓pa,pb,ai,↓reduceIte,reduceEqDiff,reduceAdd,po K.tab];cases h4:km e.dst
 ·simp only[↓pa,pb,↓reduceIte,reduceEqDiff]
 simp only[↓pa,pb,ai,↓reduceIte,reduceEqDiff,reduceAdd,BE K e.fields]
def ph{l:List Nd}{j:Nat}(h:j<l.length):bI (l.flatMap nc) (j*3) 3 true=some (.agg (nc l[j])):=by
 have:=df nc 3 cC 0 3 true (by decide) l j h;rw[show j*3=j*3+0 from rfl,this];exact sY (cC _)
def rk{l:List Nd}{j:Nat}(h:j<l.length):bI (l.flatMap nc) (j*3) 1 false=some (I l[j].id):=by
 have:=df nc 3 cC 0 1 false (by decide) l j h;rw[show j*3=j*3+0 from rfl,this];rfl
def pj{l:List Eg}{j:Nat}(h:j<l.length):bI (l.flatMap ec) (j*5) 5 true=some (.agg (ec l[j])):=by
 have:=df ec 5 cw 0 5 true (by decide) l j h;rw[show j*5=j*5+0 from rfl,this];exact sY (cw _)
def pi{l:List Eg}{j:Nat}(h:j<l.length):bI (l.flatMap ec) (j*5) 1 false=some (I l[j].id):=by
 have:=df ec 5 cw 0 1 false (by decide) l j h;rw[show j*5=j*5+0 from rfl,this];rfl
def mw(id:Int):List Nd->Nat->Int
 | [],_=> -1
 |n::l,k=>if n.id=id then(k:Int)else mw id l (k+1)
def dA(l:List Nd)(id:Int):Int:=mw id l 0
def jg(l:List Nd)(id:Int):Bool:=l.any fun n=>decide (n.id=id)
def oI(id:Int):∀ (l:List Nd) (k:Nat),(mw id l k<0)=(jg l id=false)
 | [],_=>by simp[mw,jg]
 |n::l,k=>by
  have ih:=oI id l (k+1);unfold mw jg;by_cases h:n.id=id
  ·rw[ak h];simp[h]
  ·rw[ad h,ih];simp[jg,h]
def wA(K:bJ cf)(g:bY)(id:Int)(hl:g.nodes.length<=2000000):av cf 83 [.agg (gc g),I id] [] st=some (I (dA g.nodes id),st):=by
 refine cQ K.tab (F:=F83) (t:=4) rfl rfl rfl (lb rfl) (by simp[dW,aQ]) (dD _ _) (g.nodes.length+1) ?_;have hm:=bN nc 3 cC g.nodes;unfold F83 qr qd qm qi qb qk ql qf qa qn qo;simp only[↓pa,ai,↓reduceIte,reduceAdd,gc];refine be (fun k fr st=>∃ i:Nat,k=g.nodes.length-i/\i<=g.nodes.length/\fr 1=I id/\fr 2= .ptr 2 0/\st.objs 2=some [NX g.nodes,EX g.edges]/\fr 5=I i/\mw id (g.nodes.drop i) i=dA g.nodes id) g.nodes.length (by omega) ⟨0,by simp,by omega,by simp only[↓pa,pb,↓reduceIte,reduceEqDiff],by simp only[↓pa,↓reduceIte,reduceEqDiff],by simp only[pb,↓reduceIte],by simp only[↓pa,↓reduceIte];rfl,rfl⟩ ?_;rintro k fr st ⟨i,rfl,hi,f1,f2,o2,f5,hQ⟩;simp only[↓pa,pb,ai,aV,↓reduceIte,reduceEqDiff,reduceAdd,f2,o2,f5];refine aa (fun h1=>?_) (fun h1=>?_)
 ·rw[a6 h1,mw]at hQ;simp (disch:=omega)only[↓pa,pb,ai,↓reduceIte,reduceEqDiff,f1,f2,o2,f5,bi,rk h1];refine aa (fun h2=>?_) (fun h2=>?_)
  ·rw[ak h2]at hQ;simp only[↓pa,pb,↓reduceIte,reduceEqDiff,f5,h2];rw[<-hQ]
  ·rw[ad h2]at hQ;simp (disch:=omega)only[↓pa,pb,aV,↓reduceIte,reduceEqDiff,f1,f2,o2,f5,h2];exact⟨g.nodes.length- (i+1),by omega,i+1,rfl,by omega,rfl,hQ⟩
 ·have:i=g.nodes.length:=by omega
  rw[this,mI]at hQ;simp only[↓pa,pb,↓reduceIte,h1];rw[<-hQ];rfl
def s8(l:List Nd)(i:Nat):Nd:=l.getD i ⟨0,[],[]⟩
def sE(l:List Eg)(i:Nat):Eg:=l.getD i ⟨0,[],0,0,[]⟩
def mK{l:List Nd}{i:Nat}(h:i<l.length):s8 l i=l[i]:=by simp[s8,h]
def om{l:List Eg}{i:Nat}(h:i<l.length):sE l i=l[i]:=by simp[sE,h]
def rl(l:List Nd)(i:Nat):Bool:=decide (i=0)||decide ((s8 l (i-1)).id<(s8 l i).id)
def mM(l:List Eg)(i:Nat):Bool:=decide (i=0)||decide ((sE l (i-1)).id<(sE l i).id)
def eJ(l:List Nd)(i:Nat):Bool:=pF (s8 l i) && rl l i
def cO(g:bY)(i:Nat):Bool:=ol (sE g.edges i) && (mM g.edges i && (jg g.nodes (sE g.edges i).src && jg g.nodes (sE g.edges i).dst))
def ed(g:bY):Bool:=(decide ((g.nodes.length:Int)<=200) && decide ((g.edges.length:Int)<=400)) && (lZ g.nodes.length (eJ g.nodes) && lZ g.edges.length (cO g))
def rL(g:bY):Int:=if ed g then 0 else 1
def jV{g:bY}(h:ed g=false):rL g=1:=by rw[rL,h];rfl
def Mj(K:bJ cf)(g:bY):av cf 40 [.agg (gc g)] [] st=some (I (rL g),st):=by
 refine cQ K.tab (F:=F40) (t:=2) rfl rfl rfl (lb rfl) (by simp[dW]) (dD _ _) (g.nodes.length+g.edges.length+1) ?_;have hm:=bN nc 3 cC g.nodes;have hm2:=bN ec 5 cw g.edges;unfold F40 qg qr qd qm qi qb qk ql qf qt qa qx qn qs qo qN;simp only[↓pa,pb,ai,↓reduceIte,reduceEqDiff,reduceAdd,gc];refine aa (fun l1=>?_) (fun l1=>?_)
 ·simp only[↓pa,pb,↓reduceIte,reduceEqDiff,l1];rw[jV (by rw[ed,decide_eq_false (by omega)];simp)]
 simp only[↓pa,pb,ai,↓reduceIte,reduceEqDiff,reduceAdd,l1];refine aa (fun l2=>?_) (fun l2=>?_)
 ·simp only[↓pa,pb,↓reduceIte,l2];rw[jV (by rw[ed,decide_eq_false (p:=(g.edges.length:Int)<=400) (by omega)];simp)]
 have l1':(g.nodes.length:Int)<=200:=by omega
 have l2':(g.edges.length:Int)<=400:=by omega
 simp only[↓pa,pb,l2];refine be (fun k fr st=>∃ i:Nat,k=g.nodes.length-i/\i<=g.nodes.length/\fr 1= .ptr 1 0/\st.objs 1=some [NX g.nodes,EX g.edges]/\fr 3=I i/\∀ j,j<i->eJ g.nodes j=true) g.nodes.length (by omega) ⟨0,by simp,by omega,by simp only[↓pa,↓reduceIte,reduceEqDiff],by simp only[pb,↓reduceIte],by simp only[↓pa,↓reduceIte];rfl,fun j hj=>by omega⟩ ?_;rintro k fr st ⟨i,rfl,hi,f1,o1,f3,hall⟩;simp only[↓pa,pb,ai,aV,↓reduceIte,reduceEqDiff,reduceAdd,f1,o1,f3];refine aa (fun h1=>?_) (fun h1=>?_)
 ·have hlt:i<g.nodes.length:=h1;have ea:s8 g.nodes i=g.nodes[i]:=mK hlt;simp (disch:=omega)only[↓pa,pb,ai,↓reduceIte,reduceEqDiff,reduceAdd,f1,o1,f3,h1,ph hlt,BB K];refine aa (fun h5=>?_) (fun h5=>?_);rotate_left
  ·have nb:eJ g.nodes i=false:=by rw[eJ,ea];simp[h5]
   simp only[↓pa,pb,↓reduceIte,reduceEqDiff,h5];rw[jV (by rw[ed,gf hlt nb];simp)]
  simp only[↓pa,pb,↓reduceIte,reduceEqDiff,f3,h5];refine aa (fun h6=>?_) (fun h6=>?_)
  ·have hp:((i:Int) -1).toNat=i-1:=by omega
   have h6':0<i:=by omega
   have eb:s8 g.nodes (i-1)=g.nodes[i-1]:=mK (by omega);simp (disch:=omega)only[↓pa,pb,ai,↓reduceIte,reduceEqDiff,f1,o1,f3,h6,hp,bi,rk (show i-1<g.nodes.length by omega),rk hlt];refine aa (fun h7=>?_) (fun h7=>?_)
   ·have nb:eJ g.nodes i=false:=by rw[eJ,rl,ea,eb,decide_eq_false (p:=i=0) (by omega),decide_eq_false (by omega)];simp
    simp only[↓pa,pb,↓reduceIte,h7];rw[jV (by rw[ed,gf hlt nb];simp)]
   ·have ok:eJ g.nodes i=true:=by rw[eJ,rl,ea,eb,h5,decide_eq_true (p:=g.nodes[i-1].id<g.nodes[i].id) (by omega)];simp
    simp (disch:=omega)only[↓pa,pb,aV,↓reduceIte,reduceEqDiff,f1,o1,f3,h7];exact⟨g.nodes.length- (i+1),by omega,i+1,rfl,by omega,rfl,ge hall ok⟩
  ·have ok:eJ g.nodes i=true:=by rw[eJ,rl,ea,h5,decide_eq_true (p:=i=0) (by omega)];rfl
   simp (disch:=omega)only[↓pa,pb,aV,↓reduceIte,reduceEqDiff,f1,o1,f3,h6];exact⟨g.nodes.length- (i+1),by omega,i+1,rfl,by omega,rfl,ge hall ok⟩
 have hn:lZ g.nodes.length (eJ g.nodes)=true:=li fun j hj=>hall j (by omega);simp only[↓pa,pb,h1];clear hall f3;revert f1 o1;generalize hfr:fr=fr0;intro f1 o1;refine be (fun k fr st=>∃ i:Nat,k=g.edges.length-i/\i<=g.edges.length/\fr 1= .ptr 1 0/\st.objs 1=some [NX g.nodes,EX g.edges]/\fr 4=I i/\∀ j,j<i->cO g j=true) g.edges.length (by omega) ⟨0,by simp,by omega,by simp only[↓pa,↓reduceIte,reduceEqDiff,f1],by simp only[o1],by simp only[↓pa,↓reduceIte];rfl,fun j hj=>by omega⟩ ?_;rintro k fr st ⟨i,rfl,hi,f1,o1,f4,hall⟩;simp only[↓pa,pb,ai,aV,↓reduceIte,reduceEqDiff,reduceAdd,f1,o1,f4];refine aa (fun k1=>?_) (fun k1=>?_);rotate_left
 ·have he:lZ g.edges.length (cO g)=true:=li fun j hj=>hall j (by omega);simp only[↓pa,pb,↓reduceIte,k1];rw[rL,ed,hn,he,decide_eq_true l1',decide_eq_true l2'];rfl
 have hlt:i<g.edges.length:=k1;have ea:sE g.edges i=g.edges[i]:=om hlt;have hec:(ec g.edges[i]).length=5:=rfl;have hna:∀ id st,av cf 83 [.agg [NX g.nodes,EX g.edges],I id] [] st=some (I (dA g.nodes id),st):=fun id st=>wA K g id (by omega);have heo:∀ st,av cf 82 [.agg [I g.edges[i].id,S g.edges[i].type,I g.edges[i].src,I g.edges[i].dst,FX g.edges[i].fields]] [] st=some (.bool (ol g.edges[i]),st):=fun st=>BF K g.edges[i];simp (disch:=omega)only[↓pa,pb,ai,↓reduceIte,reduceEqDiff,reduceAdd,reduceLeDiff,f1,o1,f4,k1,pj hlt,ec,heo];refine aa (fun h5=>?_) (fun h5=>?_);rotate_left
 ·have nb:cO g i=false:=by rw[cO,ea];simp[h5]
  simp only[↓pa,pb,↓reduceIte,reduceEqDiff,h5];rw[jV (by rw[ed,gf hlt nb];simp)]
 simp only[↓pa,pb,↓reduceIte,reduceEqDiff,f4,h5];refine aa (fun h6=>?_) (fun h6=>?_)
 ·have hp:((i:Int) -1).toNat=i-1:=by omega
  have h6':0<i:=by omega
  have eb:sE g.edges (i-1)=g.edges[i-1]:=om (by omega);simp (disch:=omega)only[↓pa,pb,ai,↓reduceIte,reduceEqDiff,reduceAdd,f1,o1,f4,h6,hp,bi,pi (show i-1<g.edges.length by omega)];refine aa (fun h7=>?_) (fun h7=>?_)
  ·have nb:cO g i=false:=by rw[cO,mM,ea,eb,decide_eq_false (p:=i=0) (by omega),decide_eq_false (p:=g.edges[i-1].id<g.edges[i].id) (by omega)];simp
   simp only[↓pa,pb,↓reduceIte,reduceEqDiff,h7];rw[jV (by rw[ed,gf hlt nb];simp)]
  ·have er:mM g.edges i=true:=by rw[mM,ea,eb,decide_eq_true (p:=g.edges[i-1].id<g.edges[i].id) (by omega)];simp
   simp only[↓pa,pb,ai,↓reduceIte,reduceEqDiff,reduceAdd,reduceLeDiff,f1,o1,h7,hna];refine aa (fun h8=>?_) (fun h8=>?_)
   ·have nb:cO g i=false:=by rw[dA,oI]at h8;rw[cO,ea,h8];simp
    simp only[↓pa,pb,↓reduceIte,reduceEqDiff,h8];rw[jV (by rw[ed,gf hlt nb];simp)]
   simp only[↓pa,pb,ai,↓reduceIte,reduceEqDiff,reduceAdd,reduceLeDiff,f1,o1,h8,hna];refine aa (fun h9=>?_) (fun h9=>?_)
   ·have nb:cO g i=false:=by rw[dA,oI]at h9;rw[cO,ea,h9];simp
    simp only[↓pa,pb,↓reduceIte,h9];rw[jV (by rw[ed,gf hlt nb];simp)]
   ·have ok:cO g i=true:=by
     rw[dA,oI]at h8 h9;rw[Bool.not_eq_false]at h8 h9;rw[cO,ea,h5,er,h8,h9];rfl
    simp (disch:=omega)only[↓pa,pb,aV,↓reduceIte,reduceEqDiff,f1,o1,f4,h9];exact⟨g.edges.length- (i+1),by omega,i+1,rfl,by omega,rfl,ge hall ok⟩
 ·have er:mM g.edges i=true:=by rw[mM,decide_eq_true (p:=i=0) (by omega)];rfl
  simp only[↓pa,pb,ai,↓reduceIte,reduceEqDiff,reduceAdd,reduceLeDiff,f1,o1,h6,hna];refine aa (fun h8=>?_) (fun h8=>?_)
  ·have nb:cO g i=false:=by rw[dA,oI]at h8;rw[cO,ea,h8];simp
   simp only[↓pa,pb,↓reduceIte,reduceEqDiff,h8];rw[jV (by rw[ed,gf hlt nb];simp)]
  simp only[↓pa,pb,ai,↓reduceIte,reduceEqDiff,reduceAdd,reduceLeDiff,f1,o1,h8,hna];refine aa (fun h9=>?_) (fun h9=>?_)
  ·have nb:cO g i=false:=by rw[dA,oI]at h9;rw[cO,ea,h9];simp
   simp only[↓pa,pb,↓reduceIte,h9];rw[jV (by rw[ed,gf hlt nb];simp)]
  ·have ok:cO g i=true:=by
    rw[dA,oI]at h8 h9;rw[Bool.not_eq_false]at h8 h9;rw[cO,ea,h5,er,h8,h9];rfl
   simp (disch:=omega)only[↓pa,pb,aV,↓reduceIte,reduceEqDiff,f1,o1,f4,h9];exact⟨g.edges.length- (i+1),by omega,i+1,rfl,by omega,rfl,ge hall ok⟩
def Af(st:St)(s:Nat)(es:List (PV×PV)):St:={st with maps:=fun k=>if k=s then some es else st.maps k}
def Gf(kk:Nat)(m k v:PV)(st:St):Option (PV×St):=match m with
 | .mp s=>match st.maps s with
  |some es=>if lW k=kk/\np v=true then match nK k es 0 with
   |some (some (i,_))=>some (.hole,Af st s (es.set i (k,v)))
   |some none=>some (.hole,Af st s (es++[(k,v)]))
   |none=>none
   else none
  |none=>none
 |_=>none
def CJ(ok:Bool)(zero:PV)(kk:Nat)(m k:PV)(st:St):Option (PV×St):=match m with
 | .mp s=>match st.maps s with
  |some es=>if lW k=kk then match nK k es 0 with
   |some (some (_,v))=>some (if ok then .tup [v,.bool true]else v,st)
   |some none=>some (if ok then .tup [zero,.bool false]else zero,st)
   |none=>none
   else none
  |none=>none
 |_=>none
def vU:
  (∀ {cf:aA} {fr:Fr} {st:St} {s:Nat},aw cf fr st (some s) .mkmap=some (.mp s,Af st s []))/\
  (∀ {cf:aA} {fr:Fr} {st:St} {d:Option Nat} {kk:Nat} {m k v:CX},aw cf fr st d (.mpset kk m k v)=Gf kk (m.ev fr) (k.ev fr) (v.ev fr) st)/\
  (∀ {cf:aA} {fr:Fr} {st:St} {d:Option Nat} {ok:Bool} {zero:PV} {kk:Nat} {m k:CX},aw cf fr st d (.mpget ok zero kk m k)=CJ ok zero kk (m.ev fr) (k.ev fr) st)/\
  (∀ {st:St} {s:Nat} {es:List (PV×PV)},(Af st s es).objs=st.objs)/\(∀ {st:St} {s:Nat} {es:List (PV×PV)} {k:Nat},(Af st s es).maps k=if k=s then some es else st.maps k):=⟨rfl,rfl,rfl,rfl,rfl⟩
def rC(k:Int):PV×PV:=(I k,I 1)
def ru(x:Int):∀ (ks:List Int) (j:Nat),(x∈ks->∃ i,i<ks.length/\ks[i]? =some x/\nK (I x) (ks.map rC) j=some (some (j+i,I 1)))/\(x∉ks->nK (I x) (ks.map rC) j=some none)
 | [],j=>⟨fun h=>by simp at h,fun _=>rfl⟩
 |k::ks,j=>by
  have ih:=ru x ks (j+1);have hf:nK (I x) ((k::ks).map rC) j=if x=k then some (some (j,I 1))else nK (I x) (ks.map rC) (j+1):=by
   rw[aH,nK];have:B4 (I x) (rC k).1=some (x==k):=rfl;rw[this];by_cases h:x=k
   ·have hb:(x==k)=true:=by simp[h]
    rw[hb,ak h];rfl
   ·have hb:(x==k)=false:=by simp[h]
    rw[hb,ad h]
  constructor
  ·intro h;by_cases hk:x=k
   ·exact⟨0,by simp,by simp[hk],by rw[hf,ak hk];rfl⟩
   ·obtain⟨i,h1,h2,h3⟩:=ih.1 (by simpa [hk]using h);exact⟨i+1,by simpa using h1,by simpa using h2,by rw[hf,ad hk,h3];congr 3;omega⟩
  ·intro h;simp only[aX,not_or]at h;rw[hf,ad h.1];exact ih.2 h.2
def Cq{ks:List Int}{x:Int}(hs:st.maps s=some (ks.map rC))(k:∀ ks':List Int,(∀ y,y∈ks'↔(y∈ks\/y=x))->A (mk .hole (Af st s (ks'.map rC)))):cP (Gf 0 (.mp s) (I x) (I 1) st) mk A:=by
 have h0:lW (I x)=0/\np (I 1)=true:=⟨rfl,rfl⟩;by_cases hx:x∈ks
 ·obtain⟨i,h1,h2,h3⟩:=(ru x ks 0).1 hx;simp only[Gf,hs,h0,h3,kx,if_true];rw[eH];have:(ks.map rC).set (0+i) (I x,I 1)=ks.map rC:=by
   apply fR;intro q;rw[List.getElem?_set];split
   ·rename_i e;subst e;simp only[b8,aq,h1,if_true,de,h2,dC];rfl
   ·rfl
  rw[this];exact k ks fun y=>⟨.inl,fun h=>h.elim id fun e=>by rw[e];exact hx⟩
 ·have h3:=(ru x ks 0).2 hx;simp only[Gf,hs,h0,h3,kx,if_true];rw[eH];have:ks.map rC++[(I x,I 1)]=(ks++[x]).map rC:=by simp[rC]
  rw[this];exact k (ks++[x]) fun y=>by simp
def Gg{ks:List Int}{x:Int}(hs:st.maps s=some (ks.map rC)):CJ false (I 0) 0 (.mp s) (I x) st=some (I (if x∈ks then 1 else 0),st):=by
 have h0:lW (I x)=0:=rfl;by_cases hx:x∈ks
 ·obtain⟨i,h1,h2,h3⟩:=(ru x ks 0).1 hx;simp only[CJ,hs,h0,h3,if_true,hx,bG,if_false]
 ·have h3:=(ru x ks 0).2 hx;simp only[CJ,hs,h0,h3,if_true,hx,bG,if_false]
def zD{l:List Nd}{i:Nat}(h:i<l.length)(x:Int):(jg (l.take (i+1)) x=true)↔(jg (l.take i) x=true\/x=l[i].id):=by
 unfold jg;rw[aW h,List.any_append];simp only[List.any_cons,List.any_nil,Bool.or_false,cF,decide_eq_true_eq];exact⟨fun h=>h.imp id Eq.symm,fun h=>h.imp id Eq.symm⟩
def Bn{g:bY}{i:Nat}(hlt:i<g.nodes.length)(nb:eJ g.nodes i=false):ed g=false:=by rw[ed,gf hlt nb];simp
def nH{g:bY}{i:Nat}(hlt:i<g.edges.length)(nb:cO g i=false):ed g=false:=by rw[ed,gf hlt nb];simp
def IK(K:bJ cf)(g:bY):av cf 46 [.agg (gc g)] [] st=some (.bool (ed g),st):=by
 refine cQ K.tab (F:=F46) (t:=2) rfl rfl rfl (lb rfl) (by simp[dW]) (ce _) (g.nodes.length+g.edges.length+1) ?_;have hm:=bN nc 3 cC g.nodes;have hm2:=bN ec 5 cw g.edges;unfold F46 qg qr qd qm qi qc qb qk ql qf qt qa qx qn qs qo qe qN;simp only[↓pa,pb,ai,↓reduceIte,reduceEqDiff,reduceAdd,gc];refine aa (fun l1=>?_) (fun l1=>?_)
 ·simp only[↓pa,pb,↓reduceIte,reduceEqDiff,l1];rw[ed,decide_eq_false (by omega)];simp
 simp only[↓pa,pb,ai,↓reduceIte,reduceEqDiff,reduceAdd,l1];refine aa (fun l2=>?_) (fun l2=>?_)
 ·simp only[↓pa,pb,↓reduceIte,l2];rw[ed,decide_eq_false (p:=(g.edges.length:Int)<=400) (by omega)];simp
 have l1':(g.nodes.length:Int)<=200:=by omega
 have l2':(g.edges.length:Int)<=400:=by omega
 simp only[↓pa,pb,ai,↓reduceIte,reduceEqDiff,reduceAdd,vU,l2];refine be (fun k fr st=>∃ (i:Nat) (ks:List Int),k=g.nodes.length-i/\i<=g.nodes.length/\fr 1= .ptr 1 0/\st.objs 1=some [NX g.nodes,EX g.edges]/\fr 3= .mp 18/\fr 20=NX g.nodes/\fr 21=I g.nodes.length/\fr 22=I i/\st.maps 18=some (ks.map rC)/\(∀ x,x∈ks↔jg (g.nodes.take i) x=true)/\∀ j,j<i->eJ g.nodes j=true) g.nodes.length (by omega)
  ⟨0,[],by simp,by omega,by simp only[↓pa,pb,↓reduceIte,reduceEqDiff],by simp only[pb,↓reduceIte,vU],by simp only[↓pa,↓reduceIte,reduceEqDiff],by simp only[↓pa,↓reduceIte,reduceEqDiff],by simp only[↓pa,↓reduceIte,reduceEqDiff],by simp only[↓pa,↓reduceIte];rfl,by simp only[pb,↓reduceIte,vU]<;>rfl,by simp[jg],fun j hj=>by omega⟩ ?_
 rintro k fr st ⟨i,ks,rfl,hi,f1,o1,f3,f20,f21,f22,m18,hks,hall⟩;simp only[↓pa,pb,aV,↓reduceIte,f21,f22];refine aa (fun h1=>?_) (fun h1=>?_)
 ·have hlt:i<g.nodes.length:=h1;have ea:s8 g.nodes i=g.nodes[i]:=mK hlt;have hno:∀ st,av cf 88 [.agg [I g.nodes[i].id,TX g.nodes[i].labels,FX g.nodes[i].fields]] [] st=some (.bool (pF g.nodes[i]),st):=fun st=>Dp K g.nodes[i];simp (disch:=omega)only[↓pa,pb,ai,↓reduceIte,reduceEqDiff,reduceAdd,reduceLeDiff,f20,f22,h1,ph hlt,nc,hno];refine aa (fun h5=>?_) (fun h5=>?_);rotate_left
  ·have nb:eJ g.nodes i=false:=by rw[eJ,ea];simp[h5]
   simp only[↓pa,pb,↓reduceIte,reduceEqDiff,h5];rw[Bn hlt nb]
  simp only[↓pa,pb,↓reduceIte,reduceEqDiff,h5];refine aa (fun h6=>?_) (fun h6=>?_)
  ·have hp:((i:Int) -1).toNat=i-1:=by omega
   have h6':0<i:=by omega
   have eb:s8 g.nodes (i-1)=g.nodes[i-1]:=mK (by omega);simp (maxSteps:=999999) (disch:=omega)only[↓pa,pb,ai,↓reduceIte,reduceEqDiff,f1,o1,h6,hp,bi,rk (show i-1<g.nodes.length by omega)];refine aa (fun h7=>?_) (fun h7=>?_)
   ·have nb:eJ g.nodes i=false:=by rw[eJ,rl,ea,eb,decide_eq_false (p:=i=0) (by omega),decide_eq_false (p:=g.nodes[i-1].id<g.nodes[i].id) (by omega)];simp
    simp only[↓pa,pb,↓reduceIte,h7];rw[Bn hlt nb]
   ·have ok:eJ g.nodes i=true:=by rw[eJ,rl,ea,eb,h5,decide_eq_true (p:=g.nodes[i-1].id<g.nodes[i].id) (by omega)];simp
    simp only[↓pa,pb,ai,↓reduceIte,reduceEqDiff,reduceAdd,vU,f3,h7];refine Cq (ks:=ks) (by simp only[pb,m18]) (fun ks' hks'=>?_);simp (disch:=omega)only[↓pa,pb,aV,↓reduceIte,reduceEqDiff,vU,f1,o1,f3,f20,f21,f22];exact⟨g.nodes.length- (i+1),by omega,i+1,ks',rfl,by omega,rfl,rfl,fun x=>by rw[hks',zD hlt,hks],ge hall ok⟩
  ·have ok:eJ g.nodes i=true:=by rw[eJ,rl,ea,h5,decide_eq_true (p:=i=0) (by omega)];rfl
   have h7:=h6;simp only[↓pa,pb,ai,↓reduceIte,reduceEqDiff,reduceAdd,vU,f3,h7];refine Cq (ks:=ks) (by simp only[pb,m18]) (fun ks' hks'=>?_);simp (disch:=omega)only[↓pa,pb,aV,↓reduceIte,reduceEqDiff,vU,f1,o1,f3,f20,f21,f22];exact⟨g.nodes.length- (i+1),by omega,i+1,ks',rfl,by omega,rfl,rfl,fun x=>by rw[hks',zD hlt,hks],ge hall ok⟩
 have hn:lZ g.nodes.length (eJ g.nodes)=true:=li fun j hj=>hall j (by omega);have hks:∀ x,x∈ks↔jg g.nodes x=true:=fun x=>by rw[hks x,bA (by omega)]
 simp only[↓pa,pb,ai,↓reduceIte,reduceEqDiff,reduceAdd,f1,o1,h1];clear hall f20 f21 f22;refine be (fun k fr st=>∃ i:Nat,k=g.edges.length-i/\i<=g.edges.length/\fr 1= .ptr 1 0/\st.objs 1=some [NX g.nodes,EX g.edges]/\fr 3= .mp 18/\fr 51=EX g.edges/\fr 52=I g.edges.length/\fr 53=I i/\st.maps 18=some (ks.map rC)/\∀ j,j<i->cO g j=true) g.edges.length (by omega) ⟨0,by simp,by omega,by simp only[↓pa,↓reduceIte,reduceEqDiff,f1],by simp only[o1],by simp only[↓pa,↓reduceIte,reduceEqDiff,f3],by simp only[↓pa,↓reduceIte,reduceEqDiff],by simp only[↓pa,↓reduceIte,reduceEqDiff],by simp only[↓pa,↓reduceIte];rfl,by simp only[m18],fun j hj=>by omega⟩ ?_;rintro k fr st ⟨i,rfl,hi,f1,o1,f3,f51,f52,f53,m18,hall⟩;simp only[↓pa,pb,aV,↓reduceIte,f52,f53];refine aa (fun k1=>?_) (fun k1=>?_);rotate_left
 ·have he:lZ g.edges.length (cO g)=true:=li fun j hj=>hall j (by omega);simp only[↓pa,pb,↓reduceIte,k1];rw[ed,hn,he,decide_eq_true l1',decide_eq_true l2'];rfl
 have hlt:i<g.edges.length:=k1;have ea:sE g.edges i=g.edges[i]:=om hlt;have heo:∀ st,av cf 89 [.agg [I g.edges[i].id,S g.edges[i].type,I g.edges[i].src,I g.edges[i].dst,FX g.edges[i].fields]] [] st=some (.bool (ol g.edges[i]),st):=fun st=>Dt K g.edges[i];have hget:∀ (x:Int) (st:St),st.maps 18=some (ks.map rC)->CJ false (I 0) 0 (.mp 18) (I x) st=some (I (if jg g.nodes x=true then 1 else 0),st):=fun x st h=>by
  rw[Gg h];simp only[hks x]
 simp (disch:=omega)only[↓pa,pb,ai,↓reduceIte,reduceEqDiff,reduceAdd,reduceLeDiff,f51,f53,k1,pj hlt,ec,heo];refine aa (fun h5=>?_) (fun h5=>?_);rotate_left
 ·have nb:cO g i=false:=by rw[cO,ea];simp[h5]
  simp only[↓pa,pb,↓reduceIte,reduceEqDiff,h5];rw[nH hlt nb]
 simp only[↓pa,pb,↓reduceIte,reduceEqDiff,h5];refine aa (fun h6=>?_) (fun h6=>?_)
 ·have hp:((i:Int) -1).toNat=i-1:=by omega
  have h6':0<i:=by omega
  have eb:sE g.edges (i-1)=g.edges[i-1]:=om (by omega);simp (disch:=omega)only[↓pa,pb,ai,↓reduceIte,reduceEqDiff,reduceAdd,f1,o1,h6,hp,bi,pi (show i-1<g.edges.length by omega)];refine aa (fun h7=>?_) (fun h7=>?_)
  ·have nb:cO g i=false:=by rw[cO,mM,ea,eb,decide_eq_false (p:=i=0) (by omega),decide_eq_false (p:=g.edges[i-1].id<g.edges[i].id) (by omega)];simp
   simp only[↓pa,pb,↓reduceIte,reduceEqDiff,h7];rw[nH hlt nb]
  ·have er:mM g.edges i=true:=by rw[mM,ea,eb,decide_eq_true (p:=g.edges[i-1].id<g.edges[i].id) (by omega)];simp
   simp only[↓pa,pb,ai,↓reduceIte,reduceEqDiff,reduceAdd,vU,f3,h7];rw[hget _ _ (by simp only[pb,m18])];cases h8:jg g.nodes g.edges[i].src
   ·have nb:cO g i=false:=by rw[cO,ea,h8];simp
    simp only[↓pa,pb,↓reduceIte,reduceEqDiff];rw[nH hlt nb]
   simp only[↓pa,pb,ai,↓reduceIte,reduceEqDiff,reduceAdd,Int.reduceEq,vU,f3];rw[hget _ _ (by simp only[pb,m18])];cases h9:jg g.nodes g.edges[i].dst
   ·have nb:cO g i=false:=by rw[cO,ea,h9];simp
    simp only[↓pa,pb,↓reduceIte,reduceEqDiff];rw[nH hlt nb]
   have ok:cO g i=true:=by rw[cO,ea,h5,er,h8,h9];rfl
   simp (disch:=omega)only[↓pa,pb,aV,↓reduceIte,reduceEqDiff,Int.reduceEq,f1,o1,f3,f51,f52,f53,m18];exact⟨g.edges.length- (i+1),by omega,i+1,rfl,by omega,rfl,ge hall ok⟩
 ·have er:mM g.edges i=true:=by rw[mM,decide_eq_true (p:=i=0) (by omega)];rfl
  simp only[↓pa,pb,ai,↓reduceIte,reduceEqDiff,reduceAdd,vU,f3,h6];rw[hget _ _ (by simp only[pb,m18])];cases h8:jg g.nodes g.edges[i].src
  ·have nb:cO g i=false:=by rw[cO,ea,h8];simp
   simp only[↓pa,pb,↓reduceIte,reduceEqDiff];rw[nH hlt nb]
  simp only[↓pa,pb,ai,↓reduceIte,reduceEqDiff,reduceAdd,Int.reduceEq,vU,f3];rw[hget _ _ (by simp only[pb,m18])];cases h9:jg g.nodes g.edges[i].dst
  ·have nb:cO g i=false:=by rw[cO,ea,h9];simp
   simp only[↓pa,pb,↓reduceIte,reduceEqDiff];rw[nH hlt nb]
  have ok:cO g i=true:=by rw[cO,ea,h5,er,h8,h9];rfl
  simp (disch:=omega)only[↓pa,pb,aV,↓reduceIte,reduceEqDiff,Int.reduceEq,f1,o1,f3,f51,f52,f53,m18];exact⟨g.edges.length- (i+1),by omega,i+1,rfl,by omega,rfl,ge hall ok⟩
def tB{o:Option (PV×St)}{m:Nat->St}{p:PV}(h:∃ r,r=p/\∃ fl,o=some (r,m fl))(k:∀ fl,A (mk p (m fl))):cP o mk A:=by
 obtain⟨r,rfl,fl,rfl⟩:=h;exact⟨_,_,rfl,k fl⟩
def EP:(∀ {l:List Fd},aI (l.flatMap fc)=true)/\(∀ {l:List Fd},aF (l.flatMap fc)=l.flatMap fc)/\(∀ {l:List Nd},aI (l.flatMap nc)=true)/\(∀ {l:List Nd},aF (l.flatMap nc)=l.flatMap nc)/\(∀ {l:List Eg},aI (l.flatMap ec)=true)/\(∀ {l:List Eg},aF (l.flatMap ec)=l.flatMap ec):=
 ⟨(hO _).1,(hO _).2.1,(gz nc lu _).1,(gz nc lu _).2.1,(gz ec ly _).1,(gz ec ly _).2.1⟩
def FA(K:bJ cf)(l:List Fd)(hl:l.length<=2000000):∃ r,r=FX l/\∃ fl,av cf 84 [FX l] [] st=some (r,cZ st fl):=by
 refine ou K.tab (F:=F84) (Q:=fun r=>r=FX l) rfl rfl rfl (lb rfl) (by simp[ga]) 1 ?_;unfold F84 qr qm qc qo qN;have hm:=fq l;simp only[↓pa,↓bT,pb,ai,↓reduceIte,reduceEqDiff,reduceAdd,reduceLT,reduceCtorEq,dv,dR];refine bj (n:=0) je rfl (by rw[hm]) (by omega) (by omega) (by decide) ?_;simp only[↓pa,pb,az,↓reduceIte,EP,aN,aq]
def Fy(K:bJ cf)(l:List (List UInt8))(hl:l.length<=2000000):∃ r,r=TX l/\∃ fl,av cf 85 [TX l] [] st=some (r,cZ st fl):=by
 refine ou K.tab (F:=F85) (Q:=fun r=>r=TX l) rfl rfl rfl (lb rfl) (by simp[ia]) 1 ?_;unfold F85 qr qm qc qo qN;simp only[↓pa,↓bT,pb,ai,↓reduceIte,reduceEqDiff,reduceAdd,reduceLT,reduceCtorEq,dv,dR];refine bj (n:=0) je rfl (by rw[b8,gp]) (by omega) (by omega) (by decide) ?_;simp only[↓pa,pb,az,fg,↓reduceIte,aN,aq]
def FB(K:bJ cf)(e:Eg)(hl:e.fields.length<=2000000):∃ r,r= .agg (ec e)/\∃ fl,av cf 41 [.agg (ec e)] [] st=some (r,cZ st fl):=by
 refine ou K.tab (F:=F41) (Q:=fun r=>r= .agg (ec e)) rfl rfl rfl (lb rfl) (by simp[gv]) 1 ?_;unfold F41 qr ql qf qt qs qo qN;simp only[↓pa,pb,ai,↓reduceIte,reduceEqDiff,reduceAdd,ec];refine tB (FA K e.fields hl) (fun fl=>?_);simp only[↓pa,pb,ai,az,↓reduceIte,reduceEqDiff,reduceAdd,reduceLeDiff,EP]
def iV{p:PV}(h:cT p):cX [p]=some []:=fj (dE (ps:=[p]) (by simpa using h)).1
def Fz(K:bJ cf)(n:Nd)(h1:n.labels.length<=2000000)(hl:n.fields.length<=2000000):∃ r,r= .agg (nc n)/\∃ fl,av cf 42 [.agg (nc n)] [] st=some (r,cZ st fl):=by
 refine ou K.tab (F:=F42) (Q:=fun r=>r= .agg (nc n)) rfl rfl rfl (lb rfl) (by simp[gu]) 1 ?_;unfold F42 qr ql qf qt qs qo qN;simp only[↓pa,↓dx,pb,ai,cB,↓reduceIte,reduceEqDiff,reduceAdd,nc];refine tB (Fy K n.labels h1) (fun fl=>?_);simp only[↓pa,↓dx,pb,ai,cB,↓reduceIte,reduceEqDiff,reduceAdd];refine tB (FA K n.fields hl) (fun fl=>?_);simp only[↓pa,↓bT,↓dx,pb,ai,cB,fD,az,fg,aj,ah,↓reduceIte,reduceEqDiff,reduceAdd,reduceLeDiff,EP,iV (ia n.labels),iV (ga n.fields)]
def td(l:List Eg)(id:Int):List Int:=(l.filter fun e=>decide (e.dst=id)).map Eg.id
@[reducible] def IX (l:List Int):PV:= .list l.length (l.map I) .no
def Ga{l:List Eg}{j:Nat}(h:j<l.length):bI (l.flatMap ec) (j*5+3) 1 false=some (I l[j].dst):=by
 have:=df ec 5 cw 3 1 false (by decide) l j h;rw[this];rfl
def zz(l:List Int):cK (l.map I):=by
 induction l with
 |nil=>exact dL
 |cons x l ih=>exact bu (aQ _ _) ih
end Go.PM
namespace Go.PM
def Ov(l:List Eg)(n k:Int):List Eg:=l.filter fun e=>decide (e.src.tmod n=k)
def nX(es:List Eg)(n k:Int)(x:Nd):List Nd:=if x.id.tmod n=k then [x]else if 0<(td es x.id).length then [⟨x.id,[],[]⟩]else []
def se(es:List Eg)(l:List Nd)(n k:Int):List Nd:=l.flatMap (nX es n k)
def K3(g:bY)(n k:Int):bY:=⟨se (Ov g.edges n k) g.nodes n k,Ov g.edges n k⟩
def rf(g:bY)(n:Int):Nat->List bY
 |0=>[]
 |k+1=>rf g n k++[K3 g n k]
def MT(g:bY):(gc g).length=2:=rfl
def Jf(es:List Eg)(n k:Int)(x:Nd):(nX es n k x).length<=1:=by
 unfold nX
 repeat' split
 all_goals simp
def Ls(es:List Eg)(n k:Int):∀ l:List Nd,(se es l n k).length<=l.length
 | []=>aE _
 |x::l=>by
  have:=Ls es n k l;have h1:=Jf es n k x;unfold se at this ⊢;rw[bf,af,au];omega
def yU(g:bY)(n:Int):∀ k,(rf g n k).length=k
 |0=>rfl
 |k+1=>by rw[rf,af,yU g n k];rfl
end Go.PM
namespace Go.PM
open Go.Lib
variable {cf:aA} {st:St} {mk:PV->St->Fr×St} {A:Fr×St->Prop} {s:Nat}
def lA{f:Nat}{as:List PV}(h:as.all bR=true)(h2:(as.map aC).all bR=true)(h3:(as.map aC).map aC=as.map aC)(hf:nj f=false:=by rfl):av cf f as [] st=av cf f (as.map aC) [] st:=by
 simp only[av,fj h,fj h2,dl,jl 0 0 h,jl 0 0 h2,h3,oy,hf,List.isEmpty_nil,Bool.not_true,g8,Bool.or_false]
structure iY {α:Type} (enc:α->List PV) (m:Nat) (l:List α) (cs:List PV):Prop where
 len:cs.length=l.length*m
 st:aF cs=l.flatMap enc
 np:aI cs=true
def iY.len'{g:bY}{n:Int}{k:Nat}{cs:List PV}(h:iY gc 2 (rf g n k) cs):cs.length=k*2:=by rw[h.len,yU]
def DU{α:Type}{enc:α->List PV}{m:Nat}:iY enc m ([]:List α) []:=⟨by simp,rfl,rfl⟩
def gQ(xs ys:List PV):aF (xs++ys)=aF xs++aF ys:=by
 induction xs with
 |nil=>rfl
 |cons x xs ih=>simp only[a8,az,ih]
def BS{α:Type}{enc:α->List PV}{m:Nat}{l:List α}{cs ds:List PV}{a:α}(h:iY enc m l cs)(h1:ds.length=m)(h2:aF ds=enc a)(h3:aI ds=true):iY enc m (l++[a]) (cs++ds):=by
 refine⟨?_,?_,io h.np h3⟩
 ·rw[af,h.len,h1,af,au,aO,gr];omega
 ·rw[gQ,h.st,h2,bE];simp
def pD{a b c d e:PV}{vs:List PV}(h:vs.length=5):bD [a,b,c,d,e] 0 vs=vs:=iK (by rw[h];rfl)
def qQ{a b c:PV}{vs:List PV}(h:vs.length=3):bD [a,b,c] 0 vs=vs:=iK (by rw[h];rfl)
def F9{l:List Eg}{j:Nat}(h:j<l.length):bI (l.flatMap ec) (j*5+2) 1 false=some (I l[j].src):=by
 have:=df ec 5 cw 2 1 false (by decide) l j h;rw[this];rfl
def Kw(K:bJ cf)(g:bY)(id:Int)(hl:g.nodes.length<=2000000):av cf 90 [.agg (gc g),I id] [] st=some (I (dA g.nodes id),st):=by
 refine cQ K.tab (F:=F90) (t:=4) rfl rfl rfl (lb rfl) (by simp[dW,aQ]) (dD _ _) (g.nodes.length+1) ?_;have hm:=bN nc 3 cC g.nodes;unfold F90 qr qd qm qi qb qk ql qf qa qn qs qo qN;simp only[↓pa,pb,ai,↓reduceIte,reduceEqDiff,reduceAdd,gc];refine be (fun k fr st=>∃ i:Nat,k=g.nodes.length-i/\i<=g.nodes.length/\fr 1=I id/\fr 8=NX g.nodes/\fr 9=I g.nodes.length/\fr 10=I i/\mw id (g.nodes.drop i) i=dA g.nodes id) g.nodes.length (by omega) ⟨0,by simp,by omega,by simp only[↓pa,pb,↓reduceIte,reduceEqDiff],by simp only[↓pa,↓reduceIte,reduceEqDiff],by simp only[↓pa,↓reduceIte,reduceEqDiff],by simp only[↓pa,↓reduceIte];rfl,rfl⟩ ?_;rintro k fr st ⟨i,rfl,hi,f1,f8,f9,f10,hQ⟩;simp only[↓pa,pb,aV,↓reduceIte,f9,f10];refine aa (fun h1=>?_) (fun h1=>?_)
 ·rw[a6 h1,mw]at hQ;simp (disch:=omega)only[↓pa,pb,ai,↓reduceIte,reduceEqDiff,reduceAdd,reduceLeDiff,f1,f8,f10,h1,ph h1,nc];refine aa (fun h2=>?_) (fun h2=>?_)
  ·rw[ak h2]at hQ;simp only[↓pa,pb,↓reduceIte,reduceEqDiff,h2];rw[<-hQ]
  ·rw[ad h2]at hQ;simp (disch:=omega)only[↓pa,pb,aV,↓reduceIte,reduceEqDiff,f1,f8,f9,f10,h2];exact⟨g.nodes.length- (i+1),by omega,i+1,rfl,by omega,rfl,hQ⟩
 ·have:i=g.nodes.length:=by omega
  rw[this,mI]at hQ;simp only[↓pa,pb,↓reduceIte,h1];rw[<-hQ];rfl
def w6(p:PV):Bool:=match p with
 | .int _ _=>true
 | .str _=>true
 | .bool _=>true
 |_=>false
def Ar{cs:List PV}(h:∀ p∈cs,w6 p=true):aY cs=true/\al cs=[]:=by
 induction cs with
 |nil=>exact⟨rfl,rfl⟩
 |cons c cs ih=>
  obtain⟨h1,h2⟩:=ih fun p hp=>h p (bU _ hp);have h0:=h c List.mem_cons_self;simp only[aY,al,h1,h2];cases c<;>simp_all [w6,aJ,ar]
def BP{st:St}{k n:Nat}(h1:k<st.nx)(h2:st.cnt k=n)(h3:st.fl<=k):aL st [(k,n)]:=by
 refine⟨fun j=>?_,fun q hq=>?_⟩
 ·simp only[ck];split<;>omega
 ·simp only[dZ]at hq;subst hq;exact⟨h1,h2,h3⟩
def fp{st:St}:aL st []:=⟨fun _=>by simp[ck],by simp⟩
def Fm{f e sz by_:Nat}{F:bp}(hE:F.res=[.tmp 2]/\F.own=true/\1<=F.nt)(hT:T f=some F)
  (hb:F.body= .seq (.reg [⟨none,(some 2),.mv (.k (.list 0 [] .nil))⟩] []) (.seq (.seq (.reg [⟨none,(some 3),.mv (.sl 0)⟩,⟨none,(some 4),.len (.sl 3)⟩,⟨none,(some 5),.bin .eql (.sl 4) (.k (.int .i64 0))⟩] []) (.cond (.sl 5) (.seq (.reg [⟨none,(some 2),.mv (.k (.list 0 [] .nil))⟩] []) (.ret)) (.skip)))
   (.seq (.reg [⟨none,(some 6),.mv (.sl 0)⟩,⟨none,(some 7),.len (.sl 6)⟩,⟨none,(some 8),.mk0 e sz by_ (.k (.int .i64 0)) (.sl 7)⟩,⟨none,(some 9),.mv (.sl 0)⟩,⟨none,(some 10),.app e sz by_ (.sl 8) (.sl 9)⟩,⟨none,(some 2),.mv (.sl 10)⟩] []) (.ret))))
  (hsz:0<sz) (hby:by_<=1000) (K:bJ cf) {n:Nat} {cs:List PV} (hp:cK cs) (hfl:∀ p∈cs,w6 p=true) (hcl:cs.length=n*sz) (hl:n<=2000000):
  ∃ r ns,av cf f [.list n cs .no] [] st=some (r,st.more ns)/\cR st.nx ns r/\aC r= .list n cs .no:=by
 obtain⟨e1,e2,e3⟩:=hE;refine rx K.tab (F:=F) (Q:=fun r=>r= .list n cs .no) hT e1 e2 (by simpa using e3) (by simp[fE hp]) 1 ?_;rw[hb];simp only[↓pa,pb,↓reduceIte,reduceCtorEq];refine aa (fun h0=>?_) (fun h0=>?_)
 ·have hn:n=0:=by omega
  subst hn;have:cs=[]:=bF (by omega);subst this;simp only[↓pa,pb,↓reduceIte,jk,h0];exact⟨rfl,rfl,rfl,fp,rfl⟩
 ·have hm:= @LK e sz by_ (n:Int) (bn [] []) (by omega) (by have:=Nat.mul_le_mul hby hl;simp only[ez];omega) (by omega) hsz;simp only[↓pa,↓bT,pb,↓reduceIte,reduceEqDiff,reduceCtorEq,jk,h0,hm];refine bj (n:=0) (e:=e) ⟨by simp[St.more,bn],by simp[St.more,bn],rfl⟩ (by simp) hcl (by rw[aq];have:=Nat.mul_le_mul hl hby;omega) (by omega) hsz ?_;simp only[↓pa,ai,↓reduceIte,jk];obtain⟨s1,s2⟩:=Ar hfl;refine⟨rfl,?_,?_,?_,?_⟩
  ·simp only[az,hp.1]
  ·simp only[dU,aJ,s1,ap]
  ·simp only[dU,ar,s2,aD];refine BP ?_ ?_ ?_<;>simp[dV,St.more,St.count,bn]
  ·simp only[az,hp.2.1,aq]
def Fk(K:bJ cf)(l:List (List UInt8))(hl:l.length<=2000000):∃ r ns,av cf 103 [TX l] [] st=some (r,st.more ns)/\cR st.nx ns r/\aC r=TX l:=
 Fm (F:=F103) ⟨rfl,rfl,Nat.le_of_ble_eq_true rfl⟩ rfl rfl (by decide) (by decide) K (by induction l with|nil=>exact dL|cons x l ih=>exact bu (bZ _) (ih (by simp at hl;omega))) (by simp[w6,S]) (by simp) hl
def Fn(K:bJ cf)(l:List Fd)(hl:l.length<=2000000):∃ r ns,av cf 108 [FX l] [] st=some (r,st.more ns)/\cR st.nx ns r/\aC r=FX l:=
 Fm (F:=F108) ⟨rfl,rfl,Nat.le_of_ble_eq_true rfl⟩ rfl rfl (by decide) (by decide) K (hO l) (by intro p hp;obtain⟨x,-,h⟩:=oT.1 hp;simp only[fc,aX,eK,or_false]at h;rcases h with rfl|rfl<;>rfl) (by rw[fq]) hl
def Fo(K:bJ cf)(e:Eg)(hl:e.fields.length<=2000000):∃ r ns,av cf 68 [.agg (ec e)] [] st=some (r,st.more ns)/\cR st.nx ns r/\aC r= .agg (ec e):=by
 refine rx K.tab (F:=F68) (Q:=fun r=>r= .agg (ec e)) rfl rfl rfl (lb rfl) (by simp[gv]) 1 ?_;unfold F68 qr ql qf qt qs qo qN;simp only[↓pa,pb,ai,↓reduceIte,reduceEqDiff,reduceAdd,ec];refine dK (Fn K e.fields hl) (fun r ns hF hr=>?_);obtain⟨ds,u,rfl,hd,-⟩:=bt hr;simp only[↓pa,pb,ai,↓reduceIte,reduceEqDiff,reduceAdd,reduceLeDiff,jk];refine⟨rfl,?_,?_,?_,?_⟩
 ·simp only[az,dj,bg];exact hF.np
 ·simp only[aJ,aY,dj,bg];exact hF.so
 ·simp only[ar,al,aN,aD];have:=hF.tk;simp only[ar]at this;rw[this];exact aK (aK (cV (aK (aK fp)) (aM _) ns))
 ·simp only[az,hd]
def Fl(K:bJ cf)(n:Nd)(h1:n.labels.length<=2000000)(hl:n.fields.length<=2000000):∃ r ns,av cf 66 [.agg (nc n)] [] st=some (r,st.more ns)/\cR st.nx ns r/\aC r= .agg (nc n):=by
 refine rx K.tab (F:=F66) (Q:=fun r=>r= .agg (nc n)) rfl rfl rfl (lb rfl) (by simp[gu]) 1 ?_;unfold F66 qr ql qf qt qs qo qN;simp only[↓pa,pb,ai,↓reduceIte,reduceEqDiff,reduceAdd,nc];refine dK (Fk K n.labels h1) (fun r ns hF hr=>?_);obtain⟨ds,u,rfl,hd,-⟩:=bt hr;simp only[↓pa,pb,ai,↓reduceIte,reduceEqDiff,reduceAdd,reduceLeDiff,jk];refine dK (Fn K n.fields hl) (fun r2 ns2 hF2 hr2=>?_);obtain⟨ds2,u2,rfl,hd2,-⟩:=bt hr2;simp only[↓pa,pb,ai,↓reduceIte,reduceEqDiff,reduceAdd,reduceLeDiff,jk];refine⟨rfl,?_,?_,?_,?_⟩
 ·simp only[az,dj,bg];have a:=hF.np;have b:=hF2.np;simp only[az]at a b;rw[a,b];rfl
 ·have a:=hF.so;have b:=hF2.so;simp only[aJ,aY,dj,bg]at a b ⊢;rw[a,b];rfl
 ·have a:=hF.tk;have b:=hF2.tk;simp only[ar,al,aN,aD]at a b ⊢;rw[a,b];exact aK (aK (cV (aK (cV (aK (aK fp)) (aM _) ns)) (by simp only[bP,St.more_fl,bn];exact aM _) ns2))
 ·simp only[az,hd,hd2]
structure O6 (cf:aA):Prop where
 nil:∀ ds:List PV,ds.length=3->aI ds=true->cf 128 [.list 0 [] .nil,I 0,.list 1 ds .no] [] []=some (.list 1 ds (.own 0 72),[1],[])
 own:∀ (n i:Nat) (cs ds:List PV) (ns:List Nat),cs.length=n*3->ds.length=3->aI cs=true->aI ds=true->dw ([0].contains ·) cs=true->dw ([0].contains ·) ds=true->i<=n->n<=10000000->cf 128 [.list n cs (.own 0 72),I i,.list 1 ds .no] (n::ns) []=some (.list (n+1) (cs.take (i*3)++ds++cs.drop (i*3)) (.own 0 72),(n+1)::ns,[])
mutual
theorem Jb(K:Nat->Bool):∀ p:PV,aJ p=true->(∀ q∈ar p,K q.1=false)->tf K p=true
 | .list n cs t,h,hk=>by
  simp only[aJ,ae]at h;simp only[tf,ae];refine⟨?_,ma K cs h.2 fun q hq=>hk q (by simp only[ar];exact dq _ hq)⟩;cases t with
  |own k e=>have:=hk (k,n) (by simp[ar]);simpa [aB.free,aB.of]using this
  |sub k=>exact absurd h.1 (by simp)
  |el _ _ _=>exact absurd h.1 (by simp)
  |_=>rfl
 | .agg cs,h,hk=>by simp only[aJ]at h;simp only[tf];exact ma K cs h hk
 | .tup cs,h,hk=>by simp only[aJ]at h;simp only[tf];exact ma K cs h hk
 | .fn _ cs,h,hk=>by simp only[aJ]at h;simp only[tf];exact ma K cs h hk
 | .iptr ..,h,_=>by simp[aJ]at h
 | .ptr _ _,_,_=>rfl
 | .osl _ _ _ _,_,_=>rfl
 | .mp _,_,_=>rfl
 | .any,_,_=>rfl
 | .hole,_,_=>rfl
 | .int _ _,_,_=>rfl
 | .bool _,_,_=>rfl
 | .str _,_,_=>rfl
 | .nilp,_,_=>rfl
 | .nili,_,_=>rfl
 | .err,_,_=>rfl
theorem ma(K:Nat->Bool):∀ ps:List PV,aY ps=true->(∀ q∈al ps,K q.1=false)->dw K ps=true
 | [],_,_=>rfl
 |p::ps,h,hk=>by
  simp only[aY,ae]at h;simp only[dw,ae];exact⟨Jb K p h.1 fun q hq=>hk q (by simp only[al];exact cM _ hq),ma K ps h.2 fun q hq=>hk q (by simp only[al];exact dq _ hq)⟩
end
def Av:∀ (ns:List Nat) (d:Nat) (q:Nat×Nat),q∈cj d ns->d<=q.1
 | [],_,_,h=>by simp[cj]at h
 |n::ns,d,q,h=>by
  rw[cj,aX]at h;rcases h with rfl|h
  ·exact aE _
  ·have:=Av ns (d+1) q h;omega
def cG:∀ cs:List PV,aF cs=cs.map aC
 | []=>rfl
 |c::cs=>by have:=cG cs;simp only[az,this,aH]
def tF(k:Nat)(cs:List PV):aF (cs.take k)=(aF cs).take k:=by rw[cG,cG,List.map_take]
def tG(k:Nat)(cs:List PV):aF (cs.drop k)=(aF cs).drop k:=by rw[cG,cG,List.map_drop]
def iz:∀ xs ys:List PV,aI (xs++ys)=(aI xs && aI ys)
 | [],ys=>rfl
 |x::xs,ys=>by have:=iz xs ys;simp only[a8,az,this,Bool.and_assoc]
def C8(nx:Nat):∀ (ns:List Nat) (d:Nat),(cj d ns).map (fun q=>(nx+q.1,q.2))=cj (nx+d) ns
 | [],_=>rfl
 |n::ns,d=>by rw[cj,aH,C8 nx ns (d+1),cj,kP]
def CQ(p:PV)(as:List PV):List Nat:=match p with
 | .fn _ cap=>(cX (as++cap)).getD []
 |_=>[]
def K7:(∀ {fr:Fr} {f:CX} {as:List CX},bc fr (.cval f as)=CQ (f.ev fr) (as.map (·.ev fr)))/\(∀ {g:Nat} {as:List PV},CQ (.fn g []) as=(cX as).getD [])/\(∀ {as:List PV},CQ .hole as=[]):=by
 refine⟨?_,?_,rfl⟩
 ·intro fr f as;simp only[bc,CQ];cases f.ev fr<;>rfl
 ·intro g as;simp only[CQ,aD]
def pJ{cs:List PV}(h:aI cs=true):cX [.agg cs]=some []:=by
 have:np (.agg cs)=true:=h;simp[cX,this]
def jm{α:Type}(enc:α->List PV)(m:Nat)(h:∀ a,(enc a).length=m):∀ (l:List α) (i:Nat),(l.flatMap enc).take (i*m)=(l.take i).flatMap enc
 | [],i=>by simp
 |a::l,0=>by simp
 |a::l,i+1=>by
  rw[bf,mV,bf,gg,Nat.add_comm,<-h a,List.take_add,gZ,fe,h a,jm enc m h l i]
def jn{α:Type}(enc:α->List PV)(m:Nat)(h:∀ a,(enc a).length=m):∀ (l:List α) (i:Nat),(l.flatMap enc).drop (i*m)=(l.drop i).flatMap enc
 | [],i=>by simp
 |a::l,0=>by simp
 |a::l,i+1=>by
  rw[bf,List.drop_succ_cons,gg,Nat.add_comm,<-h a,<-fU,fe,h a,jn enc m h l i]
def lw(x:Nd):List Nd->List Nd
 | []=>[x]
 |y::l=>if y.id<x.id then y::lw x l else x::y::l
def wJ{α:Type}{enc:α->List PV}{m:Nat}(hm:∀ a,(enc a).length=m){l:List α}{cs:List PV}(hL:aF cs=l.flatMap enc)(hn:aI cs=true)(hc:cs.length=l.length*m){i:Nat}(h:i<l.length):
  bI cs (i*m) m true=some (.agg ((cs.drop (i*m)).take m))/\aF ((cs.drop (i*m)).take m)=enc l[i]/\aI ((cs.drop (i*m)).take m)=true:=by
 have hle:i*m+m<=cs.length:=by rw[hc];have:=eU m h;rw[gg]at this;exact this
 refine⟨by simp only[bI,ak hle,if_true],?_,?_⟩
 ·rw[tF,tG,hL];have:=df enc m hm 0 m true (by omega) l i h;have hl:(l.flatMap enc).length=l.length*m:=bN enc m hm l;rw[bi]at this;simp only[bI,hl,hm,ak (show i*m+m<=l.length*m by rw[<-hc];exact hle),if_true,nT,aq,aE,bo,PV.agg.injEq]at this;rw[this,<-hm l[i],kz]
 ·have h1:=dn (i*m) cs;rw[<-h1,iz,ae]at hn;have h2:=dn m (cs.drop (i*m));rw[<-h2,iz,ae]at hn;exact hn.2.1
end Go.PM
namespace Go.PM
def yX(l:List Nd):Prop:=l.Pairwise fun a b=>a.id<b.id
def Cs:∀ {l:List Nd},(∀ i,(h:i+1<l.length)->l[i].id<l[i+1].id)->yX l
 | [],_=>List.Pairwise.nil
 | [a],_=>i7 _ _
 |a::b::l,h=>by
  have ih:yX (b::l):=Cs fun i hi=>by
   have:=h (i+1) (by simp only[au]at hi ⊢;omega);simpa using this
  have h0:a.id<b.id:=by simpa using h 0 (by simp)
  refine List.Pairwise.cons (fun c hc=>?_) ih;rcases aX.1 hc with rfl|hc
  ·exact h0
  ·exact Int.lt_trans h0 ((dr.1 ih).1 c hc)
def Ec{g:bY}(h:ed g=true):yX g.nodes:=by
 unfold ed at h;rw[ae,ae,ae]at h;refine Cs fun i hi=>?_;have:=oO.1 h.2.1 (i+1) hi;rw[eJ,ae,rl]at this;have h2:=this.2;simp only[nA,mK hi,mK (show i<g.nodes.length by omega),cF,decide_eq_true_eq]at h2;rcases h2 with h2|h2
 ·omega
 ·exact h2
def zB(es:List Eg)(e:Eg)(id:Int):td (es++[e]) id=if e.dst=id then td es id++[e.id]else td es id:=by
 unfold td;rw[List.filter_append,ch];by_cases h:e.dst=id<;>simp[h]
def AN{es:List Eg}{e:Eg}{n k:Int}{x:Nd}(h:x.id.tmod n=k\/e.dst≠x.id\/0<(td es x.id).length):nX (es++[e]) n k x=nX es n k x:=by
 unfold nX;by_cases h1:x.id.tmod n=k
 ·rw[ak h1,ak h1]
 ·rw[ad h1,ad h1,zB];by_cases h2:e.dst=x.id
  ·rw[ak h2];rcases h with h|h|h
   ·exact absurd h h1
   ·exact absurd h2 h
   ·rw[ak h,ak (by rw[af];omega)]
  ·rw[ad h2]
def sd(es:List Eg)(x:Nd)(l:List Nd)(n k:Int):se es (x::l) n k=nX es n k x++se es l n k:=by
 simp only[se,bf]
def Cj{es:List Eg}{e:Eg}{n k:Int}:∀ {l:List Nd},(∀ x∈l,x.id.tmod n=k\/e.dst≠x.id\/0<(td es x.id).length)->se (es++[e]) l n k=se es l n k
 | [],_=>rfl
 |x::l,h=>by rw[sd,sd,AN (h x List.mem_cons_self),Cj fun y hy=>h y (bU _ hy)]
def EB{es:List Eg}{n k:Int}{x y:Nd}(h:y∈nX es n k x):y.id=x.id:=by
 unfold nX at h;split at h
 ·simp at h;rw[h]
 ·split at h
  ·simp at h;rw[h]
  ·simp at h
def Lr{es:List Eg}{n k:Int}{l:List Nd}{y:Nd}(h:y∈se es l n k):∃ x∈l,y∈nX es n k x:=by
 unfold se at h;exact oT.1 h
def Bi{x:Nd}:∀ {l r:List Nd},(∀ y∈l,y.id<x.id)->lw x (l++r)=l++lw x r
 | [],r,_=>rfl
 |y::l,r,h=>by
  rw[a8,lw,ak (h y List.mem_cons_self),Bi fun z hz=>h z (bU _ hz),a8]
def Gt{x:Nd}{l:List Nd}(h:∀ y∈l,x.id<y.id):lw x l=x::l:=by
 cases l with
 |nil=>rfl
 |cons y l=>rw[lw,ad (by have:=h y List.mem_cons_self;omega)]
def Lq{es:List Eg}{e:Eg}{n k:Int}(hm:e.dst.tmod n≠k)(h0:(td es e.dst).length=0):∀ {l:List Nd},yX l->jg l e.dst=true->se (es++[e]) l n k=lw ⟨e.dst,[],[]⟩ (se es l n k)
 | [],_,h=>by simp[jg]at h
 |x::l,hr,h=>by
  obtain⟨h1,h2⟩:=dr.1 hr;rw[sd,sd];by_cases hx:x.id=e.dst
  ·have a1:nX es n k x=[]:=by unfold nX;rw[hx,ad hm,ad (by omega)]
   have a2:nX (es++[e]) n k x=[⟨e.dst,[],[]⟩]:=by unfold nX;rw[hx,ad hm,zB,ak rfl,ak (by rw[af];simp)]
   have a3:se (es++[e]) l n k=se es l n k:=Cj fun y hy=> .inr (.inl (by have:=h1 y hy;omega));rw[a1,a2,a3,aN,jz,Gt];intro y hy;obtain⟨z,hz,hy⟩:=Lr hy;have:=EB hy;have:=h1 z hz
   show e.dst<y.id;omega
  ·have hl:jg l e.dst=true:=by
    simpa [jg,hx]using h
   have hlt:x.id<e.dst:=by
    obtain⟨z,hz,hy⟩:=List.any_eq_true.1 hl;have:=h1 z hz;simp at hy;omega
   rw[AN (.inr (.inl (Ne.symm hx))),Lq hm h0 h2 hl,Bi];intro y hy;have:=EB hy
   show y.id<e.dst;omega
end Go.PM
namespace Go.PM
variable {cf:aA} {st:St} {mk:PV->St->Fr×St} {A:Fr×St->Prop} {s:Nat}
def DH{l l':List (Nat×Nat)}(h:aL st l)(h1:∀ k,ck k l'<=ck k l)(h2:∀ q∈l',q∈l):aL st l':=
 ⟨fun k=>dQ (h1 k) (h.1 k),fun q hq=>h.2 q (h2 q hq)⟩
def xR{e sz bytes n m:Nat}{cs ds:List PV}{tk u:aB}{X Y:List (Nat×Nat)}(ht:mS e tk)(hs:aJ (.list n cs tk)=true)(hd:aY ds=true)(hk:aL st (X++ar (.list n cs tk)++Y++al ds))(hf:st.fl=0)
  (h1:cs.length=n*sz) (h2:ds.length=m*sz) (h3:(n+m) *bytes<=140737488355328) (h4:n+m<=140737488355328) (h5:0<sz)
  (k:∀ st' tk',mS e tk'->aJ (.list (n+m) (cs++ds) tk')=true->aL st' (X++ar (.list (n+m) (cs++ds) tk')++Y)->st'.objs=st.objs->st'.fl=0->A (mk (.list (n+m) (cs++ds) tk') st')):cP (sJ e sz bytes (.list n cs tk) (.list m ds u) st) mk A:=by
 have hsc:aY cs=true:=by simp only[aJ,ae]at hs;exact hs.2
 have hsa:aY (cs++ds)=true:=by rw[ey,hsc,hd];rfl
 rcases ht with rfl|⟨j,rfl⟩
 ·have hc:cs=[]:=by simp only[aJ,ae,List.isEmpty_iff]at hs;exact hs.1
  subst hc;have hn:n=0:=by
   simp only[aO]at h1;rcases iB n with h|h
   ·exact h
   ·have:=Nat.mul_pos h h5;omega
  subst hn;refine⟨_,_,xj (show Gr e st.nx st.cnt 0 .nil from rfl) h1 h2 h3 h4 h5,?_⟩;refine k _ _ (.inr ⟨_,rfl⟩) (by simp only[dU,aJ,hsa,ap]) ?_ tw hf;have:=cV hk (by omega) [0+m];refine DH this (fun q=>?_) (fun q hq=>?_)
  ·simp only[dU,ar,bh,ck,cj,aN,al];omega
  ·simp only[dU,ar,cj,aN,al,ay,aX,eK,or_false]at hq ⊢;rcases hq with(h|h|h)|h<;>simp[h]
 ·have hj:=hk.2 (j,n) (by simp[ar]);refine⟨_,_,xj (show Gr e st.nx st.cnt n (.own j e)from⟨hj.1,hj.2.1,rfl⟩) h1 h2 h3 h4 h5,?_⟩;refine k _ _ (.inr ⟨_,rfl⟩) (by simp only[dU,aJ,hsa,ap]) ?_ tw hf;have hne:∀ q,q∈X\/q∈al cs\/q∈Y\/q∈al ds->q.1≠j:=by
   intro q hq he;have:=hk.1 j;simp only[ar,bh,ck,if_true]at this;have h0:0<ck j X\/0<ck j (al cs)\/0<ck j Y\/0<ck j (al ds):=by
    rcases hq with h|h|h|h
    ·exact .inl (fT.2 ⟨q,h,he⟩)
    ·exact .inr (.inl (fT.2 ⟨q,h,he⟩))
    ·exact .inr (.inr (.inl (fT.2 ⟨q,h,he⟩)))
    ·exact .inr (.inr (.inr (fT.2 ⟨q,h,he⟩)))
   omega
  refine⟨fun q=>?_,fun q hq=>?_⟩
  ·have:=hk.1 q;simp only[dU,ar,bh,ck,dN]at this ⊢;omega
  ·simp only[dU,ar,dN,ay,aX,eK,or_false]at hq
   show q.1<st.nx/\(if q.1=j then n+m else st.cnt q.1)=q.2/\st.fl<=q.1;by_cases hqj:q=(j,n+m)
   ·subst hqj;exact⟨hj.1,by simp,by omega⟩
   ·have hm:q∈X\/q∈al cs\/q∈Y\/q∈al ds:=by
     rcases hq with(h|h|h|h)|h<;>simp_all
    rw[ad (hne q hm)];refine hk.2 q ?_;simp only[ar,ay];rcases hm with h|h|h|h<;>simp[h]
def Lj(t:Nat)(Q:PV->Prop)(e:Ex)(y:Fr×St):Prop:=kE e/\∃ el sz s n cs,y.1 t= .osl el sz s n/\y.2.objs s=some cs/\cs.length=n*sz/\n<=140737488355328/\aI cs=true/\aY cs=true/\aL y.2 (al cs)/\y.2.fl=0/\Q (.list n (aF cs) .no)
def Lw{f:Nat}{F:bp}{as:List PV}{t:Nat}(hown:F.own=true)(hres:F.res=[.tmp t])(hnk:F.nk=0)(N:Nat){ns:List Nat}{Q:PV->Prop}(hnt:as.length<=F.nt)(h:Wp cf N F.body (eu as,bn ns []) (Lj t Q)):
  ∃ r ns',fO cf N F as ns []=some (r,ns',[])/\cR 0 ns' r/\(∀ nx,cR nx ns' (ren (fun k=>some (nx+k)) false r))/\Q (aC r):=by
 obtain⟨e,⟨fr,s1⟩,hev,he,el,sz,s,n,cs,hr,ho,hl,hb,hn,hs,hk,hfl,hQ⟩:=h;have hb':n<=dB:=hb;have hso:aJ (.list n cs (.own s1.nx el))=true:=by simp only[aJ,hs,ap]
 have hk2:aL {s1.more [n]with objs:=fun k=>if k=s then none else s1.objs k} (ar (.list n cs (.own s1.nx el))):=by
  have hm:=cV hk (by omega) [n];have hm2:aL (s1.more [n]) (ar (.list n cs (.own s1.nx el))):=DH hm (fun q=>by simp only[ar,bh,ck,cj];omega) (fun q hq=>by
   simp only[ar,cj,ay,aX,eK,or_false]at hq ⊢;exact hq.symm)
  exact hm2
 have hf:gN F 0 fr s1=some (ren (aT ((ar (.list n cs (.own s1.nx el))).map (·.1))) false (.list n cs (.own s1.nx el)),(ar (.list n cs (.own s1.nx el))).map (·.2),[]):=by
  have h0:dl s1 (List.range 0)=some []:=rfl;have hp:ff fr s1 F.res=some [.osl el sz s n]:=by rw[hres];simp only[ff,mR];rw[show fr t=_ from hr]
  have hm:cL F.nk [.osl el sz s n] s1=([.list n cs (.own s1.nx el)],{s1.more [n]with objs:=fun k=>if k=s then none else s1.objs k}):=by
   rw[cL];simp only[show s1.objs s=some cs from ho,hnk,aM,hl,hb',kx,if_true,bM,cL]
  have hnp:np (.list n cs (.own s1.nx el))=true:=hn;simp only[gN,hp,h0,hm,fw,hnp,cU,ap,if_true,hown,uA hk2]
 refine⟨_,_,?_,(ld hso hn hk2.1 0).2,fun nx=>(ld hso hn hk2.1 nx).1,by rw[gt,eF];exact hQ⟩;unfold fO;rw[ak ⟨hnt,aM _⟩,hev];cases e with
 |go=>exact hf
 |ret=>exact hf
 |exit i=>exact he.elim
def IB{f:Nat}{F:bp}{as:List PV}{t:Nat}(K:iF cf)(hT:T f=some F)(hres:F.res=[.tmp t])(hown:F.own=true)(hnk:F.nk=0)(hnt:as.length<=F.nt)(has:∀ p∈as,cT p)(N:Nat){v:PV}
  (h:Wp cf N F.body (eu as,bn [] []) (Lj t (· =v))):∃ r ns,av cf f as [] st=some (r,st.more ns)/\cR st.nx ns r/\aC r=v:=by
 obtain⟨h1,h2⟩:=dE has;obtain⟨r,ns,hrun,hF0,hF,hQ⟩:=Lw (f:=f) hown hres hnk N hnt h;have hcf:=K f F hT N _ _ _ _ hrun;exact⟨_,ns,wx h1 (by rw[h2];exact hcf) hF0.so,hF st.nx,by rw[gt];exact hQ⟩
end Go.PM
namespace Go.PM
open Go.Lib
variable {cf:aA} {st:St} {mk:PV->St->Fr×St} {A:Fr×St->Prop} {s:Nat}
structure O7 (g:bY) (n:Int) (k:Nat) (st:St) (pre:List PV):Prop where
 len:pre.length=k*2
 so:aY pre=true
 np:aI pre=true
 st:aF pre=(rf g n k).flatMap gc
def BC(K:bJ cf)(g:bY)(id:Int)(hl:g.nodes.length<=2000000){cs ds:List PV}{tk tk2:aB}(h1:iY nc 3 g.nodes cs)(h2:iY ec 5 g.edges ds):av cf 90 [.agg [.list g.nodes.length cs tk,.list g.edges.length ds tk2],I id] [] st=some (I (dA g.nodes id),st):=by
 have hm:([.agg [.list g.nodes.length cs tk,.list g.edges.length ds tk2],I id]:List PV).map aC=[.agg (gc g),I id]:=by
  simp only[aH,bM,az,h1.st,h2.st];rfl
 have hpl:∀ p∈ [PV.agg (gc g),I id],cT p:=by simp[dW,aQ]
 obtain⟨q1,q2⟩:=dE hpl;rw[lA ?_ (by rw[hm];exact q1) (by rw[hm];exact q2),hm,Kw K g id hl];simp only[cN,cU,bR,az,h1.np,h2.np,ap]
def bw(cs:List PV):(aF cs).length=cs.length:=by rw[cG,b8]
def CZ(x:Nd):∀ l:List Nd,(lw x l).length=l.length+1
 | []=>rfl
 |y::l=>by
  rw[lw];split
  ·rw[au,CZ x l,au]
  ·rw[au]
def HI{x:Nd}:bI (nc x) 0 1 false=some (I x.id):=rfl
def Ij(sz g:Nat):CC:=
 .seq (.reg [⟨none,(some 4),.mv (.k (.bool false))⟩] [])
 (.seq (.seq (.reg [⟨none,(some 6),.mv (.sl 0)⟩,
  ⟨none,(some 7),.len (.sl 6)⟩,
  ⟨none,(some 8),.mv (.sl 1)⟩,
  ⟨none,(some 9),.len (.sl 8)⟩,
  ⟨none,(some 10),.bin .neq (.sl 7) (.sl 9)⟩] [])
 (.cond (.sl 10) (.seq (.reg [⟨none,(some 4),.mv (.k (.bool false))⟩] [])
  (.ret)) (.skip)))
 (.seq (.seq (.reg [⟨none,(some 5),.mv (.k (.int .i64 0))⟩] [])
 (.block 0 (.loop (.seq (.seq (.reg [⟨none,(some 11),.mv (.sl 5)⟩,
   ⟨none,(some 12),.mv (.sl 0)⟩,
   ⟨none,(some 13),.len (.sl 12)⟩,
   ⟨none,(some 14),.bin .lss (.sl 11) (.sl 13)⟩] [])
  (.cond (.sl 14) (.skip) (.exit 0)))
  (.seq (.block 1 (.seq (.reg [⟨none,(some 17),.mv (.sl 0)⟩,
    ⟨none,(some 18),.mv (.sl 5)⟩,
    ⟨none,(some 19),.iad sz (.sl 17) (.sl 18)⟩,
    ⟨none,(some 20),.load sz true (.sl 19)⟩,
    ⟨none,(some 21),.mv (.sl 1)⟩,
    ⟨none,(some 22),.mv (.sl 5)⟩,
    ⟨none,(some 23),.iad sz (.sl 21) (.sl 22)⟩,
    ⟨none,(some 24),.load sz true (.sl 23)⟩,
    ⟨none,(some 25),.call g [(.sl 20),(.sl 24)] []⟩,
    ⟨none,(some 26),.un .not (.sl 25)⟩] [])
   (.cond (.sl 26) (.seq (.reg [⟨none,(some 4),.mv (.k (.bool false))⟩] [])
   (.ret)) (.skip))))
  (.reg [⟨none,(some 15),.mv (.sl 5)⟩,
   ⟨none,(some 16),.bin .add (.sl 15) (.k (.int .i64 1))⟩,
   ⟨none,(some 5),.mv (.sl 16)⟩] []))))))
 (.seq (.reg [⟨none,(some 4),.mv (.k (.bool true))⟩] [])
 (.ret))))
def Ak{α:Type}{enc:α->List PV}{m:Nat}(hm:∀ a,(enc a).length=m){l:List α}{i:Nat}(h:i<l.length):bI (l.flatMap enc) (i*m) m true=some (.agg (enc l[i])):=by
 have:=df enc m hm 0 m true (by omega) l i h;rw[bi]at this;rw[this];simp only[bI,hm,aq,aE,if_true,nT];rw[<-hm l[i],kz]
def B8(K:bJ cf){f sz g:Nat}{F:bp}(hT:T f=some F)(hF:F.body=Ij sz g/\F.res=[.tmp 4]/\F.own=false/\2<=F.nt){α:Type}(enc:α->List PV)(hm:∀ a,(enc a).length=sz)(hp:∀ a,cK (enc a))(l:List α)(hl:l.length<=2000000)
  (he:∀ a∈l,∀ st,av cf g [.agg (enc a),.agg (enc a)] [] st=some (.bool true,st)):av cf f [.list l.length (l.flatMap enc) .no,.list l.length (l.flatMap enc) .no] [] st=some (.bool true,st):=by
 obtain⟨h1,h2,h3,h4⟩:=hF;refine cQ K.tab (F:=F) (t:=4) hT h2 h3 (by simpa using h4) (by simp[fE (gz enc hp l)]) (ce _) (l.length+1) ?_;have hlen:=bN enc sz hm l;rw[h1,Ij];simp only[↓pa,pb,↓reduceIte,reduceEqDiff,du,reduceCtorEq];refine be (fun k fr st=>∃ i:Nat,k=l.length-i/\i<=l.length/\fr 0= .list l.length (l.flatMap enc) .no/\fr 1= .list l.length (l.flatMap enc) .no/\fr 5=I i) l.length (by omega) ⟨0,by simp,by omega,by simp only[↓pa,↓reduceIte,reduceCtorEq],by simp only[↓pa,↓reduceIte,reduceEqDiff],by simp only[↓pa,↓reduceIte];rfl⟩ ?_;rintro k fr st ⟨i,rfl,hi,f0,f1,f5⟩;simp only[↓pa,pb,aV,↓reduceIte,reduceEqDiff,reduceCtorEq,f0,f5];refine aa (fun h=>?_) (fun h=>?_)
 ·have hlt:i<l.length:=h;have hc:=he _ (ct hlt);simp (disch:=omega)only[↓pa,pb,aV,↓reduceIte,reduceEqDiff,reduceCtorEq,f0,f1,f5,h,Ak hm hlt,hc];exact⟨l.length- (i+1),by omega,i+1,rfl,by omega,rfl⟩
 ·simp only[↓pa,pb,↓reduceIte,h]
def Nn(K:bJ cf)(x:Fd):av cf 176 [.agg (fc x),.agg (fc x)] [] st=some (.bool true,st):=by
 refine cQ K.tab (F:=F176) (t:=4) rfl rfl rfl (lb rfl) (by have:=(hO [x]);simp at this;simp[ej this]) (ce _) 1 ?_;unfold F176 qg qr qc qb ql qf qo;simp only[↓pa,pb,ai,↓reduceIte,reduceEqDiff,reduceAdd,du,fc]
def Ld(K:bJ cf)(l:List Fd)(hl:l.length<=2000000):av cf 130 [FX l,FX l] [] st=some (.bool true,st):=
 B8 K (F:=F130) rfl ⟨rfl,rfl,rfl,(lb rfl)⟩ fc (fun _=>rfl) (fun a=>by have:=hO [a];simpa using this) l hl fun a _ st=>Nn K a
def Oe(K:bJ cf)(l:List (List UInt8))(hl:l.length<=2000000):av cf 129 [TX l,TX l] [] st=some (.bool true,st):=by
 refine cQ K.tab (F:=F129) (t:=4) rfl rfl rfl (lb rfl) (by simp[ia]) (ce _) (l.length+1) ?_;have hm:(l.map S).length=l.length:=by simp
 unfold F129 qg qr qd qm qi qc qb qk ql qa qn;simp only[↓pa,pb,↓reduceIte,reduceEqDiff,du,reduceCtorEq];refine be (fun k fr st=>∃ i:Nat,k=l.length-i/\i<=l.length/\fr 0=TX l/\fr 1=TX l/\fr 5=I i) l.length (by omega) ⟨0,by simp,by omega,by simp only[↓pa,↓reduceIte,reduceCtorEq],by simp only[↓pa,↓reduceIte,reduceEqDiff],by simp only[↓pa,↓reduceIte];rfl⟩ ?_;rintro k fr st ⟨i,rfl,hi,f0,f1,f5⟩;simp only[↓pa,pb,aV,↓reduceIte,reduceEqDiff,reduceCtorEq,f0,f5];refine aa (fun h=>?_) (fun h=>?_)
 ·have hlt:i<l.length:=h;simp (disch:=omega)only[↓pa,pb,aV,↓reduceIte,reduceEqDiff,du,reduceCtorEq,f0,f1,f5,h,gp,ki hlt];exact⟨l.length- (i+1),by omega,i+1,rfl,by omega,rfl⟩
 ·simp only[↓pa,pb,↓reduceIte,h]
def IL(K:bJ cf)(x:Nd)(h1:x.labels.length<=2000000)(h2:x.fields.length<=2000000):av cf 93 [.agg (nc x),.agg (nc x)] [] st=some (.bool true,st):=by
 refine cQ K.tab (F:=F93) (t:=4) rfl rfl rfl (lb rfl) (by simp[gu]) (ce _) 1 ?_;have ht:=fun st=>Oe (st:=st) K x.labels h1;have hf:=fun st=>Ld (st:=st) K x.fields h2;unfold F93 qg qr qc qb ql qf qu qo;simp only[↓pa,pb,ai,↓reduceIte,reduceEqDiff,reduceAdd,du,nc,ht,hf]
def IN(K:bJ cf)(x:Eg)(h2:x.fields.length<=2000000):av cf 94 [.agg (ec x),.agg (ec x)] [] st=some (.bool true,st):=by
 refine cQ K.tab (F:=F94) (t:=4) rfl rfl rfl (lb rfl) (by simp[gv]) (ce _) 1 ?_;have hf:=fun st=>Ld (st:=st) K x.fields h2;unfold F94 qg qr qc qb ql qf qu qo;simp only[↓pa,pb,ai,↓reduceIte,reduceEqDiff,reduceAdd,du,ec,hf]
structure DV (g:bY):Prop where
 ns:g.nodes.length<=2000000
 es:g.edges.length<=2000000
 nf:∀ x∈g.nodes,x.fields.length<=2000000/\x.labels.length<=2000000
 ef:∀ e∈g.edges,e.fields.length<=2000000
def IM(K:bJ cf)(g:bY)(h:DV g):av cf 13 [.agg (gc g),.agg (gc g)] [] st=some (.bool true,st):=by
 refine cQ K.tab (F:=F13) (t:=4) rfl rfl rfl (lb rfl) (by simp[dW]) (ce _) 1 ?_;have ht:=fun st=>B8 (st:=st) K (f:=48) (F:=F48) rfl ⟨rfl,rfl,rfl,(lb rfl)⟩ nc cC lu g.nodes h.ns fun a ha st=>IL K a (h.nf a ha).2 (h.nf a ha).1;have hf:=fun st=>B8 (st:=st) K (f:=49) (F:=F49) rfl ⟨rfl,rfl,rfl,(lb rfl)⟩ ec cw ly g.edges h.es fun a ha st=>IN K a (h.ef a ha);unfold F13 qg qr qc ql qf qu qo;simp only[↓pa,pb,ai,↓reduceIte,reduceEqDiff,reduceAdd,gc,ht,hf]
def dg:Nat->Nat->List UInt8->List UInt8
 |0,_,out=>out
 |f+1,k,out=>if k=0 then out else dg f (k / 10) (UInt8.ofNat (48+k % 10)::out)
def mt(k:Nat):List UInt8:=if k=0 then [109,48]else 109::dg k k []
def LW:∀ (f:Nat) (out:List UInt8),dg f 0 out=out
 |0,_=>rfl
 |f+1,out=>by rw[dg,ak rfl]
def ip(K:bJ cf)(k:Nat)(hk:k<=1000000000000):av cf 59 [I k] [] st=some (S (mt k),st):=by
 refine cQ K.tab (F:=F59) (t:=2) rfl rfl rfl (lb rfl) (by simp[aQ]) (qI _) (k+1) ?_;unfold F59 qg qr qd qm qc qb qk qo;simp only[↓pa,pb,↓reduceIte,reduceCtorEq];refine aa (fun h0=>?_) (fun h0=>?_)
 ·have:k=0:=by omega
  subst this;simp only[↓pa,pb,↓reduceIte,reduceAdd];rfl
 simp only[↓pa,pb,h0];refine be (fun q fr st=>∃ (f j:Nat) (out:List UInt8),q=j/\j<=f/\fr 0=I j/\fr 3=S out/\out.length+j<=k/\dg f j out=dg k k []) k (by omega) ⟨k,k,[],rfl,by omega,by simp only[↓pa,↓reduceIte,reduceCtorEq],by simp only[↓pa,↓reduceIte],by simp,rfl⟩ ?_;rintro q fr st ⟨f,j,out,rfl,hf,f0,f3,hl,hQ⟩;simp only[↓pa,pb,↓reduceIte,f0];refine aa (fun h1=>?_) (fun h1=>?_)
 ·obtain⟨f,rfl⟩:∃ g,f=g+1:=⟨f-1,by omega⟩;rw[dg,ad (by omega)]at hQ;have hr:= @qZ .i64 (q:Int) 10 (by omega);have hq:= @rO .i64 (q:Int) 10 (by omega);have e1:(q:Int).tmod 10=((q % 10:Nat):Int):=by rw[Int.ofNat_tmod];rfl
  have e2:(q:Int).tdiv 10=((q / 10:Nat):Int):=by rw[Int.ofNat_tdiv];rfl
  have e3:IntKind.i64.wrap ((q / 10:Nat):Int)=((q / 10:Nat):Int):=wrap_i64 (by omega) (by omega);have e4:IntKind.u8.wrap (48+((q % 10:Nat):Int))=48+((q % 10:Nat):Int):=Es (by omega) (by omega);have e5:(48+((q % 10:Nat):Int)).toNat=48+q % 10:=by omega
  have e6:([UInt8.ofNat (48+q % 10)]:List UInt8).length+out.length<=9223372036854775807:=by simp only[au,aO];omega
  simp (disch:=omega)only[↓pa,↓bT,pb,ai,↓reduceIte,reduceEqDiff,reduceAdd,reduceLeDiff,reduceLT,reduceCtorEq,f0,f3,h1,hr,hq,e1,e2,e3,e4,vl,e5];exact⟨q / 10,by omega,f,q / 10,_,rfl,by omega,rfl,rfl,by simp only[a8,aN,au];omega,hQ⟩
 ·have:q=0:=by omega
  subst this;rw[LW]at hQ;have e6:([109]:List UInt8).length+out.length<=9223372036854775807:=by simp only[au,aO];omega
  have e7:(PV.str ⟨#[109]⟩)=S [109]:=rfl;simp (disch:=omega)only[↓pa,pb,↓reduceIte,reduceEqDiff,f3,h1,e7];rw[mt,ad (by omega),<-hQ];rfl
def pI(k n:Nat):List (List UInt8):=(List.range n).map fun i=>mt (k+i)
def lG(k n:Nat):List Fd:=(List.range n).map fun i=>(mt (k+2*i),mt (k+2*i+1))
def mL:List (Nat×Nat)->Nat->List Nd
 | [],_=>[]
 |(a,b)::l,k=>⟨k,pI (k+1) a,lG (k+1+a) b⟩::mL l (k+1+a+2*b)
def cq:List (Nat×Nat)->Nat->Nat
 | [],k=>k
 |(a,b)::l,k=>cq l (k+1+a+2*b)
def lT:List Nat->Nat->List Eg
 | [],_=>[]
 |b::l,k=>⟨k,mt (k+1),(k+2:Nat),(k+3:Nat),lG (k+4) b⟩::lT l (k+4+2*b)
def cH:List Nat->Nat->Nat
 | [],k=>k
 |b::l,k=>cH l (k+4+2*b)
def zi:List (List (Nat×Nat)×List Nat)->Nat->List bY
 | [],_=>[]
 |(a,b)::l,k=>⟨mL a k,lT b (cq a k)⟩::zi l (cH b (cq a k))
def lx:List (List (Nat×Nat)×List Nat)->Nat->Nat
 | [],k=>k
 |(a,b)::l,k=>lx l (cH b (cq a k))
def w8:∀ (l:List (Nat×Nat)) (k:Nat),k<=cq l k
 | [],_=>aE _
 |(a,b)::l,k=>by have:=w8 l (k+1+a+2*b);rw[cq];omega
def qE:∀ (l:List Nat) (k:Nat),k<=cH l k
 | [],_=>aE _
 |b::l,k=>by have:=qE l (k+4+2*b);rw[cH];omega
def LU:∀ (l:List (List (Nat×Nat)×List Nat)) (k:Nat),k<=lx l k
 | [],_=>aE _
 |(a,b)::l,k=>by have:=LU l (cH b (cq a k));have:=qE b (cq a k);have:=w8 a k;rw[lx];omega
def wX(k n:Nat):(pI k n).length=n:=by simp[pI]
def wY(k n:Nat):(lG k n).length=n:=by simp[lG]
def MJ{k n i:Nat}(h:i<n):kc (pI k n) i=mt (k+i):=by simp[kc,pI,h]
def Md(K:bJ cf)(k n:Nat)(hk:k+n<=1000000000000):av cf 60 [TX (pI k n),I k] [] st=some (I (k+n:Nat),st):=by
 refine cQ K.tab (F:=F60) (t:=4) rfl rfl rfl (lb rfl) (by simp[ia,aQ]) (dD _ _) (n+1) ?_;have hm:((pI k n).map S).length=n:=by simp[wX]
 have hl:=wX k n;unfold F60 qr qd qm qi qb qk ql qt qa qn;simp only[↓pa];refine be (fun q fr st=>∃ i:Nat,q=n-i/\i<=n/\fr 0=TX (pI k n)/\fr 1=I (k+i:Nat)/\fr 5=I i) n (by omega) ⟨0,by simp,by omega,by simp only[↓pa,↓reduceIte,reduceCtorEq],by simp only[↓pa,↓reduceIte,reduceEqDiff,bi],by simp only[↓pa,↓reduceIte];rfl⟩ ?_;rintro q fr st ⟨i,rfl,hi,f0,f1,f5⟩;simp only[↓pa,pb,aV,↓reduceIte,reduceEqDiff,reduceCtorEq,f0,f5,hl];refine aa (fun h=>?_) (fun h=>?_)
 ·have hlt:i<n:=by omega
  have hp:= @ki (pI k n) i (by rw[hl];exact hlt);have ht:=fun st=>ip (st:=st) K (k+i) (by omega);rw[MJ hlt]at hp;simp (disch:=omega)only[↓pa,↓dx,pb,cB,fD,aV,aj,ah,↓reduceIte,reduceEqDiff,du,reduceCtorEq,f0,f1,f5,hl,h,gp,hp,ht];exact⟨n- (i+1),by omega,i+1,rfl,by omega,by congr 1,rfl⟩
 ·have:i=n:=by omega
  subst this;simp only[↓pa,pb,↓reduceIte,reduceEqDiff,f1,h]
def eh(left size:Nat):Int:=if size<=left then((left-size:Nat):Int)else-1
def fk{α:Type}(m:α->Nat)(l:List α):Nat:=l.length+(l.map m).sum
def mm(l:List (List UInt8)):Nat:=fk List.length l
def mn(x:Fd):Nat:=x.1.length+x.2.length
def m6(l:List Fd):Nat:=fk mn l
def fb(x:Nd):Nat:=mm x.labels+m6 x.fields
def iG(x:Eg):Nat:=x.type.length+m6 x.fields
def lQ(g:bY):Nat:=fk fb g.nodes+fk iG g.edges
def Cf{α:Type}(m:α->Nat){l:List α}{i:Nat}(h:i<l.length):((l.take (i+1)).map m).sum=((l.take i).map m).sum+m l[i]:=by
 rw[aW h,ch,List.sum_append];simp
def xV{α:Type}(m:α->Nat):∀ (l:List α) (i:Nat),((l.take i).map m).sum<=(l.map m).sum
 | [],i=>by simp
 |a::l,0=>by simp
 |a::l,i+1=>by have:=xV m l i;simp only[mV,aH,List.sum_cons];omega
def fC:Nat:=9223372036854775807
def Hd(sz g:Nat):CC:=
 .seq (.reg [⟨none,(some 4),.mv (.k (.int .i64 0))⟩] [])
 (.seq (.reg [⟨none,(some 6),.mv (.sl 1)⟩,
  ⟨none,(some 7),.mv (.sl 0)⟩,
  ⟨none,(some 8),.len (.sl 7)⟩,
  ⟨none,(some 9),.bin .sub (.sl 6) (.sl 8)⟩,
  ⟨none,(some 1),.mv (.sl 9)⟩] [])
 (.seq (.seq (.reg [⟨none,(some 10),.mv (.sl 1)⟩,
  ⟨none,(some 11),.bin .lss (.sl 10) (.k (.int .i64 0))⟩] [])
 (.cond (.sl 11) (.seq (.reg [⟨none,(some 4),.mv (.k (.int .i64 (-1)))⟩] [])
  (.ret)) (.skip)))
 (.seq (.seq (.reg [⟨none,(some 5),.mv (.k (.int .i64 0))⟩] [])
 (.block 0 (.loop (.seq (.seq (.reg [⟨none,(some 12),.mv (.sl 5)⟩,
   ⟨none,(some 13),.mv (.sl 0)⟩,
   ⟨none,(some 14),.len (.sl 13)⟩,
   ⟨none,(some 15),.bin .lss (.sl 12) (.sl 14)⟩] [])
  (.cond (.sl 15) (.skip) (.exit 0)))
  (.seq (.block 1 (.seq (.reg [⟨none,(some 18),.mv (.sl 0)⟩,
    ⟨none,(some 19),.mv (.sl 5)⟩,
    ⟨none,(some 20),.iad sz (.sl 18) (.sl 19)⟩,
    ⟨none,(some 21),.load sz true (.sl 20)⟩,
    ⟨none,(some 22),.mv (.sl 1)⟩,
    ⟨none,(some 23),.call g [(.sl 21),(.sl 22)] []⟩,
    ⟨none,(some 1),.mv (.sl 23)⟩] [])
   (.seq (.reg [⟨none,(some 24),.mv (.sl 1)⟩,
    ⟨none,(some 25),.bin .lss (.sl 24) (.k (.int .i64 0))⟩] [])
   (.cond (.sl 25) (.seq (.reg [⟨none,(some 4),.mv (.k (.int .i64 (-1)))⟩] [])
   (.ret)) (.skip)))))
  (.reg [⟨none,(some 16),.mv (.sl 5)⟩,
   ⟨none,(some 17),.bin .add (.sl 16) (.k (.int .i64 1))⟩,
   ⟨none,(some 5),.mv (.sl 17)⟩] []))))))
 (.seq (.reg [⟨none,(some 26),.mv (.sl 1)⟩,
  ⟨none,(some 4),.mv (.sl 26)⟩] [])
 (.ret)))))
def B7(K:bJ cf){f sz g:Nat}{F:bp}(hT:T f=some F)(hF:F.body=Hd sz g/\F.res=[.tmp 4]/\F.own=false/\2<=F.nt){α:Type}(enc:α->List PV)(hm:∀ a,(enc a).length=sz)(hp:∀ a,cK (enc a))(m:α->Nat)(l:List α)(hl:l.length<=fC)(left:Nat)(hle:left<=2000000)
  (he:∀ a∈l,∀ left st,left<=2000000->av cf g [.agg (enc a),I (left:Nat)] [] st=some (I (eh left (m a)),st)):av cf f [.list l.length (l.flatMap enc) .no,I left] [] st=some (I (eh left (fk m l)),st):=by
 obtain⟨h1,h2,h3,h4⟩:=hF;refine cQ K.tab (F:=F) (t:=4) hT h2 h3 (by simpa using h4) (by simp[fE (gz enc hp l),aQ]) (dD _ _) (l.length+1) ?_;have hlen:=bN enc sz hm l;have hb:l.length<=9223372036854775807:=hl;rw[h1,Hd];simp (disch:=omega)only[↓pa,pb,↓reduceIte,reduceEqDiff,reduceCtorEq];refine aa (fun h0=>?_) (fun h0=>?_)
 ·simp only[↓pa,pb,↓reduceIte,h0];rw[eh,ad (by unfold fk;omega)]
 simp only[↓pa,pb,h0];refine be (fun k fr st=>∃ i r:Nat,k=l.length-i/\i<=l.length/\fr 0= .list l.length (l.flatMap enc) .no/\fr 1=I (r:Nat)/\fr 5=I i/\r+(l.length+((l.take i).map m).sum)=left) l.length (by omega) ⟨0,left-l.length,by simp,by omega,by simp only[↓pa,↓reduceIte,reduceCtorEq],by simp only[↓pa,↓reduceIte,reduceEqDiff];congr 1;omega,by simp only[↓pa,↓reduceIte];rfl,by simp;omega⟩ ?_;rintro k fr st ⟨i,r,rfl,hi,f0,f1,f5,hr⟩;simp only[↓pa,pb,aV,↓reduceIte,reduceEqDiff,reduceCtorEq,f0,f5];have hsum:=xV m l (i+1);refine aa (fun h=>?_) (fun h=>?_)
 ·have hlt:i<l.length:=h;have hc:=fun st=>he _ (ct hlt) r st (by omega);have hn:=Cf m hlt;simp (disch:=omega)only[↓pa,pb,↓reduceIte,reduceEqDiff,reduceCtorEq,f0,f1,f5,h,Ak hm hlt,hc];by_cases hd:m l[i]<=r
  ·have hdd:eh r (m l[i])=((r-m l[i]:Nat):Int):=by rw[eh,ak hd]
   have hneg:¬ (((r-m l[i]:Nat):Int)<0):=by omega
   simp (disch:=omega)only[↓pa,pb,aV,↓reduceIte,reduceEqDiff,reduceCtorEq,f0,f5,hdd,hneg];exact⟨l.length- (i+1),by omega,i+1,r-m l[i],rfl,by omega,rfl,rfl,by rw[hn];omega⟩
  ·have hdd:eh r (m l[i])= -1:=by rw[eh,ad hd]
   simp only[↓pa,pb,↓reduceIte,Int.reduceLT,hdd];rw[eh,ad (by unfold fk;rw[hn]at hsum;omega)]
 ·have hie:l.take i=l:=bA (by omega);simp only[↓pa,pb,↓reduceIte,reduceEqDiff,f1,h];rw[hie]at hr;rw[eh,ak (by unfold fk;omega)];congr 1;unfold fk;omega
def Oc(K:bJ cf)(l:List (List UInt8))(hl:l.length<=fC/\∀ x∈l,x.length<=fC)(left:Nat)(hle:left<=2000000):av cf 116 [TX l,I left] [] st=some (I (eh left (mm l)),st):=by
 refine cQ K.tab (F:=F116) (t:=4) rfl rfl rfl (lb rfl) (by simp[ia,aQ]) (dD _ _) (l.length+1) ?_;have hm:(l.map S).length=l.length:=by simp
 have hb:l.length<=9223372036854775807:=hl.1;unfold F116 qg qr qd qm qi qb qk ql qa qn qo;simp (disch:=omega)only[↓pa,pb,↓reduceIte,reduceEqDiff,reduceCtorEq];refine aa (fun h0=>?_) (fun h0=>?_)
 ·simp only[↓pa,pb,↓reduceIte,h0];rw[eh,ad (by unfold mm fk;omega)]
 simp only[↓pa,pb,h0];refine be (fun k fr st=>∃ i r:Nat,k=l.length-i/\i<=l.length/\fr 0=TX l/\fr 1=I (r:Nat)/\fr 5=I i/\r+(l.length+((l.take i).map List.length).sum)=left) l.length (by omega) ⟨0,left-l.length,by simp,by omega,by simp only[↓pa,↓reduceIte,reduceCtorEq],by simp only[↓pa,↓reduceIte,reduceEqDiff];congr 1;omega,by simp only[↓pa,↓reduceIte];rfl,by simp;omega⟩ ?_;rintro k fr st ⟨i,r,rfl,hi,f0,f1,f5,hr⟩;simp only[↓pa,pb,aV,↓reduceIte,reduceEqDiff,reduceCtorEq,f0,f5];have hsum:=xV List.length l (i+1);refine aa (fun h=>?_) (fun h=>?_)
 ·have hlt:i<l.length:=h;have hn:=Cf List.length hlt;have ht:kc l i=l[i]:=by simp[kc,hlt]
  have hb2:l[i].length<=9223372036854775807:=hl.2 _ (ct hlt);simp (disch:=omega)only[↓pa,pb,↓reduceIte,reduceEqDiff,reduceCtorEq,f0,f1,f5,h,gp,ki hlt,ht];refine aa (fun h2=>?_) (fun h2=>?_)
  ·simp only[↓pa,pb,↓reduceIte,h2];rw[eh,ad (by unfold mm fk;rw[hn]at hsum;omega)]
  ·simp (disch:=omega)only[↓pa,pb,aV,↓reduceIte,reduceEqDiff,reduceCtorEq,f0,f5,h2];exact⟨l.length- (i+1),by omega,i+1,r-l[i].length,rfl,by omega,by congr 1;omega,rfl,by rw[hn];omega⟩
 ·have hie:l.take i=l:=bA (by omega);simp only[↓pa,pb,↓reduceIte,reduceEqDiff,f1,h];rw[hie]at hr;rw[eh,ak (by unfold mm fk;omega)];congr 1;unfold mm fk;omega
def M4(K:bJ cf)(x:Fd)(h:x.1.length<=fC/\x.2.length<=fC)(left:Nat)(hle:left<=2000000):av cf 165 [.agg (fc x),I left] [] st=some (I (eh left (mn x)),st):=by
 refine cQ K.tab (F:=F165) (t:=4) rfl rfl rfl (lb rfl) (by have:=(hO [x]);simp at this;simp[ej this,aQ]) (dD _ _) 1 ?_;have h1:x.1.length<=9223372036854775807:=h.1;have h2:x.2.length<=9223372036854775807:=h.2;unfold F165 qg qr qm qi qb qk ql qf qo;simp (disch:=omega)only[↓pa,pb,ai,↓reduceIte,reduceEqDiff,reduceAdd,fc];refine aa (fun h3=>?_) (fun h3=>?_)
 ·simp only[↓pa,pb,↓reduceIte,h3];rw[eh,ad (by unfold mn;omega)]
 simp (disch:=omega)only[↓pa,pb,ai,↓reduceIte,reduceEqDiff,reduceAdd,h3];refine aa (fun h4=>?_) (fun h4=>?_)
 ·simp only[↓pa,pb,↓reduceIte,h4];rw[eh,ad (by unfold mn;omega)]
 simp only[↓pa,pb,↓reduceIte,reduceEqDiff,h4];rw[eh,ak (by unfold mn;omega)];congr 1;unfold mn;omega
structure G5 (g:bY):Prop where
 ns:g.nodes.length<=fC
 es:g.edges.length<=fC
 nl:∀ x∈g.nodes,x.labels.length<=fC/\∀ t∈x.labels,t.length<=fC
 nf:∀ x∈g.nodes,x.fields.length<=fC/\∀ f∈x.fields,f.1.length<=fC/\f.2.length<=fC
 et:∀ x∈g.edges,x.type.length<=fC
 ef:∀ x∈g.edges,x.fields.length<=fC/\∀ f∈x.fields,f.1.length<=fC/\f.2.length<=fC
def IE(K:bJ cf)(l:List Fd)(h:l.length<=fC/\∀ f∈l,f.1.length<=fC/\f.2.length<=fC)(left:Nat)(hle:left<=2000000):av cf 117 [FX l,I left] [] st=some (I (eh left (m6 l)),st):=
 B7 K (f:=117) (F:=F117) rfl ⟨rfl,rfl,rfl,(lb rfl)⟩ fc (fun _=>rfl) (fun a=>by have:=hO [a];simpa using this) mn l h.1 left hle fun a ha left st hl=>M4 K a (h.2 a ha) left hl
def ID(K:bJ cf)(x:Nd)(h1:x.labels.length<=fC/\∀ t∈x.labels,t.length<=fC)(h2:x.fields.length<=fC/\∀ f∈x.fields,f.1.length<=fC/\f.2.length<=fC)(left:Nat)(hle:left<=2000000):av cf 79 [.agg (nc x),I left] [] st=some (I (eh left (fb x)),st):=by
 refine cQ K.tab (F:=F79) (t:=4) rfl rfl rfl (lb rfl) (by simp[gu,aQ]) (dD _ _) 1 ?_;have ht:=fun st=>Oc (st:=st) K x.labels h1 left hle;have hf:=fun(left:Nat) (hl:left<=2000000) st=>IE (st:=st) K x.fields h2 left hl;unfold F79 qg qr qm qi qk ql qf qu qo;simp only[↓pa,pb,ai,↓reduceIte,reduceEqDiff,reduceAdd,nc,ht];by_cases hd:mm x.labels<=left
 ·have hdd:eh left (mm x.labels)=((left-mm x.labels:Nat):Int):=by rw[eh,ak hd]
  have hneg:¬ (((left-mm x.labels:Nat):Int)<0):=by omega
  have hf2:=hf (left-mm x.labels) (by omega);simp only[↓pa,pb,ai,↓reduceIte,reduceEqDiff,reduceAdd,hdd,hneg,hf2];by_cases hd2:m6 x.fields<=left-mm x.labels
  ·have hdd2:eh (left-mm x.labels) (m6 x.fields)=((left-mm x.labels-m6 x.fields:Nat):Int):=by rw[eh,ak hd2]
   have hneg2:¬ (((left-mm x.labels-m6 x.fields:Nat):Int)<0):=by omega
   simp only[↓pa,pb,↓reduceIte,reduceEqDiff,hdd2,hneg2];rw[eh,ak (by unfold fb;omega)];congr 1;unfold fb;omega
  ·have hdd2:eh (left-mm x.labels) (m6 x.fields)= -1:=by rw[eh,ad hd2]
   simp only[↓pa,pb,↓reduceIte,Int.reduceLT,hdd2];rw[eh,ad (by unfold fb;omega)]
 ·have hdd:eh left (mm x.labels)= -1:=by rw[eh,ad hd]
  simp only[↓pa,pb,↓reduceIte,Int.reduceLT,hdd];rw[eh,ad (by unfold fb;omega)]
def IF(K:bJ cf)(x:Eg)(h1:x.type.length<=fC)(h2:x.fields.length<=fC/\∀ f∈x.fields,f.1.length<=fC/\f.2.length<=fC)(left:Nat)(hle:left<=2000000):av cf 80 [.agg (ec x),I left] [] st=some (I (eh left (iG x)),st):=by
 refine cQ K.tab (F:=F80) (t:=4) rfl rfl rfl (lb rfl) (by simp[gv,aQ]) (dD _ _) 1 ?_;have hb:x.type.length<=9223372036854775807:=h1;have hf:=fun(left:Nat) (hl:left<=2000000) st=>IE (st:=st) K x.fields h2 left hl;unfold F80 qg qr qm qi qb qk ql qf qu qo;simp (disch:=omega)only[↓pa,pb,ai,↓reduceIte,reduceEqDiff,reduceAdd,ec];refine aa (fun h0=>?_) (fun h0=>?_)
 ·simp only[↓pa,pb,↓reduceIte,h0];rw[eh,ad (by unfold iG;omega)]
 have e0:(left:Int) - (x.type.length:Int)=((left-x.type.length:Nat):Int):=by omega
 have hf2:=hf (left-x.type.length) (by omega);simp only[↓pa,pb,ai,↓reduceIte,reduceEqDiff,reduceAdd,e0,hf2];by_cases hd2:m6 x.fields<=left-x.type.length
 ·have hdd2:eh (left-x.type.length) (m6 x.fields)=((left-x.type.length-m6 x.fields:Nat):Int):=by rw[eh,ak hd2]
  have hneg2:¬ (((left-x.type.length-m6 x.fields:Nat):Int)<0):=by omega
  simp only[↓pa,pb,↓reduceIte,reduceEqDiff,hdd2,hneg2];rw[eh,ak (by unfold iG;omega)];congr 1;unfold iG;omega
 ·have hdd2:eh (left-x.type.length) (m6 x.fields)= -1:=by rw[eh,ad hd2]
  simp only[↓pa,pb,↓reduceIte,Int.reduceLT,hdd2];rw[eh,ad (by unfold iG;omega)]
def M3(K:bJ cf)(g:bY)(h:G5 g)(left:Nat)(hle:left<=2000000):av cf 8 [.agg (gc g),I left] [] st=some (I (eh left (lQ g)),st):=by
 refine cQ K.tab (F:=F8) (t:=4) rfl rfl rfl (lb rfl) (by simp[dW,aQ]) (dD _ _) 1 ?_;have ht:=fun st=>B7 (st:=st) K (f:=38) (F:=F38) rfl ⟨rfl,rfl,rfl,(lb rfl)⟩ nc cC lu fb g.nodes h.ns left hle fun a ha left st hl=>ID K a (h.nl a ha) (h.nf a ha) left hl;have hf:=fun(left:Nat) (hl:left<=2000000) st=>B7 (st:=st) K (f:=39) (F:=F39) rfl ⟨rfl,rfl,rfl,(lb rfl)⟩ ec cw ly iG g.edges h.es left hl fun a ha left st hl=>IF K a (h.et a ha) (h.ef a ha) left hl;unfold F8 qg qr qm qi qk ql qf qu qo;simp only[↓pa,pb,ai,↓reduceIte,reduceEqDiff,reduceAdd,gc,ht];by_cases hd:fk fb g.nodes<=left
 ·have hdd:eh left (fk fb g.nodes)=((left-fk fb g.nodes:Nat):Int):=by rw[eh,ak hd]
  have hneg:¬ (((left-fk fb g.nodes:Nat):Int)<0):=by omega
  have hf2:=hf (left-fk fb g.nodes) (by omega);simp only[↓pa,pb,ai,↓reduceIte,reduceEqDiff,reduceAdd,hdd,hneg,hf2];by_cases hd2:fk iG g.edges<=left-fk fb g.nodes
  ·have hdd2:eh (left-fk fb g.nodes) (fk iG g.edges)=((left-fk fb g.nodes-fk iG g.edges:Nat):Int):=by rw[eh,ak hd2]
   have hneg2:¬ (((left-fk fb g.nodes-fk iG g.edges:Nat):Int)<0):=by omega
   simp only[↓pa,pb,↓reduceIte,reduceEqDiff,hdd2,hneg2];rw[eh,ak (by unfold lQ;omega)];congr 1;unfold lQ;omega
  ·have hdd2:eh (left-fk fb g.nodes) (fk iG g.edges)= -1:=by rw[eh,ad hd2]
   simp only[↓pa,pb,↓reduceIte,Int.reduceLT,hdd2];rw[eh,ad (by unfold lQ;omega)]
 ·have hdd:eh left (fk fb g.nodes)= -1:=by rw[eh,ad hd]
  simp only[↓pa,pb,↓reduceIte,Int.reduceLT,hdd];rw[eh,ad (by unfold lQ;omega)]
def jc{α:Type}{m:α->Nat}{l:List α}:l.length<=fk m l:=by unfold fk;omega
def Ab{α:Type}{m:α->Nat}{l:List α}{a:α}(h:a∈l):m a<=fk m l:=by
 unfold fk;have:m a<=(l.map m).sum:=by
  induction l with
  |nil=>simp at h
  |cons x l ih=>
   rw[aH,List.sum_cons];rcases aX.1 h with rfl|h
   ·omega
   ·have:=ih h;omega
 omega
def LR{g:bY}(h:lQ g<=1048576):DV g:=by
 have h1:fk fb g.nodes<=1048576:=by unfold lQ at h;omega
 have h2:fk iG g.edges<=1048576:=by unfold lQ at h;omega
 refine⟨by have:= @jc _ fb g.nodes;omega,by have:= @jc _ iG g.edges;omega,fun x hx=>?_,fun x hx=>?_⟩
 ·have h3:fb x<=1048576:=dQ (Ab (m:=fb) hx) h1;unfold fb mm m6 at h3;have h4:= @jc _ List.length x.labels;have h5:= @jc _ mn x.fields;exact⟨by omega,by omega⟩
 ·have h3:iG x<=1048576:=dQ (Ab (m:=iG) hx) h2;unfold iG m6 at h3;have h5:= @jc _ mn x.fields;omega
def Cx:∀ (vs as cs bs:List PV),vs.length=cs.length->bD (as++(cs++bs)) as.length vs=as++(vs++bs)
 | [],as,[],bs,_=>rfl
 |v::vs,as,c::cs,bs,h=>by
  rw[vx];have:(as++(c::cs++bs)).set as.length v=(as++[v])++(cs++bs):=by simp
  rw[this];have h2:=Cx vs (as++[v]) cs bs (by simpa using h);rw[af]at h2;simp only[au,aO,aq]at h2;rw[h2];simp
def Hb(e sz by_ g:Nat)(zs:List PV):CC:=
 .seq (.reg [⟨none,(some 2),.mv (.k (.list 0 [] .nil))⟩] [])
 (.seq (.reg [⟨none,(some 5),.mv (.sl 0)⟩,
  ⟨none,(some 6),.len (.sl 5)⟩,
  ⟨none,(some 7),.mks e sz by_ zs (.sl 6) (.sl 6)⟩,
  ⟨none,(some 3),.mv (.sl 7)⟩] [])
 (.seq (.seq (.reg [⟨none,(some 4),.mv (.k (.int .i64 0))⟩] [])
 (.block 0 (.loop (.seq (.seq (.reg [⟨none,(some 8),.mv (.sl 4)⟩,
   ⟨none,(some 9),.mv (.sl 0)⟩,
   ⟨none,(some 10),.len (.sl 9)⟩,
   ⟨none,(some 11),.bin .lss (.sl 8) (.sl 10)⟩] [])
  (.cond (.sl 11) (.skip) (.exit 0)))
  (.seq (.block 1 (.reg [⟨none,(some 14),.mv (.sl 3)⟩,
    ⟨none,(some 15),.mv (.sl 4)⟩,
    ⟨none,(some 16),.mv (.sl 0)⟩,
    ⟨none,(some 17),.mv (.sl 4)⟩,
    ⟨none,(some 18),.iad sz (.sl 16) (.sl 17)⟩,
    ⟨none,(some 19),.load sz true (.sl 18)⟩,
    ⟨none,(some 20),.call g [(.sl 19)] []⟩,
    ⟨none,(some 21),.iad sz (.sl 14) (.sl 15)⟩,
    ⟨none,none,.store sz (.sl 21) (.sl 20)⟩] []))
  (.reg [⟨none,(some 12),.mv (.sl 4)⟩,
   ⟨none,(some 13),.bin .add (.sl 12) (.k (.int .i64 1))⟩,
   ⟨none,(some 4),.mv (.sl 13)⟩] []))))))
 (.seq (.reg [⟨none,(some 22),.mv (.sl 3)⟩,
  ⟨none,(some 2),.mv (.sl 22)⟩] [])
 (.ret))))
def AK:∀ l:List (List UInt8),cK (l.map S)
 | []=>dL
 |x::l=>bu (bZ _) (AK l)
def Jw(m:Nat)(zs:List PV):(List.replicate (m+1) zs).flatten=zs++(List.replicate m zs).flatten:=by simp[kG]
def B5(K:bJ cf){f e sz by_ g:Nat}{zs:List PV}{F:bp}(hT:T f=some F)(hF:F.body=Hb e sz by_ g zs/\F.res=[.tmp 2]/\F.own=true/\F.nk=0/\1<=F.nt)(hz:zs.length=sz)(hsz:0<sz)(hby:by_<=1000){α:Type}(enc:α->List PV)(hm:∀ a,(enc a).length=sz)(hp:∀ a,cK (enc a))(l:List α)(hl:l.length<=2000000)
  (he:∀ a∈l,∀ st,∃ r ns,av cf g [.agg (enc a)] [] st=some (r,st.more ns)/\cR st.nx ns r/\aC r= .agg (enc a)):
  ∃ r ns,av cf f [.list l.length (l.flatMap enc) .no] [] st=some (r,st.more ns)/\cR st.nx ns r/\aC r= .list l.length (l.flatMap enc) .no:=by
 obtain⟨h1,h2,h3,h5,h4⟩:=hF;refine IB K.tab (F:=F) (t:=2) hT h2 h3 h5 (by simpa using h4) (by simp[fE (gz enc hp l)]) (l.length+1) ?_;have hlen:=bN enc sz hm l;have hby2:=Nat.mul_le_mul hby hl;have hmks:=fun s st=> @EV e sz by_ s zs (l.length:Int) st (by omega) (by simp only[ez];omega) (by omega) hz hsz;rw[h1,Hb];simp only[↓pa,pb,↓reduceIte,reduceCtorEq,jk,hmks];refine be (fun k fr st=>∃ (i:Nat) (cs:List PV),k=l.length-i/\i<=l.length/\fr 0= .list l.length (l.flatMap enc) .no/\fr 3= .osl e sz 7 l.length/\fr 4=I i/\st.objs 7=some (cs++(List.replicate (l.length-i) zs).flatten)/\cs.length=i*sz/\aF cs=(l.take i).flatMap enc/\aI cs=true/\aY cs=true/\aL st (al cs)/\st.fl=0) l.length (by omega)
  ⟨0,[],by simp,by omega,by simp only[↓pa,pb,↓reduceIte,reduceCtorEq],by simp only[↓pa,↓reduceIte,reduceEqDiff]<;>simp,by simp only[↓pa,↓reduceIte]<;>rfl,by simp only[pb,ai,↓reduceIte]<;>simp,by simp,rfl,rfl,rfl,aK fp,rfl⟩ ?_
 rintro k fr st ⟨i,cs,rfl,hi,f0,f3,f4,o7,hc1,hc2,hc3,hc4,hT2,hfl⟩;simp only[↓pa,pb,aV,↓reduceIte,reduceEqDiff,reduceCtorEq,f0,f4];refine aa (fun h=>?_) (fun h=>?_)
 ·have hlt:i<l.length:=h;have hrep:l.length-i=(l.length- (i+1))+1:=by omega
  rw[hrep,Jw]at o7;simp (disch:=omega)only[↓pa,pb,↓reduceIte,reduceEqDiff,reduceCtorEq,f0,f3,f4,h,Ak hm hlt];refine dK (he _ (ct hlt) _) (fun r ns hFr hr=>?_);obtain⟨ds,rfl,hds⟩:=eI hr;have hdl:ds.length=sz:=by rw[<-hm l[i],<-hds,cG,b8]
  have hw:bD (cs++(zs++(List.replicate (l.length- (i+1)) zs).flatten)) (i*sz) ds=(cs++ds)++(List.replicate (l.length- (i+1)) zs).flatten:=by
   rw[<-hc1,Cx ds cs zs _ (by rw[hdl,hz]),bl]
  have hle:(i*sz+sz<=(cs++(zs++(List.replicate (l.length- (i+1)) zs).flatten)).length)=True:=by
   refine eq_true ?_;rw[af,af,hc1,hz];omega
  simp (disch:=omega)only[↓pa,pb,ai,aV,↓reduceIte,reduceEqDiff,reduceCtorEq,f0,f3,f4,jk,o7,hdl,hw,hle];refine⟨l.length- (i+1),by omega,i+1,cs++ds,rfl,by omega,rfl,rfl,?_,?_,?_,?_,?_,by rw[St.more_fl];exact hfl⟩
  ·rw[af,hc1,hdl,gr,Nat.one_mul]
  ·rw[gQ,hc2,hds,aW hlt,bE];simp
  ·exact io hc3 hFr.np
  ·have:=hFr.so;simp only[aJ]at this;rw[ey,hc4,this];rfl
  ·rw[dN];have:=hFr.tk;simp only[ar]at this;rw[this];exact aK (cV hT2 (by omega) ns)
 ·have hie:i=l.length:=by omega
  subst hie;simp only[↓pa,pb,↓reduceIte,reduceEqDiff,f3,h];rw[Nat.sub_self]at o7;refine⟨nn.2 trivial,e,sz,7,l.length,cs,by simp only[↓pa,↓reduceIte],by rw[o7];simp,hc1,by omega,hc3,hc4,hT2,hfl,?_⟩;rw[hc2,bA (aE _)]
def Ob(K:bJ cf)(l:List (List UInt8))(hl:l.length<=2000000):∃ r ns,av cf 122 [TX l] [] st=some (r,st.more ns)/\cR st.nx ns r/\aC r=TX l:=by
 refine IB K.tab (F:=F122) (t:=2) rfl rfl rfl rfl (lb rfl) (by simp[ia]) (l.length+1) ?_;have hlen:(l.map S).length=l.length:=by simp
 have hmks:=fun s st=> @EV 9 1 16 s [(PV.str ⟨#[]⟩)] (l.length:Int) st (by omega) (by simp only[ez];omega) (by omega) rfl (by decide);unfold F122 qr qd qm qi qc qb qk ql qa qn qs qo qN;simp only[↓pa,pb,↓reduceIte,reduceCtorEq,jk,hmks];refine be (fun k fr st=>∃ (i:Nat),k=l.length-i/\i<=l.length/\fr 0=TX l/\fr 3= .osl 9 1 7 l.length/\fr 4=I i/\st.objs 7=some ((l.take i).map S++List.replicate (l.length-i) (.str ⟨#[]⟩))/\aL st []/\st.fl=0) l.length (by omega)
  ⟨0,by simp,by omega,by simp only[↓pa,pb,↓reduceIte,reduceCtorEq],by simp only[↓pa,↓reduceIte,reduceEqDiff]<;>simp,by simp only[↓pa,↓reduceIte]<;>rfl,by simp only[pb,↓reduceIte]<;>simp,aK fp,rfl⟩ ?_
 rintro k fr st ⟨i,rfl,hi,f0,f3,f4,o7,hT2,hfl⟩;simp only[↓pa,pb,aV,↓reduceIte,reduceEqDiff,reduceCtorEq,f0,f4];refine aa (fun h=>?_) (fun h=>?_)
 ·have hlt:i<l.length:=h;have ht:kc l i=l[i]:=by simp[kc,hlt]
  have hrep:l.length-i=(l.length- (i+1))+1:=by omega
  rw[hrep,kG]at o7;have hc1:((l.take i).map S).length=i:=by simp;omega
  have hw:bD ((l.take i).map S++(PV.str ⟨#[]⟩)::List.replicate (l.length- (i+1)) (.str ⟨#[]⟩)) i [S l[i]]=(l.take (i+1)).map S++List.replicate (l.length- (i+1)) (.str ⟨#[]⟩):=by
   have:=Cx [S l[i]] ((l.take i).map S) [(PV.str ⟨#[]⟩)] (List.replicate (l.length- (i+1)) (.str ⟨#[]⟩)) rfl;rw[hc1]at this;simp only[a8,aN]at this;rw[this,aW hlt,ch];simp only[aH,bM,bl,a8,aN]
  have hle:(i+1<=((l.take i).map S++(PV.str ⟨#[]⟩)::List.replicate (l.length- (i+1)) (.str ⟨#[]⟩)).length)=True:=by
   refine eq_true ?_;rw[af,hc1,au];omega
  simp (disch:=omega)only[↓pa,pb,ai,aV,↓reduceIte,reduceEqDiff,reduceAdd,reduceCtorEq,f0,f3,f4,h,gp,ki hlt,ht,o7,hw,hle];exact⟨l.length- (i+1),by omega,i+1,rfl,by omega,rfl,rfl,aK hT2,hfl⟩
 ·have hie:i=l.length:=by omega
  subst hie;simp only[↓pa,pb,↓reduceIte,reduceEqDiff,f3,h];rw[Nat.sub_self]at o7;obtain⟨s1,s2⟩:=Ar (cs:=l.map S) (by simp[w6,S]);have hpl:=AK l;refine⟨nn.2 trivial,9,1,7,l.length,l.map S,by simp only[↓pa,↓reduceIte],by rw[o7];simp,by simp,by omega,hpl.1,s1,by rw[s2];exact hT2,hfl,?_⟩;rw[hpl.2.1]
def M1(K:bJ cf)(x:Fd):∃ r ns,av cf 170 [.agg (fc x)] [] st=some (r,st.more ns)/\cR st.nx ns r/\aC r= .agg (fc x):=by
 refine rx K.tab (F:=F170) (Q:=fun r=>r= .agg (fc x)) rfl rfl rfl (lb rfl) (by have:=(hO [x]);simp at this;simp[ej this]) 1 ?_;unfold F170 qr ql qf qs qo;simp only[↓pa,pb,ai,↓reduceIte,reduceEqDiff,reduceAdd,reduceLeDiff,fc,jk];exact⟨rfl,rfl,rfl,aK (aK (aK (aK (aK (aK fp))))),rfl⟩
def IC(K:bJ cf)(l:List Fd)(hl:l.length<=2000000):∃ r ns,av cf 123 [FX l] [] st=some (r,st.more ns)/\cR st.nx ns r/\aC r=FX l:=
 B5 K (f:=123) (F:=F123) rfl ⟨rfl,rfl,rfl,rfl,(lb rfl)⟩ rfl (by decide) (by decide) fc (fun _=>rfl) (fun a=>by have:=hO [a];simpa using this) l hl fun a _ st=>M1 K a
def K9(K:bJ cf)(x:Nd)(h1:x.labels.length<=2000000)(h2:x.fields.length<=2000000):∃ r ns,av cf 86 [.agg (nc x)] [] st=some (r,st.more ns)/\cR st.nx ns r/\aC r= .agg (nc x):=by
 refine rx K.tab (F:=F86) (Q:=fun r=>r= .agg (nc x)) rfl rfl rfl (lb rfl) (by simp[gu]) 1 ?_;unfold F86 qr ql qf qt qs qo qN;simp only[↓pa,pb,ai,↓reduceIte,reduceEqDiff,reduceAdd,reduceLeDiff,nc];refine dK (Ob K x.labels h1) (fun r ns hF hr=>?_);obtain⟨ds,u,rfl,hd,-⟩:=bt hr;simp only[↓pa,pb,ai,↓reduceIte,reduceEqDiff,reduceAdd,reduceLeDiff,jk];refine dK (IC K x.fields h2) (fun r2 ns2 hF2 hr2=>?_);obtain⟨ds2,u2,rfl,hd2,-⟩:=bt hr2;simp only[↓pa,pb,ai,↓reduceIte,reduceEqDiff,reduceAdd,reduceLeDiff,jk];refine⟨rfl,?_,?_,?_,?_⟩
 ·simp only[az,dj,bg];have a:=hF.np;have b:=hF2.np;simp only[az]at a b;rw[a,b];rfl
 ·have a:=hF.so;have b:=hF2.so;simp only[aJ,aY,dj,bg]at a b ⊢;rw[a,b];rfl
 ·have a:=hF.tk;have b:=hF2.tk;simp only[ar,al,aN,aD]at a b ⊢;rw[a,b];exact aK (aK (cV (aK (cV (aK (aK (aK (aK fp)))) (aM _) ns)) (by simp only[bP,St.more_fl,bn];exact aM _) ns2))
 ·simp only[az,hd,hd2]
def La(K:bJ cf)(x:Eg)(h2:x.fields.length<=2000000):∃ r ns,av cf 87 [.agg (ec x)] [] st=some (r,st.more ns)/\cR st.nx ns r/\aC r= .agg (ec x):=by
 refine rx K.tab (F:=F87) (Q:=fun r=>r= .agg (ec x)) rfl rfl rfl (lb rfl) (by simp[gv]) 1 ?_;unfold F87 qr ql qf qt qs qo qN;simp only[↓pa,pb,ai,↓reduceIte,reduceEqDiff,reduceAdd,reduceLeDiff,ec];refine dK (IC K x.fields h2) (fun r2 ns2 hF2 hr2=>?_);obtain⟨ds2,u2,rfl,hd2,-⟩:=bt hr2;simp only[↓pa,pb,ai,↓reduceIte,reduceEqDiff,reduceAdd,reduceLeDiff,jk];refine⟨rfl,?_,?_,?_,?_⟩
 ·simp only[az,dj,bg];have b:=hF2.np;simp only[az]at b;exact b
 ·have b:=hF2.so;simp only[aJ,aY,dj,bg]at b ⊢;exact b
 ·have b:=hF2.tk;simp only[ar,al,aN,aD]at b ⊢;rw[b];refine aK (aK (cV (st:=bP _ _ _) (l:=[]) ?_ (aM _) ns2));exact fp
 ·simp only[az,hd2]
def B6(K:bJ cf)(g:bY)(h:DV g):∃ r ns,av cf 10 [.agg (gc g)] [] st=some (r,st.more ns)/\cR st.nx ns r/\aC r= .agg (gc g):=by
 refine rx K.tab (F:=F10) (Q:=fun r=>r= .agg (gc g)) rfl rfl rfl (lb rfl) (by simp[dW]) 1 ?_;unfold F10 qr ql qf qt qs qo qN;simp only[↓pa,pb,ai,↓reduceIte,reduceEqDiff,reduceAdd,gc];refine dK (B5 K (f:=44) (F:=F44) rfl ⟨rfl,rfl,rfl,rfl,(lb rfl)⟩ rfl (by decide) (by decide) nc cC lu g.nodes h.ns fun a ha st=>K9 K a (h.nf a ha).2 (h.nf a ha).1) (fun r ns hF hr=>?_);obtain⟨ds,u,rfl,hd,-⟩:=bt hr;simp only[↓pa,pb,ai,↓reduceIte,reduceEqDiff,reduceAdd,reduceLeDiff,jk];refine dK (B5 K (f:=45) (F:=F45) rfl ⟨rfl,rfl,rfl,rfl,(lb rfl)⟩ rfl (by decide) (by decide) ec cw ly g.edges h.es fun a ha st=>La K a (h.ef a ha)) (fun r2 ns2 hF2 hr2=>?_);obtain⟨ds2,u2,rfl,hd2,-⟩:=bt hr2;simp only[↓pa,pb,ai,↓reduceIte,reduceEqDiff,reduceAdd,reduceLeDiff,jk];refine⟨rfl,?_,?_,?_,?_⟩
 ·simp only[az,bg];have a:=hF.np;have b:=hF2.np;simp only[az]at a b;rw[a,b];rfl
 ·have a:=hF.so;have b:=hF2.so;simp only[aJ,aY,bg]at a b ⊢;rw[a,b];rfl
 ·have a:=hF.tk;have b:=hF2.tk;simp only[ar,al,aD]at a b ⊢;rw[a,b];refine aK (aK (cV (aK (cV (st:=bP _ _ _) (l:=[]) ?_ (aM _) ns)) (by simp only[bP,St.more_fl,bn];exact aM _) ns2));exact fp
 ·simp only[az,hd,hd2]
def vZ{n:Nat}{c:PV}{pre post:List PV}{tk:aB}(h:aJ (.list n (pre++c::post) tk)=true):∃ k e,tk= .own k e:=by
 cases tk with
 |own k e=>exact⟨k,e,rfl⟩
 |_=>simp[aJ]at h
def JN(k i:Nat):pI k (i+1)=pI k i++[mt (k+i)]:=by
 unfold pI;rw[List.range_succ,ch];rfl
def JP(k i:Nat):lG k (i+1)=lG k i++[(mt (k+2*i),mt (k+2*i+1))]:=by
 unfold lG;rw[List.range_succ,ch];rfl
def Fs(K:bJ cf)(k n:Nat)(hk:k+n<=1000000000000){cs:List PV}{tk:aB}(hs:aJ (.list n cs tk)=true)(hn:aI cs=true)(hl:cs.length=n)(hT:aL st (ar (.list n cs tk))):
  ∃ p ns,uP cf 57 [.list n cs tk,I k] st=some (I (k+n:Nat),p,dI ((ar (.list n cs tk)).map (·.1)) ns st)/\cR st.nx ns p/\aC p= .list n ((pI k n).map S) .no/\cD [.list n cs tk,I k] [0] st=(ar (.list n cs tk)).map (·.1):=by
 refine wz K.tab (f:=57) (F:=FB57) (t:=4) rfl rfl rfl hs hn hT (lb rfl) (n+1) (fun cs0 tk0 ns h1 h2 h3 h4 h5=>?_);have hcl:cs0.length=n:=by rw[h2,hl]
 clear hs hn hT;unfold FB57 qr qd qm qi qb qk qt qa qn qe;simp only[↓pa];refine be (fun q fr st=>∃ (i:Nat) (ds rs:List PV),q=n-i/\i<=n/\fr 0= .list n (ds++rs) tk0/\fr 1=I (k+i:Nat)/\fr 5=I i/\ds.length=i/\rs.length=n-i/\aF ds=(pI k i).map S/\aI (ds++rs)=true/\aJ (.list n (ds++rs) tk0)=true/\aL st ([]++ar (.list n (ds++rs) tk0)++[])/\st.fl=0) n (by omega)
  ⟨0,[],cs0,by simp,by omega,by simp only[↓pa,ai,↓reduceIte,reduceCtorEq]<;>simp,by simp only[↓pa,↓reduceIte,reduceEqDiff]<;>simp,by simp only[↓pa,↓reduceIte]<;>rfl,rfl,by omega,rfl,by simpa using h3,by simpa using h4,by simpa using h5,rfl⟩ ?_
 rintro q fr st ⟨i,ds,rs,rfl,hi,f0,f1,f5,hd1,hr1,hd2,hnp,hso,hTk,hfl⟩;simp only[↓pa,pb,aV,↓reduceIte,reduceEqDiff,reduceCtorEq,f0,f5];refine aa (fun h=>?_) (fun h=>?_)
 ·have hlt:i<n:=by omega
  obtain⟨c,rs',rfl⟩:∃ c rs',rs=c::rs':=by
   cases rs with
   |nil=>simp at hr1;omega
   |cons c rs'=>exact⟨c,rs',rfl⟩
  obtain⟨j,e,rfl⟩:=vZ hso;have ht:=fun st=>ip (st:=st) K (k+i) (by omega);have hlen:(ds++c::rs').length=n:=by rw[af,hd1];simp at hr1 ⊢;omega
  simp (disch:=omega)only[↓pa,pb,ai,↓reduceIte,reduceEqDiff,reduceCtorEq,f0,f1,f5,h,ht,dz,gp];refine eY (X:=[]) (Y:=[]) hd1.symm (by omega) hso hnp hTk ⟨rfl,rfl,rfl⟩ (fun hso' hnp' hTk'=>?_);have hbk:=fun cs' E'=> @gD n j e E' i ds rs' cs' c (S (mt (k+i))) hd1.symm;simp (disch:=omega)only[↓pa,pb,aV,↓reduceIte,reduceEqDiff,reduceCtorEq,f0,f1,f5,dz,hbk];have hcat:ds++[S (mt (k+i))]++rs'=ds++S (mt (k+i))::rs':=by simp
  refine⟨n- (i+1),by omega,i+1,ds++[S (mt (k+i))],rs',rfl,by omega,by rw[hcat],by congr 1,rfl,by simp[hd1],by simp at hr1;omega,?_,by rw[hcat];exact hnp',by rw[hcat];exact hso',by rw[hcat];exact hTk',hfl⟩;rw[gQ,hd2,JN,ch];rfl
 ·have hie:i=n:=by omega
  subst hie;have hrn:rs=[]:=bF (by omega);subst hrn;rw[aD]at hnp hso hTk f0;simp only[↓pa,pb,↓reduceIte,reduceEqDiff,reduceCtorEq,f0,f1,h,dz];refine⟨_,rfl,rfl,hnp,hso,by simpa using hTk,rfl,?_⟩;rw[eF,hd2]
def xf(K:bJ cf)(k n:Nat)(hk:k+2*n<=1000000000000){cs:List PV}{tk:aB}(hs:aJ (.list n cs tk)=true)(hn:aI cs=true)(hl:cs.length=n*2)(hT:aL st (ar (.list n cs tk))):
  ∃ p ns,uP cf 58 [.list n cs tk,I k] st=some (I (k+2*n:Nat),p,dI ((ar (.list n cs tk)).map (·.1)) ns st)/\cR st.nx ns p/\aC p= .list n ((lG k n).flatMap fc) .no/\cD [.list n cs tk,I k] [0] st=(ar (.list n cs tk)).map (·.1):=by
 refine wz K.tab (f:=58) (F:=FB58) (t:=4) rfl rfl rfl hs hn hT (lb rfl) (n+1) (fun cs0 tk0 ns h1 h2 h3 h4 h5=>?_);have hcl:cs0.length=n*2:=by rw[h2,hl]
 clear hs hn hT;unfold FB58 qr qd qm qi qb qk qf qt qa qn qe;simp only[↓pa];refine be (fun q fr st=>∃ (i:Nat) (ds rs:List PV),q=n-i/\i<=n/\fr 0= .list n (ds++rs) tk0/\fr 1=I (k+2*i:Nat)/\fr 5=I i/\ds.length=i*2/\rs.length=(n-i) *2/\aF ds=(lG k i).flatMap fc/\aI (ds++rs)=true/\aJ (.list n (ds++rs) tk0)=true/\aL st ([]++ar (.list n (ds++rs) tk0)++[])/\st.fl=0) n (by omega)
  ⟨0,[],cs0,by simp,by omega,by simp only[↓pa,ai,↓reduceIte,reduceCtorEq]<;>simp,by simp only[↓pa,↓reduceIte,reduceEqDiff,reduceMul]<;>simp,by simp only[↓pa,↓reduceIte]<;>rfl,rfl,by omega,rfl,by simpa using h3,by simpa using h4,by simpa using h5,rfl⟩ ?_
 rintro q fr st ⟨i,ds,rs,rfl,hi,f0,f1,f5,hd1,hr1,hd2,hnp,hso,hTk,hfl⟩;simp only[↓pa,pb,aV,↓reduceIte,reduceEqDiff,reduceCtorEq,f0,f5];refine aa (fun h=>?_) (fun h=>?_)
 ·have hlt:i<n:=by omega
  obtain⟨c,d,rs',rfl⟩:∃ c d rs',rs=c::d::rs':=by
   match rs,hr1 with
   | [],h=>simp at h;omega
   | [c],h=>simp at h;omega
   |c::d::rs',_=>exact⟨c,d,rs',rfl⟩
  obtain⟨j,e,rfl⟩:=vZ hso;have ht:=fun st=>ip (st:=st) K (k+2*i) (by omega);have ht2:=fun st=>ip (st:=st) K (k+2*i+1) (by omega);have hr2:rs'.length+2=(n-i) *2:=by simpa using hr1
  have hlen:(ds++c::d::rs').length=n*2:=by rw[af,hd1];simp only[au];omega
  simp (disch:=omega)only[↓pa,pb,ai,↓reduceIte,reduceEqDiff,reduceCtorEq,f0,f1,f5,h,ht,dz,bi];refine eY (X:=[]) (Y:=[]) hd1.symm (by omega) hso hnp hTk ⟨rfl,rfl,rfl⟩ (fun hso' hnp' hTk'=>?_);have hbk:=fun cs' E'=> @gD n j e E' (i*2) ds (d::rs') cs' c (S (mt (k+2*i))) hd1.symm;have hcat1:ds++S (mt (k+2*i))::d::rs'=(ds++[S (mt (k+2*i))])++d::rs':=by simp
  rw[hcat1]at hbk hso' hnp' hTk';have hlen2:(ds++[S (mt (k+2*i))]++d::rs').length=n*2:=by rw[af,af,hd1];simp only[au,aO];omega
  have hoff:i*2+1=(ds++[S (mt (k+2*i))]).length:=by rw[af,hd1];rfl
  simp (disch:=omega)only[↓pa,pb,ai,aV,↓reduceIte,reduceEqDiff,reduceCtorEq,f0,f1,f5,dz,hbk,ht2];refine eY (X:=[]) (Y:=[]) hoff (by omega) hso' hnp' hTk' ⟨rfl,rfl,rfl⟩ (fun hso2 hnp2 hTk2=>?_);have hbk2:=fun cs' E'=> @gD n j e E' (i*2+1) (ds++[S (mt (k+2*i))]) rs' cs' d (S (mt (k+2*i+1))) hoff;simp (disch:=omega)only[↓pa,pb,aV,↓reduceIte,reduceEqDiff,reduceCtorEq,f0,f5,dz,hbk,hbk2];have hcat:ds++[S (mt (k+2*i)),S (mt (k+2*i+1))]++rs'=ds++[S (mt (k+2*i))]++S (mt (k+2*i+1))::rs':=by simp
  refine⟨n- (i+1),by omega,i+1,ds++[S (mt (k+2*i)),S (mt (k+2*i+1))],rs',rfl,by omega,by rw[hcat],by congr 1,rfl,by simp only[af,hd1,au,aO];omega,by omega,?_,by rw[hcat];exact hnp2,by rw[hcat];exact hso2,by rw[hcat];exact hTk2,hfl⟩;rw[gQ,hd2,JP,bE];rfl
 ·have hie:i=n:=by omega
  subst hie;have hrn:rs=[]:=bF (by omega);subst hrn;rw[aD]at hnp hso hTk f0;simp only[↓pa,pb,↓reduceIte,reduceEqDiff,reduceCtorEq,f0,f1,h,dz];refine⟨_,rfl,rfl,hnp,hso,by simpa using hTk,rfl,?_⟩;rw[eF,hd2]
end Go.PM
