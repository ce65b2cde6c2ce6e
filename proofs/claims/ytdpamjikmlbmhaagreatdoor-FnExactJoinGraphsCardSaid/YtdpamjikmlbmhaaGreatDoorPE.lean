/- A part of the proof: texts PgA, PgB, PgC, PgD, PgE, PgF, PgG, PgH, PgI, PgJ, PgK, PgL, PgM, PgN, PgO, PgP, PgQ, PgR, PgS, joined. Conditions: none. -/
import Derived.Test.YtdpamjikmlbmhaaGreatDoorPD
import Derived.Lib.ItoaMem
import Derived.Lib.ParseIntB
import Derived.Lib.ItoaLen
import Derived.Lib.ParseIntBTie
import Derived.Laws.BitsLemmas
set_option linter.all false
open Nat (reduceEqDiff reduceAdd reduceLeDiff reduceLT reduceMul reduceSub)
namespace Go.PM
variable {cf:au} {st:St}
def xk(c:Int):Bool:=decide (97≤c) && decide (c≤122)||decide (65≤c) && decide (c≤90)
def d8(c:Int):Bool:=decide (48≤c) && decide (c≤57)
def fQ(c:Int):Bool:=xk c||d8 c||decide (c=95)
def dE(l:List UInt8):Bool:=decide (1≤l.length) && decide (l.length≤20) && xk (cI l 0) && l.all fun c=>fQ (c.toNat:Int)
def jI(n:Int):Bool:=decide (1≤n) && decide (n≤1000000000000)
theorem BA(l:List UInt8)(i:Nat)(hi:i<l.length)(f:UInt8→Bool):(l.take (i+1)).all f=((l.take i).all f && f l[i]):=by
 rw[aL hi,List.all_append];simp
theorem nL(l:List UInt8)(i:Nat)(hi:i<l.length):cI l i=(l[i].toNat:Int):=by simp[cI,hi]
theorem GA{l:List UInt8}{i:Nat}(hi:i<l.length)(h:fQ (cI l i)=false)(f:UInt8→Bool)(hf:f=fun c=>fQ (c.toNat:Int)):l.all f=false:=by
 rw[nL l i hi]at h
 subst hf
 rw[List.all_eq_false]
 exact⟨l[i],bL hi,by simpa using h⟩
theorem wk(K:gT cf)(c:Int):ar cf 172 [U c] [] st=some (.bool (xk c),st):=by
 refine cB K (F:=F172) (t:=2) rfl rfl rfl (lb rfl) (by simp[aQ]) (bD _) 1 ?_
 unfold F172 qr qm qc qx qy qo xk
 repeat' (first|(refine ab (fun _=>?_) (fun _=>?_))|(simp only[↓pa,pb,↓reduceIte,reduceEqDiff,reduceCtorEq, *]))
theorem ui(K:gT cf)(c:Int):ar cf 168 [U c] [] st=some (.bool (xk c),st):=by
 refine cB K (F:=F168) (t:=2) rfl rfl rfl (lb rfl) (by simp[aQ]) (bD _) 1 ?_
 unfold F168 qr qm qc qx qy qo xk
 repeat' (first|(refine ab (fun _=>?_) (fun _=>?_))|(simp only[↓pa,pb,↓reduceIte,reduceEqDiff,reduceCtorEq, *]))
theorem om(K:gT cf)(c:Int):ar cf 173 [U c] [] st=some (.bool (d8 c),st):=by
 refine cB K (F:=F173) (t:=2) rfl rfl rfl (lb rfl) (by simp[aQ]) (bD _) 1 ?_
 unfold F173 qr qm qc qy qo d8
 repeat' (first|(refine ab (fun _=>?_) (fun _=>?_))|(simp only[↓pa,pb,↓reduceIte,reduceEqDiff,reduceCtorEq, *]))
theorem lF(K:gT cf)(c:Int):ar cf 169 [U c] [] st=some (.bool (d8 c),st):=by
 refine cB K (F:=F169) (t:=2) rfl rfl rfl (lb rfl) (by simp[aQ]) (bD _) 1 ?_
 unfold F169 qr qm qc qy qo d8
 repeat' (first|(refine ab (fun _=>?_) (fun _=>?_))|(simp only[↓pa,pb,↓reduceIte,reduceEqDiff,reduceCtorEq, *]))
theorem xH(K:gT cf)(n:Int):ar cf 124 [I n] [] st=some (.bool (jI n),st):=by
 refine cB K (F:=F124) (t:=2) rfl rfl rfl (lb rfl) (by simp[aQ]) (bD _) 1 ?_
 unfold F124 qr qm qc qk qy jI
 repeat' (first|(refine ab (fun _=>?_) (fun _=>?_))|(simp only[↓pa,pb,↓reduceIte,reduceEqDiff,reduceCtorEq, *]))
theorem uM(K:gT cf)(n:Int):ar cf 118 [I n] [] st=some (.bool (jI n),st):=by
 refine cB K (F:=F118) (t:=2) rfl rfl rfl (lb rfl) (by simp[aQ]) (bD _) 1 ?_
 unfold F118 qr qm qc qk qy jI
 repeat' (first|(refine ab (fun _=>?_) (fun _=>?_))|(simp only[↓pa,pb,↓reduceIte,reduceEqDiff,reduceCtorEq, *]))
theorem uh(K:gT cf)(l:List UInt8):ar cf 127 [S l] [] st=some (.bool (dE l),st):=by
 refine cB K (F:=F127) (t:=2) rfl rfl rfl (lb rfl) (by simp[cD]) (bD _) (l.length+1) ?_
 unfold F127 qg qr qd qm qi qc qb qk qt qx qy qo
 simp only[↓pa,pb,↓reduceIte,reduceCtorEq]
 refine ab (fun h1=>?_) (fun h1=>?_)
 ·simp only[↓pa,pb,↓reduceIte,reduceEqDiff,h1]
  have:¬1≤l.length:=by omega
  simp[dE,this]
 simp only[↓pa,pb,↓reduceIte,reduceEqDiff,reduceCtorEq,h1]
 refine ab (fun h2=>?_) (fun h2=>?_)
 ·simp only[↓pa,pb,↓reduceIte,reduceEqDiff,h2]
  have:¬l.length≤20:=by omega
  simp[dE,this]
 simp (disch:=omega)only[↓pa,pb,↓reduceIte,reduceEqDiff,reduceCtorEq,h2,wk K]
 refine ab (fun h3=>?_) (fun h3=>?_)
 rotate_left
 ·simp only[↓pa,pb,↓reduceIte,h3]
  simp[dE,h3]
 simp only[↓pa,pb,↓reduceIte,reduceCtorEq,h3]
 refine aX (fun k fr st=>∃ i:Nat,k=l.length-i∧i≤l.length∧fr 0=S l∧fr 19=I l.length∧fr 20=I i∧(l.take i).all (fun c=>fQ (c.toNat:Int))=true) l.length (by omega) ⟨0,by simp,by simp,by simp only[↓pa,↓reduceIte,reduceCtorEq],by simp only[↓pa,↓reduceIte,reduceEqDiff],by simp only[↓pa,↓reduceIte];rfl,by simp⟩ ?_
 rintro k fr st ⟨i,rfl,hi,f0,f19,f20,hall⟩
 simp only[↓pa,pb,↓reduceIte,f19,f20]
 refine ab (fun h4=>?_) (fun h4=>?_)
 rotate_left
 ·simp only[↓pa,pb,↓reduceIte]
  have hil:i=l.length:=by omega
  subst hil
  rw[kQ]at hall
  have h1':1≤l.length:=by omega
  have h2':l.length≤20:=by omega
  simp[dE,h1',h2',h3,hall]
 have hlt:i<l.length:=by omega
 have next:fQ (cI l i)=true→∃ j,j<l.length-i∧∃ m:Nat,j=l.length-m∧m≤l.length∧True∧True∧I (↑i+1)=I m∧(l.take m).all (fun c=>fQ (c.toNat:Int))=true:=fun h=>
  ⟨l.length- (i+1),by omega,i+1,rfl,by omega,trivial,trivial,by simp,by rw[BA l i hlt,hall,←nL l i hlt,h];rfl⟩
 simp (disch:=omega)only[↓pa,pb,↓reduceIte,reduceEqDiff,reduceCtorEq,f0,f20,wk K]
 refine ab (fun h5=>?_) (fun h5=>?_)
 ·simp (disch:=omega)only[↓pa,pb,↓reduceIte,reduceEqDiff,reduceCtorEq,f0,f19,f20,h5]
  simpa using next (by simp[fQ,h5])
 ·simp (disch:=omega)only[↓pa,pb,↓reduceIte,reduceEqDiff,reduceCtorEq,f0,h5,om K]
  refine ab (fun h6=>?_) (fun h6=>?_)
  ·simp (disch:=omega)only[↓pa,pb,↓reduceIte,reduceEqDiff,reduceCtorEq,f0,f19,f20,h6]
   simpa using next (by simp[fQ,h6])
  ·simp (disch:=omega)only[↓pa,pb,↓reduceIte,reduceEqDiff,reduceCtorEq,f0,h6]
   refine ab (fun h7=>?_) (fun h7=>?_)
   ·simp (disch:=omega)only[↓pa,pb,↓reduceIte,reduceEqDiff,reduceCtorEq,f0,f19,f20,h7]
    simpa using next (by simp[fQ,h7])
   ·simp only[↓pa,pb,↓reduceIte]
    have:fQ (cI l i)=false:=by simp[fQ,h5,h6,h7]
    simp[dE,GA hlt this _ rfl]
def kl(n:Nat)(ok:Nat→Bool):Bool:=(List.range n).all ok
theorem jB{n:Nat}{ok:Nat→Bool}(h:∀ j,j<n→ok j=true):kl n ok=true:=by
 simp only[kl,aU,iS];exact h
theorem eY{n i:Nat}{ok:Nat→Bool}(h:i<n)(k:ok i=false):kl n ok=false:=by
 simp only[kl,List.all_eq_false,iS]
 exact⟨i,h,by simp[k]⟩
theorem mN{n:Nat}{ok:Nat→Bool}:kl n ok=true↔∀ j,j<n→ok j=true:=by
 simp only[kl,aU,iS]
theorem eX{i:Nat}{ok:Nat→Bool}(h:∀ j,j<i→ok j=true)(k:ok i=true):∀ j,j<i+1→ok j=true:=fun j hj=>by
 by_cases e:j=i
 ·rw[e];exact k
 ·exact h j (by omega)
@[reducible] def TX (l:List (List UInt8)):PV:= .list l.length (l.map S) .no
def iV(l:List (List UInt8))(i:Nat):List UInt8:=l.getD i []
theorem iY{l:List (List UInt8)}{i:Nat}(h:i<l.length):bT (l.map S) i 1 false=some (S (iV l i)):=by
 refine Fq ?_
 simp[iV,h]
theorem iH(l:List (List UInt8)):cL (TX l):=by
 refine eB ?_
 induction l with
 |nil=>exact dK
 |cons x l ih=>exact bq (cD _) ih
def jg(l:List (List UInt8))(i:Nat):Bool:=decide (i=0)||ej (iV l (i-1)) (iV l i)
def hU(l:List (List UInt8)):Bool:=kl l.length (jg l)
def gF(m:Int)(l:List (List UInt8)):Bool:=decide ((l.length:Int)≤m) && kl l.length fun i=>dE (iV l i) && jg l i
theorem AT(m:Int)(l:List (List UInt8)):gF m l=(decide ((l.length:Int)≤m) && (hU l && kl l.length fun i=>dE (iV l i))):=by
 unfold gF hU
 congr 1
 rw[Bool.eq_iff_iff]
 simp only[aa,mN]
 exact⟨fun h=>⟨fun j hj=>(h j hj).2,fun j hj=>(h j hj).1⟩,fun h j hj=>⟨h.2 j hj,h.1 j hj⟩⟩
theorem BZ(l:List UInt8)(h1:1≤l.length)(h3:xk (cI l 0)=true):(l.take 1).all (fun c=>fQ (c.toNat:Int))=true:=by
 match l,h1 with
 |c::l,_=>
  have:xk (c.toNat:Int)=true:=h3
  simp[fQ,this]
theorem rN(K:gT cf)(l:List UInt8):ar cf 121 [S l] [] st=some (.bool (dE l),st):=by
 refine cB K (F:=F121) (t:=2) rfl rfl rfl (lb rfl) (by simp[cD]) (bD _) (l.length+1) ?_
 unfold F121 qg qr qd qm qi qc qb qk qt qx qy qo
 simp only[↓pa,pb,↓reduceIte,reduceCtorEq]
 refine ab (fun h1=>?_) (fun h1=>?_)
 ·simp only[↓pa,pb,↓reduceIte,reduceEqDiff,h1]
  have:¬1≤l.length:=by omega
  simp[dE,this]
 simp only[↓pa,pb,↓reduceIte,reduceEqDiff,reduceCtorEq,h1]
 refine ab (fun h2=>?_) (fun h2=>?_)
 ·simp only[↓pa,pb,↓reduceIte,reduceEqDiff,h2]
  have:¬l.length≤20:=by omega
  simp[dE,this]
 simp (disch:=omega)only[↓pa,pb,↓reduceIte,reduceEqDiff,reduceCtorEq,h2,ui K]
 refine ab (fun h3=>?_) (fun h3=>?_)
 rotate_left
 ·simp only[↓pa,pb,↓reduceIte,h3]
  simp[dE,h3]
 simp only[↓pa,pb,h3]
 refine aX (fun k fr st=>∃ i:Nat,k=l.length-i∧i≤l.length∧fr 0=S l∧fr 3=I i∧(l.take i).all (fun c=>fQ (c.toNat:Int))=true) (l.length-1) (by omega) ⟨1,by simp,by omega,by simp only[↓pa,↓reduceIte,reduceCtorEq],by simp only[↓pa,↓reduceIte];rfl,BZ l (by omega) h3⟩ ?_
 rintro k fr st ⟨i,rfl,hi,f0,f3,hall⟩
 simp only[↓pa,pb,↓reduceIte,reduceEqDiff,reduceCtorEq,f0,f3]
 refine ab (fun h4=>?_) (fun h4=>?_)
 rotate_left
 ·simp only[↓pa,pb,↓reduceIte]
  have hil:i=l.length:=by omega
  subst hil
  rw[kQ]at hall
  have h1':1≤l.length:=by omega
  have h2':l.length≤20:=by omega
  simp[dE,h1',h2',h3,hall]
 have hlt:i<l.length:=by omega
 have next:fQ (cI l i)=true→∃ j,j<l.length-i∧∃ m:Nat,j=l.length-m∧m≤l.length∧True∧I (↑i+1)=I m∧(l.take m).all (fun c=>fQ (c.toNat:Int))=true:=fun h=>
  ⟨l.length- (i+1),by omega,i+1,rfl,by omega,trivial,by simp,by rw[BA l i hlt,hall,←nL l i hlt,h];rfl⟩
 simp (disch:=omega)only[↓pa,pb,↓reduceIte,reduceEqDiff,reduceCtorEq,f0,f3,ui K]
 refine ab (fun h5=>?_) (fun h5=>?_)
 ·simp (disch:=omega)only[↓pa,pb,↓reduceIte,reduceEqDiff,reduceCtorEq,f0,f3,h5]
  simpa using next (by simp[fQ,h5])
 ·simp (disch:=omega)only[↓pa,pb,↓reduceIte,reduceEqDiff,reduceCtorEq,f0,f3,h5,lF K]
  refine ab (fun h6=>?_) (fun h6=>?_)
  ·simp (disch:=omega)only[↓pa,pb,↓reduceIte,reduceEqDiff,reduceCtorEq,f0,f3,h6]
   simpa using next (by simp[fQ,h6])
  ·simp (disch:=omega)only[↓pa,pb,↓reduceIte,reduceEqDiff,reduceCtorEq,f0,f3,h6]
   refine ab (fun h7=>?_) (fun h7=>?_)
   ·simp (disch:=omega)only[↓pa,pb,↓reduceIte,reduceEqDiff,reduceCtorEq,f0,f3,h7]
    simpa using next (by simp[fQ,h7])
   ·simp only[↓pa,pb,↓reduceIte]
    have:fQ (cI l i)=false:=by simp[fQ,h5,h6,h7]
    simp[dE,GA hlt this _ rfl]
theorem Bo(K:gT cf)(l:List (List UInt8))(hl:(l.length:Int)≤2000000):ar cf 166 [TX l] [] st=some (.bool (hU l),st):=by
 refine cB K (F:=F166) (t:=2) rfl rfl rfl (lb rfl) (by simp[iH]) (bD _) (l.length+1) ?_
 have hm:(l.map S).length=l.length:=bu _
 unfold F166 qr qd qm qi qc qb qk ql qa qn
 simp only[↓pa]
 refine aX (fun k fr st=>∃ i:Nat,k=l.length-i∧1≤i∧(i≤l.length∨i=1)∧fr 0=TX l∧fr 3=I i∧∀ j,j<i→jg l j=true) (l.length-1) (by omega) ⟨1,by simp,by omega,by omega,by simp only[↓pa,↓reduceIte,reduceCtorEq],by simp only[↓pa,↓reduceIte];rfl,fun j hj=>?_⟩ ?_
 ·obtain rfl:j=0:=by omega
  rfl
 rintro k fr st ⟨i,rfl,hi1,hi,f0,f3,hall⟩
 simp only[↓pa,pb,↓reduceIte,reduceEqDiff,reduceCtorEq,f0,f3]
 refine ab (fun h4=>?_) (fun h4=>?_)
 rotate_left
 ·simp only[↓pa,pb,↓reduceIte]
  rw[hU,jB fun j hj=>hall j (by omega)]
 have hlt:i<l.length:=by omega
 have hp:((i:Int) -1).toNat=i-1:=by omega
 simp (disch:=omega)only[↓pa,pb,↓reduceIte,reduceEqDiff,reduceCtorEq,f0,f3,hp,fk,iY (show i<l.length from hlt),iY (show i-1<l.length by omega)]
 have e:jg l i=ej (iV l (i-1)) (iV l i):=by simp[jg,show i≠0 by omega]
 refine ab (fun h5=>?_) (fun h5=>?_)
 ·simp (disch:=omega)only[↓pa,pb,↓reduceIte,reduceEqDiff,reduceCtorEq,f0,f3,h5]
  exact⟨l.length- (i+1),by omega,i+1,rfl,by omega,by omega,by simp,eX hall (by rw[e];exact h5)⟩
 ·simp only[↓pa,pb,↓reduceIte,h5]
  rw[hU,eY hlt (by rw[e];simpa using h5)]
theorem Gw(K:gT cf)(l:List (List UInt8)):ar cf 119 [TX l] [] st=some (.bool (gF 10 l),st):=by
 refine cB K (F:=F119) (t:=2) rfl rfl rfl (lb rfl) (by simp[iH]) (bD _) (l.length+1) ?_
 rw[AT]
 have hm:(l.map S).length=l.length:=bu _
 unfold F119 qg qr qd qm qi qc qb qk ql qt qa qx qn qo
 simp only[↓pa,pb,↓reduceIte,reduceCtorEq]
 refine ab (fun h1=>?_) (fun h1=>?_)
 ·simp only[↓pa,pb,↓reduceIte,reduceEqDiff,h1]
  have:¬ ((l.length:Int)≤10):=by omega
  simp only[this,decide_false,fP]
 have h1':(l.length:Int)≤10:=by omega
 simp only[↓pa,pb,↓reduceIte,reduceEqDiff,reduceCtorEq,h1,Bo K l (by omega)]
 refine ab (fun h2=>?_) (fun h2=>?_)
 rotate_left
 ·simp only[↓pa,pb,↓reduceIte,h2]
 simp only[↓pa,pb,h2]
 refine aX (fun k fr st=>∃ i:Nat,k=l.length-i∧i≤l.length∧fr 0=TX l∧fr 3=I i∧∀ j,j<i→dE (iV l j)=true) l.length (by omega) ⟨0,by simp,by omega,by simp only[↓pa,↓reduceIte,reduceCtorEq],by simp only[↓pa,↓reduceIte];rfl,fun j hj=>by omega⟩ ?_
 rintro k fr st ⟨i,rfl,hi,f0,f3,hall⟩
 simp only[↓pa,pb,↓reduceIte,reduceEqDiff,reduceCtorEq,f0,f3]
 refine ab (fun h4=>?_) (fun h4=>?_)
 rotate_left
 ·simp only[↓pa,pb,↓reduceIte]
  have ha:kl l.length (fun i=>dE (iV l i))=true:=jB fun j hj=>hall j (by omega)
  simp[h1',ha]
 have hlt:i<l.length:=by omega
 simp (disch:=omega)only[↓pa,pb,↓reduceIte,reduceEqDiff,reduceCtorEq,f0,f3,fk,iY hlt,rN K]
 refine ab (fun h5=>?_) (fun h5=>?_)
 ·simp (disch:=omega)only[↓pa,pb,↓reduceIte,reduceEqDiff,reduceCtorEq,f0,f3,h5]
  exact⟨l.length- (i+1),by omega,i+1,rfl,by omega,by simp,eX hall h5⟩
 ·simp only[↓pa,pb,↓reduceIte,h5]
  rw[eY hlt (by simpa using h5)]
  simp
theorem IA(K:gT cf)(l:List (List UInt8))(m:Int)(hm:m≤2000000):ar cf 125 [TX l,I m] [] st=some (.bool (gF m l),st):=by
 refine cB K (F:=F125) (t:=4) rfl rfl rfl (lb rfl) (by simp[iH,aQ]) (bD _) (l.length+1) ?_
 have hm:(l.map S).length=l.length:=bu _
 unfold F125 qg qr qd qm qi qc qb qk ql qt qa qx qn qo
 simp only[↓pa,pb,↓reduceIte,reduceEqDiff,reduceCtorEq]
 refine ab (fun h1=>?_) (fun h1=>?_)
 ·simp only[↓pa,pb,↓reduceIte,h1]
  have:¬ ((l.length:Int)≤m):=by omega
  simp[gF,this]
 have h1':(l.length:Int)≤m:=by omega
 simp only[↓pa,pb,↓reduceIte,reduceCtorEq,h1]
 refine aX (fun k fr st=>∃ i:Nat,k=l.length-i∧i≤l.length∧fr 0=TX l∧fr 11=TX l∧fr 12=I l.length∧fr 13=I i∧∀ j,j<i→(dE (iV l j) && jg l j)=true) l.length (by omega) ⟨0,by simp,by omega,by simp only[↓pa,↓reduceIte,reduceCtorEq],by simp only[↓pa,↓reduceIte,reduceEqDiff],by simp only[↓pa,↓reduceIte,reduceEqDiff],by simp only[↓pa,↓reduceIte];rfl,fun j hj=>by omega⟩ ?_
 rintro k fr st ⟨i,rfl,hi,f0,f11,f12,f13,hall⟩
 simp only[↓pa,pb,↓reduceIte,f12,f13]
 refine ab (fun h4=>?_) (fun h4=>?_)
 rotate_left
 ·simp only[↓pa,pb,↓reduceIte]
  have ha:kl l.length (fun i=>dE (iV l i) && jg l i)=true:=jB fun j hj=>hall j (by omega)
  simp[gF,h1',ha]
 have hlt:i<l.length:=by omega
 have bad:(dE (iV l i) && jg l i)=false→gF m l=false:=fun h=>by rw[gF,eY hlt h];simp
 have next:(dE (iV l i) && jg l i)=true→∃ j,j<l.length-i∧∃ m:Nat,j=l.length-m∧m≤l.length∧True∧True∧True∧I (↑i+1)=I m∧∀ j,j<m→(dE (iV l j) && jg l j)=true:=fun h=>
  ⟨l.length- (i+1),by omega,i+1,rfl,by omega,trivial,trivial,trivial,by simp,eX hall h⟩
 simp (disch:=omega)only[↓pa,pb,↓reduceIte,reduceEqDiff,f11,f13,fk,iY hlt,uh K]
 refine ab (fun h5=>?_) (fun h5=>?_)
 rotate_left
 ·simp only[↓pa,pb,↓reduceIte,reduceEqDiff,h5]
  rw[bad (by simp[h5])]
 simp only[↓pa,pb,↓reduceIte,reduceEqDiff,h5]
 refine ab (fun h6=>?_) (fun h6=>?_)
 rotate_left
 ·simp (disch:=omega)only[↓pa,pb,↓reduceIte,reduceEqDiff,reduceCtorEq,f0,f11,f12,f13,h6]
  have:i=0:=by omega
  simpa using next (by rw[h5,jg];simp[this])
 have hp:((i:Int) -1).toNat=i-1:=by omega
 have e:jg l i=ej (iV l (i-1)) (iV l i):=by simp[jg,show i≠0 by omega]
 simp (disch:=omega)only[↓pa,pb,↓reduceIte,reduceEqDiff,reduceCtorEq,f0,h6,hp,fk,iY (show i-1<l.length by omega)]
 refine ab (fun h7=>?_) (fun h7=>?_)
 ·simp (disch:=omega)only[↓pa,pb,↓reduceIte,reduceEqDiff,reduceCtorEq,f0,f11,f12,f13,h7]
  simpa using next (by rw[e];simp[h5,h7])
 ·simp only[↓pa,pb,↓reduceIte,h7]
  rw[bad (by rw[e];simp[h5,h7])]
end Go.PM
namespace Go.PM
inductive V where
 |mk (kind n m:Int) (s:List UInt8) (ns:List (List UInt8)) (vs:List V)
def V.kind:V→Int| .mk k _ _ _ _ _=>k
def V.num:V→Int| .mk _ n _ _ _ _=>n
def V.items:V→List V| .mk _ _ _ _ _ vs=>vs
mutual
def V.ca:V→List PV
 | .mk k n m s ns vs=>[I k,I n,I m,S s,.list ns.length (ns.map S) .no,.list vs.length (V.cas vs) .no]
def V.cas:List V→List PV
 | []=>[]
 |v::vs=>v.ca++V.cas vs
end
mutual
def V.cb:V→List PV
 | .mk k n m s ns vs=>[I k,I n,I m,S s,.list vs.length (V.cbs vs) .no,.list ns.length (ns.map S) .no]
def V.cbs:List V→List PV
 | []=>[]
 |v::vs=>v.cb++V.cbs vs
end
def skip(p:Int→Bool)(t:List UInt8)(i:Nat):Nat:=i+((t.drop i).takeWhile fun c=>p (c.toNat:Int)).length
def dd(t:List UInt8)(i j:Nat):List UInt8:=(t.take j).drop i
def tk(t:List UInt8)(i:Nat)(s:List UInt8):Bool:=decide ((t.drop i).take s.length=s)
def fE(s:List UInt8):Option Int:=match Go.Lib.parseIntB 64 s with
 | .ok n=>if Go.Lib.itoa n=s then some n else none
 |_=>none
def eC(t:List UInt8)(i:Nat):Option (Int×Nat):=
 (fE (dd t i (skip d8 t (if cI t i=45 then i+1 else i)))).map fun n=>(n,skip d8 t (if cI t i=45 then i+1 else i))
def qW(t:List UInt8)(i:Nat):Option (Int×Nat):=match eC t i with
 |some (n,j)=>if 1≤n∧n≤1000000000000 then some (n,j)else none
 |none=>none
def gm(t:List UInt8):Nat→Nat→List UInt8→Option (List UInt8×Nat)
 |0,_,_=>none
 |k+1,i,acc=>
  if i<t.length then
   if cI t i=34 then some (acc,i+1)
   else if cI t i=92 then
    if cI t (i+1)=34∨cI t (i+1)=92 then gm t k (i+2) (acc++[t.getD (i+1) 0])
    else if cI t (i+1)=110 then gm t k (i+2) (acc++[10])else none
   else if cI t i<32 then none
   else gm t k (i+1) (acc++[t.getD i 0])
  else none
def nZ(t:List UInt8)(i:Nat):Option (List UInt8×Nat):=gm t (t.length+1-i) i []
def oz(t:List UInt8)(i:Nat):Option (List UInt8×Nat):=
 if dE (dd t i (skip fQ t i))then some (dd t i (skip fQ t i),skip fQ t i)else none
def ib(t:List UInt8):Nat→Nat→Int→Option Int
 |0,_,v=>some v
 |k+1,i,v=>if i<t.length∧d8 (cI t i)=true then ib t k (i+1) (v*10+(cI t i-48))else none
def sp(y:Int):Bool:=decide (y.tmod 4=0) && (decide (y.tmod 100≠0)||decide (y.tmod 400=0))
def mw(y m:Int):Int:=if m=2 then(if sp y then 29 else 28)else if m=4∨m=6∨m=9∨m=11 then 30 else 31
def nD(y:Int):Nat→Int
 |0=>0
 |k+1=>nD y k+mw y (k+1)
def yi(y m d:Int):Int:=(y-1) *365+(y-1).tdiv 4- (y-1).tdiv 100+(y-1).tdiv 400+nD y (m.toNat-1)+d-1
def Aa(y m d:Int):Option Int:=if 1≤y∧1≤m∧m≤12∧1≤d∧d≤mw y m then some (yi y m d)else none
def fF(t:List UInt8)(i:Nat):Option (Int×Nat):=
 match ib t 4 i 0,ib t 2 (i+5) 0,ib t 2 (i+8) 0 with
 |some y,some m,some d=>if cI t (i+4)=45∧cI t (i+7)=45 then(Aa y m d).map fun n=>(n,i+10)else none
 |_,_,_=>none
def nR(x:Int):Bool:=decide (x< -1000000)||decide (1000000<x)
def fG(t:List UInt8)(i:Nat):Option (V×Nat):=match eC t i with
 |some (a,j)=>if cI t j=32 then match eC t (j+1)with
  |some (b,k)=>if cI t k=41∧nR a=false∧nR b=false then some (.mk 5 a b [] [] [],k+1)else none
  |none=>none
  else none
 |none=>none
def dP(t:List UInt8)(kind:Int)(i:Nat):Option (V×Nat):=(qW t i).map fun q=>(.mk kind q.1 0 [] [] [],q.2)
def kV(t:List UInt8):Nat→Bool→Nat→List V→Option (V×Nat)
 |0,_,_,_=>none
 |k+1,node,i,acc=>
  if cI t i=(if node then 110 else 101)then match dP t (if node then 8 else 9) (i+1)with
   |some (v,j)=>
    if node=true∧cI t j=62 then some (.mk 10 0 0 [] [] (acc++[v]),j+1)
    else if cI t j=32 then kV t k (!node) (j+1) (acc++[v])
    else none
   |none=>none
  else none
def oy(t:List UInt8)(i:Nat):Option (V×Nat):=kV t (t.length+1-i) true i []
def kf(t:List UInt8)(rd:Nat→Option (V×Nat)):Nat→Nat→List V→Option (V×Nat)
 |0,_,_=>none
 |k+1,i,acc=>match rd i with
  |some (v,j)=>
   if cI t j=93 then some (.mk 6 0 0 [] [] (acc++[v]),j+1)
   else if cI t j=44 then kf t rd k (j+1) (acc++[v])
   else none
  |none=>none
def jS(t:List UInt8)(rd:Nat→Option (V×Nat))(i:Nat):Option (V×Nat):=
 if cI t i=93 then some (.mk 6 0 0 [] [] [],i+1)else kf t rd (t.length+1-i) i []
def kH(t:List UInt8)(rd:Nat→Option (V×Nat)):Nat→Nat→List (List UInt8)→List V→Option (V×Nat)
 |0,_,_,_=>none
 |k+1,i,ns,acc=>match oz t i with
  |some (s,j)=>if cI t j=58 then match rd (j+1)with
   |some (v,j)=>
    if cI t j=125 then(if hU (ns++[s])then some (.mk 7 0 0 [] (ns++[s]) (acc++[v]),j+1)else none)
    else if cI t j=44 then kH t rd k (j+1) (ns++[s]) (acc++[v])
    else none
   |none=>none
   else none
  |none=>none
def ix(t:List UInt8)(rd:Nat→Option (V×Nat))(i:Nat):Option (V×Nat):=
 if cI t i=125 then some (.mk 7 0 0 [] [] [],i+1)else kH t rd (t.length+1-i) i [] []
def li(t:List UInt8)(rd:Option (Nat→Option (V×Nat)))(i:Nat):Option (V×Nat):=
 if cI t i=34 then(nZ t (i+1)).map fun q=>(.mk 3 0 0 q.1 [] [],q.2)
 else if cI t i=64 then(fF t (i+1)).map fun q=>(.mk 4 q.1 0 [] [] [],q.2)
 else if cI t i=45∨d8 (cI t i)=true then(eC t i).map fun q=>(.mk 2 q.1 0 [] [] [],q.2)
 else if cI t i=40 then fG t (i+1)
 else if cI t i=91 then match rd with
  |some rd=>jS t rd (i+1)
  |none=>none
 else if cI t i=123 then match rd with
  |some rd=>ix t rd (i+1)
  |none=>none
 else if cI t i=60 then oy t (i+1)
 else if tk t i [110,117,108,108]then some (.mk 0 0 0 [] [] [],i+4)
 else if tk t i [116,114,117,101]then some (.mk 1 1 0 [] [] [],i+4)
 else if tk t i [102,97,108,115,101]then some (.mk 1 0 0 [] [] [],i+5)
 else if cI t i=110 then dP t 8 (i+1)
 else if cI t i=101 then dP t 9 (i+1)
 else none
def dO(t:List UInt8):Nat→Nat→Option (V×Nat)
 |0=>li t none
 |b+1=>li t (some (dO t b))
def fW(t:List UInt8):Option V:=if t.length≤2000 then match dO t 5 0 with
 |some (v,j)=>if j=t.length then some v else none
 |none=>none
 else none
theorem rO{t:List UInt8}{i:Nat}(h:t.length≤i):cI t i=0:=by simp[cI,cU h]
theorem cO{t:List UInt8}{i:Nat}(h:cI t i≠0):i<t.length:=by
 by_cases k:i<t.length
 ·exact k
 ·exact absurd (rO (by omega)) h
theorem jp{p:Int→Bool}{t:List UInt8}{i:Nat}(h:i<t.length)(k:p (cI t i)=true):skip p t i=skip p t (i+1):=by
 unfold skip
 rw[aK h,List.takeWhile_cons]
 rw[nL t i h]at k
 rw[ai k,ao]
 omega
theorem mW{p:Int→Bool}{t:List UInt8}{i:Nat}(h:i<t.length→p (cI t i)=false):skip p t i=i:=by
 unfold skip
 by_cases hi:i<t.length
 ·rw[aK hi,List.takeWhile_cons]
  have k:=h hi
  rw[nL t i hi]at k
  rw[ad (by simp[k])]
  rfl
 ·rw[gf (by omega)]
  rfl
theorem kd(p:Int→Bool)(t:List UInt8)(i:Nat):i≤skip p t i:=by unfold skip;omega
theorem mX{p:Int→Bool}{t:List UInt8}{i:Nat}(h:i≤t.length):skip p t i≤t.length:=by
 unfold skip
 have:=(List.takeWhile_sublist (fun c:UInt8=>p (c.toNat:Int)) (l:=t.drop i)).length_le
 rw[cV]at this
 omega
theorem CD{t:List UInt8}{i:Nat}{n:Int}{j:Nat}(hi:i≤t.length)(h:eC t i=some (n,j)):i≤j∧j≤t.length:=by
 unfold eC at h
 simp only[ae,bE]at h
 obtain⟨_,_,_,rfl⟩:=h
 split
 ·rename_i hc
  have hlt:=cO (show cI t i≠0 by rw[hc];decide)
  have:=kd d8 t (i+1)
  exact⟨by omega,mX (by omega)⟩
 ·exact⟨kd _ _ _,mX hi⟩
theorem KV{t:List UInt8}{i:Nat}{n:Int}{j:Nat}(hi:i≤t.length)(h:qW t i=some (n,j)):i≤j∧j≤t.length:=by
 unfold qW at h
 split at h
 ·rename_i n' j' hp
  split at h
  ·cases h;exact CD hi hp
  ·cases h
 ·cases h
theorem V.ca_len(v:V):v.ca.length=6:=by cases v;rfl
theorem V.cb_len(v:V):v.cb.length=6:=by cases v;rfl
theorem V.cas_len:∀ vs:List V,(V.cas vs).length=vs.length*6
 | []=>rfl
 |v::vs=>by rw[V.cas,ak,V.ca_len,V.cas_len vs,ao];omega
theorem V.cbs_len:∀ vs:List V,(V.cbs vs).length=vs.length*6
 | []=>rfl
 |v::vs=>by rw[V.cbs,ak,V.cb_len,V.cbs_len vs,ao];omega
theorem V.cas_app:∀ vs ws:List V,V.cas (vs++ws)=V.cas vs++V.cas ws
 | [],_=>rfl
 |v::vs,ws=>by rw[aM,V.cas,V.cas,V.cas_app vs ws,cK]
theorem V.cbs_app:∀ vs ws:List V,V.cbs (vs++ws)=V.cbs vs++V.cbs ws
 | [],_=>rfl
 |v::vs,ws=>by rw[aM,V.cbs,V.cbs,V.cbs_app vs ws,cK]
theorem V.cas_snoc(vs:List V)(v:V):V.cas vs++v.ca=V.cas (vs++[v]):=by rw[V.cas_app,V.cas,V.cas,aO]
theorem V.cbs_snoc(vs:List V)(v:V):V.cbs vs++v.cb=V.cbs (vs++[v]):=by rw[V.cbs_app,V.cbs,V.cbs,aO]
theorem nB(ns:List (List UInt8)):b8 (ns.map S):=by
 induction ns with
 |nil=>exact dK
 |cons x l ih=>exact bq (cD _) ih
mutual
theorem V.ca_plain:∀ v:V,b8 v.ca
 | .mk k n m s ns vs=>by
  rw[V.ca]
  exact bq (aQ _ _) (bq (aQ _ _) (bq (aQ _ _) (bq (cD _) (bq (eB (nB ns)) (bq (eB (V.cas_plain vs)) dK)))))
theorem V.cas_plain:∀ vs:List V,b8 (V.cas vs)
 | []=>dK
 |v::vs=>by rw[V.cas];exact lR (V.ca_plain v) (V.cas_plain vs)
end
mutual
theorem V.cb_plain:∀ v:V,b8 v.cb
 | .mk k n m s ns vs=>by
  rw[V.cb]
  exact bq (aQ _ _) (bq (aQ _ _) (bq (aQ _ _) (bq (cD _) (bq (eB (V.cbs_plain vs)) (bq (eB (nB ns)) dK)))))
theorem V.cbs_plain:∀ vs:List V,b8 (V.cbs vs)
 | []=>dK
 |v::vs=>by rw[V.cbs];exact lR (V.cb_plain v) (V.cbs_plain vs)
end
theorem eh:
  (∀ {v:V},aG v.ca=true)∧(∀ {v:V},aB v.ca=v.ca)∧(∀ {v:V},aG v.cb=true)∧(∀ {v:V},aB v.cb=v.cb)∧
  (∀ {vs:List V},aG (V.cas vs)=true)∧(∀ {vs:List V},aB (V.cas vs)=V.cas vs)∧(∀ {vs:List V},aG (V.cbs vs)=true)∧(∀ {vs:List V},aB (V.cbs vs)=V.cbs vs)∧
  (∀ {ns:List (List UInt8)},aG (ns.map S)=true)∧(∀ {ns:List (List UInt8)},aB (ns.map S)=ns.map S)∧
  (∀ {v:V},v.ca.take 6=v.ca)∧(∀ {v:V},v.cb.take 6=v.cb)∧(∀ {v:V},v.ca.length=6)∧(∀ {v:V},v.cb.length=6)∧
  (∀ {v:V} {cs:List PV},cs.length=6→putCells cs 0 v.ca=v.ca)∧(∀ {v:V} {cs:List PV},cs.length=6→putCells cs 0 v.cb=v.cb):=by
 refine⟨fun{v}=>v.ca_plain.1,fun{v}=>v.ca_plain.2.1,fun{v}=>v.cb_plain.1,fun{v}=>v.cb_plain.2.1,fun{vs}=>(V.cas_plain vs).1,fun{vs}=>(V.cas_plain vs).2.1,fun{vs}=>(V.cbs_plain vs).1,fun{vs}=>(V.cbs_plain vs).2.1,fun{ns}=>(nB ns).1,fun{ns}=>(nB ns).2.1,fun{v}=>?_,fun{v}=>?_,fun{v}=>v.ca_len,fun{v}=>v.cb_len,fun{v cs} h=>?_,fun{v cs} h=>?_⟩
 ·exact bC (by rw[V.ca_len];omega)
 ·exact bC (by rw[V.cb_len];omega)
 ·exact ke (by rw[V.ca_len,h])
 ·exact ke (by rw[V.cb_len,h])
end Go.PM
namespace Go.PM
variable {cf:au} {st:St} {mk:PV→St→Fr×St} {A:Fr×St→Prop} {s:Nat}
theorem aT:(∀ {i:Nat},((i:Int)+1)=((i+1:Nat):Int))∧(∀ {i j:Nat},((i:Int)+(j:Int))=((i+j:Nat):Int))∧(∀ {i j:Nat},((i:Int)<(j:Int))=(i<j))∧(∀ {i j:Nat},((i:Int)≤(j:Int))=(i≤j))∧(∀ {i j:Nat},((i:Int)=(j:Int))=(i=j)):=by
 exact⟨by intros;simp,by intros;simp,by intros;simp,by intros;simp,by intros;apply propext;omega⟩
theorem tm{c:List PV}(h:st.objs s=some c):bU st s c=st:=by
 unfold bU
 congr 1
 funext k
 split
 ·rename_i e;rw[e,h]
 ·rfl
theorem eJ(t:List UInt8)(i:Int):b8 [S t,I i]:=bq (cD _) (bq (aQ _ _) dK)
theorem wn(t:List UInt8)(i:Int):oG [S t,I i]:=gH (oq _) (gH (dn _ _) nh)
theorem fi(t:List UInt8)(i:Int)(b:Bool):b8 [S t,I i,.bool b]:=bq (cD _) (bq (aQ _ _) (bq (rx _) dK))
theorem zB(t:List UInt8)(i:Int)(b:Bool):oG [S t,I i,.bool b]:=gH (oq _) (gH (dn _ _) (gH (bD _) nh))
theorem Lq(K:gT cf){t:List UInt8}{i:Nat}(hs:st.objs s=some [S t,I i]):ar cf 218 [.ptr s 0] [] st=some (U (cI t i),st):=by
 have:ar cf 218 [.ptr s 0] [] st=some (U (cI t i),bU st s [S t,I i]):=by
  refine xG K (F:=F218) (t:=2) rfl rfl rfl (lb rfl) (lb rfl) (by simp) (dn _ _) hs (eJ t i) (wn t i) 1 ?_
  unfold F218 qr qd qm qc qb ql qf qo
  simp only[↓pa,pb,aj,aT,↓reduceIte,reduceEqDiff,reduceAdd,reduceCtorEq]
  refine ab (fun h=>?_) (fun h=>?_)
  ·simp (disch:=omega)only[↓pa,pb,aj,↓reduceIte,reduceEqDiff,reduceAdd,reduceCtorEq,h]
  ·simp only[↓pa,pb,↓reduceIte,h]
   rw[rO (by omega)]
 rw[this,tm hs]
theorem pD(K:gT cf){t:List UInt8}{i:Nat}(hs:st.objs s=some [S t,I i]):cT (ar cf 218 [.ptr s 0] [] st) mk A↔A (mk (U (cI t i)) st):=by rw[Lq K hs,fj]
theorem GR{t x:List UInt8}{i:Nat}(hi:i≤t.length)(h:t.length-i<x.length):tk t i x=false:=by
 simp only[tk,decide_eq_false_iff_not]
 intro e
 have:=aC List.length e
 rw[bi,cV]at this
 omega
theorem Lx(K:gT cf)(a x:List UInt8):ar cf 248 [S a,S x] [] st=some (.bool (decide (a.take x.length=x)),st):=by
 refine cB K (F:=F248) (t:=4) rfl rfl rfl (lb rfl) (by simp[cD]) (bD _) 1 ?_
 unfold F248 qr qm qc qb qy qo
 simp only[↓pa,pb,aT,↓reduceIte,reduceEqDiff,reduceCtorEq]
 refine ab (fun h=>?_) (fun h=>?_)
 ·simp (disch:=omega)only[↓pa,pb,↓reduceIte,reduceEqDiff,reduceCtorEq,h]
 ·simp only[↓pa,pb,↓reduceIte,reduceEqDiff,h]
  have:¬a.take x.length=x:=fun e=>by
   have:=aC List.length e
   rw[bi]at this
   omega
  simp only[this,decide_false]
theorem I9(K:gT cf)(a x:List UInt8):ar cf 241 [S a,S x] [] st=some (.bool (decide (a.take x.length=x)),st):=by
 refine cB K (F:=F241) (t:=4) rfl rfl rfl (lb rfl) (by simp[cD]) (bD _) 1 ?_
 unfold F241 qr qm qc qu
 simp only[↓pa,pb,↓reduceIte,reduceEqDiff,reduceCtorEq,Lx K]
theorem Bs(K:gT cf)(a x:List UInt8):ar cf 231 [S a,S x] [] st=some (.bool (decide (a.take x.length=x)),st):=by
 refine cB K (F:=F231) (t:=4) rfl rfl rfl (lb rfl) (by simp[cD]) (bD _) 1 ?_
 unfold F231 qr qm qc qb qy qo
 simp only[↓pa,pb,aT,↓reduceIte,reduceEqDiff,reduceCtorEq]
 refine ab (fun h=>?_) (fun h=>?_)
 ·simp (disch:=omega)only[↓pa,pb,↓reduceIte,reduceEqDiff,reduceCtorEq,h]
 ·simp only[↓pa,pb,↓reduceIte,reduceEqDiff,h]
  have:¬a.take x.length=x:=fun e=>by
   have:=aC List.length e
   rw[bi]at this
   omega
  simp only[this,decide_false]
theorem zO{t x:List UInt8}{i:Nat}:decide ((t.drop i).take x.length=x)=tk t i x:=rfl
theorem LF(K:gT cf){t x:List UInt8}{i:Nat}(hs:st.objs s=some [S t,I i])(hi:i≤t.length)(hl:t.length≤2000000)(hx:x.length≤2000000)(h:tk t i x=true):ar cf 226 [.ptr s 0,S x] [] st=some (.bool true,bU st s [S t,I (i+x.length:Nat)]):=by
 refine xG K (F:=F226) (t:=4) rfl rfl rfl (lb rfl) (lb rfl) (by simp[cD]) (bD _) hs (eJ t i) (wn t _) 1 ?_
 unfold F226 qr qd qm qc qb ql qf qu qs qo
 simp (disch:=omega)only[↓pa,pb,aj,aT,↓reduceIte,reduceEqDiff,reduceAdd,reduceLeDiff,reduceCtorEq,I9 K,zO,h]
theorem LG(K:gT cf){t x:List UInt8}{i:Nat}(hs:st.objs s=some [S t,I i])(hi:i≤t.length)(hl:t.length≤2000000)(h:¬tk t i x=true):ar cf 226 [.ptr s 0,S x] [] st=some (.bool false,st):=by
 have:ar cf 226 [.ptr s 0,S x] [] st=some (.bool false,bU st s [S t,I i]):=by
  refine xG K (F:=F226) (t:=4) rfl rfl rfl (lb rfl) (lb rfl) (by simp[cD]) (bD _) hs (eJ t i) (wn t _) 1 ?_
  unfold F226 qr qd qm qc qb ql qf qu qs qo
  simp (disch:=omega)only[↓pa,pb,aj,↓reduceIte,reduceEqDiff,reduceAdd,reduceCtorEq,I9 K,zO,h]
 rw[this,tm hs]
theorem tu(K:gT cf){t x:List UInt8}{i:Nat}(hs:st.objs s=some [S t,I i])(hi:i≤t.length)(hl:t.length≤2000000)(hx:x.length≤2000000):
  cT (ar cf 226 [.ptr s 0,S x] [] st) mk A↔jD (tk t i x=true) (dC A (mk (.bool true) (bU st s [S t,I (i+x.length:Nat)]))) (dC A (mk (.bool false) st)):=by
 by_cases h:tk t i x=true
 ·rw[LF K hs hi hl hx h,fj];simp only[h,dC,jD];simp
 ·rw[LG K hs hi hl h,fj];simp only[dC,jD,h];simp
theorem Iq(K:gT cf){t x:List UInt8}{i:Nat}(hs:st.objs s=some [S t,I i,.bool false])(hi:i≤t.length)(hl:t.length≤2000000)(hx:x.length≤2000000)(h:tk t i x=true):ar cf 210 [.ptr s 0,S x] [] st=some (.bool true,bU st s [S t,I (i+x.length:Nat),.bool false]):=by
 refine xG K (F:=F210) (t:=4) rfl rfl rfl (lb rfl) (lb rfl) (by simp[cD]) (bD _) hs (fi t i _) (zB t _ _) 1 ?_
 unfold F210 qr qd qm qc qb ql qf qy qs qo
 simp (disch:=omega)only[↓pa,pb,aj,aT,↓reduceIte,reduceEqDiff,reduceAdd,reduceLeDiff,reduceCtorEq,Bs K,zO,h]
theorem Bn(K:gT cf){t x:List UInt8}{i:Nat}{b:Bool}(hs:st.objs s=some [S t,I i,.bool b])(hi:i≤t.length)(hl:t.length≤2000000)(h:¬ (b=false∧tk t i x=true)):ar cf 210 [.ptr s 0,S x] [] st=some (.bool false,st):=by
 have:ar cf 210 [.ptr s 0,S x] [] st=some (.bool false,bU st s [S t,I i,.bool b]):=by
  refine xG K (F:=F210) (t:=4) rfl rfl rfl (lb rfl) (lb rfl) (by simp[cD]) (bD _) hs (fi t i _) (zB t _ _) 1 ?_
  unfold F210 qr qd qm qc qb ql qf qy qs qo
  cases b with
  |true=>simp only[↓pa,pb,aj,↓reduceIte,reduceEqDiff,reduceAdd,reduceCtorEq]
  |false=>
   have h':¬tk t i x=true:=fun k=>h ⟨rfl,k⟩
   simp (disch:=omega)only[↓pa,pb,aj,↓reduceIte,reduceEqDiff,reduceAdd,reduceCtorEq,Bs K,zO,h']
 rw[this,tm hs]
theorem nY(K:gT cf){t x:List UInt8}{i:Nat}(hs:st.objs s=some [S t,I i,.bool false])(hi:i≤t.length)(hl:t.length≤2000000)(hx:x.length≤2000000):
  cT (ar cf 210 [.ptr s 0,S x] [] st) mk A↔jD (tk t i x=true) (dC A (mk (.bool true) (bU st s [S t,I (i+x.length:Nat),.bool false]))) (dC A (mk (.bool false) st)):=by
 by_cases h:tk t i x=true
 ·rw[Iq K hs hi hl hx h,fj];simp only[h,dC,jD];simp
 ·rw[Bn K hs hi hl (by simp[h]),fj];simp only[dC,jD,h];simp
theorem kr(K:gT cf){t x:List UInt8}{i:Nat}(hs:st.objs s=some [S t,I i,.bool true])(hi:i≤t.length)(hl:t.length≤2000000):
  cT (ar cf 210 [.ptr s 0,S x] [] st) mk A↔A (mk (.bool false) st):=by
 rw[Bn K hs hi hl (by simp),fj]
theorem ti{t:List UInt8}{i:Nat}{c:UInt8}(hc:c≠0):tk t i [c]=decide (cI t i=(c.toNat:Int)):=by
 unfold tk cI
 rw[Bool.eq_iff_iff]
 simp only[decide_eq_true_eq,ao,aV]
 by_cases hi:i<t.length
 ·have e:(t.drop i).take (0+1)=[t[i]]:=by rw[aK hi];rfl
  have g:t.getD i 0=t[i]:=by simp[hi]
  rw[e,g]
  constructor
  ·intro h
   rw[List.singleton_inj.1 h]
  ·intro h
   rw[UInt8.toNat_inj.1 (Int.ofNat_inj.1 h)]
 ·rw[gf (by omega)]
  simp[cU (show t.length≤i by omega)]
  intro h
  apply hc
  apply UInt8.toNat_inj.1
  simp;omega
end Go.PM
namespace Go.PM
open Go.Lib
variable {cf:au} {st:St} {mk:PV→St→Fr×St} {A:Fr×St→Prop} {s:Nat}
structure bH (cf:au):Prop where
 tab:gT cf
 parse:∀ l:List UInt8,l.length≤2000000→cf 239 [S l,I 10,I 64] [] []=some (match parseIntB 64 l with
  | .ok n=> .tup [I n,.nili]
  | .range=> .tup [I (intSat 64 l),.err]
  |_=> .tup [I 0,.err],[],[])
 fmt:∀ n:Int,-9223372036854775808≤n→n≤9223372036854775807→cf 135 [I n,I 10] [] []=some (S (itoa n),[],[])
theorem Ja(K:bH cf){n:Int}(h1: -9223372036854775808≤n)(h2:n≤9223372036854775807):ar cf 135 [I n,I 10] [] st=some (S (itoa n),st):=
 oV (by simp[aQ]) (oq _) (K.fmt n h1 h2)
theorem zr(K:bH cf){l:List UInt8}(hl:l.length≤2000000){n:Int}(h:parseIntB 64 l= .ok n):ar cf 239 [S l,I 10,I 64] [] st=some (.tup [I n,.nili],st):=
 oV (by simp[aQ,cD]) (wo (gH (dn _ _) (gH GE nh))) (by rw[K.parse l hl,h])
theorem zt(K:bH cf){l:List UInt8}(hl:l.length≤2000000)(h:∀ n,parseIntB 64 l≠ .ok n):∃ n,ar cf 239 [S l,I 10,I 64] [] st=some (.tup [I n,.err],st):=by
 cases e:parseIntB 64 l with
 |ok n=>exact absurd e (h n)
 |range=>exact⟨intSat 64 l,oV (by simp[aQ,cD]) (wo (gH (dn _ _) (gH Bw nh))) (by rw[K.parse l hl,e])⟩
 |_=>exact⟨0,oV (by simp[aQ,cD]) (wo (gH (dn _ _) (gH Bw nh))) (by rw[K.parse l hl,e])⟩
def lh{α:Type}(t:List UInt8)(enc:α→PV)(o:Option (α×Nat))(dm:PV→Prop)(r:PV)(c:List PV):Prop:=match o with
 |some (a,j)=>r= .tup [enc a,.bool true]∧c=[S t,I j]∧j≤t.length
 |none=>∃ p,∃ j:Nat,dm p∧r= .tup [p,.bool false]∧c=[S t,I j]∧j≤t.length
def mP{α:Type}(t:List UInt8)(enc:α→PV)(o:Option (α×Nat))(dm:PV→Prop)(r:PV)(c:List PV):Prop:=match o with
 |some (a,j)=>r=enc a∧c=[S t,I j,.bool false]∧j≤t.length
 |none=>∃ j:Nat,dm r∧c=[S t,I j,.bool true]∧j≤t.length
theorem fV{α:Type}{t:List UInt8}{enc:α→PV}{q:Option (α×Nat)}{dm:PV→Prop}{o:Option (PV×St)}(h:∃ r c',lh t enc q dm r c'∧∃ fl,o=some (r,cQ (bU st s c') fl))
  (k1:∀ a j fl,q=some (a,j)→j≤t.length→A (mk (.tup [enc a,.bool true]) (cQ (bU st s [S t,I j]) fl)))
  (k2:∀ p j fl,q=none→dm p→j≤t.length→A (mk (.tup [p,.bool false]) (cQ (bU st s [S t,I (j:Nat)]) fl))):cT o mk A:=by
 obtain⟨r,c',ho,fl,rfl⟩:=h
 rw[fj]
 match q,ho,k1,k2 with
 |some (a,j),⟨e1,e2,e3⟩,k1,_=>rw[e1,e2];exact k1 a j fl rfl e3
 |none,⟨p,j,hd,e1,e2,e3⟩,_,k2=>rw[e1,e2];exact k2 p j fl rfl hd e3
theorem gI{α:Type}{t:List UInt8}{enc:α→PV}{q:Option (α×Nat)}{dm:PV→Prop}{o:Option (PV×St)}(h:∃ r c',mP t enc q dm r c'∧∃ fl,o=some (r,cQ (bU st s c') fl))
  (k1:∀ a j fl,q=some (a,j)→j≤t.length→A (mk (enc a) (cQ (bU st s [S t,I j,.bool false]) fl)))
  (k2:∀ p j fl,q=none→dm p→j≤t.length→A (mk p (cQ (bU st s [S t,I (j:Nat),.bool true]) fl))):cT o mk A:=by
 obtain⟨r,c',ho,fl,rfl⟩:=h
 rw[fj]
 match q,ho,k1,k2 with
 |some (a,j),⟨e1,e2,e3⟩,k1,_=>rw[e1,e2];exact k1 a j fl rfl e3
 |none,⟨j,hd,e2,e3⟩,_,k2=>rw[e2];exact k2 r j fl rfl hd e3
theorem be{α:Type}{t:List UInt8}{enc:α→PV}{p:PV}{j:Nat}{dm:PV→Prop}{r:PV}{c:List PV}{q:Option (α×Nat)}(hq:q=none)(hd:dm p)(h1:r= .tup [p,.bool false])(h2:c=[S t,I j])(h3:j≤t.length):lh t enc q dm r c:=by
 subst hq;exact⟨p,j,hd,h1,h2,h3⟩
theorem dq{α:Type}{t:List UInt8}{enc:α→PV}{a:α}{j:Nat}{dm:PV→Prop}{r:PV}{c:List PV}{q:Option (α×Nat)}(hq:q=some (a,j))(h1:r= .tup [enc a,.bool true])(h2:c=[S t,I j])(h3:j≤t.length):lh t enc q dm r c:=by
 subst hq;exact⟨h1,h2,h3⟩
theorem dz{α:Type}{t:List UInt8}{enc:α→PV}{a:α}{j:Nat}{dm:PV→Prop}{r:PV}{c:List PV}{q:Option (α×Nat)}(hq:q=some (a,j))(h1:r=enc a)(h2:c=[S t,I j,.bool false])(h3:j≤t.length):mP t enc q dm r c:=by
 subst hq;exact⟨h1,h2,h3⟩
theorem aN{α:Type}{t:List UInt8}{enc:α→PV}{j:Nat}{dm:PV→Prop}{r:PV}{c:List PV}{q:Option (α×Nat)}(hq:q=none)(hd:dm r)(h2:c=[S t,I j,.bool true])(h3:j≤t.length):mP t enc q dm r c:=by
 subst hq;exact⟨j,hd,h2,h3⟩
def lB(p:PV):Prop:=∃ n,p=I n
theorem r9{l:List UInt8}{n:Int}(h:parseIntB 64 l= .ok n):fE l=if itoa n=l then some n else none:=by simp[fE,h]
theorem vH{l:List UInt8}(h:∀ n,parseIntB 64 l≠ .ok n):fE l=none:=by
 unfold fE
 split
 ·rename_i n e;exact absurd e (h n)
 ·rfl
theorem uv{t:List UInt8}{i j:Nat}(hj:j≤t.length):(dd t i j).length=j-i:=by simp[dd,hj]
theorem iW{t:List UInt8}{i j:Nat}:(t.take j).drop i=dd t i j:=rfl
theorem J5(K:bH cf){t:List UInt8}{i:Nat}(hs:st.objs s=some [S t,I i])(hi:i≤t.length)(hl:t.length≤2000000):
  ∃ r c',lh t I (eC t i) lB r c'∧∃ fl,ar cf 221 [.ptr s 0] [] st=some (r,cQ (bU st s c') fl):=by
 refine fx K.tab (F:=F221) rfl rfl rfl (lb rfl) (lb rfl) (by simp) hs (eJ t i) (t.length+1) ?_
 unfold F221 qr qd qm qi qc qb qk ql qf qt qx qy qs qo
 simp only[↓pa,pb,aj,↓reduceIte,reduceAdd,reduceCtorEq]
 refine(pD K.tab (t:=t) (i:=i) (by simp only[pb])).2 ?_
 simp only[↓pa,pb,↓reduceIte]
 have hJ:eC t i=(fE (dd t i (skip d8 t (if cI t i=45 then i+1 else i)))).map fun n=>(n,skip d8 t (if cI t i=45 then i+1 else i)):=rfl
 have hle:skip d8 t (if cI t i=45 then i+1 else i)≤t.length:=by
  split
  ·rename_i h
   exact mX (by have:=cO (show cI t i≠0 by rw[h];decide);omega)
  ·exact mX hi
 have hge:i≤skip d8 t (if cI t i=45 then i+1 else i):=by
  have:=kd d8 t (if cI t i=45 then i+1 else i)
  split at this<;>split<;>omega
 revert hJ hle hge
 generalize hj0:(if cI t i=45 then i+1 else i)=j0
 generalize hjJ:skip d8 t j0=J
 intro hJ hle hge
 refine ab (fun h=>?_) (fun h=>?_)
 all_goals
  simp (disch:=omega)only[↓pa,pb,aj,aT,↓reduceIte,reduceEqDiff,reduceAdd,reduceLeDiff,reduceCtorEq,h]
  refine aX (fun k fr st=>∃ j:Nat,k=t.length-j∧j≤t.length∧fr 0= .ptr 0 0∧fr 4=I i∧st.objs 0=some [S t,I j]∧skip d8 t j=J) (t.length-j0) (by omega) ⟨j0,rfl,?_,by simp only[↓pa,↓reduceIte,reduceCtorEq],by simp only[↓pa,↓reduceIte,reduceEqDiff],?_,hjJ⟩ ?_
  ·have:=kd d8 t j0
   omega
  ·subst hj0;simp only[pb,↓reduceIte,h]
  rintro k fr st ⟨j,rfl,hj,f0,f4,o0,hsk⟩
  simp only[↓pa,pb,aj,aT,↓reduceIte,reduceEqDiff,reduceAdd,reduceCtorEq,f0,o0]
  refine ab (fun h1=>?_) (fun h1=>?_)
  ·simp (disch:=omega)only[↓pa,pb,aj,↓reduceIte,reduceEqDiff,reduceAdd,reduceCtorEq,f0,o0,om K.tab,h1]
   refine ab (fun h2=>?_) (fun h2=>?_)
   ·simp (disch:=omega)only[↓pa,pb,aj,aT,↓reduceIte,reduceEqDiff,reduceAdd,reduceLeDiff,reduceCtorEq,f0,f4,o0,h2]
    refine⟨t.length- (j+1),by omega,j+1,rfl,by omega,rfl,?_⟩
    rw[←jp h1 h2,hsk]
   ·have hjj:J=j:=by rw[←hsk];exact mW fun _=>by simpa using h2
    subst hjj
    simp (disch:=omega)only[↓pa,pb,aj,↓reduceIte,reduceEqDiff,reduceAdd,reduceCtorEq,f0,f4,o0,h2,iW]
    have hsl:(dd t i J).length≤2000000:=by rw[uv hle];omega
    by_cases hp:∃ n,parseIntB 64 (dd t i J)= .ok n
    ·obtain⟨n,hp⟩:=hp
     have hb:=parseIntB_bounds hp
     have hb1: -9223372036854775808≤n:=hb.1
     have hb2:n≤9223372036854775807:=by have:=hb.2;omega
     simp only[↓pa,pb,ah,af,↓reduceIte,reduceEqDiff,dD,zr K hsl hp,Ja K hb1 hb2]
     rw[r9 hp]at hJ
     refine ab (fun he=>?_) (fun he=>?_)
     ·simp only[↓pa,pb,av,↓reduceIte,reduceEqDiff,o0]
      rw[ai (by simpa using he)]at hJ
      exact dq hJ rfl rfl hle
     ·simp only[↓pa,pb,av,↓reduceIte,reduceEqDiff,o0]
      rw[ad (by simpa using he)]at hJ
      exact be hJ ⟨_,rfl⟩ rfl rfl hle
    ·have hp:∀ n,parseIntB 64 (dd t i J)≠ .ok n:=fun n h=>hp ⟨n,h⟩
     obtain⟨n,hn⟩:=zt (st:=st) K hsl hp
     simp only[↓pa,pb,av,ah,af,↓reduceIte,reduceEqDiff,o0,hn]
     rw[vH hp]at hJ
     exact be hJ ⟨_,rfl⟩ rfl rfl hle
  ·have hjj:J=j:=by rw[←hsk];exact mW fun h=>absurd h h1
   subst hjj
   simp (disch:=omega)only[↓pa,pb,aj,↓reduceIte,reduceEqDiff,reduceAdd,reduceCtorEq,f0,f4,o0,h1,iW]
   have hsl:(dd t i J).length≤2000000:=by rw[uv hle];omega
   by_cases hp:∃ n,parseIntB 64 (dd t i J)= .ok n
   ·obtain⟨n,hp⟩:=hp
    have hb:=parseIntB_bounds hp
    have hb1: -9223372036854775808≤n:=hb.1
    have hb2:n≤9223372036854775807:=by have:=hb.2;omega
    simp only[↓pa,pb,ah,af,↓reduceIte,reduceEqDiff,dD,zr K hsl hp,Ja K hb1 hb2]
    rw[r9 hp]at hJ
    refine ab (fun he=>?_) (fun he=>?_)
    ·simp only[↓pa,pb,av,↓reduceIte,reduceEqDiff,o0]
     rw[ai (by simpa using he)]at hJ
     exact dq hJ rfl rfl hle
    ·simp only[↓pa,pb,av,↓reduceIte,reduceEqDiff,o0]
     rw[ad (by simpa using he)]at hJ
     exact be hJ ⟨_,rfl⟩ rfl rfl hle
   ·have hp:∀ n,parseIntB 64 (dd t i J)≠ .ok n:=fun n h=>hp ⟨n,h⟩
    obtain⟨n,hn⟩:=zt (st:=st) K hsl hp
    simp only[↓pa,pb,av,ah,af,↓reduceIte,reduceEqDiff,o0,hn]
    rw[vH hp]at hJ
    exact be hJ ⟨_,rfl⟩ rfl rfl hle
end Go.PM
namespace Go.PM
open Go.Lib
def j7(a:Nat)(l:List UInt8):Nat:=l.foldl (fun a c=>a*10+(c.toNat-48)) a
theorem vz(a:Nat):j7 a []=a:=by unfold j7;rw[List.foldl_nil]
theorem td(a:Nat)(c:UInt8)(l:List UInt8):j7 a (c::l)=j7 (a*10+(c.toNat-48)) l:=by unfold j7;rw[List.foldl_cons]
theorem yu(a:Nat)(l:List UInt8)(c:UInt8):j7 a (l++[c])=j7 a l*10+(c.toNat-48):=by simp[j7]
theorem Jk(l:List UInt8):∀ a,a≤j7 a l:=by
 induction l with
 |nil=>exact fun a=>aD _
 |cons c l ih=>intro a;rw[td];have:=ih (a*10+(c.toNat-48));omega
def tU(c:UInt8):Bool:=d8 (c.toNat:Int)
theorem pG{n:Int}:d8 n=true↔48≤n∧n≤57:=by simp[d8]
theorem oc{c:UInt8}:tU c=true↔48≤c.toNat∧c.toNat≤57:=by simp[tU,d8];omega
theorem ri{d:Nat}(h:d<10):(UInt8.ofNat (48+d)).toNat=48+d:=by
 rw[UInt8.toNat_ofNat_of_lt' (by simp[UInt8.size];omega)]
theorem lW(u:Nat):decDigits u≠ []∧(∀ c∈decDigits u,tU c=true)∧j7 0 (decDigits u)=u:=by
 induction u using Nat.strongRecOn with
 |_ u ih=>
  by_cases h:u<10
  ·rw[decDigits,dif_pos h]
   refine⟨by simp,?_,?_⟩
   ·intro c hc
    rw[dj.1 hc,oc,ri h]
    omega
   ·rw[td,vz,ri h]
    omega
  ·obtain⟨h1,h2,h3⟩:=ih (u / 10) (by omega)
   rw[decDigits,dif_neg h]
   refine⟨by simp,?_,?_⟩
   ·intro c hc
    rcases ax.1 hc with hc|hc
    ·exact h2 c hc
    ·rw[dj.1 hc,oc,ri (by omega)]
     omega
   ·rw[yu,h3,ri (by omega)]
    omega
theorem pc(M:Nat)(hM:M≤18446744073709551615):∀ (l:List UInt8) (a:Nat),(∀ c∈l,tU c=true)→j7 a l≤M→parseUintM M a l= .ok (j7 a l)
 | [],a,_,_=>rfl
 |c::l,a,h,hv=>by
  have hc:=oc.1 (h c (by simp))
  rw[td]at hv
  have hge:=Jk l (a*10+(c.toNat-48))
  rw[parseUintM,ai hc,ad (by omega),ad (by omega),pc M hM l _ (fun d hd=>h d (by simp[hd])) hv]
  rfl
theorem DY{n:Int}(h1: -9223372036854775808≤n)(h2:n≤9223372036854775807):parseIntB 64 (itoa n)= .ok n:=by
 have key:∀ u:Nat,u≤18446744073709551615→parseUintB 64 (decDigits u)= .ok u:=fun u hu=>by
  obtain⟨d1,d2,d3⟩:=lW u
  rw[parseUintB,ad d1]
  have:=pc (2 ^ 64-1) (by decide) (decDigits u) 0 d2 (by rw[d3];simpa using hu)
  rw[d3]at this
  exact this
 unfold itoa
 split
 ·rename_i hn
  have hu:=key n.natAbs (by omega)
  unfold parseIntB
  have e:(45:UInt8).toNat=45:=rfl
  simp only[e,or_true,if_true,hu,not_true,false_and,if_false,true_and]
  rw[ad (by simp;omega)]
  congr 1;omega
 ·rename_i hn
  have hu:=key n.toNat (by omega)
  obtain⟨d1,d2,d3⟩:=lW n.toNat
  match hd:decDigits n.toNat,d1 with
  |c::r,_=>
   have hc:=oc.1 (d2 c (by simp[hd]))
   rw[hd]at hu
   unfold parseIntB
   have e1:¬c.toNat=43:=by omega
   have e2:¬c.toNat=45:=by omega
   simp only[e1,e2,or_self,if_false,not_false_eq_true,true_and,false_and]
   rw[hu]
   simp only
   rw[ad (by simp;omega),show((n.toNat:Nat):Int)=n by omega]
theorem pg{n:Int}(h1: -9223372036854775808≤n)(h2:n≤9223372036854775807):fE (itoa n)=some n:=by
 rw[r9 (DY h1 h2),ai rfl]
theorem ku{l:List UInt8}{n:Int}(h:fE l=some n):itoa n=l∧ -9223372036854775808≤n∧n≤9223372036854775807:=by
 by_cases hp:∃ m,parseIntB 64 l= .ok m
 ·obtain⟨m,hp⟩:=hp
  rw[r9 hp]at h
  split at h
  ·rename_i e
   cases h
   have hb:=parseIntB_bounds hp
   exact⟨e,hb.1,by have:=hb.2;omega⟩
  ·cases h
 ·rw[vH fun m hm=>hp ⟨m,hm⟩]at h
  cases h
theorem w5(k:Nat):∀ u,u<10 ^ (k+1)→nDigits u≤k+1:=by
 induction k with
 |zero=>intro u h;rw[nDigits_small (by simpa using h)];omega
 |succ k ih=>
  intro u h
  by_cases hu:u<10
  ·rw[nDigits_small hu];omega
  ·rw[nDigits_big hu]
   have:=ih (u / 10) (by rw[Nat.pow_succ]at h;omega)
   omega
theorem su{n:Int}(h1: -9223372036854775808≤n)(h2:n≤9223372036854775807):(itoa n).length≤20:=by
 unfold itoa
 split
 ·rw[ao,decDigits_length]
  have:=w5 18 n.natAbs (by simp;omega)
  omega
 ·rw[decDigits_length]
  have:=w5 18 n.toNat (by simp;omega)
  omega
theorem uD(n:Int):itoa n≠ []:=by
 unfold itoa
 split
 ·simp
 ·exact(lW _).1
theorem yV{n:Int}{c:UInt8}{r:List UInt8}(h:itoa n=c::r):(n<0∧c=45∧r=decDigits n.natAbs)∨(0≤n∧tU c=true):=by
 unfold itoa at h
 split at h
 ·rename_i hn
  cases h
  exact .inl ⟨hn,rfl,rfl⟩
 ·rename_i hn
  exact .inr ⟨by omega,(lW n.toNat).2.1 c (by rw[h];simp)⟩
theorem ya{n:Int}(h1:n<0)(h2: -10<n):itoa n=45::itoa (-n):=by
 unfold itoa
 rw[ai h1,ad (by omega)]
 congr 1
 have:n.natAbs=(-n).toNat:=by omega
 rw[this]
theorem AV{n:Int}(h:n≤ -10):itoa n=itoa (n.tdiv 10)++[UInt8.ofNat (48-n.tmod 10).toNat]:=by
 obtain⟨u,rfl⟩:∃ u:Nat,n= -(u:Int):=⟨n.natAbs,by omega⟩
 have e1:(-(u:Int)).tdiv 10= -((u / 10:Nat):Int):=by rw[Int.neg_tdiv];rfl
 have e2:(-(u:Int)).tmod 10= -((u % 10:Nat):Int):=by rw[Int.neg_tmod];rfl
 rw[e1,e2]
 unfold itoa
 rw[ai (by omega),ai (by omega),Int.natAbs_neg,Int.natAbs_neg,Int.natAbs_natCast,Int.natAbs_natCast]
 conv=>lhs;rw[decDigits,dif_neg (by omega)]
 rw[aM]
 have:(48- -((u % 10:Nat):Int)).toNat=48+u % 10:=by omega
 rw[this]
theorem D8{n:Int}(h1:0≤n)(h2:n<10):itoa n=[UInt8.ofNat (48+n).toNat]:=by
 unfold itoa
 rw[ad (by omega),decDigits,dif_pos (by omega)]
 congr 2
 omega
theorem HS{n:Int}(h:10≤n):itoa n=itoa (n.tdiv 10)++[UInt8.ofNat (48+n.tmod 10).toNat]:=by
 obtain⟨u,rfl⟩:∃ u:Nat,n=(u:Int):=⟨n.toNat,by omega⟩
 have e1:((u:Int)).tdiv 10=((u / 10:Nat):Int):=rfl
 have e2:((u:Int)).tmod 10=((u % 10:Nat):Int):=rfl
 rw[e1,e2]
 unfold itoa
 rw[ad (by omega),ad (by omega),gN,gN]
 conv=>lhs;rw[decDigits,dif_neg (by omega)]
 congr 3
theorem vF{t:List UInt8}{i j:Nat}(h:i<j)(hj:j≤t.length):∃ c:UInt8,cI t i=(c.toNat:Int)∧dd t i j=c::dd t (i+1) j:=by
 have hi:i<t.length:=by omega
 refine⟨t[i],nL t i hi,?_⟩
 unfold dd
 rw[aK (by rw[bi];omega),List.getElem_take]
theorem nX(t:List UInt8)(i:Nat):dd t i i=[]:=by
 unfold dd
 exact gf (by rw[bi];omega)
theorem G4{t:List UInt8}{i j:Nat}(h:i≤j)(hj:j<t.length):dd t i (j+1)=dd t i j++[t[j]]:=by
 unfold dd
 rw[aL hj,List.drop_append_of_le_length (by rw[bi];omega)]
theorem Fm{t:List UInt8}{i:Nat}(hi:i≤t.length)(h:¬d8 (cI t i)=true):qW t i=none:=by
 unfold qW
 split
 ·rename_i n j hp
  rw[ad]
  intro hn
  have hle:=CD hi hp
  unfold eC at hp
  simp only[ae,bE]at hp
  obtain⟨m,hm,rfl,rfl⟩:=hp
  obtain⟨e,-,-⟩:=ku hm
  revert e hle
  generalize hJ:skip d8 t (if cI t i=45 then i+1 else i)=J
  intro hle e
  by_cases hlt:i<J
  ·obtain⟨c,hc,hs⟩:=vF hlt hle.2
   rw[hs]at e
   rcases yV e with⟨hneg,-,-⟩|⟨-,hd⟩
   ·omega
   ·exact h (by rw[hc];exact hd)
  ·have:J=i:=by omega
   rw[this,nX]at e
   exact uD m e
 ·rfl
theorem IV{x d:Int}:IntKind.i64.wrap (IntKind.i64.wrap (IntKind.i64.wrap x*10)+d)=IntKind.i64.wrap (x*10+d):=by
 simp only[IntKind.wrap_i64];omega
theorem LW{x:Int}:IntKind.i64.wrap (-(IntKind.i64.wrap x))=IntKind.i64.wrap (-x):=by
 simp only[IntKind.wrap_i64];omega
theorem rS(x:Int): -9223372036854775808≤IntKind.i64.wrap x∧IntKind.i64.wrap x≤9223372036854775807:=by
 simp only[IntKind.wrap_i64];omega
theorem pA{k:IntKind}{a b:Int}(h:b≠0):dv .quo (.int k a) (.int k b)=some (.int k (k.wrap (a.tdiv b))):=by simp[dv,eI,binOp,Op.intDiv,h,de,fX]
theorem kN{k:IntKind}{a b:Int}(h:b≠0):dv .rem (.int k a) (.int k b)=some (.int k (a.tmod b)):=by simp[dv,eI,binOp,Op.intDiv,h,de,fX]
theorem sN{x:Int}{t:ay}{st:St}:EJ (.list 1 [U x] t) st=some (S [UInt8.ofNat x.toNat],st):=rfl
theorem KI(n:Int):(0≤n→0≤n.tdiv 10∧n.tdiv 10*10≤n∧n<n.tdiv 10*10+10)∧(n≤0→n.tdiv 10≤0∧n≤n.tdiv 10*10∧n.tdiv 10*10-10<n)∧n=n.tdiv 10*10+n.tmod 10:=by
 have:=Int.mul_tdiv_add_tmod n 10
 rcases Int.le_total 0 n with h|h
 ·have h1:=Int.tmod_nonneg 10 h
  have h2:=Int.tmod_lt_of_pos n (show(0:Int)<10 by decide)
  have h3:=Int.tdiv_nonneg h (show(0:Int)≤10 by decide)
  omega
 ·obtain⟨u,rfl⟩:∃ u:Nat,n= -(u:Int):=⟨n.natAbs,by omega⟩
  have e1:(-(u:Int)).tdiv 10= -((u / 10:Nat):Int):=by rw[Int.neg_tdiv];rfl
  have e2:(-(u:Int)).tmod 10= -((u % 10:Nat):Int):=by rw[Int.neg_tmod];rfl
  rw[e1,e2]
  omega
end Go.PM
namespace Go.PM
open Go.Lib
variable {cf:au} {st:St} {mk:PV→St→Fr×St} {A:Fr×St→Prop} {s:Nat}
theorem Jc(K:bH cf):∀ (k:Nat) (n:Int),2*n.natAbs+(if n<0 then 1 else 0)<k→ -9223372036854775808≤n→n≤9223372036854775807→∀ st,ar cf 98 [I n] [] st=some (S (itoa n),st)
 |0,_,h,_,_=>by omega
 |k+1,n,hk,h1,h2=>by
  intro st
  have ih:=Jc K k
  refine cB K.tab (F:=F98) (t:=2) rfl rfl rfl (lb rfl) (by simp[aQ]) (oq _) 1 ?_
  unfold F98 qr qd qm qc qb qk qt qo
  obtain⟨q1,q2,q3⟩:=KI n
  simp only[↓pa,pb,↓reduceIte,reduceCtorEq]
  refine ab (fun h3=>?_) (fun h3=>?_)
  ·have ih1: -10<n→∀ st,ar cf 98 [I (-n)] [] st=some (S (itoa (-n)),st):=fun h=>ih (-n) (by rw[ai h3]at hk;rw[ad (by omega)];omega) (by omega) (by omega)
   have q2:=q2 (by omega)
   have ih2:n≤ -10→∀ st,ar cf 98 [I (n.tdiv 10)] [] st=some (S (itoa (n.tdiv 10)),st):=fun h=>ih (n.tdiv 10) (by rw[ai h3]at hk;split<;>omega) (by omega) (by omega)
   simp only[↓pa,pb,↓reduceIte,reduceCtorEq,h3]
   refine ab (fun h4=>?_) (fun h4=>?_)
   ·have e1:=su (n:= -n) (by omega) (by omega)
    have e2:([45]:List UInt8).length=1:=rfl
    simp (disch:=omega)only[↓pa,pb,↓reduceIte,reduceCtorEq,h4,ih1 h4]
    rw[ya h3 h4];rfl
   ·have hb:n≤ -10:=by omega
    have e1:=su (n:=n.tdiv 10) (by omega) (by omega)
    have e2:([UInt8.ofNat (48-n.tmod 10).toNat]:List UInt8).length=1:=rfl
    simp (disch:=omega)only[↓pa,↓bM,pb,aj,↓reduceIte,reduceEqDiff,reduceAdd,reduceLeDiff,reduceLT,reduceCtorEq,h4,pA (show(10:Int)≠0 by decide),kN (show(10:Int)≠0 by decide),ih2 hb,sN]
    rw[AV (n:=n) hb]
  ·simp only[↓pa,pb,↓reduceIte,reduceCtorEq,h3]
   refine ab (fun h4=>?_) (fun h4=>?_)
   ·simp (disch:=omega)only[↓pa,↓bM,pb,aj,↓reduceIte,reduceAdd,reduceLeDiff,reduceLT,reduceCtorEq,h4,sN]
    rw[D8 (n:=n) (by omega) h4]
   ·have q1:=q1 (by omega)
    have e1:=su (n:=n.tdiv 10) (by omega) (by omega)
    have e2:([UInt8.ofNat (48+n.tmod 10).toNat]:List UInt8).length=1:=rfl
    have ih3:=ih (n.tdiv 10) (by split at hk<;>split<;>omega) (by omega) (by omega)
    simp (disch:=omega)only[↓pa,↓bM,pb,aj,↓reduceIte,reduceEqDiff,reduceAdd,reduceLeDiff,reduceLT,reduceCtorEq,h4,pA (show(10:Int)≠0 by decide),kN (show(10:Int)≠0 by decide),ih3,sN]
    rw[HS (n:=n) (by omega)]
theorem xI(K:bH cf){n:Int}(h1: -9223372036854775808≤n)(h2:n≤9223372036854775807):ar cf 98 [I n] [] st=some (S (itoa n),st):=Jc K _ n (Nat.lt_succ_self _) h1 h2 st
theorem BB{t:List UInt8}{j0 j:Nat}(h0:j0≤j)(h:j<t.length)(hd:d8 (cI t j)=true):((j7 0 (dd t j0 (j+1)):Nat):Int)=(j7 0 (dd t j0 j):Nat) *10+(cI t j-48):=by
 have hc:=pG.1 hd
 rw[nL t j h]at hc ⊢
 rw[G4 h0 h,yu]
 omega
def dY(p:PV):Prop:=∃ cs:List PV,p= .agg cs∧cs.length=6∧aG cs=true∧aB cs=cs
theorem Ag{t:List UInt8}{i J:Nat}{a:Int}(hi:i≤J)(hJ:J≤t.length)(hj:i≠J→(cI t i=45→i+1≤J∧a=IntKind.i64.wrap (-(j7 0 (dd t (i+1) J):Nat)))∧(cI t i≠45→a=IntKind.i64.wrap (j7 0 (dd t i J):Nat))):
  ∀ n,fE (dd t i J)=some n→i≠J∧J-i≤20∧a=n:=by
 intro n hn
 obtain⟨e,r1,r2⟩:=ku hn
 have hne:i≠J:=fun h=>by
  rw[←h,nX]at e
  exact uD n e
 have hlen:=su r1 r2
 rw[e,uv hJ]at hlen
 refine⟨hne,hlen,?_⟩
 obtain⟨c,hc,hs⟩:=vF (show i<J by omega) hJ
 obtain⟨hA,hB⟩:=hj hne
 rcases yV (e.trans hs)with⟨hneg,rfl,hr⟩|⟨hpos,hd⟩
 ·obtain⟨-,ha⟩:=hA hc
  rw[ha,hr,(lW _).2.2,wrap_i64 (by omega) (by omega)]
  omega
 ·have hcc:=oc.1 hd
  rw[hB (by omega),←e]
  unfold itoa
  rw[ad (by omega),(lW _).2.2,wrap_i64 (by omega) (by omega)]
  omega
set_option maxHeartbeats 2000000 in
theorem It(K:bH cf){t:List UInt8}{i:Nat}{b:Bool}(hs:st.objs s=some [S t,I i,.bool b])(hi:i≤t.length)(hl:t.length≤2000000):
  ∃ r c',mP t I (if b then none else eC t i) lB r c'∧∃ fl,ar cf 213 [.ptr s 0] [] st=some (r,cQ (bU st s c') fl):=by
 refine fx K.tab (F:=F213) rfl rfl rfl (lb rfl) (lb rfl) (by simp) hs (fi t i b) (t.length+1) ?_
 unfold F213 qr qd qm qi qb qk ql qf qx qy qs qo qe
 by_cases h45:cI t i=45
 ·have hlt:=cO (show cI t i≠0 by rw[h45];decide)
  have hJ:eC t i=(fE (dd t i (skip d8 t (i+1)))).map fun n=>(n,skip d8 t (i+1)):=by rw[eC,ai h45]
  have hle:skip d8 t (i+1)≤t.length:=mX (by omega)
  have hge:i+1≤skip d8 t (i+1):=kd _ _ _
  revert hJ hle hge
  generalize hjJ:skip d8 t (i+1)=J
  intro hJ hle hge
  have hiJ:i<J:=by omega
  simp (disch:=omega)only[↓pa,pb,aj,aT,↓reduceIte,reduceEqDiff,reduceAdd,reduceLeDiff,reduceCtorEq,h45,hlt]
  refine aX (fun k fr st=>∃ j:Nat,k=t.length-j∧i+1≤j∧j≤t.length∧fr 0= .ptr 0 0∧fr 3=I i∧fr 4=I (IntKind.i64.wrap (j7 0 (dd t (i+1) j):Nat))∧st.objs 0=some [S t,I j,.bool b]∧skip d8 t j=J) (t.length- (i+1)) (by omega) ⟨i+1,rfl,by omega,by omega,by simp only[↓pa,↓reduceIte,reduceCtorEq],by simp only[↓pa,↓reduceIte,reduceEqDiff],by rw[nX,vz];simp (disch:=omega)only[↓pa,pb,↓reduceIte];rfl,by simp only[pb,↓reduceIte],hjJ⟩ ?_
  rintro k fr st ⟨j,rfl,hj0j,hj,f0,f3,f4,o0,hsk⟩
  simp (disch:=omega)only[↓pa,pb,aj,aT,↓reduceIte,reduceEqDiff,reduceAdd,reduceCtorEq,f0,o0]
  by_cases hd:j<t.length∧d8 (cI t j)=true
  ·obtain⟨h1,h2⟩:=hd
   have hd':=pG.1 h2
   simp (disch:=omega)only[↓pa,pb,aj,aT,↓reduceIte,reduceEqDiff,reduceAdd,reduceLeDiff,reduceCtorEq,f0,f3,f4,o0,lF K.tab,h1,h2]
   refine⟨t.length- (j+1),by omega,j+1,rfl,by omega,by omega,?_,rfl,?_⟩
   ·rw[IV,BB hj0j h1 h2]
   ·rw[←jp h1 h2,hsk]
  have hjj:J=j:=by
   rw[←hsk]
   exact mW fun h=>by
    cases hx:d8 (cI t j)
    ·rfl
    ·exact absurd ⟨h,hx⟩ hd
  subst hjj
  have hq:∀ n,fE (dd t i J)=some n→i≠J∧J-i≤20∧IntKind.i64.wrap (-(IntKind.i64.wrap (j7 0 (dd t (i+1) J):Nat)))=n:=Ag (by omega) hle fun _=>⟨fun _=>⟨by omega,LW⟩,fun h=>absurd h45 h⟩
  refine ab (fun h1=>?_) (fun h1=>?_)
  ·simp (disch:=omega)only[↓pa,pb,aj,↓reduceIte,reduceEqDiff,reduceAdd,reduceCtorEq,f0,o0,h1,lF K.tab]
   refine ab (fun h2=>?_) (fun h2=>?_)
   ·exact absurd ⟨h1,h2⟩ hd
   simp (disch:=omega)only[↓pa,↓dV,pb,aj,cS,aT,↓reduceIte,reduceEqDiff,reduceAdd,reduceCtorEq,f0,f3,f4,o0,h45,hiJ]
   have hne:¬i=J:=by omega
   have hno:∀ a,(∀ n,fE (dd t i J)=some n→i≠J∧J-i≤20∧a=n)→(J-i≤20→itoa a≠dd t i J)→eC t i=none:=fun a h1 h2=>by
    rw[hJ]
    cases hr:fE (dd t i J)with
    |none=>rfl
    |some n=>
     obtain⟨k1,k2,k3⟩:=h1 n hr
     exact absurd (by rw[k3];exact(ku hr).1) (h2 k2)
   simp (disch:=omega)only[↓pa,↓dV,pb,aj,cS,↓reduceIte,reduceEqDiff,reduceAdd,reduceCtorEq,f0,f3,o0,hne]
   refine ab (fun h20=>?_) (fun h20=>?_)
   ·have hnone:eC t i=none:=hno _ hq fun h=>by omega
    have hx:=h20
    simp (disch:=omega)only[↓pa,↓dV,pb,aj,cS,fS,av,ah,af,↓reduceIte,reduceEqDiff,reduceAdd,reduceLeDiff,reduceCtorEq,f0,o0,hx]
    refine aN (dm:=lB) ?_ ⟨_,rfl⟩ rfl hle
    rw[hnone]
    cases b<;>rfl
   ·have hr:=rS
    simp (disch:=omega)only[↓pa,↓dV,pb,aj,cS,fS,ah,af,↓reduceIte,reduceEqDiff,reduceAdd,dD,reduceCtorEq,f0,f3,o0,h20,xI K (hr _).1 (hr _).2,iW]
    refine ab (fun he=>?_) (fun he=>?_)
    ·have hJ':=aC fE he
     rw[pg (hr _).1 (hr _).2]at hJ'
     rw[←hJ']at hJ
     simp (disch:=omega)only[↓pa,pb,av,↓reduceIte,reduceEqDiff,o0,he]
     cases b
     ·exact dz hJ rfl rfl hle
     ·exact aN (dm:=lB) rfl ⟨_,rfl⟩ rfl hle
    ·have hnone:eC t i=none:=hno _ hq fun _=>he
     have hx:=he
     simp (disch:=omega)only[↓pa,pb,aj,av,↓reduceIte,reduceEqDiff,reduceAdd,reduceLeDiff,reduceCtorEq,f0,o0,hx]
     refine aN (dm:=lB) ?_ ⟨_,rfl⟩ rfl hle
     rw[hnone]
     cases b<;>rfl
  ·simp (disch:=omega)only[↓pa,↓dV,pb,aj,cS,aT,↓reduceIte,reduceEqDiff,reduceAdd,reduceCtorEq,f0,f3,f4,o0,h1,h45,hiJ]
   have hne:¬i=J:=by omega
   have hno:∀ a,(∀ n,fE (dd t i J)=some n→i≠J∧J-i≤20∧a=n)→(J-i≤20→itoa a≠dd t i J)→eC t i=none:=fun a h1 h2=>by
    rw[hJ]
    cases hr:fE (dd t i J)with
    |none=>rfl
    |some n=>
     obtain⟨k1,k2,k3⟩:=h1 n hr
     exact absurd (by rw[k3];exact(ku hr).1) (h2 k2)
   simp (disch:=omega)only[↓pa,↓dV,pb,aj,cS,↓reduceIte,reduceEqDiff,reduceAdd,reduceCtorEq,f0,f3,o0,hne]
   refine ab (fun h20=>?_) (fun h20=>?_)
   ·have hnone:eC t i=none:=hno _ hq fun h=>by omega
    have hx:=h20
    simp (disch:=omega)only[↓pa,↓dV,pb,aj,cS,fS,av,ah,af,↓reduceIte,reduceEqDiff,reduceAdd,reduceLeDiff,reduceCtorEq,f0,o0,hx]
    refine aN (dm:=lB) ?_ ⟨_,rfl⟩ rfl hle
    rw[hnone]
    cases b<;>rfl
   ·have hr:=rS
    simp (disch:=omega)only[↓pa,↓dV,pb,aj,cS,fS,ah,af,↓reduceIte,reduceEqDiff,reduceAdd,dD,reduceCtorEq,f0,f3,o0,h20,xI K (hr _).1 (hr _).2,iW]
    refine ab (fun he=>?_) (fun he=>?_)
    ·have hJ':=aC fE he
     rw[pg (hr _).1 (hr _).2]at hJ'
     rw[←hJ']at hJ
     simp (disch:=omega)only[↓pa,pb,av,↓reduceIte,reduceEqDiff,o0,he]
     cases b
     ·exact dz hJ rfl rfl hle
     ·exact aN (dm:=lB) rfl ⟨_,rfl⟩ rfl hle
    ·have hnone:eC t i=none:=hno _ hq fun _=>he
     have hx:=he
     simp (disch:=omega)only[↓pa,pb,aj,av,↓reduceIte,reduceEqDiff,reduceAdd,reduceLeDiff,reduceCtorEq,f0,o0,hx]
     refine aN (dm:=lB) ?_ ⟨_,rfl⟩ rfl hle
     rw[hnone]
     cases b<;>rfl
 ·have hJ:eC t i=(fE (dd t i (skip d8 t i))).map fun n=>(n,skip d8 t i):=by rw[eC,ad h45]
  have hle:skip d8 t i≤t.length:=mX hi
  have hge:i≤skip d8 t i:=kd _ _ _
  revert hJ hle hge
  generalize hjJ:skip d8 t i=J
  intro hJ hle hge
  by_cases hlt:i<t.length
  ·simp (disch:=omega)only[↓pa,pb,aj,aT,↓reduceIte,reduceEqDiff,reduceAdd,reduceCtorEq,h45,hlt]
   refine aX (fun k fr st=>∃ j:Nat,k=t.length-j∧i≤j∧j≤t.length∧fr 0= .ptr 0 0∧fr 3=I i∧fr 4=I (IntKind.i64.wrap (j7 0 (dd t i j):Nat))∧st.objs 0=some [S t,I j,.bool b]∧skip d8 t j=J) (t.length-i) (by omega) ⟨i,rfl,by omega,by omega,by simp only[↓pa,↓reduceIte,reduceCtorEq],by simp only[↓pa,↓reduceIte,reduceEqDiff],by rw[nX,vz];simp (disch:=omega)only[↓pa,pb,↓reduceIte];rfl,by simp only[pb],hjJ⟩ ?_
   rintro k fr st ⟨j,rfl,hj0j,hj,f0,f3,f4,o0,hsk⟩
   simp (disch:=omega)only[↓pa,pb,aj,aT,↓reduceIte,reduceEqDiff,reduceAdd,reduceCtorEq,f0,o0]
   by_cases hd:j<t.length∧d8 (cI t j)=true
   ·obtain⟨h1,h2⟩:=hd
    have hd':=pG.1 h2
    simp (disch:=omega)only[↓pa,pb,aj,aT,↓reduceIte,reduceEqDiff,reduceAdd,reduceLeDiff,reduceCtorEq,f0,f3,f4,o0,lF K.tab,h1,h2]
    refine⟨t.length- (j+1),by omega,j+1,rfl,by omega,by omega,?_,rfl,?_⟩
    ·rw[IV,BB hj0j h1 h2]
    ·rw[←jp h1 h2,hsk]
   have hjj:J=j:=by
    rw[←hsk]
    exact mW fun h=>by
     cases hx:d8 (cI t j)
     ·rfl
     ·exact absurd ⟨h,hx⟩ hd
   subst hjj
   have hq:∀ n,fE (dd t i J)=some n→i≠J∧J-i≤20∧IntKind.i64.wrap (j7 0 (dd t i J):Nat)=n:=Ag (by omega) hle fun _=>⟨fun h=>absurd h h45,fun _=>rfl⟩
   by_cases hiJ:i<J
   ·refine ab (fun h1=>?_) (fun h1=>?_)
    ·simp (disch:=omega)only[↓pa,pb,aj,↓reduceIte,reduceEqDiff,reduceAdd,reduceCtorEq,f0,o0,h1,lF K.tab]
     refine ab (fun h2=>?_) (fun h2=>?_)
     ·exact absurd ⟨h1,h2⟩ hd
     simp (disch:=omega)only[↓pa,↓dV,pb,aj,cS,aT,↓reduceIte,reduceEqDiff,reduceAdd,reduceCtorEq,f0,f3,o0,h45,hiJ]
     have hne:¬i=J:=by omega
     have hno:∀ a,(∀ n,fE (dd t i J)=some n→i≠J∧J-i≤20∧a=n)→(J-i≤20→itoa a≠dd t i J)→eC t i=none:=fun a h1 h2=>by
      rw[hJ]
      cases hr:fE (dd t i J)with
      |none=>rfl
      |some n=>
       obtain⟨k1,k2,k3⟩:=h1 n hr
       exact absurd (by rw[k3];exact(ku hr).1) (h2 k2)
     simp (disch:=omega)only[↓pa,↓dV,pb,aj,cS,↓reduceIte,reduceEqDiff,reduceAdd,reduceCtorEq,f0,f3,o0,hne]
     refine ab (fun h20=>?_) (fun h20=>?_)
     ·have hnone:eC t i=none:=hno _ hq fun h=>by omega
      have hx:=h20
      simp (disch:=omega)only[↓pa,↓dV,pb,aj,cS,fS,av,ah,af,↓reduceIte,reduceEqDiff,reduceAdd,reduceLeDiff,reduceCtorEq,f0,f4,o0,hx]
      refine aN (dm:=lB) ?_ ⟨_,rfl⟩ rfl hle
      rw[hnone]
      cases b<;>rfl
     ·have hr:=rS
      simp (disch:=omega)only[↓pa,↓dV,pb,aj,cS,fS,ah,af,↓reduceIte,reduceEqDiff,reduceAdd,dD,reduceCtorEq,f0,f3,f4,o0,h20,xI K (hr _).1 (hr _).2,iW]
      refine ab (fun he=>?_) (fun he=>?_)
      ·have hJ':=aC fE he
       rw[pg (hr _).1 (hr _).2]at hJ'
       rw[←hJ']at hJ
       simp (disch:=omega)only[↓pa,pb,av,↓reduceIte,reduceEqDiff,f4,o0,he]
       cases b
       ·exact dz hJ rfl rfl hle
       ·exact aN (dm:=lB) rfl ⟨_,rfl⟩ rfl hle
      ·have hnone:eC t i=none:=hno _ hq fun _=>he
       have hx:=he
       simp (disch:=omega)only[↓pa,pb,aj,av,↓reduceIte,reduceEqDiff,reduceAdd,reduceLeDiff,reduceCtorEq,f0,f4,o0,hx]
       refine aN (dm:=lB) ?_ ⟨_,rfl⟩ rfl hle
       rw[hnone]
       cases b<;>rfl
    ·simp (disch:=omega)only[↓pa,↓dV,pb,aj,cS,aT,↓reduceIte,reduceEqDiff,reduceAdd,reduceCtorEq,f0,f3,o0,h1,h45,hiJ]
     have hne:¬i=J:=by omega
     have hno:∀ a,(∀ n,fE (dd t i J)=some n→i≠J∧J-i≤20∧a=n)→(J-i≤20→itoa a≠dd t i J)→eC t i=none:=fun a h1 h2=>by
      rw[hJ]
      cases hr:fE (dd t i J)with
      |none=>rfl
      |some n=>
       obtain⟨k1,k2,k3⟩:=h1 n hr
       exact absurd (by rw[k3];exact(ku hr).1) (h2 k2)
     simp (disch:=omega)only[↓pa,↓dV,pb,aj,cS,↓reduceIte,reduceEqDiff,reduceAdd,reduceCtorEq,f0,f3,o0,hne]
     refine ab (fun h20=>?_) (fun h20=>?_)
     ·have hnone:eC t i=none:=hno _ hq fun h=>by omega
      have hx:=h20
      simp (disch:=omega)only[↓pa,↓dV,pb,aj,cS,fS,av,ah,af,↓reduceIte,reduceEqDiff,reduceAdd,reduceLeDiff,reduceCtorEq,f0,f4,o0,hx]
      refine aN (dm:=lB) ?_ ⟨_,rfl⟩ rfl hle
      rw[hnone]
      cases b<;>rfl
     ·have hr:=rS
      simp (disch:=omega)only[↓pa,↓dV,pb,aj,cS,fS,ah,af,↓reduceIte,reduceEqDiff,reduceAdd,dD,reduceCtorEq,f0,f3,f4,o0,h20,xI K (hr _).1 (hr _).2,iW]
      refine ab (fun he=>?_) (fun he=>?_)
      ·have hJ':=aC fE he
       rw[pg (hr _).1 (hr _).2]at hJ'
       rw[←hJ']at hJ
       simp (disch:=omega)only[↓pa,pb,av,↓reduceIte,reduceEqDiff,f4,o0,he]
       cases b
       ·exact dz hJ rfl rfl hle
       ·exact aN (dm:=lB) rfl ⟨_,rfl⟩ rfl hle
      ·have hnone:eC t i=none:=hno _ hq fun _=>he
       have hx:=he
       simp (disch:=omega)only[↓pa,pb,aj,av,↓reduceIte,reduceEqDiff,reduceAdd,reduceLeDiff,reduceCtorEq,f0,f4,o0,hx]
       refine aN (dm:=lB) ?_ ⟨_,rfl⟩ rfl hle
       rw[hnone]
       cases b<;>rfl
   ·have hiJ':J=i:=by omega
    have hnone:eC t i=none:=by
     rw[hJ]
     cases hr:fE (dd t i J)with
     |none=>rfl
     |some n=>exact absurd hiJ'.symm (hq n hr).1
    subst hiJ'
    simp (disch:=omega)only[↓pa,pb,aj,↓reduceIte,reduceEqDiff,reduceAdd,reduceCtorEq,f0,o0,hlt,lF K.tab]
    refine ab (fun h2=>?_) (fun h2=>?_)
    ·exact absurd ⟨hlt,h2⟩ hd
    simp (disch:=omega)only[↓pa,↓dV,pb,aj,cS,fS,av,aT,ah,af,↓reduceIte,reduceEqDiff,reduceAdd,reduceLeDiff,reduceCtorEq,f0,f3,f4,o0,Nat.lt_irrefl,eq_self]
    refine aN (dm:=lB) ?_ ⟨_,rfl⟩ rfl hle
    rw[hnone]
    cases b<;>rfl
  ·have hiJ:J=i:=by omega
   have hnone:eC t i=none:=by
    rw[hJ,hiJ,nX]
    cases hr:fE []with
    |none=>rfl
    |some n=>exact absurd (ku hr).1 (uD n)
   simp only[↓pa,pb,aj,aT,↓reduceIte,reduceEqDiff,reduceAdd,reduceCtorEq,hlt]
   refine aX (fun k fr st=>k=0∧fr 0= .ptr 0 0∧fr 3=I i∧fr 4=I 0∧st.objs 0=some [S t,I i,.bool b]) 0 (by omega) ⟨rfl,by simp only[↓pa,↓reduceIte,reduceCtorEq],by simp only[↓pa,↓reduceIte,reduceEqDiff],by simp only[↓pa,↓reduceIte],by simp only[pb]⟩ ?_
   rintro k fr st ⟨rfl,f0,f3,f4,o0⟩
   simp only[↓pa,pb,aj,aT,↓reduceIte,reduceEqDiff,reduceAdd,reduceCtorEq,f0,f3,o0,hlt]
   simp only[↓pa,↓dV,pb,aj,cS,fS,av,ah,af,↓reduceIte,reduceEqDiff,reduceAdd,reduceLeDiff,reduceCtorEq,f0,f3,f4,o0,Nat.lt_irrefl,eq_self]
   refine aN (dm:=lB) ?_ ⟨_,rfl⟩ rfl hi
   rw[hnone]
   cases b<;>rfl
theorem pT(K:bH cf){t:List UInt8}{i:Nat}(hs:st.objs s=some [S t,I i])(hi:i≤t.length)(hl:t.length≤2000000)
  (k1:∀ a j fl,eC t i=some (a,j)→j≤t.length→A (mk (.tup [I a,.bool true]) (cQ (bU st s [S t,I (j:Nat)]) fl)))
  (k2:∀ (n:Int) j fl,eC t i=none→j≤t.length→A (mk (.tup [I n,.bool false]) (cQ (bU st s [S t,I (j:Nat)]) fl))):cT (ar cf 221 [.ptr s 0] [] st) mk A:=
 fV (J5 K hs hi hl) k1 fun p j fl h1 ⟨n,hn⟩ h3=>hn▸k2 n j fl h1 h3
theorem lv(K:bH cf){t:List UInt8}{i:Nat}{b:Bool}(hs:st.objs s=some [S t,I i,.bool b])(hi:i≤t.length)(hl:t.length≤2000000)
  (k1:∀ a j fl,b=false→eC t i=some (a,j)→j≤t.length→A (mk (I a) (cQ (bU st s [S t,I (j:Nat),.bool false]) fl)))
  (k2:∀ (n:Int) j fl,(b=true∨eC t i=none)→j≤t.length→A (mk (I n) (cQ (bU st s [S t,I (j:Nat),.bool true]) fl))):cT (ar cf 213 [.ptr s 0] [] st) mk A:=by
 refine gI (It K hs hi hl) ?_ ?_
 ·intro a j fl h1 h2
  cases b with
  |true=>cases h1
  |false=>exact k1 a j fl rfl h1 h2
 ·rintro p j fl h1 ⟨n,rfl⟩ h3
  refine k2 n j fl ?_ h3
  cases b with
  |true=>exact .inl rfl
  |false=>exact .inr h1
theorem MZ(K:bH cf){t:List UInt8}{i:Nat}(hs:st.objs s=some [S t,I i])(hi:i≤t.length)(hl:t.length≤2000000):
  ∃ r c',lh t I (qW t i) lB r c'∧∃ fl,ar cf 242 [.ptr s 0] [] st=some (r,cQ (bU st s c') fl):=by
 refine fx K.tab (F:=F242) rfl rfl rfl (lb rfl) (lb rfl) (by simp) hs (eJ t i) 1 ?_
 unfold F242 qr qd qm qi qc qt qy qo
 simp only[↓pa,pb,↓reduceIte,reduceCtorEq]
 refine(pD K.tab (t:=t) (i:=i) (by simp only[pb])).2 ?_
 simp only[↓pa,pb,↓reduceIte,om K.tab]
 refine ab (fun h=>?_) (fun h=>?_)
 rotate_left
 ·simp only[↓pa,pb,av,↓reduceIte,reduceEqDiff,h]
  exact be (Fm hi h) ⟨_,rfl⟩ rfl rfl hi
 simp only[↓pa,pb,↓reduceIte,reduceCtorEq,h]
 refine pT K (t:=t) (i:=i) (by simp only[pb]) hi hl (fun a j fl h1 h2=>?_) (fun n j fl h1 h2=>?_)
 ·simp only[↓pa,pb,ah,af,↓reduceIte,reduceEqDiff]
  have hp:qW t i=if 1≤a∧a≤1000000000000 then some (a,j)else none:=by rw[qW,h1]
  refine ab (fun h3=>?_) (fun h3=>?_)
  ·by_cases h4:a≤1000000000000
   ·simp only[↓pa,pb,aj,av,↓reduceIte,reduceEqDiff,h3,h4]
    rw[ai ⟨h3,h4⟩]at hp
    exact dq hp rfl rfl h2
   ·simp only[↓pa,pb,aj,av,↓reduceIte,reduceEqDiff,h3,h4]
    rw[ad fun h=>h4 h.2]at hp
    exact be hp ⟨_,rfl⟩ rfl rfl h2
  ·simp only[↓pa,pb,aj,av,↓reduceIte,reduceEqDiff,h3]
   rw[ad fun h=>h3 h.1]at hp
   exact be hp ⟨_,rfl⟩ rfl rfl h2
 ·simp only[↓pa,pb,aj,av,ah,af,↓reduceIte,reduceEqDiff]
  exact be (by rw[qW,h1]) ⟨_,rfl⟩ rfl rfl h2
theorem I0(K:bH cf){t:List UInt8}{i:Nat}(hs:st.objs s=some [S t,I i])(hi:i≤t.length)(hl:t.length≤2000000)
  (k1:∀ a j fl,qW t i=some (a,j)→j≤t.length→A (mk (.tup [I a,.bool true]) (cQ (bU st s [S t,I (j:Nat)]) fl)))
  (k2:∀ (n:Int) j fl,qW t i=none→j≤t.length→A (mk (.tup [I n,.bool false]) (cQ (bU st s [S t,I (j:Nat)]) fl))):cT (ar cf 242 [.ptr s 0] [] st) mk A:=
 fV (MZ K hs hi hl) k1 fun p j fl h1 ⟨n,hn⟩ h3=>hn▸k2 n j fl h1 h3
@[reducible] def VA (v:V):PV:= .agg v.ca
@[reducible] def VB (v:V):PV:= .agg v.cb
def ig(t:List UInt8)(i:Nat):Option (V×Nat):=
 if cI t i=101 then dP t 9 (i+1)else if cI t i=110 then dP t 8 (i+1)else none
theorem yl(K:bH cf){t:List UInt8}{i:Nat}(hs:st.objs s=some [S t,I i])(hi:i≤t.length)(hl:t.length≤2000000):
  ∃ r c',lh t VA (ig t i) dY r c'∧∃ fl,ar cf 227 [.ptr s 0] [] st=some (r,cQ (bU st s c') fl):=by
 refine fx K.tab (F:=F227) rfl rfl rfl (lb rfl) (lb rfl) (by simp) hs (eJ t i) 1 ?_
 unfold F227 qr qd qm qi qc qk ql qf qt qs qo qN
 simp only[↓pa,pb,↓reduceIte,reduceCtorEq]
 refine(pD K.tab (t:=t) (i:=i) (by simp only[pb,↓reduceIte,reduceCtorEq])).2 ?_
 simp only[↓pa,pb,↓reduceIte]
 refine ab (fun h1=>?_) (fun h1=>?_)
 ·have hlt:=cO (show cI t i≠0 by rw[h1];decide)
  have hp:ig t i=dP t 9 (i+1):=by rw[ig,ai h1]
  simp (disch:=omega)only[↓pa,pb,aj,aT,↓reduceIte,reduceEqDiff,reduceAdd,reduceLeDiff,reduceCtorEq,h1]
  refine I0 K (t:=t) (i:=i+1) (by simp only[pb,↓reduceIte]) hlt hl (fun a j fl h1 h2=>?_) (fun n j fl h1 h2=>?_)
  ·simp only[↓pa,↓bM,pb,aj,av,ah,af,↓reduceIte,reduceEqDiff,reduceAdd,reduceLeDiff,reduceCtorEq]
   exact dq (a:=V.mk 9 a 0 [] [] []) (by rw[hp,dP,h1];rfl) rfl rfl h2
  ·simp only[↓pa,↓bM,pb,aj,av,ah,af,↓reduceIte,reduceEqDiff,reduceAdd,reduceLeDiff,reduceCtorEq]
   exact be (by rw[hp,dP,h1];rfl) ⟨_,rfl,rfl,by simp only[av,am],by simp only[av]⟩ rfl rfl h2
 ·simp only[↓pa,pb,↓reduceIte,reduceCtorEq,h1]
  refine(pD K.tab (t:=t) (i:=i) (by simp only[pb,↓reduceIte,reduceCtorEq])).2 ?_
  simp only[↓pa,pb,↓reduceIte,dD]
  refine ab (fun h3=>?_) (fun h3=>?_)
  ·have hlt:=cO (show cI t i≠0 by rw[h3];decide)
   have hp:ig t i=dP t 8 (i+1):=by rw[ig,ad h1,ai h3]
   simp (disch:=omega)only[↓pa,pb,aj,aT,↓reduceIte,reduceEqDiff,reduceAdd,reduceLeDiff,reduceCtorEq,h3]
   refine I0 K (t:=t) (i:=i+1) (by simp only[pb,↓reduceIte]) hlt hl (fun a j fl h1 h2=>?_) (fun n j fl h1 h2=>?_)
   ·simp only[↓pa,↓bM,pb,aj,av,ah,af,↓reduceIte,reduceEqDiff,reduceAdd,reduceLeDiff,reduceCtorEq]
    exact dq (a:=V.mk 8 a 0 [] [] []) (by rw[hp,dP,h1];rfl) rfl rfl h2
   ·simp only[↓pa,↓bM,pb,aj,av,ah,af,↓reduceIte,reduceEqDiff,reduceAdd,reduceLeDiff,reduceCtorEq]
    exact be (by rw[hp,dP,h1];rfl) ⟨_,rfl,rfl,by simp only[av,am],by simp only[av]⟩ rfl rfl h2
  ·have hp:ig t i=none:=by rw[ig,ad h1,ad h3]
   simp only[↓pa,↓bM,pb,aj,av,↓reduceIte,reduceEqDiff,reduceAdd,reduceLeDiff,reduceCtorEq,h3]
   exact be hp ⟨_,rfl,rfl,by simp only[av,am],by simp only[av]⟩ rfl rfl hi
theorem wj(K:bH cf){t:List UInt8}{i:Nat}{b:Bool}{k:Int}(hs:st.objs s=some [S t,I i,.bool b])(hi:i≤t.length)(hl:t.length≤2000000):
  ∃ r c',mP t VB (if b then none else dP t k i) dY r c'∧∃ fl,ar cf 214 [.ptr s 0,I k] [] st=some (r,cQ (bU st s c') fl):=by
 refine fx K.tab (F:=F214) rfl rfl rfl (lb rfl) (lb rfl) (by simp[aQ]) hs (fi t i b) 1 ?_
 unfold F214 qr qd qm qk qf qt qx qs qo qe qN
 simp only[↓pa,pb,↓reduceIte,reduceCtorEq]
 refine lv K (t:=t) (i:=i) (b:=b) (by simp only[pb,↓reduceIte,reduceCtorEq]) hi hl (fun a j fl hb h1 h2=>?_) (fun n j fl h1 h2=>?_)
 ·subst hb
  have hp:dP t k i=(if 1≤a∧a≤1000000000000 then some (a,j)else none).map fun q=>(V.mk k q.1 0 [] [] [],q.2):=by rw[dP,qW,h1]
  simp only[↓pa,pb,↓reduceIte]
  refine ab (fun h3=>?_) (fun h3=>?_)
  ·rw[ad fun h=>by omega]at hp
   simp only[↓pa,↓bM,pb,aj,av,↓reduceIte,reduceEqDiff,reduceAdd,reduceLeDiff,reduceCtorEq,h3]
   exact aN (dm:=dY) (by rw[hp];rfl) ⟨_,rfl,rfl,by simp only[av,am],by simp only[av]⟩ rfl h2
  ·simp only[↓pa,pb,↓reduceIte,reduceEqDiff,h3]
   refine ab (fun h4=>?_) (fun h4=>?_)
   ·rw[ad fun h=>by omega]at hp
    simp only[↓pa,↓bM,pb,aj,av,↓reduceIte,reduceEqDiff,reduceAdd,reduceLeDiff,reduceCtorEq,h4]
    exact aN (dm:=dY) (by rw[hp];rfl) ⟨_,rfl,rfl,by simp only[av,am],by simp only[av]⟩ rfl h2
   ·rw[ai ⟨by omega,by omega⟩]at hp
    simp only[↓pa,↓bM,pb,aj,av,↓reduceIte,reduceEqDiff,reduceAdd,reduceLeDiff,reduceCtorEq,h4]
    exact dz (a:=V.mk k a 0 [] [] []) hp rfl rfl h2
 ·have hp:(if b then none else dP t k i)=none:=by
   cases b with
   |true=>rfl
   |false=>rcases h1 with h1|h1;cases h1;simp only[cA,if_false];rw[dP,qW,h1];rfl
  simp only[↓pa,pb,↓reduceIte]
  refine ab (fun h3=>?_) (fun h3=>?_)
  ·simp only[↓pa,↓bM,pb,aj,av,↓reduceIte,reduceEqDiff,reduceAdd,reduceLeDiff,reduceCtorEq,h3]
   exact aN (dm:=dY) hp ⟨_,rfl,rfl,by simp only[av,am],by simp only[av]⟩ rfl h2
  ·simp only[↓pa,pb,↓reduceIte,reduceEqDiff,h3]
   refine ab (fun h4=>?_) (fun h4=>?_)
   ·simp only[↓pa,↓bM,pb,aj,av,↓reduceIte,reduceEqDiff,reduceAdd,reduceLeDiff,reduceCtorEq,h4]
    exact aN (dm:=dY) hp ⟨_,rfl,rfl,by simp only[av,am],by simp only[av]⟩ rfl h2
   ·simp only[↓pa,↓bM,pb,aj,av,↓reduceIte,reduceEqDiff,reduceAdd,reduceLeDiff,reduceCtorEq,h4]
    exact aN (dm:=dY) hp ⟨_,rfl,rfl,by simp only[av,am],by simp only[av]⟩ rfl h2
def oU(p:PV):Prop:=∃ l,p=S l
theorem ky{c:Int}:fQ c=(xk c||d8 c||decide (c=95)):=rfl
theorem qM{t:List UInt8}{j J:Nat}{p:Int→Bool}(hsk:skip p t j=J)(hd:¬ (j<t.length∧p (cI t j)=true)):J=j:=by
 rw[←hsk]
 exact mW fun h=>by
  cases hx:p (cI t j)
  ·rfl
  ·exact absurd ⟨h,hx⟩ hd
set_option maxHeartbeats 1000000 in
theorem Kd(K:bH cf){t:List UInt8}{i:Nat}(hs:st.objs s=some [S t,I i])(hi:i≤t.length)(hl:t.length≤2000000):
  ∃ r c',lh t S (oz t i) oU r c'∧∃ fl,ar cf 240 [.ptr s 0] [] st=some (r,cQ (bU st s c') fl):=by
 refine fx K.tab (F:=F240) rfl rfl rfl (lb rfl) (lb rfl) (by simp) hs (eJ t i) (t.length+1) ?_
 unfold F240 qr qd qm qc qb qk ql qf qt qy qs qo
 have hJ:oz t i=if dE (dd t i (skip fQ t i))then some (dd t i (skip fQ t i),skip fQ t i)else none:=rfl
 have hle:skip fQ t i≤t.length:=mX hi
 have hge:i≤skip fQ t i:=kd _ _ _
 revert hJ hle hge
 generalize hjJ:skip fQ t i=J
 intro hJ hle hge
 simp only[↓pa,pb,aj,↓reduceIte,reduceAdd,reduceCtorEq]
 refine aX (fun k fr st=>∃ j:Nat,k=t.length-j∧i≤j∧j≤t.length∧fr 0= .ptr 0 0∧fr 4=I i∧st.objs 0=some [S t,I j]∧skip fQ t j=J) (t.length-i) (by omega) ⟨i,rfl,by omega,by omega,by simp only[↓pa,↓reduceIte,reduceCtorEq],by simp only[↓pa,↓reduceIte],by simp only[pb],hjJ⟩ ?_
 rintro k fr st ⟨j,rfl,hj0,hj,f0,f4,o0,hsk⟩
 simp only[↓pa,pb,aj,aT,↓reduceIte,reduceEqDiff,reduceAdd,reduceCtorEq,f0,o0]
 refine ab (fun h1=>?_) (fun h1=>?_)
 ·simp (disch:=omega)only[↓pa,pb,aj,↓reduceIte,reduceEqDiff,reduceAdd,reduceCtorEq,f0,o0,h1,wk K.tab]
  refine ab (fun h2=>?_) (fun h2=>?_)
  ·have hd:fQ (cI t j)=true:=by rw[ky,h2];rfl
   simp (disch:=omega)only[↓pa,pb,aj,aT,↓reduceIte,reduceEqDiff,reduceAdd,reduceLeDiff,reduceCtorEq,f0,f4,o0,h2]
   refine⟨t.length- (j+1),by omega,j+1,rfl,by omega,by omega,rfl,?_⟩
   rw[←jp h1 hd,hsk]
  ·simp (disch:=omega)only[↓pa,pb,aj,↓reduceIte,reduceEqDiff,reduceAdd,reduceCtorEq,f0,o0,h2,om K.tab]
   refine ab (fun h3=>?_) (fun h3=>?_)
   ·have hd:fQ (cI t j)=true:=by rw[ky,h3];simp
    simp (disch:=omega)only[↓pa,pb,aj,aT,↓reduceIte,reduceEqDiff,reduceAdd,reduceLeDiff,reduceCtorEq,f0,f4,o0,h3]
    refine⟨t.length- (j+1),by omega,j+1,rfl,by omega,by omega,rfl,?_⟩
    rw[←jp h1 hd,hsk]
   ·simp (disch:=omega)only[↓pa,pb,aj,↓reduceIte,reduceEqDiff,reduceAdd,reduceCtorEq,f0,o0,h3]
    refine ab (fun h4=>?_) (fun h4=>?_)
    ·have hd:fQ (cI t j)=true:=by rw[ky,h4];rfl
     simp (disch:=omega)only[↓pa,pb,aj,aT,↓reduceIte,reduceEqDiff,reduceAdd,reduceLeDiff,reduceCtorEq,f0,f4,o0,h4]
     refine⟨t.length- (j+1),by omega,j+1,rfl,by omega,by omega,rfl,?_⟩
     rw[←jp h1 hd,hsk]
    ·have hjj:=qM hsk fun h=>by rw[ky]at h;simp[h2,h3,h4]at h
     subst hjj
     simp (disch:=omega)only[↓pa,↓dV,pb,aj,cS,↓reduceIte,reduceEqDiff,reduceAdd,reduceCtorEq,f0,f4,o0,h4]
     simp only[↓pa,↓dV,pb,cS,fS,ah,af,↓reduceIte,reduceEqDiff,iW,uh K.tab]
     by_cases hn:dE (dd t i J)=true
     ·simp only[↓pa,pb,av,↓reduceIte,reduceEqDiff,o0,hn]
      exact dq (by rw[hJ,ai hn]) rfl rfl hle
     ·have hn':dE (dd t i J)=false:=by simpa using hn
      simp only[↓pa,pb,av,↓reduceIte,reduceEqDiff,o0,hn']
      exact be (by rw[hJ,ad hn]) ⟨_,rfl⟩ rfl rfl hle
 ·have hjj:=qM hsk fun h=>h1 h.1
  subst hjj
  simp (maxSteps:=1000000) (disch:=omega)only[↓pa,↓dV,pb,aj,cS,↓reduceIte,reduceEqDiff,reduceAdd,reduceCtorEq,f0,f4,o0,h1]
  simp only[↓pa,↓dV,pb,cS,fS,ah,af,↓reduceIte,reduceEqDiff,iW,uh K.tab]
  by_cases hn:dE (dd t i J)=true
  ·simp only[↓pa,pb,av,↓reduceIte,reduceEqDiff,o0,hn]
   exact dq (by rw[hJ,ai hn]) rfl rfl hle
  ·have hn':dE (dd t i J)=false:=by simpa using hn
   simp only[↓pa,pb,av,↓reduceIte,reduceEqDiff,o0,hn']
   exact be (by rw[hJ,ad hn]) ⟨_,rfl⟩ rfl rfl hle
set_option maxHeartbeats 1000000 in
theorem Iw(K:bH cf){t:List UInt8}{i:Nat}{b:Bool}(hs:st.objs s=some [S t,I i,.bool b])(hi:i≤t.length)(hl:t.length≤2000000):
  ∃ r c',mP t S (if b then none else oz t i) oU r c'∧∃ fl,ar cf 235 [.ptr s 0] [] st=some (r,cQ (bU st s c') fl):=by
 refine fx K.tab (F:=F235) rfl rfl rfl (lb rfl) (lb rfl) (by simp) hs (fi t i b) (t.length+1) ?_
 unfold F235 qr qd qm qc qb qk ql qf qt qy qs qo qe
 have hJ:oz t i=if dE (dd t i (skip fQ t i))then some (dd t i (skip fQ t i),skip fQ t i)else none:=rfl
 have hle:skip fQ t i≤t.length:=mX hi
 have hge:i≤skip fQ t i:=kd _ _ _
 revert hJ hle hge
 generalize hjJ:skip fQ t i=J
 intro hJ hle hge
 simp only[↓pa,pb,aj,↓reduceIte,reduceAdd,reduceCtorEq]
 refine aX (fun k fr st=>∃ j:Nat,k=t.length-j∧i≤j∧j≤t.length∧fr 0= .ptr 0 0∧fr 3=I i∧st.objs 0=some [S t,I j,.bool b]∧skip fQ t j=J) (t.length-i) (by omega) ⟨i,rfl,by omega,by omega,by simp only[↓pa,↓reduceIte,reduceCtorEq],by simp only[↓pa,↓reduceIte],by simp only[pb],hjJ⟩ ?_
 rintro k fr st ⟨j,rfl,hj0,hj,f0,f3,o0,hsk⟩
 simp only[↓pa,pb,aj,aT,↓reduceIte,reduceEqDiff,reduceAdd,reduceCtorEq,f0,o0]
 refine ab (fun h1=>?_) (fun h1=>?_)
 ·simp (disch:=omega)only[↓pa,pb,aj,↓reduceIte,reduceEqDiff,reduceAdd,reduceCtorEq,f0,o0,h1,ui K.tab]
  refine ab (fun h2=>?_) (fun h2=>?_)
  ·have hd:fQ (cI t j)=true:=by rw[ky,h2];rfl
   simp (disch:=omega)only[↓pa,pb,aj,aT,↓reduceIte,reduceEqDiff,reduceAdd,reduceLeDiff,reduceCtorEq,f0,f3,o0,h2]
   refine⟨t.length- (j+1),by omega,j+1,rfl,by omega,by omega,rfl,?_⟩
   rw[←jp h1 hd,hsk]
  ·simp (disch:=omega)only[↓pa,pb,aj,↓reduceIte,reduceEqDiff,reduceAdd,reduceCtorEq,f0,o0,h2,lF K.tab]
   refine ab (fun h3=>?_) (fun h3=>?_)
   ·have hd:fQ (cI t j)=true:=by rw[ky,h3];simp
    simp (disch:=omega)only[↓pa,pb,aj,aT,↓reduceIte,reduceEqDiff,reduceAdd,reduceLeDiff,reduceCtorEq,f0,f3,o0,h3]
    refine⟨t.length- (j+1),by omega,j+1,rfl,by omega,by omega,rfl,?_⟩
    rw[←jp h1 hd,hsk]
   ·simp (disch:=omega)only[↓pa,pb,aj,↓reduceIte,reduceEqDiff,reduceAdd,reduceCtorEq,f0,o0,h3]
    refine ab (fun h4=>?_) (fun h4=>?_)
    ·have hd:fQ (cI t j)=true:=by rw[ky,h4];rfl
     simp (disch:=omega)only[↓pa,pb,aj,aT,↓reduceIte,reduceEqDiff,reduceAdd,reduceLeDiff,reduceCtorEq,f0,f3,o0,h4]
     refine⟨t.length- (j+1),by omega,j+1,rfl,by omega,by omega,rfl,?_⟩
     rw[←jp h1 hd,hsk]
    ·have hjj:=qM hsk fun h=>by rw[ky]at h;simp[h2,h3,h4]at h
     subst hjj
     simp (disch:=omega)only[↓pa,pb,aj,↓reduceIte,reduceEqDiff,reduceAdd,reduceCtorEq,f0,f3,o0,h4]
     simp only[↓pa,pb,↓reduceIte,iW,rN K.tab]
     by_cases hn:dE (dd t i J)=true
     ·simp (disch:=omega)only[↓pa,pb,aj,av,↓reduceIte,reduceEqDiff,reduceAdd,reduceCtorEq,f0,f3,o0,hn,iW]
      cases b with
      |true=>exact aN (dm:=oU) rfl ⟨_,rfl⟩ rfl hle
      |false=>exact dz (dm:=oU) (by rw[hJ,ai hn];rfl) rfl rfl hle
     ·have hn':dE (dd t i J)=false:=by simpa using hn
      simp (disch:=omega)only[↓pa,pb,aj,av,↓reduceIte,reduceEqDiff,reduceAdd,reduceLeDiff,reduceCtorEq,f0,f3,o0,hn',iW]
      exact aN (dm:=oU) (by rw[hJ,ad hn];cases b<;>rfl) ⟨_,rfl⟩ rfl hle
 ·have hjj:=qM hsk fun h=>h1 h.1
  subst hjj
  simp (maxSteps:=1000000) (disch:=omega)only[↓pa,pb,aj,↓reduceIte,reduceEqDiff,reduceAdd,reduceCtorEq,f0,f3,o0,h1]
  simp only[↓pa,pb,↓reduceIte,iW,rN K.tab]
  by_cases hn:dE (dd t i J)=true
  ·simp (disch:=omega)only[↓pa,pb,aj,av,↓reduceIte,reduceEqDiff,reduceAdd,reduceCtorEq,f0,f3,o0,hn,iW]
   cases b with
   |true=>exact aN (dm:=oU) rfl ⟨_,rfl⟩ rfl hle
   |false=>exact dz (dm:=oU) (by rw[hJ,ai hn];rfl) rfl rfl hle
  ·have hn':dE (dd t i J)=false:=by simpa using hn
   simp (disch:=omega)only[↓pa,pb,aj,av,↓reduceIte,reduceEqDiff,reduceAdd,reduceLeDiff,reduceCtorEq,f0,f3,o0,hn',iW]
   exact aN (dm:=oU) (by rw[hJ,ad hn];cases b<;>rfl) ⟨_,rfl⟩ rfl hle
theorem cu{e sz bytes n m:Nat}{cs ds:List PV}{tk u:ay}(h:Gr e st.nx st.cnt n tk)(h1:cs.length=n*sz)(h2:ds.length=m*sz)(h3:(n+m) *bytes≤140737488355328)(h4:n+m≤140737488355328)(h5:0<sz)
  (k:A (mk (.list (n+m) (cs++ds) (g8 e tk st)) (ic tk st (n+m)))):cT (uo e sz bytes (.list n cs tk) (.list m ds u) st) mk A:=by
 rw[uQ h h1 h2 h3 h4 h5,fj];exact k
theorem xJ(l:List UInt8)(t:List UInt8)(i:Nat):s7 l++[U (cI t i)]=s7 (l++[t.getD i 0]):=wm l _
theorem yE{t:List UInt8}{n j:Nat}{acc:List UInt8}(hn:t.length-j<n)(h:j<t.length):gm t n j acc=
  if cI t j=34 then some (acc,j+1)
  else if cI t j=92 then
   if cI t (j+1)=34∨cI t (j+1)=92 then gm t (n-1) (j+2) (acc++[t.getD (j+1) 0])
   else if cI t (j+1)=110 then gm t (n-1) (j+2) (acc++[10])else none
  else if cI t j<32 then none
  else gm t (n-1) (j+1) (acc++[t.getD j 0]):=by
 obtain⟨m,rfl⟩:∃ m,n=m+1:=⟨n-1,by omega⟩
 rw[gm,ai h];rfl
theorem wR{t:List UInt8}{n j:Nat}{acc:List UInt8}(hn:t.length-j<n)(h:¬j<t.length):gm t n j acc=none:=by
 obtain⟨m,rfl⟩:∃ m,n=m+1:=⟨n-1,by omega⟩
 rw[gm,ad h]
theorem yp{n:Nat}{l:List UInt8}(h:n=l.length)(c:UInt8):n+1=(l++[c]).length:=by rw[ak,h];rfl
set_option maxHeartbeats 2000000 in
theorem Is(K:bH cf){t:List UInt8}{i:Nat}(hs:st.objs s=some [S t,I i])(hi:i≤t.length)(hl:t.length≤2000000)(h34:cI t i=34):
  ∃ r c',lh t S (nZ t (i+1)) oU r c'∧∃ fl,ar cf 219 [.ptr s 0] [] st=some (r,cQ (bU st s c') fl):=by
 refine fx K.tab (F:=F219) rfl rfl rfl (lb rfl) (lb rfl) (by simp) hs (eJ t i) (t.length+1) ?_
 unfold F219 qr qd qm qc qb qk ql qf qt qs qo qN
 have hlt:=cO (show cI t i≠0 by rw[h34];decide)
 have h34':tk t i [34]=true:=by rw[ti (by decide),h34];rfl
 simp only[↓pa,pb,↓reduceIte,reduceCtorEq]
 refine(tu K.tab (t:=t) (i:=i) (x:=[34]) (by simp only[pb]) hi hl (by decide)).2 ?_
 simp only[↓pa,pb,↓reduceIte,reduceAdd,h34',ao,aV]
 refine aX (fun k fr st=>∃ (j n m:Nat) (acc:List UInt8) (tok:ay),k=t.length-j∧j≤t.length∧acc.length≤j∧t.length-j<n∧m=acc.length∧fr 0= .ptr 0 0∧fr 4= .list m (s7 acc) tok∧st.objs 0=some [S t,I j]∧Gr 5 st.nx st.cnt m tok∧gm t n j acc=nZ t (i+1)) (t.length- (i+1)) (by omega) ⟨i+1,t.length+1- (i+1),0,[],.nil,rfl,by omega,aY _,by omega,rfl,by simp only[↓pa,↓reduceIte,reduceCtorEq],by simp only[↓pa,↓reduceIte];rfl,by simp only[pb,↓reduceIte],rfl,rfl⟩ ?_
 rintro k fr st ⟨j,n,m,acc,tok,rfl,hj,hacc,hn,rfl,f0,f4,o0,hG,hQ⟩
 simp only[↓pa,pb,aj,aT,↓reduceIte,reduceEqDiff,reduceAdd,reduceCtorEq,f0,o0]
 refine ab (fun h1=>?_) (fun h1=>?_)
 rotate_left
 ·rw[wR hn h1]at hQ
  simp only[↓pa,pb,av,↓reduceIte,reduceEqDiff,o0]
  exact be hQ.symm ⟨_,rfl⟩ rfl rfl hj
 rw[yE hn h1]at hQ
 simp (disch:=omega)only[↓pa,pb,aj,aT,↓reduceIte,reduceEqDiff,reduceAdd,reduceLeDiff,reduceCtorEq,f0,o0]
 refine ab (fun h2=>?_) (fun h2=>?_)
 ·rw[ai h2]at hQ
  simp only[↓pa,↓bM,pb,av,↓reduceIte,reduceEqDiff,f4,h2,Bx (l:=acc) rfl]
  exact dq hQ.symm rfl rfl h1
 rw[ad h2]at hQ
 simp only[↓pa,pb,↓reduceIte,reduceEqDiff,h2]
 refine ab (fun h3=>?_) (fun h3=>?_)
 ·rw[ai h3]at hQ
  simp only[↓pa,pb,↓reduceIte,reduceCtorEq,f0,h3]
  refine(pD K.tab (t:=t) (i:=j+1) (by simp only[pb,↓reduceIte])).2 ?_
  simp only[↓pa,pb,↓reduceIte]
  by_cases h4:cI t (j+1)=34∨cI t (j+1)=92
  ·rw[ai h4]at hQ
   have hlt:=cO (show cI t (j+1)≠0 by rcases h4 with h|h<;>rw[h]<;>decide)
   rcases h4 with h4|h4
   all_goals
    simp (disch:=omega)only[↓pa,↓bM,pb,aj,↓reduceIte,reduceEqDiff,reduceAdd,reduceLeDiff,reduceLT,Int.reduceEq,reduceCtorEq,f0,f4,h4]
    refine cu (n:=acc.length) (m:=1) hG (by rw[lX];omega) rfl (by omega) (by omega) (by decide) ?_
    simp (disch:=omega)only[↓pa,pb,aj,aT,↓reduceIte,reduceEqDiff,reduceAdd,reduceLeDiff,reduceCtorEq,f0]
    rw[←h4]
    refine⟨t.length- (j+2),by omega,j+2,n-1,acc.length+1,acc++[t.getD (j+1) 0],_,rfl,by omega,by rw[ak];simp;omega,by omega,yp rfl _,by rw[xJ],rfl,fa hG,hQ⟩
  ·rw[ad h4]at hQ
   have h4a:¬cI t (j+1)=34:=fun h=>h4 (.inl h)
   have h4b:¬cI t (j+1)=92:=fun h=>h4 (.inr h)
   simp only[↓pa,pb,↓reduceIte,reduceEqDiff,h4a,h4b]
   refine ab (fun h5=>?_) (fun h5=>?_)
   ·rw[ai h5]at hQ
    have hlt:=cO (show cI t (j+1)≠0 by rw[h5];decide)
    simp only[↓pa,↓bM,pb,aj,↓reduceIte,reduceEqDiff,reduceAdd,reduceLeDiff,reduceLT,f4,h5]
    refine cu (n:=acc.length) (m:=1) hG (by rw[lX];omega) rfl (by omega) (by omega) (by decide) ?_
    simp (disch:=omega)only[↓pa,pb,aj,aT,↓reduceIte,reduceEqDiff,reduceAdd,reduceLeDiff,reduceCtorEq,f0]
    refine⟨t.length- (j+2),by omega,j+2,n-1,acc.length+1,acc++[10],_,rfl,by omega,by rw[ak];simp;omega,by omega,yp rfl _,?_,rfl,fa hG,hQ⟩
    rw[←wm];rfl
   ·rw[ad h5]at hQ
    simp only[↓pa,pb,av,↓reduceIte,reduceEqDiff,h5]
    exact be hQ.symm ⟨_,rfl⟩ rfl rfl h1
 rw[ad h3]at hQ
 simp only[↓pa,pb,↓reduceIte,reduceEqDiff,h3]
 refine ab (fun h4=>?_) (fun h4=>?_)
 ·rw[ai h4]at hQ
  simp only[↓pa,pb,av,↓reduceIte,reduceEqDiff,h4]
  exact be hQ.symm ⟨_,rfl⟩ rfl rfl h1
 rw[ad h4]at hQ
 simp only[↓pa,↓bM,pb,aj,↓reduceIte,reduceEqDiff,reduceAdd,reduceLeDiff,reduceLT,f4,h4]
 refine cu (n:=acc.length) (m:=1) hG (by rw[lX];omega) rfl (by omega) (by omega) (by decide) ?_
 simp only[↓pa,pb,aj,↓reduceIte,reduceCtorEq,f0]
 exact⟨t.length- (j+1),by omega,j+1,n-1,acc.length+1,acc++[t.getD j 0],_,rfl,by omega,by rw[ak];simp;omega,by omega,yp rfl _,by rw[xJ],rfl,fa hG,hQ⟩
set_option maxHeartbeats 2000000 in
theorem Gt(K:bH cf){t:List UInt8}{i:Nat}(hs:st.objs s=some [S t,I i,.bool false])(hi:i≤t.length)(hl:t.length≤2000000):
  ∃ r c',mP t S (nZ t i) oU r c'∧∃ fl,ar cf 211 [.ptr s 0] [] st=some (r,cQ (bU st s c') fl):=by
 refine fx K.tab (F:=F211) rfl rfl rfl (lb rfl) (lb rfl) (by simp) hs (fi t i _) (t.length+1) ?_
 unfold F211 qr qd qm qc qb qk ql qf qx qs qo qe
 simp only[↓pa,↓bM,pb,aj,↓reduceIte,reduceAdd,reduceLT,gV,jd]
 refine aX (fun k fr st=>∃ (j n m:Nat) (acc:List UInt8) (tok:ay),k=t.length-j∧j≤t.length∧acc.length≤j∧t.length-j<n∧m=acc.length∧fr 0= .ptr 0 0∧fr 3= .list m (s7 acc) tok∧st.objs 0=some [S t,I j,.bool false]∧Gr 5 st.nx st.cnt m tok∧gm t n j acc=nZ t i) (t.length-i) (by omega) ⟨i,t.length+1-i,0,[],.full 5,rfl,by omega,aY _,by omega,rfl,by simp only[↓pa,↓reduceIte,reduceCtorEq],by simp only[↓pa,↓reduceIte];rfl,by simp only[pb],pK,rfl⟩ ?_
 rintro k fr st ⟨j,n,m,acc,tok,rfl,hj,hacc,hn,rfl,f0,f3,o0,hG,hQ⟩
 simp only[↓pa,pb,aj,aT,↓reduceIte,reduceEqDiff,reduceAdd,reduceCtorEq,f0,o0]
 refine ab (fun h1=>?_) (fun h1=>?_)
 rotate_left
 ·rw[wR hn h1]at hQ
  simp only[↓pa,pb,aj,av,↓reduceIte,reduceAdd,reduceLeDiff,reduceCtorEq,f0,o0]
  exact aN (dm:=oU) hQ.symm ⟨_,rfl⟩ rfl hj
 rw[yE hn h1]at hQ
 simp (disch:=omega)only[↓pa,pb,aj,aT,↓reduceIte,reduceEqDiff,reduceAdd,reduceLeDiff,reduceCtorEq,f0,o0]
 refine ab (fun h2=>?_) (fun h2=>?_)
 ·rw[ai h2]at hQ
  simp only[↓pa,↓bM,pb,av,↓reduceIte,reduceEqDiff,f3,h2,Bx (l:=acc) rfl]
  exact dz hQ.symm rfl rfl h1
 rw[ad h2]at hQ
 simp only[↓pa,pb,↓reduceIte,reduceEqDiff,h2]
 refine ab (fun h3=>?_) (fun h3=>?_)
 ·rw[ad (by omega),ai h3]at hQ
  simp only[↓pa,pb,aj,av,↓reduceIte,reduceAdd,reduceLeDiff,reduceCtorEq,f0,h3]
  exact aN (dm:=oU) hQ.symm ⟨_,rfl⟩ rfl h1
 simp only[↓pa,pb,↓reduceIte,reduceEqDiff,h3]
 refine ab (fun h4=>?_) (fun h4=>?_)
 ·rw[ai h4]at hQ
  simp only[↓pa,pb,aj,aT,↓reduceIte,reduceEqDiff,reduceAdd,reduceCtorEq,f0,h4]
  refine ab (fun h5=>?_) (fun h5=>?_)
  ·have h6:cI t (j+1)=0:=rO (by omega)
   rw[ad (by omega),ad (by omega)]at hQ
   simp only[↓pa,pb,aj,av,↓reduceIte,reduceEqDiff,reduceAdd,reduceLeDiff,reduceCtorEq,f0,h5]
   exact aN (dm:=oU) hQ.symm ⟨_,rfl⟩ rfl h1
  have hlt:j+1<t.length:=by omega
  simp (disch:=omega)only[↓pa,pb,aj,↓reduceIte,reduceEqDiff,reduceAdd,dD,reduceCtorEq,f0,h5]
  by_cases h6:cI t (j+1)=34∨cI t (j+1)=92
  ·rw[ai h6]at hQ
   rcases h6 with h6|h6
   all_goals
    simp (maxSteps:=1000000) (disch:=omega)only[↓pa,↓bM,pb,aj,aT,↓reduceIte,reduceEqDiff,reduceAdd,reduceLeDiff,reduceLT,Int.reduceEq,dD,reduceCtorEq,f0,f3,h6]
    refine cu (n:=acc.length) (m:=1) hG (by rw[lX];omega) rfl (by omega) (by omega) (by decide) ?_
    simp only[↓pa,pb,aj,↓reduceIte,reduceCtorEq,f0]
    rw[←h6]
    refine⟨t.length- (j+2),by omega,j+2,n-1,acc.length+1,acc++[t.getD (j+1) 0],_,rfl,by omega,by rw[ak];simp;omega,by omega,yp rfl _,by rw[xJ],rfl,fa hG,hQ⟩
  ·rw[ad h6]at hQ
   have h4a:¬cI t (j+1)=34:=fun h=>h6 (.inl h)
   have h4b:¬cI t (j+1)=92:=fun h=>h6 (.inr h)
   simp (maxSteps:=1000000) (disch:=omega)only[↓pa,pb,aj,↓reduceIte,reduceEqDiff,reduceAdd,dD,reduceCtorEq,f0,h4a,h4b]
   by_cases h7:cI t (j+1)=110
   ·rw[ai h7]at hQ
    simp (disch:=omega)only[↓pa,↓bM,pb,aj,aT,↓reduceIte,reduceEqDiff,reduceAdd,reduceLeDiff,reduceLT,reduceCtorEq,f0,f3,h7]
    refine cu (n:=acc.length) (m:=1) hG (by rw[lX];omega) rfl (by omega) (by omega) (by decide) ?_
    simp only[↓pa,pb,aj,↓reduceIte,reduceCtorEq,f0]
    refine⟨t.length- (j+2),by omega,j+2,n-1,acc.length+1,acc++[10],_,rfl,by omega,by rw[ak];simp;omega,by omega,yp rfl _,?_,rfl,fa hG,hQ⟩
    rw[←wm];rfl
   ·rw[ad h7]at hQ
    simp only[↓pa,pb,aj,av,↓reduceIte,reduceAdd,reduceLeDiff,reduceCtorEq,f0,h7]
    exact aN (dm:=oU) hQ.symm ⟨_,rfl⟩ rfl h1
 rw[ad h4,ad (by omega)]at hQ
 simp only[↓pa,↓bM,pb,aj,↓reduceIte,reduceEqDiff,reduceAdd,reduceLeDiff,reduceLT,f3,h4]
 refine cu (n:=acc.length) (m:=1) hG (by rw[lX];omega) rfl (by omega) (by omega) (by decide) ?_
 simp only[↓pa,pb,aj,↓reduceIte,reduceCtorEq,f0]
 exact⟨t.length- (j+1),by omega,j+1,n-1,acc.length+1,acc++[t.getD j 0],_,rfl,by omega,by rw[ak];simp;omega,by omega,yp rfl _,by rw[xJ],rfl,fa hG,hQ⟩
theorem Lv(K:bH cf)(y:Int):ar cf 245 [I y] [] st=some (.bool (sp y),st):=by
 refine cB K.tab (F:=F245) (t:=2) rfl rfl rfl (lb rfl) (by simp[aQ]) (bD _) 1 ?_
 unfold F245 qr qm qc qk qy sp
 have q1:=kN (k:= .i64) (a:=y) (show(4:Int)≠0 by decide)
 have q2:=kN (k:= .i64) (a:=y) (show(100:Int)≠0 by decide)
 have q3:=kN (k:= .i64) (a:=y) (show(400:Int)≠0 by decide)
 by_cases h1:y.tmod 4=0<;>by_cases h2:y.tmod 100=0<;>by_cases h3:y.tmod 400=0<;>simp only[↓pa,pb,↓reduceIte,reduceEqDiff,dD,reduceCtorEq,q1,q2,q3,h1,h2,h3]
theorem Dd(K:bH cf)(y:Int):ar cf 244 [I y] [] st=some (.bool (sp y),st):=by
 refine cB K.tab (F:=F244) (t:=2) rfl rfl rfl (lb rfl) (by simp[aQ]) (bD _) 1 ?_
 unfold F244 qr qm qc qk qy sp
 have q1:=kN (k:= .i64) (a:=y) (show(4:Int)≠0 by decide)
 have q2:=kN (k:= .i64) (a:=y) (show(100:Int)≠0 by decide)
 have q3:=kN (k:= .i64) (a:=y) (show(400:Int)≠0 by decide)
 by_cases h1:y.tmod 4=0<;>by_cases h2:y.tmod 100=0<;>by_cases h3:y.tmod 400=0<;>simp only[↓pa,pb,↓reduceIte,reduceEqDiff,dD,reduceCtorEq,q1,q2,q3,h1,h2,h3]
theorem C9(K:bH cf)(y m:Int):ar cf 237 [I y,I m] [] st=some (I (mw y m),st):=by
 refine cB K.tab (F:=F237) (t:=4) rfl rfl rfl (lb rfl) (by simp[aQ]) (dn _ _) 1 ?_
 unfold F237 qg qr qd qm qi qk qt mw
 by_cases h2:m=2
 ·cases hl:sp y<;>simp only[↓pa,pb,↓reduceIte,reduceEqDiff,reduceCtorEq,Lv K,h2,hl]<;>simp
 ·by_cases h4:m=4
  ·simp only[↓pa,pb,↓reduceIte,reduceEqDiff,Int.reduceEq,h4]
  by_cases h6:m=6
  ·simp only[↓pa,pb,↓reduceIte,reduceEqDiff,Int.reduceEq,h6]
  by_cases h9:m=9
  ·simp only[↓pa,pb,↓reduceIte,reduceEqDiff,Int.reduceEq,h9]
  by_cases h11:m=11
  ·simp only[↓pa,pb,↓reduceIte,reduceEqDiff,Int.reduceEq,h11]
  ·simp only[↓pa,pb,↓reduceIte,reduceEqDiff,h2,h4,h6,h9,h11]
theorem B0{m:Int}(h1:1≤m)(h2:m≤12):m=1∨m=2∨m=3∨m=4∨m=5∨m=6∨m=7∨m=8∨m=9∨m=10∨m=11∨m=12:=by omega
theorem I3:(List.replicate 12 [I 0]).flatten=[I 0,I 0,I 0,I 0,I 0,I 0,I 0,I 0,I 0,I 0,I 0,I 0]:=rfl
theorem Gj:((12:Nat):Int)=12:=rfl
theorem Bq(K:bH cf)(y:Int){m:Int}(h1:1≤m)(h2:m≤12):ar cf 233 [I y,I m] [] st=some (I (mw y m),st):=by
 refine cB K.tab (F:=F233) (t:=4) rfl rfl rfl (lb rfl) (by simp[aQ]) (dn _ _) 1 ?_
 unfold F233 qg qr qm qi qk ql qa qy qo mw
 rcases B0 h1 h2 with rfl|rfl|rfl|rfl|rfl|rfl|rfl|rfl|rfl|rfl|rfl|rfl
 all_goals first
  |(simp (disch:=omega)only[↓pa,↓bM,pb,aj,↓reduceIte,reduceEqDiff,reduceAdd,reduceLeDiff,reduceLT,Int.reduceToNat,Int.reduceEq,Int.reduceLT,Int.reduceLE,reduceMul,reduceCtorEq,Dd K,I3,sv,Gj,Int.reduceToNat,Int.reduceSub,reduceMul];done)
  |(cases hl:sp y<;>simp (disch:=omega)only[↓pa,↓bM,pb,aj,↓reduceIte,reduceEqDiff,reduceAdd,reduceLeDiff,reduceLT,Int.reduceToNat,Int.reduceLT,Int.reduceLE,reduceMul,reduceCtorEq,Dd K,I3,hl,sv,Gj,Int.reduceToNat,Int.reduceSub,reduceMul])
theorem oR(y m:Int):28≤mw y m∧mw y m≤31:=by
 unfold mw
 repeat' split
 all_goals omega
theorem vS(y:Int):∀ k:Nat,0≤nD y k∧nD y k≤31*k
 |0=>by simp[nD]
 |k+1=>by
  have h1:=vS y k
  have h2:=oR y (k+1)
  rw[nD]
  omega
theorem lP{x d:Int}(hx:0≤x)(hd:0<d):0≤x.tdiv d∧x.tdiv d≤x:=⟨Int.tdiv_nonneg hx (by omega),Int.tdiv_le_self d hx⟩
theorem yO(y:Int){k:Int}(h:1≤k):nD y (k.toNat-1)+mw y k=nD y ((k+1).toNat-1):=by
 obtain⟨n,rfl⟩:∃ n:Nat,k=(n:Int)+1:=⟨(k-1).toNat,by omega⟩
 have e1:((n:Int)+1).toNat-1=n:=by omega
 have e2:((n:Int)+1+1).toNat-1=n+1:=by omega
 rw[e1,e2,nD]
theorem IE(K:bH cf){y m d:Int}(hy1:1≤y)(hy2:y≤9999)(hm1:1≤m)(hm2:m≤12)(hd1:1≤d)(hd2:d≤31):ar cf 238 [I y,I m,I d] [] st=some (I (yi y m d),st):=by
 refine cB K.tab (F:=F238) (t:=6) rfl rfl rfl (lb rfl) (by simp[aQ]) (dn _ _) 20 ?_
 unfold F238 qr qd qm qi qb qk qu yi
 have q1:=pA (k:= .i64) (a:=y-1) (show(4:Int)≠0 by decide)
 have q2:=pA (k:= .i64) (a:=y-1) (show(100:Int)≠0 by decide)
 have q3:=pA (k:= .i64) (a:=y-1) (show(400:Int)≠0 by decide)
 have r1:=lP (x:=y-1) (d:=4) (by omega) (by decide)
 have r2:=lP (x:=y-1) (d:=100) (by omega) (by decide)
 have r3:=lP (x:=y-1) (d:=400) (by omega) (by decide)
 simp (disch:=omega)only[↓pa,pb,↓reduceIte,reduceEqDiff,reduceCtorEq,q1,q2,q3]
 revert r1 r2 r3
 generalize (y-1).tdiv 4=a1
 generalize (y-1).tdiv 100=a2
 generalize (y-1).tdiv 400=a3
 intro r1 r2 r3
 refine aX (fun k fr st=>∃ j:Int,k=(m-j).toNat∧1≤j∧j≤m∧fr 0=I y∧fr 1=I m∧fr 2=I d∧fr 9=I j∧fr 8=I ((y-1) *365+a1-a2+a3+nD y (j.toNat-1))) (m-1).toNat (by omega) ⟨1,rfl,by omega,by omega,by simp only[↓pa,↓reduceIte,reduceCtorEq],by simp only[↓pa,↓reduceIte,reduceEqDiff],by simp only[↓pa,↓reduceIte,reduceEqDiff],by simp only[↓pa,↓reduceIte],by simp only[↓pa,↓reduceIte,reduceEqDiff,Int.reduceToNat];simp[nD]⟩ ?_
 rintro k fr st ⟨j,rfl,hj1,hj2,f0,f1,f2,f9,f8⟩
 have hs:=vS y (j.toNat-1)
 have hr:=oR y j
 simp only[↓pa,pb,↓reduceIte,reduceEqDiff,f1,f9]
 refine ab (fun h1=>?_) (fun h1=>?_)
 ·simp (disch:=omega)only[↓pa,pb,↓reduceIte,reduceEqDiff,reduceCtorEq,f0,f1,f2,f9,f8,h1,C9 K]
  refine⟨(m- (j+1)).toNat,by omega,j+1,rfl,by omega,by omega,rfl,?_⟩
  rw[←yO y hj1]
  simp only[Int.add_assoc]
 ·obtain rfl:j=m:=by omega
  simp (disch:=omega)only[↓pa,pb,↓reduceIte,reduceEqDiff,f2,f8,h1]
theorem LH(K:bH cf){y:Int}(hy1:1≤y)(hy2:y≤9999):ar cf 234 [I y] [] st=some (I ((y-1) *365+(y-1).tdiv 4- (y-1).tdiv 100+(y-1).tdiv 400),st):=by
 refine cB K.tab (F:=F234) (t:=2) rfl rfl rfl (lb rfl) (by simp[aQ]) (dn _ _) 1 ?_
 unfold F234 qr qm qi qb qk
 have q1:=pA (k:= .i64) (a:=y-1) (show(4:Int)≠0 by decide)
 have q2:=pA (k:= .i64) (a:=y-1) (show(100:Int)≠0 by decide)
 have q3:=pA (k:= .i64) (a:=y-1) (show(400:Int)≠0 by decide)
 have r1:=lP (x:=y-1) (d:=4) (by omega) (by decide)
 have r2:=lP (x:=y-1) (d:=100) (by omega) (by decide)
 have r3:=lP (x:=y-1) (d:=400) (by omega) (by decide)
 simp (disch:=omega)only[↓pa,pb,↓reduceIte,reduceEqDiff,reduceCtorEq,q1,q2,q3]
def mI:List UInt8→Int→Option Int
 | [],v=>some v
 |c::l,v=>if tU c then mI l (v*10+((c.toNat:Int) -48))else none
theorem sD{t:List UInt8}:∀ (n i:Nat) (v:Int),i+n≤t.length→ib t n i v=mI (dd t i (i+n)) v
 |0,i,v,h=>by rw[bh,nX];rfl
 |n+1,i,v,h=>by
  obtain⟨c,hc,hs⟩:=vF (t:=t) (i:=i) (j:=i+(n+1)) (by omega) h
  have hd:tU c=d8 (cI t i):=by rw[hc];rfl
  have ih:=sD (t:=t) n (i+1) (v*10+(cI t i-48)) (by omega)
  rw[show i+1+n=i+(n+1) by omega]at ih
  rw[ib,hs,mI,hd,←hc]
  by_cases hx:d8 (cI t i)=true
  ·have hi:i<t.length:=by omega
   rw[ai ⟨hi,hx⟩,ai hx,ih]
  ·rw[ad fun h=>hx h.2,ad hx]
theorem pu{t:List UInt8}:∀ (n i:Nat) (v:Int),t.length<i+n→i≤t.length→ib t n i v=none
 |0,i,v,h,h2=>by omega
 |n+1,i,v,h,h2=>by
  rw[ib]
  split
  ·rename_i hx
   exact pu n (i+1) _ (by omega) (by omega)
  ·rfl
theorem AJ:∀ (l:List UInt8) (v w b:Int),mI l v=some w→0≤v→v<b→0≤w∧w<b*10 ^ l.length
 | [],v,w,b,h,h0,h1=>by cases h;simpa using⟨h0,h1⟩
 |c::l,v,w,b,h,h0,h1=>by
  rw[mI]at h
  split at h
  ·rename_i hc
   have hc:=oc.1 hc
   have:=AJ l _ w (b*10) h (by omega) (by omega)
   rw[ao,Int.pow_succ]
   rw[show b* (10 ^ l.length*10)=b*10*10 ^ l.length by rw[Int.mul_comm (10 ^ l.length) 10,Int.mul_assoc]]
   exact this
  ·cases h
theorem sE{t:List UInt8}:∀ (n i:Nat) (v w b:Int),ib t n i v=some w→0≤v→v<b→0≤w∧w<b*10 ^ n
 |0,i,v,w,b,h,h0,h1=>by cases h;simpa using⟨h0,h1⟩
 |n+1,i,v,w,b,h,h0,h1=>by
  rw[ib]at h
  split at h
  ·rename_i hc
   have hc:=pG.1 hc.2
   have:=sE n _ _ w (b*10) h (by omega) (by omega)
   rw[Int.pow_succ]
   rw[show b* (10 ^ n*10)=b*10*10 ^ n by rw[Int.mul_comm (10 ^ n) 10,Int.mul_assoc]]
   exact this
  ·cases h
def lf(l:List UInt8):Int:=match mI l 0 with
 |some v=>v
 |none=> -1
theorem ED(K:bH cf){l:List UInt8}(hl:l.length≤4):ar cf 236 [S l] [] st=some (I (lf l),st):=by
 refine cB K.tab (F:=F236) (t:=2) rfl rfl rfl (lb rfl) (by simp[cD]) (dn _ _) 20 ?_
 unfold F236 qg qr qd qm qi qb qk qt qo
 simp only[↓pa,pb,↓reduceIte,reduceCtorEq]
 refine aX (fun k fr st=>∃ (j:Nat) (v:Int),k=l.length-j∧j≤l.length∧fr 0=S l∧fr 6=I l.length∧fr 7=I j∧fr 3=I v∧0≤v∧v<10 ^ j∧mI (l.drop j) v=mI l 0) l.length (by omega) ⟨0,0,rfl,by omega,by simp only[↓pa,↓reduceIte,reduceCtorEq],by simp only[↓pa,↓reduceIte,reduceEqDiff],by simp only[↓pa,↓reduceIte];rfl,by simp only[↓pa,↓reduceIte,reduceEqDiff],by decide,by decide,rfl⟩ ?_
 rintro k fr st ⟨j,v,rfl,hj,f0,f6,f7,f3,hv0,hv1,hQ⟩
 have hp:(10:Int) ^ j≤10 ^ 4:=by
  have:j=0∨j=1∨j=2∨j=3∨j=4:=by omega
  rcases this with rfl|rfl|rfl|rfl|rfl<;>decide
 have hp4:(10:Int) ^ 4=10000:=rfl
 simp only[↓pa,pb,aT,↓reduceIte,f6,f7]
 refine ab (fun h1=>?_) (fun h1=>?_)
 ·rw[aK h1]at hQ
  have hc:=nL l j h1
  have hdb:tU l[j]=d8 (cI l j):=by rw[hc];rfl
  rw[mI,hdb,←hc]at hQ
  simp (disch:=omega)only[↓pa,pb,↓reduceIte,reduceEqDiff,reduceCtorEq,f0,f7,h1,om K.tab]
  refine ab (fun h2=>?_) (fun h2=>?_)
  ·have hd':=pG.1 h2
   rw[ai h2]at hQ
   simp (disch:=omega)only[↓pa,pb,aT,↓reduceIte,reduceEqDiff,reduceCtorEq,f0,f6,f7,f3,h2]
   exact⟨l.length- (j+1),by omega,j+1,v*10+(cI l j-48),rfl,by omega,rfl,rfl,by omega,by rw[Int.pow_succ];omega,hQ⟩
  ·rw[ad h2]at hQ
   simp only[↓pa,pb,↓reduceIte,h2]
   rw[lf,←hQ]
 ·have:j=l.length:=by omega
  subst this
  rw[List.drop_length]at hQ
  simp only[↓pa,pb,↓reduceIte,reduceEqDiff,f3,h1]
  rw[lf,←hQ];rfl
theorem ES{y m d:Int}(h:1≤y∧1≤m∧m≤12∧1≤d∧d≤mw y m):Aa y m d=some (yi y m d):=ai h
theorem jZ{y m d:Int}(h:¬ (1≤y∧1≤m∧m≤12∧1≤d∧d≤mw y m)):Aa y m d=none:=ad h
theorem uA{l:List UInt8}(h:mI l 0=none):lf l= -1:=by rw[lf,h]
theorem q5{l:List UInt8}{v:Int}(h:mI l 0=some v):lf l=v:=by rw[lf,h]
theorem vR{l:List UInt8}(h:l.length≤4): -1≤lf l∧lf l≤9999:=by
 cases e:mI l 0 with
 |none=>rw[uA e];omega
 |some v=>
  rw[q5 e]
  have:=AJ l 0 v 1 e (by decide) (by decide)
  have hp:(10:Int) ^ l.length≤10000:=by
   have:l.length=0∨l.length=1∨l.length=2∨l.length=3∨l.length=4:=by omega
   rcases this with h|h|h|h|h<;>rw[h]<;>decide
  omega
theorem Hq{t:List UInt8}{i:Nat}(h:i+10≤t.length):fF t i=if cI t (i+4)=45∧cI t (i+7)=45 then(Aa (lf (dd t i (i+4))) (lf (dd t (i+5) (i+7))) (lf (dd t (i+8) (i+10)))).map fun n=>(n,i+10)else none:=by
 rw[fF,sD 4 i 0 (by omega),sD 2 (i+5) 0 (by omega),sD 2 (i+8) 0 (by omega)]
 cases e1:mI (dd t i (i+4)) 0 with
 |none=>
  rw[uA e1,jZ (by omega)]
  simp
 |some y=>
  rw[q5 e1]
  cases e2:mI (dd t (i+5) (i+5+2)) 0 with
  |none=>
   rw[show i+7=i+5+2 by omega,uA e2,jZ (by omega)]
   simp
  |some m=>
   rw[show i+7=i+5+2 by omega,q5 e2]
   cases e3:mI (dd t (i+8) (i+8+2)) 0 with
   |none=>
    rw[show i+10=i+8+2 by omega,uA e3,jZ (by omega)]
    simp
   |some d=>
    rw[show i+10=i+8+2 by omega,q5 e3]
theorem BX{t:List UInt8}{i:Nat}(h:t.length<i+10)(hi:i≤t.length):fF t i=none:=by
 rw[fF]
 by_cases h1:t.length<i+4
 ·rw[pu 4 i 0 h1 hi]
 by_cases h2:t.length<i+5+2
 ·by_cases h3:i+5≤t.length
  ·rw[pu 2 (i+5) 0 h2 h3]
   cases ib t 4 i 0<;>rfl
  ·have:cI t (i+4)=0:=rO (by omega)
   split
   ·rw[ad (by omega)]
   ·rfl
 by_cases h3:i+8≤t.length
 ·rw[pu 2 (i+8) 0 (by omega) h3]
  cases ib t 4 i 0<;>cases ib t 2 (i+5) 0<;>rfl
 ·have:cI t (i+7)=0:=rO (by omega)
  split
  ·rw[ad (by omega)]
  ·rfl
theorem vE{t:List UInt8}{i j:Nat}(h:j≤i+4):(dd t i j).length≤4:=by
 unfold dd
 rw[cV,bi]
 omega
theorem Jw{t:List UInt8}{i j a b:Nat}(h:i+b≤j):((dd t i j).take b).drop a=dd t (i+a) (i+b):=by
 unfold dd
 rw[List.take_drop,List.take_take,List.drop_drop,jE (by omega)]
theorem G3{t:List UInt8}{i j b:Nat}(h:i+b≤j):(dd t i j).take b=dd t i (i+b):=by
 have:=Jw (t:=t) (a:=0) h
 simpa using this
theorem G5{t:List UInt8}{i j a:Nat}:(dd t i j).drop a=dd t (i+a) j:=by
 unfold dd
 rw[List.drop_drop]
set_option maxHeartbeats 1000000 in
theorem LI(K:bH cf){t:List UInt8}{i:Nat}(hs:st.objs s=some [S t,I i])(hi:i≤t.length)(hl:t.length≤2000000)(h64:cI t i=64):
  ∃ r c',lh t I (fF t (i+1)) lB r c'∧∃ fl,ar cf 220 [.ptr s 0] [] st=some (r,cQ (bU st s c') fl):=by
 refine fx K.tab (F:=F220) rfl rfl rfl (lb rfl) (lb rfl) (by simp) hs (eJ t i) 1 ?_
 unfold F220 qr qd qm qi qc qb qk ql qf qx qs qo
 have hlt:=cO (show cI t i≠0 by rw[h64];decide)
 have e5:((i:Int)+5)=((i+5:Nat):Int):=rfl
 have e8:((i:Int)+8)=((i+8:Nat):Int):=rfl
 have e11:((i:Int)+11)=((i+11:Nat):Int):=rfl
 simp (disch:=omega)only[↓pa,pb,aj,↓reduceIte,reduceEqDiff,reduceAdd,reduceCtorEq]
 refine ab (fun h1=>?_) (fun h1=>?_)
 ·simp only[↓pa,pb,av,↓reduceIte,reduceEqDiff,h1]
  exact be (BX (by omega) (by omega)) ⟨_,rfl⟩ rfl rfl hi
 have hp:fF t (i+1)=if cI t (i+5)=45∧cI t (i+8)=45 then(Aa (lf (dd t (i+1) (i+5))) (lf (dd t (i+6) (i+8))) (lf (dd t (i+9) (i+11)))).map fun n=>(n,i+11)else none:=Hq (by omega)
 simp (disch:=omega)only[↓pa,pb,aj,↓reduceIte,reduceEqDiff,reduceAdd,dD,reduceCtorEq,h1,h64,e5]
 refine ab (fun h2=>?_) (fun h2=>?_)
 rotate_left
 ·simp only[↓pa,pb,av,↓reduceIte,reduceEqDiff,h2]
  exact be (by rw[hp,ad fun h=>h2 h.1]) ⟨_,rfl⟩ rfl rfl hi
 simp (disch:=omega)only[↓pa,pb,aj,↓reduceIte,reduceEqDiff,reduceAdd,dD,reduceCtorEq,h2,e8]
 refine ab (fun h3=>?_) (fun h3=>?_)
 rotate_left
 ·simp only[↓pa,pb,av,↓reduceIte,reduceEqDiff,h3]
  exact be (by rw[hp,ad fun h=>h3 h.2]) ⟨_,rfl⟩ rfl rfl hi
 rw[ai ⟨h2,h3⟩]at hp
 have hsl:(dd t (i+1) (i+11)).length=10:=by rw[uv (by omega)];omega
 have l1:=vE (t:=t) (i:=i+1) (j:=i+5) (by omega)
 have l2:=vE (t:=t) (i:=i+6) (j:=i+8) (by omega)
 have l3:=vE (t:=t) (i:=i+9) (j:=i+11) (by omega)
 have c1:=fun st=>ED (st:=st) K l1
 have c2:=fun st=>ED (st:=st) K l2
 have c3:=fun st=>ED (st:=st) K l3
 have r1:=vR l1
 have r2:=vR l2
 have r3:=vR l3
 simp (disch:=omega)only[↓pa,pb,aj,aT,↓reduceIte,reduceEqDiff,reduceAdd,reduceLeDiff,Int.reduceToNat,reduceCtorEq,h3,e11,iW,G3,G5,jo,c1,c2,c3]
 revert r1 r2 r3 hp
 generalize lf (dd t (i+1) (i+5))=y
 generalize lf (dd t (i+6) (i+8))=m
 generalize lf (dd t (i+9) (i+11))=d
 intro hp r1 r2 r3
 refine ab (fun k1=>?_) (fun k1=>?_)
 ·simp only[↓pa,pb,av,↓reduceIte,reduceEqDiff,k1]
  exact be (by rw[hp,jZ (by omega)];rfl) ⟨_,rfl⟩ rfl rfl (by omega)
 simp only[↓pa,pb,↓reduceIte,reduceEqDiff,k1]
 refine ab (fun k2=>?_) (fun k2=>?_)
 ·simp only[↓pa,pb,av,↓reduceIte,reduceEqDiff,k2]
  exact be (by rw[hp,jZ (by omega)];rfl) ⟨_,rfl⟩ rfl rfl (by omega)
 simp only[↓pa,pb,↓reduceIte,reduceEqDiff,k2]
 refine ab (fun k3=>?_) (fun k3=>?_)
 ·simp only[↓pa,pb,av,↓reduceIte,reduceEqDiff,k3]
  exact be (by rw[hp,jZ (by omega)];rfl) ⟨_,rfl⟩ rfl rfl (by omega)
 simp only[↓pa,pb,↓reduceIte,reduceEqDiff,k3]
 refine ab (fun k4=>?_) (fun k4=>?_)
 ·simp only[↓pa,pb,av,↓reduceIte,reduceEqDiff,k4]
  exact be (by rw[hp,jZ (by omega)];rfl) ⟨_,rfl⟩ rfl rfl (by omega)
 simp only[↓pa,pb,↓reduceIte,reduceEqDiff,k4,C9 K]
 refine ab (fun k5=>?_) (fun k5=>?_)
 ·simp only[↓pa,pb,av,↓reduceIte,reduceEqDiff,k5]
  exact be (by rw[hp,jZ (by omega)];rfl) ⟨_,rfl⟩ rfl rfl (by omega)
 have hr:=oR y m
 simp only[↓pa,pb,av,↓reduceIte,reduceEqDiff,k5,IE K (y:=y) (m:=m) (d:=d) (by omega) (by omega) (by omega) (by omega) (by omega) (by omega)]
 exact dq (by rw[hp,ES (by omega)];rfl) rfl rfl (by omega)
def eu:PV:= .agg [I (-1),I 0,I 0,S [],.list 0 [] .no,.list 0 [] .no]
theorem Lz(K:bH cf){t:List UInt8}{i:Nat}{b:Bool}(hs:st.objs s=some [S t,I i,.bool b]):
  ∃ r c',(r=eu∧c'=[S t,I i,.bool true])∧∃ fl,ar cf 209 [.ptr s 0] [] st=some (r,cQ (bU st s c') fl):=by
 refine fx K.tab (F:=F209) (Q:=fun r c'=>r=eu∧c'=[S t,I i,.bool true]) rfl rfl rfl (lb rfl) (lb rfl) (by simp) hs (fi t i b) 1 ?_
 unfold F209 qr qm qf qs qo qe qN
 simp only[↓pa,↓bM,pb,aj,av,↓reduceIte,reduceEqDiff,reduceAdd,reduceLeDiff,reduceCtorEq]
 rfl
theorem dA(K:bH cf){t:List UInt8}{i:Nat}{b:Bool}(hs:st.objs s=some [S t,I i,.bool b])
  (k:∀ fl,A (mk eu (cQ (bU st s [S t,I i,.bool true]) fl))):cT (ar cf 209 [.ptr s 0] [] st) mk A:=by
 refine IQ (Lz K hs) ?_
 rintro r c' fl ⟨rfl,rfl⟩
 exact k fl
theorem ID(K:bH cf){t:List UInt8}{i n:Nat}{b:Bool}(hn:n≤4)(hs:st.objs s=some [S t,I i,.bool b])(hi:i≤t.length)(hl:t.length≤2000000):
  ∃ r c',mP t I (if b then none else(ib t n i 0).map fun v=>(v,i+n)) lB r c'∧∃ fl,ar cf 232 [.ptr s 0,I n] [] st=some (r,cQ (bU st s c') fl):=by
 refine fx K.tab (F:=F232) rfl rfl rfl (lb rfl) (lb rfl) (by simp[aQ]) hs (fi t i b) 20 ?_
 unfold F232 qr qd qm qi qb qk ql qf qx qs qo qe
 simp only[↓pa]
 refine aX (fun k fr st=>∃ (q:Nat) (v:Int),k=n-q∧q≤n∧i+q≤t.length∧fr 0= .ptr 0 0∧fr 1=I n∧fr 6=I q∧fr 5=I v∧st.objs 0=some [S t,I (i+q:Nat),.bool b]∧0≤v∧v<10 ^ q∧ib t (n-q) (i+q) v=ib t n i 0) n (by omega) ⟨0,0,rfl,by omega,by omega,by simp only[↓pa,↓reduceIte,reduceCtorEq],by simp only[↓pa,↓reduceIte,reduceEqDiff],by simp only[↓pa,↓reduceIte];rfl,by simp only[↓pa,↓reduceIte,reduceEqDiff],by simp only[pb];rfl,by decide,by decide,rfl⟩ ?_
 rintro k fr st ⟨q,v,rfl,hq,hiq,f0,f1,f6,f5,o0,hv0,hv1,hQ⟩
 have hp:(10:Int) ^ q≤10 ^ 4:=by
  have:q=0∨q=1∨q=2∨q=3∨q=4:=by omega
  rcases this with rfl|rfl|rfl|rfl|rfl<;>decide
 have hp4:(10:Int) ^ 4=10000:=rfl
 simp only[↓pa,pb,aT,↓reduceIte,reduceEqDiff,f1,f6]
 refine ab (fun h1=>?_) (fun h1=>?_)
 rotate_left
 ·obtain rfl:q=n:=by omega
  rw[Nat.sub_self]at hQ
  simp only[↓pa,pb,av,↓reduceIte,reduceEqDiff,f5,o0,h1]
  rw[←hQ]
  cases b with
  |true=>exact aN (dm:=lB) rfl ⟨_,rfl⟩ rfl hiq
  |false=>exact dz (dm:=lB) rfl rfl rfl hiq
 obtain⟨m,hm⟩:∃ m,n-q=m+1:=⟨n-q-1,by omega⟩
 rw[hm,ib]at hQ
 simp only[↓pa,pb,aj,aT,↓reduceIte,reduceEqDiff,reduceAdd,reduceCtorEq,f0,o0,h1]
 refine ab (fun h2=>?_) (fun h2=>?_)
 ·rw[ad fun h=>by omega]at hQ
  simp only[↓pa,pb,aj,av,↓reduceIte,reduceEqDiff,reduceAdd,reduceLeDiff,reduceCtorEq,f0,o0,h2]
  refine aN (dm:=lB) ?_ ⟨_,rfl⟩ rfl hiq
  rw[←hQ]
  cases b<;>rfl
 simp (disch:=omega)only[↓pa,pb,aj,↓reduceIte,reduceEqDiff,reduceAdd,reduceCtorEq,f0,o0,h2,lF K.tab]
 have h2':i+q<t.length:=by omega
 refine ab (fun h3=>?_) (fun h3=>?_)
 ·rw[ai ⟨h2',h3⟩]at hQ
  have hd':=pG.1 h3
  simp (disch:=omega)only[↓pa,pb,aj,aT,↓reduceIte,reduceEqDiff,reduceAdd,reduceLeDiff,reduceCtorEq,f0,f1,f6,f5,o0,h3]
  exact⟨n- (q+1),by omega,q+1,v*10+(cI t (i+q) -48),rfl,by omega,by omega,rfl,rfl,rfl,by omega,by rw[Int.pow_succ];omega,by rw[show n- (q+1)=m by omega];exact hQ⟩
 ·rw[ad fun h=>h3 h.2]at hQ
  simp only[↓pa,pb,aj,av,↓reduceIte,reduceAdd,reduceLeDiff,reduceCtorEq,f0,o0,h3]
  refine aN (dm:=lB) ?_ ⟨_,rfl⟩ rfl hiq
  rw[←hQ]
  cases b<;>rfl
theorem jt(K:bH cf){t:List UInt8}{i n:Nat}{b:Bool}(hn:n≤4)(hs:st.objs s=some [S t,I i,.bool b])(hi:i≤t.length)(hl:t.length≤2000000)
  (k1:∀ v fl,b=false→ib t n i 0=some v→i+n≤t.length→A (mk (I v) (cQ (bU st s [S t,I (i+n:Nat),.bool false]) fl)))
  (k2:∀ (v:Int) j fl,(b=true∨ib t n i 0=none)→j≤t.length→A (mk (I v) (cQ (bU st s [S t,I (j:Nat),.bool true]) fl))):cT (ar cf 232 [.ptr s 0,I n] [] st) mk A:=by
 refine gI (ID K hn hs hi hl) ?_ ?_
 ·intro v j fl h1 h2
  cases b with
  |true=>cases h1
  |false=>
   simp only[cA,if_false,ae,bE]at h1
   obtain⟨v',h1,rfl,rfl⟩:=h1
   exact k1 v' fl rfl h1 h2
 ·rintro p j fl h1 ⟨v,rfl⟩ h3
  refine k2 v j fl ?_ h3
  cases b with
  |true=>exact .inl rfl
  |false=>
   simp only[cA,if_false,dN]at h1
   exact .inr h1
set_option maxHeartbeats 2000000 in
theorem Ko(K:bH cf){t:List UInt8}{i:Nat}(hs:st.objs s=some [S t,I i,.bool false])(hi:i≤t.length)(hl:t.length≤2000000):
  ∃ r c',mP t VB ((fF t i).map fun q=>(.mk 4 q.1 0 [] [] [],q.2)) dY r c'∧∃ fl,ar cf 212 [.ptr s 0] [] st=some (r,cQ (bU st s c') fl):=by
 refine fx K.tab (F:=F212) rfl rfl rfl (lb rfl) (lb rfl) (by simp) hs (fi t i _) 20 ?_
 unfold F212 qr qd qm qi qb qk ql qf qt qu qx qs qo qN
 simp only[↓pa,pb,↓reduceIte,reduceCtorEq]
 refine jt K (t:=t) (i:=i) (n:=4) (b:=false) (by decide) (by simp only[pb,↓reduceIte,reduceCtorEq]) hi hl (fun y fl _ hy hiy=>?_) (fun v j fl h hj=>?_)
 rotate_left
 ·have hy:ib t 4 i 0=none:=by rcases h with h|h;cases h;exact h
  have hno:(fF t i).map (fun q=>(V.mk 4 q.1 0 [] [] [],q.2))=none:=by rw[fF,hy];rfl
  simp only[↓pa,pb,aj,↓reduceIte,reduceEqDiff,reduceAdd,reduceLeDiff,reduceCtorEq]
  refine jt K (t:=t) (n:=2) (b:=true) (by decide) (by simp only[pb,↓reduceIte]<;>rfl) (by assumption) hl (fun _ _ h=>by cases h) (fun _ _ _ _ _=>?_)
  simp only[↓pa,pb,aj,↓reduceIte,reduceEqDiff,reduceAdd,reduceLeDiff,reduceCtorEq]
  refine jt K (t:=t) (n:=2) (b:=true) (by decide) (by simp only[pb,↓reduceIte]<;>rfl) (by assumption) hl (fun _ _ h=>by cases h) (fun _ _ _ _ _=>?_)
  simp only[↓pa,pb,aj,↓reduceIte,reduceEqDiff,reduceAdd,reduceCtorEq]
  refine dA K (t:=t) (by simp only[pb,aj,↓reduceIte]<;>rfl) fun fl=>?_
  simp only[↓pa,pb,aj,av,↓reduceIte,reduceEqDiff,reduceAdd,reduceLeDiff,reduceCtorEq,eu]
  exact aN (dm:=dY) hno ⟨_,rfl,rfl,by simp only[av,am],by simp only[av]⟩ rfl (by omega)
 simp only[↓pa,pb,aj,↓reduceIte,reduceEqDiff,reduceAdd,reduceCtorEq]
 refine(nY K.tab (t:=t) (i:=i+4) (x:=[45]) (by simp only[pb,aj,↓reduceIte]) hiy hl (by decide)).2 ?_
 rw[ti (by decide)]
 refine ab (fun h4=>?_) (fun h4=>?_)
 rotate_left
 ·have hno:(fF t i).map (fun q=>(V.mk 4 q.1 0 [] [] [],q.2))=none:=by
   rw[fF]
   split
   ·rw[ad fun h=>h4 (decide_eq_true h.1)];rfl
   ·rfl
  simp only[↓pa,pb,aj,↓reduceIte,reduceEqDiff,reduceAdd,reduceLeDiff,reduceCtorEq]
  refine jt K (t:=t) (n:=2) (b:=true) (by decide) (by simp only[pb,↓reduceIte]<;>rfl) (by assumption) hl (fun _ _ h=>by cases h) (fun _ _ _ _ _=>?_)
  simp only[↓pa,pb,aj,↓reduceIte,reduceEqDiff,reduceAdd,reduceLeDiff,reduceCtorEq]
  refine jt K (t:=t) (n:=2) (b:=true) (by decide) (by simp only[pb,↓reduceIte]<;>rfl) (by assumption) hl (fun _ _ h=>by cases h) (fun _ _ _ _ _=>?_)
  simp only[↓pa,pb,aj,↓reduceIte,reduceEqDiff,reduceAdd,reduceCtorEq]
  refine dA K (t:=t) (by simp only[pb,aj,↓reduceIte]<;>rfl) fun fl=>?_
  simp only[↓pa,pb,aj,av,↓reduceIte,reduceEqDiff,reduceAdd,reduceLeDiff,reduceCtorEq,eu]
  exact aN (dm:=dY) hno ⟨_,rfl,rfl,by simp only[av,am],by simp only[av]⟩ rfl (by omega)
 have h4':cI t (i+4)=45:=of_decide_eq_true h4
 have hi4:=cO (show cI t (i+4)≠0 by rw[h4'];decide)
 simp only[↓pa,pb,aj,↓reduceIte,reduceEqDiff,reduceAdd,reduceLeDiff,reduceCtorEq,ao,aV]
 refine jt K (t:=t) (i:=i+4+1) (n:=2) (b:=false) (by decide) (by simp only[pb,↓reduceIte]) hi4 hl (fun m fl _ hm him=>?_) (fun v j fl h hj=>?_)
 rotate_left
 ·have hm:ib t 2 (i+5) 0=none:=by rcases h with h|h;cases h;exact h
  have hno:(fF t i).map (fun q=>(V.mk 4 q.1 0 [] [] [],q.2))=none:=by rw[fF,hy,hm];rfl
  simp only[↓pa,pb,aj,↓reduceIte,reduceEqDiff,reduceAdd,reduceLeDiff,reduceCtorEq]
  refine jt K (t:=t) (n:=2) (b:=true) (by decide) (by simp only[pb,↓reduceIte]<;>rfl) (by assumption) hl (fun _ _ h=>by cases h) (fun _ _ _ _ _=>?_)
  simp only[↓pa,pb,aj,↓reduceIte,reduceEqDiff,reduceAdd,reduceCtorEq]
  refine dA K (t:=t) (by simp only[pb,aj,↓reduceIte]<;>rfl) fun fl=>?_
  simp only[↓pa,pb,aj,av,↓reduceIte,reduceEqDiff,reduceAdd,reduceLeDiff,reduceCtorEq,eu]
  exact aN (dm:=dY) hno ⟨_,rfl,rfl,by simp only[av,am],by simp only[av]⟩ rfl (by omega)
 simp only[↓pa,pb,aj,↓reduceIte,reduceEqDiff,reduceAdd,reduceCtorEq]
 refine(nY K.tab (t:=t) (i:=i+4+1+2) (x:=[45]) (by simp only[pb,aj,↓reduceIte]) him hl (by decide)).2 ?_
 rw[ti (by decide)]
 refine ab (fun h7=>?_) (fun h7=>?_)
 rotate_left
 ·have hno:(fF t i).map (fun q=>(V.mk 4 q.1 0 [] [] [],q.2))=none:=by
   rw[fF]
   split
   ·rw[ad fun h=>h7 (decide_eq_true h.2)];rfl
   ·rfl
  simp only[↓pa,pb,aj,↓reduceIte,reduceEqDiff,reduceAdd,reduceLeDiff,reduceCtorEq]
  refine jt K (t:=t) (n:=2) (b:=true) (by decide) (by simp only[pb,↓reduceIte]<;>rfl) (by assumption) hl (fun _ _ h=>by cases h) (fun _ _ _ _ _=>?_)
  simp only[↓pa,pb,aj,↓reduceIte,reduceEqDiff,reduceAdd,reduceCtorEq]
  refine dA K (t:=t) (by simp only[pb,aj,↓reduceIte]<;>rfl) fun fl=>?_
  simp only[↓pa,pb,aj,av,↓reduceIte,reduceEqDiff,reduceAdd,reduceLeDiff,reduceCtorEq,eu]
  exact aN (dm:=dY) hno ⟨_,rfl,rfl,by simp only[av,am],by simp only[av]⟩ rfl (by omega)
 have h7':cI t (i+7)=45:=of_decide_eq_true h7
 have hi7:=cO (show cI t (i+7)≠0 by rw[h7'];decide)
 simp only[↓pa,pb,aj,↓reduceIte,reduceEqDiff,reduceAdd,reduceLeDiff,reduceCtorEq,ao,aV]
 refine jt K (t:=t) (i:=i+4+1+2+1) (n:=2) (b:=false) (by decide) (by simp only[pb,↓reduceIte]) hi7 hl (fun d fl _ hd hid=>?_) (fun v j fl h hj=>?_)
 rotate_left
 ·have hd:ib t 2 (i+8) 0=none:=by rcases h with h|h;cases h;exact h
  have hno:(fF t i).map (fun q=>(V.mk 4 q.1 0 [] [] [],q.2))=none:=by
   rw[fF,hd]
   cases ib t 4 i 0<;>cases ib t 2 (i+5) 0<;>rfl
  simp only[↓pa,pb,aj,↓reduceIte,reduceEqDiff,reduceAdd,reduceCtorEq]
  refine dA K (t:=t) (by simp only[pb,aj,↓reduceIte]<;>rfl) fun fl=>?_
  simp only[↓pa,pb,aj,av,↓reduceIte,reduceEqDiff,reduceAdd,reduceLeDiff,reduceCtorEq,eu]
  exact aN (dm:=dY) hno ⟨_,rfl,rfl,by simp only[av,am],by simp only[av]⟩ rfl (by omega)
 have hm':ib t 2 (i+5) 0=some m:=hm
 have hd':ib t 2 (i+8) 0=some d:=hd
 have hp:(fF t i).map (fun q=>(V.mk 4 q.1 0 [] [] [],q.2))=(Aa y m d).map fun n=>(V.mk 4 n 0 [] [] [],i+10):=by
  rw[fF,hy,hm',hd']
  simp only
  rw[ai ⟨h4',h7'⟩]
  cases Aa y m d<;>rfl
 have r1:=sE 4 i 0 y 1 hy (by decide) (by decide)
 have r2:=sE 2 (i+5) 0 m 1 hm' (by decide) (by decide)
 have r3:=sE 2 (i+8) 0 d 1 hd' (by decide) (by decide)
 have e4:(1:Int) *10 ^ 4=10000:=rfl
 have e2:(1:Int) *10 ^ 2=100:=rfl
 rw[e4]at r1
 rw[e2]at r2 r3
 simp only[↓pa,pb,aj,↓reduceIte,reduceEqDiff,reduceAdd,reduceCtorEq]
 refine ab (fun k1=>?_) (fun k1=>?_)
 ·have hno:(fF t i).map (fun q=>(V.mk 4 q.1 0 [] [] [],q.2))=none:=by rw[hp,jZ (by omega),eQ]
  simp only[↓pa,pb,↓reduceIte,reduceEqDiff,reduceCtorEq,k1]
  refine dA K (t:=t) (by simp only[pb,aj,↓reduceIte]<;>rfl) fun fl=>?_
  simp only[↓pa,pb,aj,av,↓reduceIte,reduceEqDiff,reduceAdd,reduceLeDiff,reduceCtorEq,eu]
  exact aN (dm:=dY) hno ⟨_,rfl,rfl,by simp only[av,am],by simp only[av]⟩ rfl (by omega)
 simp only[↓pa,pb,↓reduceIte,reduceEqDiff,k1]
 refine ab (fun k2=>?_) (fun k2=>?_)
 ·have hno:(fF t i).map (fun q=>(V.mk 4 q.1 0 [] [] [],q.2))=none:=by rw[hp,jZ (by omega),eQ]
  simp only[↓pa,pb,↓reduceIte,reduceEqDiff,reduceCtorEq,k2]
  refine dA K (t:=t) (by simp only[pb,aj,↓reduceIte]<;>rfl) fun fl=>?_
  simp only[↓pa,pb,aj,av,↓reduceIte,reduceEqDiff,reduceAdd,reduceLeDiff,reduceCtorEq,eu]
  exact aN (dm:=dY) hno ⟨_,rfl,rfl,by simp only[av,am],by simp only[av]⟩ rfl (by omega)
 simp only[↓pa,pb,↓reduceIte,reduceEqDiff,k2]
 refine ab (fun k3=>?_) (fun k3=>?_)
 ·have hno:(fF t i).map (fun q=>(V.mk 4 q.1 0 [] [] [],q.2))=none:=by rw[hp,jZ (by omega),eQ]
  simp only[↓pa,pb,↓reduceIte,reduceEqDiff,reduceCtorEq,k3]
  refine dA K (t:=t) (by simp only[pb,aj,↓reduceIte]<;>rfl) fun fl=>?_
  simp only[↓pa,pb,aj,av,↓reduceIte,reduceEqDiff,reduceAdd,reduceLeDiff,reduceCtorEq,eu]
  exact aN (dm:=dY) hno ⟨_,rfl,rfl,by simp only[av,am],by simp only[av]⟩ rfl (by omega)
 simp only[↓pa,pb,↓reduceIte,reduceEqDiff,k3]
 refine ab (fun k4=>?_) (fun k4=>?_)
 ·have hno:(fF t i).map (fun q=>(V.mk 4 q.1 0 [] [] [],q.2))=none:=by rw[hp,jZ (by omega),eQ]
  simp only[↓pa,pb,↓reduceIte,reduceEqDiff,reduceCtorEq,k4]
  refine dA K (t:=t) (by simp only[pb,aj,↓reduceIte]<;>rfl) fun fl=>?_
  simp only[↓pa,pb,aj,av,↓reduceIte,reduceEqDiff,reduceAdd,reduceLeDiff,reduceCtorEq,eu]
  exact aN (dm:=dY) hno ⟨_,rfl,rfl,by simp only[av,am],by simp only[av]⟩ rfl (by omega)
 have hmm:=fun st=>Bq (st:=st) K y (m:=m) (by omega) (by omega)
 simp only[↓pa,pb,↓reduceIte,reduceEqDiff,k4,hmm]
 refine ab (fun k5=>?_) (fun k5=>?_)
 ·have hno:(fF t i).map (fun q=>(V.mk 4 q.1 0 [] [] [],q.2))=none:=by rw[hp,jZ (by omega),eQ]
  simp only[↓pa,pb,↓reduceIte,reduceCtorEq,k5]
  refine dA K (t:=t) (by simp only[pb,aj,↓reduceIte]<;>rfl) fun fl=>?_
  simp only[↓pa,pb,aj,av,↓reduceIte,reduceEqDiff,reduceAdd,reduceLeDiff,reduceCtorEq,eu]
  exact aN (dm:=dY) hno ⟨_,rfl,rfl,by simp only[av,am],by simp only[av]⟩ rfl (by omega)
 have hr:=oR y m
 rw[ES (by omega)]at hp
 have hdd:=fun st=>LH (st:=st) K (y:=y) (by omega) (by omega)
 have q1:=lP (x:=y-1) (d:=4) (by omega) (by decide)
 have q2:=lP (x:=y-1) (d:=100) (by omega) (by decide)
 have q3:=lP (x:=y-1) (d:=400) (by omega) (by decide)
 have hdn:yi y m d=(y-1) *365+(y-1).tdiv 4- (y-1).tdiv 100+(y-1).tdiv 400+d-1+nD y (m.toNat-1):=by unfold yi;omega
 simp (disch:=omega)only[↓pa,pb,↓reduceIte,reduceEqDiff,k5,hdd]
 revert q1 q2 q3 hdn
 generalize (y-1).tdiv 4=a1
 generalize (y-1).tdiv 100=a2
 generalize (y-1).tdiv 400=a3
 intro q1 q2 q3 hdn
 refine aX (fun k fr st=>∃ j:Int,k=(m-j).toNat∧1≤j∧j≤m∧fr 0= .ptr 0 0∧fr 2= .ptr 2 0∧fr 3=I y∧fr 4=I m∧fr 7=I j∧fr 6=I ((y-1) *365+a1-a2+a3+d-1+nD y (j.toNat-1))∧st.objs 0=some [S t,I (i+10:Nat),.bool false]∧st.objs 2=some [I 0,I 0,I 0,S [],.list 0 [] .nil,.list 0 [] .nil]) (m-1).toNat (by omega) ⟨1,rfl,by omega,by omega,by simp only[↓pa,pb,↓reduceIte,reduceCtorEq],by simp only[↓pa,↓reduceIte,reduceEqDiff],by simp only[↓pa,↓reduceIte,reduceEqDiff],by simp only[↓pa,↓reduceIte,reduceEqDiff],by simp only[↓pa,↓reduceIte],by simp only[↓pa,↓reduceIte,reduceEqDiff,Int.reduceToNat];simp[nD],by simp only[pb,aj,↓reduceIte],by simp only[pb,aj,↓reduceIte,reduceCtorEq]⟩ ?_
 rintro k fr st ⟨j,rfl,hj1,hj2,f0,f2,f3,f4,f7,f6,o0,o2⟩
 have hs:=vS y (j.toNat-1)
 have hr:=oR y j
 have hms:=fun st=>Bq (st:=st) K y (m:=j) (by omega) (by omega)
 simp only[↓pa,pb,↓reduceIte,reduceEqDiff,f4,f7]
 refine ab (fun h1=>?_) (fun h1=>?_)
 ·simp (disch:=omega)only[↓pa,pb,↓reduceIte,reduceEqDiff,reduceCtorEq,f0,f2,f3,f4,f7,f6,o0,o2,h1,hms]
  refine⟨(m- (j+1)).toNat,by omega,j+1,rfl,by omega,by omega,rfl,?_⟩
  rw[←yO y hj1]
  simp only[Int.add_assoc]
 ·obtain rfl:j=m:=by omega
  simp only[↓pa,↓bM,pb,aj,av,↓reduceIte,reduceEqDiff,reduceAdd,reduceLeDiff,reduceCtorEq,f2,f6,o0,o2,h1]
  refine dz hp ?_ rfl (by omega)
  rw[hdn];rfl
theorem fh(K:bH cf){t:List UInt8}{i:Nat}{c:UInt8}(n:Int)(hc:(c.toNat:Int)=n)(hn:n≠0)(hs:st.objs s=some [S t,I i])(hi:i≤t.length)(hl:t.length≤2000000):
  cT (ar cf 226 [.ptr s 0,S [c]] [] st) mk A↔jD (cI t i=n) (dC A (mk (.bool true) (bU st s [S t,I (i+1:Nat)]))) (dC A (mk (.bool false) st)):=by
 rw[tu K.tab hs hi hl (show([c]:List UInt8).length≤2000000 by simp),ti (by rintro rfl;exact hn hc.symm),hc]
 simp only[decide_eq_true_eq]
 rfl
theorem dU(K:bH cf){t:List UInt8}{i:Nat}{c:UInt8}(n:Int)(hc:(c.toNat:Int)=n)(hn:n≠0)(hs:st.objs s=some [S t,I i,.bool false])(hi:i≤t.length)(hl:t.length≤2000000):
  cT (ar cf 210 [.ptr s 0,S [c]] [] st) mk A↔jD (cI t i=n) (dC A (mk (.bool true) (bU st s [S t,I (i+1:Nat),.bool false]))) (dC A (mk (.bool false) st)):=by
 rw[nY K.tab hs hi hl (show([c]:List UInt8).length≤2000000 by simp),ti (by rintro rfl;exact hn hc.symm),hc]
 simp only[decide_eq_true_eq]
 rfl
set_option maxHeartbeats 2000000 in
theorem Kb(K:bH cf){t:List UInt8}{i:Nat}(hs:st.objs s=some [S t,I i])(hi:i≤t.length)(hl:t.length≤2000000)(h40:cI t i=40):
  ∃ r c',lh t VA (fG t (i+1)) dY r c'∧∃ fl,ar cf 222 [.ptr s 0] [] st=some (r,cQ (bU st s c') fl):=by
 refine fx K.tab (F:=F222) rfl rfl rfl (lb rfl) (lb rfl) (by simp) hs (eJ t i) 1 ?_
 unfold F222 qr qd qm qc qt qx qs qo qN
 have hlt:=cO (show cI t i≠0 by rw[h40];decide)
 simp only[↓pa,pb,↓reduceIte,reduceCtorEq]
 refine(fh K (t:=t) (i:=i) 40 rfl (by decide) (by simp only[pb,↓reduceIte,reduceCtorEq]) hi hl).2 ?_
 simp only[↓pa,pb,↓reduceIte,reduceCtorEq,h40]
 refine pT K (t:=t) (i:=i+1) (by simp only[pb,↓reduceIte]) hlt hl (fun a j fl ha hj=>?_) (fun n j fl ha hj=>?_)
 rotate_left
 ·have hno:fG t (i+1)=none:=by rw[fG,ha]
  simp only[↓pa,pb,ah,af,↓reduceIte,reduceEqDiff,reduceCtorEq]
  refine(fh K (t:=t) (i:=j) 32 rfl (by decide) (by simp only[pb,aj,↓reduceIte]) hj hl).2 ?_
  refine ab (fun h=>?_) (fun h=>?_)
  ·have:=cO (show cI t j≠0 by rw[h];decide)
   simp only[↓pa,↓bM,pb,aj,av,↓reduceIte,reduceEqDiff,reduceAdd,reduceLeDiff,reduceCtorEq]
   exact be hno ⟨_,rfl,rfl,by simp only[av,am],by simp only[av]⟩ rfl rfl (by omega)
  ·
   simp only[↓pa,↓bM,pb,aj,av,↓reduceIte,reduceEqDiff,reduceAdd,reduceLeDiff,reduceCtorEq]
   exact be hno ⟨_,rfl,rfl,by simp only[av,am],by simp only[av]⟩ rfl rfl (by omega)
 simp only[↓pa,pb,ah,af,↓reduceIte,reduceEqDiff,reduceCtorEq]
 refine(fh K (t:=t) (i:=j) 32 rfl (by decide) (by simp only[pb,aj,↓reduceIte]) hj hl).2 ?_
 refine ab (fun h32=>?_) (fun h32=>?_)
 rotate_left
 ·have hno:fG t (i+1)=none:=by rw[fG,ha];simp only;rw[ad h32]
  simp only[↓pa,↓bM,pb,aj,av,↓reduceIte,reduceEqDiff,reduceAdd,reduceLeDiff,reduceCtorEq]
  exact be hno ⟨_,rfl,rfl,by simp only[av,am],by simp only[av]⟩ rfl rfl (by omega)
 have hjl:=cO (show cI t j≠0 by rw[h32];decide)
 simp only[↓pa,pb,↓reduceIte,reduceEqDiff,reduceCtorEq]
 refine pT K (t:=t) (i:=j+1) (by simp only[pb,↓reduceIte]) hjl hl (fun b k fl hb hk=>?_) (fun n k fl hb hk=>?_)
 rotate_left
 ·have hno:fG t (i+1)=none:=by rw[fG,ha];simp only;rw[ai h32,hb]
  simp only[↓pa,↓bM,pb,aj,av,ah,af,↓reduceIte,reduceEqDiff,reduceAdd,reduceLeDiff,reduceCtorEq]
  exact be hno ⟨_,rfl,rfl,by simp only[av,am],by simp only[av]⟩ rfl rfl (by omega)
 have hp:fG t (i+1)=if cI t k=41∧nR a=false∧nR b=false then some (.mk 5 a b [] [] [],k+1)else none:=by rw[fG,ha];simp only;rw[ai h32,hb]
 simp only[↓pa,pb,ah,af,↓reduceIte,reduceEqDiff,reduceCtorEq]
 refine(fh K (t:=t) (i:=k) 41 rfl (by decide) (by simp only[pb,aj,↓reduceIte]) hk hl).2 ?_
 refine ab (fun h41=>?_) (fun h41=>?_)
 rotate_left
 ·have hno:fG t (i+1)=none:=by rw[hp,ad fun h=>h41 h.1]
  simp only[↓pa,↓bM,pb,aj,av,↓reduceIte,reduceEqDiff,reduceAdd,reduceLeDiff,reduceCtorEq]
  exact be hno ⟨_,rfl,rfl,by simp only[av,am],by simp only[av]⟩ rfl rfl (by omega)
 have hkl:=cO (show cI t k≠0 by rw[h41];decide)
 have hbig:∀ x,nR x=true↔(x< -1000000∨1000000<x):=fun x=>by simp[nR]
 simp only[↓pa,pb,↓reduceIte,reduceEqDiff]
 refine ab (fun b1=>?_) (fun b1=>?_)
 ·have hno:fG t (i+1)=none:=by rw[hp,ad fun h=>by rw[(hbig a).2 (.inl b1)]at h;simp at h]
  simp only[↓pa,↓bM,pb,aj,↓reduceIte,reduceEqDiff,reduceAdd,reduceLeDiff,reduceCtorEq,b1]
  simp only[↓pa,pb,aj,av,↓reduceIte,reduceEqDiff,reduceAdd,reduceLeDiff,reduceCtorEq]
  exact be hno ⟨_,rfl,rfl,by simp only[av,am],by simp only[av]⟩ rfl rfl (by omega)
 simp only[↓pa,pb,↓reduceIte,reduceEqDiff,b1]
 refine ab (fun b2=>?_) (fun b2=>?_)
 ·have hno:fG t (i+1)=none:=by rw[hp,ad fun h=>by rw[(hbig a).2 (.inr b2)]at h;simp at h]
  simp only[↓pa,↓bM,pb,aj,↓reduceIte,reduceEqDiff,reduceAdd,reduceLeDiff,reduceCtorEq,b2]
  simp only[↓pa,pb,aj,av,↓reduceIte,reduceEqDiff,reduceAdd,reduceLeDiff,reduceCtorEq]
  exact be hno ⟨_,rfl,rfl,by simp only[av,am],by simp only[av]⟩ rfl rfl (by omega)
 simp only[↓pa,pb,↓reduceIte,reduceEqDiff,b2]
 refine ab (fun b3=>?_) (fun b3=>?_)
 ·have hno:fG t (i+1)=none:=by rw[hp,ad fun h=>by rw[(hbig b).2 (.inl b3)]at h;simp at h]
  simp only[↓pa,↓bM,pb,aj,↓reduceIte,reduceEqDiff,reduceAdd,reduceLeDiff,reduceCtorEq,b3]
  simp only[↓pa,pb,aj,av,↓reduceIte,reduceEqDiff,reduceAdd,reduceLeDiff,reduceCtorEq]
  exact be hno ⟨_,rfl,rfl,by simp only[av,am],by simp only[av]⟩ rfl rfl (by omega)
 simp only[↓pa,pb,↓reduceIte,reduceEqDiff,b3]
 refine ab (fun b4=>?_) (fun b4=>?_)
 ·have hno:fG t (i+1)=none:=by rw[hp,ad fun h=>by rw[(hbig b).2 (.inr b4)]at h;simp at h]
  simp only[↓pa,↓bM,pb,aj,av,↓reduceIte,reduceEqDiff,reduceAdd,reduceLeDiff,reduceCtorEq,b4]
  exact be hno ⟨_,rfl,rfl,by simp only[av,am],by simp only[av]⟩ rfl rfl (by omega)
 ·have ba:nR a=false:=by cases h:nR a;rfl;exact absurd ((hbig a).1 h) (by omega)
  have bb:nR b=false:=by cases h:nR b;rfl;exact absurd ((hbig b).1 h) (by omega)
  simp only[↓pa,↓bM,pb,aj,av,↓reduceIte,reduceEqDiff,reduceAdd,reduceLeDiff,reduceCtorEq,b4]
  exact dq (by rw[hp,ai ⟨h41,ba,bb⟩]) rfl rfl hkl
theorem dJ{a b c d e f:PV}{vs:List PV}(h:vs.length=6):putCells [a,b,c,d,e,f] 0 vs=vs:=ke (by rw[h];rfl)
theorem em{vs:List PV}(h:vs.length=6):vs.take 6=vs:=bC (by omega)
theorem D3{v:V}:bT v.ca 0 1 false=some (I v.kind):=by cases v;rfl
theorem D2{v:V}:bT v.cb 0 1 false=some (I v.kind):=by cases v;rfl
theorem vd{t:List UInt8}{k:Int}{i j:Nat}{v:V}(hi:i≤t.length)(h:dP t k i=some (v,j)):v.kind=k∧i≤j∧j≤t.length:=by
 unfold dP at h
 simp only[ae,bE]at h
 obtain⟨⟨n,j'⟩,h1,rfl,rfl⟩:=h
 exact⟨rfl,KV hi h1⟩
theorem AD{t:List UInt8}{i j:Nat}{v:V}(h:ig t i=some (v,j)):(v.kind=9∧cI t i=101∧dP t 9 (i+1)=some (v,j)∨v.kind=8∧cI t i=110∧dP t 8 (i+1)=some (v,j))∧i<j∧j≤t.length:=by
 unfold ig at h
 split at h
 ·rename_i hc
  have hlt:=cO (show cI t i≠0 by rw[hc];decide)
  obtain⟨h1,h2,h3⟩:=vd hlt h
  exact⟨.inl ⟨h1,hc,h⟩,h2,h3⟩
 ·split at h
  ·rename_i hc
   have hlt:=cO (show cI t i≠0 by rw[hc];decide)
   obtain⟨h1,h2,h3⟩:=vd hlt h
   exact⟨.inr ⟨h1,hc,h⟩,h2,h3⟩
  ·cases h
theorem cj{vs:List V}{v:V}:(vs++[v]).length=vs.length+1:=by simp
theorem CE{t:List UInt8}{n j:Nat}{node:Bool}{acc:List V}(hn:0<n):kV t n node j acc=
  if cI t j=(if node then 110 else 101)then match dP t (if node then 8 else 9) (j+1)with
   |some (v,j)=>
    if node=true∧cI t j=62 then some (.mk 10 0 0 [] [] (acc++[v]),j+1)
    else if cI t j=32 then kV t (n-1) (!node) (j+1) (acc++[v])
    else none
   |none=>none
  else none:=by
 obtain⟨m,rfl⟩:∃ m,n=m+1:=⟨n-1,by omega⟩
 rw[kV];rfl
def zN(node:Bool):Int:=if node then 8 else 9
theorem Hr{acc:List V}{v:V}:PV.agg [I 10,I 0,I 0,S [],.list 0 [] .no,.list (acc.length+1) (V.cas (acc++[v])) .no]=VA (.mk 10 0 0 [] [] (acc++[v])):=by
 rw[VA,V.ca,cj];rfl
set_option maxHeartbeats 2000000 in
theorem Lr(K:bH cf){t:List UInt8}{i:Nat}(hs:st.objs s=some [S t,I i])(hi:i≤t.length)(hl:t.length≤2000000)(h60:cI t i=60):
  ∃ r c',lh t VA (oy t (i+1)) dY r c'∧∃ fl,ar cf 225 [.ptr s 0] [] st=some (r,cQ (bU st s c') fl):=by
 refine fx K.tab (F:=F225) rfl rfl rfl (lb rfl) (lb rfl) (by simp) hs (eJ t i) (t.length+1) ?_
 unfold F225 qr qd qm qi qc qk ql qf qt qx qy qs qo qN
 have hlt:=cO (show cI t i≠0 by rw[h60];decide)
 simp only[↓pa,↓bM,pb,aj,↓reduceIte,reduceEqDiff,reduceAdd,reduceLeDiff,reduceCtorEq]
 refine(fh K (t:=t) (i:=i) 60 rfl (by decide) (by simp only[pb,↓reduceIte,reduceCtorEq]) hi hl).2 ?_
 simp only[↓pa,pb,↓reduceIte,h60]
 refine aX (fun k fr st=>∃ (j n:Nat) (node:Bool) (acc:List V) (tok:ay),k=t.length-j∧j≤t.length∧acc.length≤j∧t.length-j<n∧fr 0= .ptr 0 0∧fr 2= .ptr 2 0∧fr 4= .ptr 4 0∧fr 5=I (zN node)∧st.objs 0=some [S t,I j]∧st.objs 2=some [I 0,I 0,I 0,S [],.list 0 [] .nil,.list 0 [] .nil]∧
  st.objs 4=some [I 10,I 0,I 0,S [],.list 0 [] .nil,.list acc.length (V.cas acc) tok]∧Gr 204 st.nx st.cnt acc.length tok∧kV t n node j acc=oy t (i+1)) (t.length- (i+1)) (by omega)
  ⟨i+1,t.length+1- (i+1),true,[],.nil,rfl,by omega,aY _,by omega,by simp only[↓pa,pb,↓reduceIte,reduceCtorEq],by simp only[↓pa,pb,↓reduceIte,reduceEqDiff],by simp only[↓pa,↓reduceIte,reduceEqDiff],by simp only[↓pa,↓reduceIte];rfl,by simp only[pb,↓reduceIte],by simp only[pb,↓reduceIte,reduceEqDiff,reduceCtorEq],by simp only[pb,↓reduceIte,reduceCtorEq];rfl,rfl,rfl⟩ ?_
 rintro k fr st ⟨j,n,node,acc,tok,rfl,hj,hacc,hn,f0,f2,f4,f5,o0,o2,o4,hG,hQ⟩
 rw[CE (by omega)]at hQ
 simp only[↓pa,pb,↓reduceIte,f0]
 refine fV (yl K (t:=t) (i:=j) (by simp only[o0]) hj hl) (fun v j1 fl hv hj1=>?_) (fun p j1 fl hv hp hj1=>?_)
 rotate_left
 ·obtain⟨cs,rfl,hcs,hcn,hct⟩:=hp
  have hno:oy t (i+1)=none:=by
   rw[←hQ]
   unfold ig at hv
   cases node
   ·simp only[cA,if_false]
    by_cases hc:cI t j=101
    ·rw[ai hc]at hv
     rw[ai hc,hv]
    ·rw[ad hc]
   ·simp only[if_true]
    by_cases hc:cI t j=110
    ·rw[ad (by omega),ai hc]at hv
     rw[ai hc,hv]
    ·rw[ad hc]
  simp (disch:=omega)only[↓pa,pb,aj,av,eh,ah,af,↓reduceIte,reduceEqDiff,reduceAdd,reduceLeDiff,reduceCtorEq,f2,f4,o2,o4,hcs,dJ]
  exact be hno ⟨_,rfl,rfl,by simp only[av,eh,am],by simp only[av,eh]⟩ rfl rfl hj1
 obtain⟨hk,hlt1,-⟩:=AD hv
 have hvl:=v.ca_len
 by_cases hw:v.kind=zN node
 rotate_left
 ·have hno:oy t (i+1)=none:=by
   rw[←hQ,ad]
   intro hc
   apply hw
   cases node
   ·have hc:cI t j=101:=hc
    rcases hk with⟨h1,-⟩|⟨-,h2,-⟩
    ·exact h1
    ·omega
   ·have hc:cI t j=110:=hc
    rcases hk with⟨-,h2,-⟩|⟨h1,-⟩
    ·omega
    ·exact h1
  simp (disch:=omega)only[↓pa,pb,aj,av,eh,ah,af,↓reduceIte,reduceEqDiff,reduceAdd,reduceLeDiff,dD,reduceCtorEq,f2,f4,f5,o2,o4,hvl,dJ,D3,hw]
  exact be hno ⟨_,rfl,rfl,by simp only[av,eh,am],by simp only[av,eh]⟩ rfl rfl hj1
 have hstep:oy t (i+1)=if node=true∧cI t j1=62 then some (.mk 10 0 0 [] [] (acc++[v]),j1+1)else if cI t j1=32 then kV t (n-1) (!node) (j1+1) (acc++[v])else none:=by
  rw[←hQ]
  cases node
  ·rcases hk with⟨h1,h2,h3⟩|⟨h1,h2,h3⟩
   ·rw[ai (by exact h2)];simp only[cA,if_false];rw[h3]
   ·rw[h1]at hw;exact absurd hw (by decide)
  ·rcases hk with⟨h1,h2,h3⟩|⟨h1,h2,h3⟩
   ·rw[h1]at hw;exact absurd hw (by decide)
   ·rw[ai (by exact h2)];simp only[if_true];rw[h3]
 clear hQ
 simp (disch:=omega)only[↓pa,↓bM,pb,aj,ah,af,↓reduceIte,reduceEqDiff,reduceAdd,reduceLeDiff,reduceLT,dD,reduceCtorEq,f4,f5,o4,hvl,dJ,em,D3,hw]
 refine cu (n:=acc.length) (m:=1) hG (by rw[V.cas_len]) (by rw[hvl]) (by omega) (by omega) (by decide) ?_
 rw[V.cas_snoc]
 have hw8:zN true=8:=rfl
 have hw9:zN false=9:=rfl
 cases node
 ·rw[ad (by simp)]at hstep
  simp only[↓pa,pb,aj,↓reduceIte,reduceEqDiff,reduceAdd,reduceLeDiff,Int.reduceEq,reduceCtorEq,f0,f4,f5,o4,hw9]
  refine(fh K (t:=t) (i:=j1) 32 rfl (by decide) (by simp only[pb,aj,↓reduceIte,reduceCtorEq]) hj1 hl).2 ?_
  refine ab (fun h32=>?_) (fun h32=>?_)
  ·rw[ai h32]at hstep
   have hjl:=cO (show cI t j1≠0 by rw[h32];decide)
   simp (disch:=omega)only[↓pa,pb,aj,↓reduceIte,reduceEqDiff,reduceCtorEq,f0,f2,f4,f5,o2,hw9]
   exact⟨t.length- (j1+1),by omega,j1+1,n-1,true,acc++[v],_,rfl,by omega,by rw[cj];omega,by omega,rfl,rfl,by rw[cj],by rw[cj];exact fa hG,hstep.symm⟩
  ·rw[ad h32]at hstep
   simp only[↓pa,pb,aj,av,eh,↓reduceIte,reduceEqDiff,reduceAdd,reduceLeDiff,reduceCtorEq,f2,f4,o2]
   exact be hstep ⟨_,rfl,rfl,by simp only[av,eh,am],by simp only[av,eh]⟩ rfl rfl hj1
 ·simp only[↓pa,pb,aj,↓reduceIte,reduceEqDiff,reduceAdd,reduceLeDiff,reduceCtorEq,f0,f4,f5,o4,hw8]
  refine(fh K (t:=t) (i:=j1) 62 rfl (by decide) (by simp only[pb,aj,↓reduceIte,reduceCtorEq]) hj1 hl).2 ?_
  refine ab (fun h62=>?_) (fun h62=>?_)
  ·rw[ai ⟨rfl,h62⟩]at hstep
   have hjl:=cO (show cI t j1≠0 by rw[h62];decide)
   simp only[↓pa,pb,aj,av,eh,↓reduceIte,reduceEqDiff,reduceAdd,reduceLeDiff,reduceCtorEq,f2,f4,o2]
   rw[Hr]
   exact dq hstep rfl rfl hjl
  rw[ad fun h=>h62 h.2]at hstep
  simp only[↓pa,pb,↓reduceIte,reduceEqDiff,reduceCtorEq,f0]
  refine(fh K (t:=t) (i:=j1) 32 rfl (by decide) (by simp only[pb,aj,↓reduceIte,reduceCtorEq]) hj1 hl).2 ?_
  refine ab (fun h32=>?_) (fun h32=>?_)
  ·rw[ai h32]at hstep
   have hjl:=cO (show cI t j1≠0 by rw[h32];decide)
   simp (disch:=omega)only[↓pa,pb,aj,↓reduceIte,reduceEqDiff,reduceCtorEq,f0,f2,f4,f5,o2,hw8]
   exact⟨t.length- (j1+1),by omega,j1+1,n-1,false,acc++[v],_,rfl,by omega,by rw[cj];omega,by omega,rfl,rfl,by rw[cj],by rw[cj];exact fa hG,hstep.symm⟩
  ·rw[ad h32]at hstep
   simp only[↓pa,pb,aj,av,eh,↓reduceIte,reduceEqDiff,reduceAdd,reduceLeDiff,reduceCtorEq,f2,f4,o2]
   exact be hstep ⟨_,rfl,rfl,by simp only[av,eh,am],by simp only[av,eh]⟩ rfl rfl hj1
theorem qV{t:List UInt8}{i j:Nat}{n:Int}(h:eC t i=some (n,j)):i≤j:=by
 unfold eC at h
 simp only[ae,bE]at h
 obtain⟨_,_,_,rfl⟩:=h
 split
 ·exact Nat.le_of_succ_le (kd _ _ _)
 ·exact kd _ _ _
theorem mg{t:List UInt8}{k:Int}{i j:Nat}{v:V}(h:dP t k i=some (v,j)):i≤j:=by
 unfold dP qW at h
 simp only[ae,bE]at h
 obtain⟨⟨n,j'⟩,h1,rfl,rfl⟩:=h
 split at h1
 ·rename_i hp
  split at h1
  ·cases h1;exact qV hp
  ·cases h1
 ·cases h1
theorem sX{t:List UInt8}:∀ (n i:Nat) (acc:List UInt8) {r:List UInt8} {j:Nat},gm t n i acc=some (r,j)→i≤j
 |0,_,_,_,_,h=>by cases h
 |n+1,i,acc,r,j,h=>by
  have ih:=fun i acc=>sX (t:=t) n i acc (r:=r) (j:=j)
  rw[gm]at h
  repeat' split at h
  all_goals first
   |(cases h;done)
   |(have:=ih _ _ h;omega)
   |(cases h;omega)
theorem ve{t:List UInt8}:∀ (n:Nat) (node:Bool) (i:Nat) (acc:List V) {v:V} {j:Nat},kV t n node i acc=some (v,j)→i≤j
 |0,_,_,_,_,_,h=>by cases h
 |n+1,node,i,acc,v,j,h=>by
  have ih:=fun node i acc=>ve (t:=t) n node i acc (v:=v) (j:=j)
  rw[kV]at h
  by_cases hc:cI t i=(if node then 110 else 101)
  ·rw[ai hc]at h
   cases hv:dP t (if node then 8 else 9) (i+1)with
   |none=>rw[hv]at h;cases h
   |some q=>
    obtain⟨w,j1⟩:=q
    rw[hv]at h
    simp only at h
    have:=mg hv
    split at h
    ·cases h;omega
    ·split at h
     ·have:=ih _ _ _ h;omega
     ·cases h
  ·rw[ad hc]at h;cases h
theorem vi{t:List UInt8}{rd:Nat→Option (V×Nat)}(hr:∀ i v j,rd i=some (v,j)→i≤j):∀ (n i:Nat) (acc:List V) {v:V} {j:Nat},kf t rd n i acc=some (v,j)→i≤j
 |0,_,_,_,_,h=>by cases h
 |n+1,i,acc,v,j,h=>by
  have ih:=fun i acc=>vi (t:=t) hr n i acc (v:=v) (j:=j)
  rw[kf]at h
  split at h
  ·rename_i hv
   have:=hr _ _ _ hv
   split at h
   ·cases h;omega
   ·split at h
    ·have:=ih _ _ h;omega
    ·cases h
  ·cases h
theorem sd{t:List UInt8}{i j:Nat}{l:List UInt8}(h:oz t i=some (l,j)):i≤j:=by
 unfold oz at h
 split at h
 ·cases h;exact kd _ _ _
 ·cases h
theorem w8{t:List UInt8}{rd:Nat→Option (V×Nat)}(hr:∀ i v j,rd i=some (v,j)→i≤j):∀ (n i:Nat) (ns:List (List UInt8)) (acc:List V) {v:V} {j:Nat},kH t rd n i ns acc=some (v,j)→i≤j
 |0,_,_,_,_,_,h=>by cases h
 |n+1,i,ns,acc,v,j,h=>by
  have ih:=fun i ns acc=>w8 (t:=t) hr n i ns acc (v:=v) (j:=j)
  rw[kH]at h
  split at h
  ·rename_i hn
   have h1:=sd hn
   split at h
   ·split at h
    ·rename_i hv
     have h2:=hr _ _ _ hv
     split at h
     ·split at h
      ·cases h;omega
      ·cases h
     ·split at h
      ·have:=ih _ _ _ h;omega
      ·cases h
    ·cases h
   ·cases h
  ·cases h
theorem wV{t:List UInt8}{o:Option (Nat→Option (V×Nat))}(hr:∀ rd,o=some rd→∀ i v j,rd i=some (v,j)→i≤j){i:Nat}{v:V}{j:Nat}(h:li t o i=some (v,j)):i≤j:=by
 unfold li at h
 by_cases c1:cI t i=34
 ·rw[ai c1]at h
  simp only[ae,bE]at h
  obtain⟨⟨l,j'⟩,h1,_,rfl⟩:=h
  have:=sX _ _ _ h1
  show i≤j'
  omega
 rw[ad c1]at h
 by_cases c2:cI t i=64
 ·rw[ai c2]at h
  simp only[ae,bE]at h
  obtain⟨⟨l,j'⟩,h1,_,rfl⟩:=h
  unfold fF at h1
  split at h1
  ·split at h1
   ·simp only[ae,bE]at h1
    obtain⟨_,_,_,h2⟩:=h1
    show i≤j'
    omega
   ·cases h1
  ·cases h1
 rw[ad c2]at h
 by_cases c3:cI t i=45∨d8 (cI t i)=true
 ·rw[ai c3]at h
  simp only[ae,bE]at h
  obtain⟨⟨l,j'⟩,h1,_,rfl⟩:=h
  exact qV h1
 rw[ad c3]at h
 by_cases c4:cI t i=40
 ·rw[ai c4]at h
  unfold fG at h
  split at h
  ·rename_i h1
   have:=qV h1
   split at h
   ·split at h
    ·rename_i h2
     have:=qV h2
     split at h
     ·cases h;omega
     ·cases h
    ·cases h
   ·cases h
  ·cases h
 rw[ad c4]at h
 by_cases c5:cI t i=91
 ·rw[ai c5]at h
  cases o with
  |none=>cases h
  |some rd=>
   change jS t rd (i+1)=some (v,j)at h
   unfold jS at h
   split at h
   ·cases h;omega
   ·have:=vi (hr _ rfl) _ _ _ h;omega
 rw[ad c5]at h
 by_cases c6:cI t i=123
 ·rw[ai c6]at h
  cases o with
  |none=>cases h
  |some rd=>
   change ix t rd (i+1)=some (v,j)at h
   unfold ix at h
   split at h
   ·cases h;omega
   ·have:=w8 (hr _ rfl) _ _ _ _ h;omega
 rw[ad c6]at h
 by_cases c7:cI t i=60
 ·rw[ai c7]at h
  have:=ve _ _ _ _ h;omega
 rw[ad c7]at h
 by_cases c8:tk t i [110,117,108,108]=true
 ·rw[ai c8]at h;cases h;omega
 rw[ad c8]at h
 by_cases c9:tk t i [116,114,117,101]=true
 ·rw[ai c9]at h;cases h;omega
 rw[ad c9]at h
 by_cases c10:tk t i [102,97,108,115,101]=true
 ·rw[ai c10]at h;cases h;omega
 rw[ad c10]at h
 by_cases c11:cI t i=110
 ·rw[ai c11]at h
  have:=mg h;omega
 rw[ad c11]at h
 by_cases c12:cI t i=101
 ·rw[ai c12]at h
  have:=mg h;omega
 rw[ad c12]at h
 cases h
theorem m0{t:List UInt8}:∀ (b i:Nat) (v:V) (j:Nat),dO t b i=some (v,j)→i≤j
 |0,i,v,j,h=>wV (fun rd h=>by cases h) (show li t none i=some (v,j)from h)
 |b+1,i,v,j,h=>wV (fun rd h=>by cases h;exact m0 b) (show li t (some (dO t b)) i=some (v,j)from h)
def xL(cf:au)(t:List UInt8)(b:Nat):Prop:=∀ (st:St) (s i:Nat),st.objs s=some [S t,I i]→i≤t.length→
 ∃ r c',lh t VA (dO t b i) dY r c'∧∃ fl,ar cf 201 [.ptr s 0,I (5- (b:Int))] [] st=some (r,cQ (bU st s c') fl)
theorem CN{t:List UInt8}{rd:Nat→Option (V×Nat)}{n j:Nat}{acc:List V}(hn:0<n):kf t rd n j acc=match rd j with
  |some (v,j)=>
   if cI t j=93 then some (.mk 6 0 0 [] [] (acc++[v]),j+1)
   else if cI t j=44 then kf t rd (n-1) (j+1) (acc++[v])
   else none
  |none=>none:=by
 obtain⟨m,rfl⟩:∃ m,n=m+1:=⟨n-1,by omega⟩
 rw[kf];rfl
theorem HM{acc:List V}{v:V}:PV.agg [I 6,I 0,I 0,S [],.list 0 [] .no,.list (acc.length+1) (V.cas (acc++[v])) .no]=VA (.mk 6 0 0 [] [] (acc++[v])):=by
 rw[VA,V.ca,cj];rfl
set_option maxHeartbeats 2000000 in
theorem Kg(K:bH cf){t:List UInt8}{i:Nat}(hs:st.objs s=some [S t,I i])(hi:i≤t.length)(hl:t.length≤2000000)(h91:cI t i=91):
  ∃ r c',lh t VA none dY r c'∧∃ fl,ar cf 223 [.ptr s 0,I 5] [] st=some (r,cQ (bU st s c') fl):=by
 refine fx K.tab (F:=F223) rfl rfl rfl (lb rfl) (lb rfl) (by simp[aQ]) hs (eJ t i) 1 ?_
 unfold F223 qr qd qm qc qk ql qf qu qx qs qo qN
 have hlt:=cO (show cI t i≠0 by rw[h91];decide)
 simp only[↓pa,↓bM,pb,aj,↓reduceIte,reduceEqDiff,reduceAdd,reduceLeDiff,reduceCtorEq]
 refine(fh K (t:=t) (i:=i) 91 rfl (by decide) (by simp only[pb,↓reduceIte,reduceCtorEq]) hi hl).2 ?_
 simp only[↓pa,pb,aj,↓reduceIte,reduceEqDiff,reduceAdd,reduceLeDiff,reduceCtorEq,h91]
 simp only[↓pa,pb,aj,av,↓reduceIte,reduceEqDiff,reduceAdd,reduceLeDiff,reduceCtorEq]
 exact be rfl ⟨_,rfl,rfl,by simp only[av,am],by simp only[av]⟩ rfl rfl hlt
set_option maxHeartbeats 2000000 in
theorem Lu(K:bH cf){t:List UInt8}{i b:Nat}(hs:st.objs s=some [S t,I i])(hi:i≤t.length)(hl:t.length≤2000000)(hb:b<5)(h91:cI t i=91)(ih:xL cf t b):
  ∃ r c',lh t VA (jS t (dO t b) (i+1)) dY r c'∧∃ fl,ar cf 223 [.ptr s 0,I (5- ((b+1:Nat):Int))] [] st=some (r,cQ (bU st s c') fl):=by
 refine fx K.tab (F:=F223) rfl rfl rfl (lb rfl) (lb rfl) (by simp[aQ]) hs (eJ t i) (t.length+1) ?_
 unfold F223 qr qd qm qc qk ql qf qu qx qs qo qN
 have hlt:=cO (show cI t i≠0 by rw[h91];decide)
 have hd5:¬ (5- ((b+1:Nat):Int)=5):=by omega
 have hdd:5- ((b+1:Nat):Int)+1=5- (b:Int):=by omega
 revert hd5 hdd
 generalize hdp:5- ((b+1:Nat):Int)=dp
 intro hd5 hdd
 simp only[↓pa,↓bM,pb,aj,↓reduceIte,reduceEqDiff,reduceAdd,reduceLeDiff,reduceCtorEq]
 refine(fh K (t:=t) (i:=i) 91 rfl (by decide) (by simp only[pb,↓reduceIte,reduceCtorEq]) hi hl).2 ?_
 simp only[↓pa,pb,↓reduceIte,reduceEqDiff,reduceCtorEq,h91,hd5]
 refine(fh K (t:=t) (i:=i+1) 93 rfl (by decide) (by simp only[pb,↓reduceIte]) hlt hl).2 ?_
 refine ab (fun h93=>?_) (fun h93=>?_)
 ·have hlt2:=cO (show cI t (i+1)≠0 by rw[h93];decide)
  simp only[↓pa,pb,aj,av,↓reduceIte,reduceEqDiff,reduceAdd,reduceLeDiff,reduceCtorEq]
  exact dq (by rw[jS,ai h93]) (by rfl) rfl hlt2
 have hP:jS t (dO t b) (i+1)=kf t (dO t b) (t.length+1- (i+1)) (i+1) []:=by rw[jS,ad h93]
 simp only[↓pa,pb,↓reduceIte]
 refine aX (fun k fr st=>∃ (j n:Nat) (acc:List V) (tok:ay),k=t.length-j∧j≤t.length∧acc.length≤j∧t.length-j<n∧fr 0= .ptr 0 0∧fr 1=I dp∧fr 4= .ptr 4 0∧fr 6= .ptr 6 0∧st.objs 0=some [S t,I j]∧st.objs 4=some [I 0,I 0,I 0,S [],.list 0 [] .nil,.list 0 [] .nil]∧
  st.objs 6=some [I 6,I 0,I 0,S [],.list 0 [] .nil,.list acc.length (V.cas acc) tok]∧Gr 204 st.nx st.cnt acc.length tok∧kf t (dO t b) n j acc=jS t (dO t b) (i+1)) (t.length- (i+1)) (by omega)
  ⟨i+1,t.length+1- (i+1),[],.nil,rfl,by omega,aY _,by omega,by simp only[↓pa,pb,↓reduceIte,reduceCtorEq],by simp only[↓pa,pb,↓reduceIte,reduceEqDiff],by simp only[↓pa,pb,↓reduceIte,reduceEqDiff],by simp only[↓pa,↓reduceIte,reduceEqDiff],by simp only[pb,↓reduceIte],by simp only[pb,↓reduceIte,reduceEqDiff,reduceCtorEq],by simp only[pb,↓reduceIte,reduceCtorEq];rfl,rfl,hP.symm⟩ ?_
 rintro k fr st ⟨j,n,acc,tok,rfl,hj,hacc,hn,f0,f1,f4,f6,o0,o4,o6,hG,hQ⟩
 rw[CN (by omega)]at hQ
 simp (disch:=omega)only[↓pa,pb,↓reduceIte,reduceEqDiff,f0,f1,hdd]
 refine fV (ih _ 0 j (by simp only[o0]) hj) (fun v j1 fl hv hj1=>?_) (fun p j1 fl hv hp hj1=>?_)
 rotate_left
 ·obtain⟨cs,rfl,hcs,hcn,hct⟩:=hp
  rw[hv]at hQ
  simp (disch:=omega)only[↓pa,pb,aj,av,eh,ah,af,↓reduceIte,reduceEqDiff,reduceAdd,reduceLeDiff,reduceCtorEq,f4,f6,o4,o6,hcs,dJ]
  exact be hQ.symm ⟨_,rfl,rfl,by simp only[av,eh,am],by simp only[av,eh]⟩ rfl rfl hj1
 have hm:=m0 _ _ _ _ hv
 have hvl:=v.ca_len
 rw[hv]at hQ
 simp only at hQ
 simp (disch:=omega)only[↓pa,↓bM,pb,aj,ah,af,↓reduceIte,reduceEqDiff,reduceAdd,reduceLeDiff,reduceLT,reduceCtorEq,f6,o6,hvl,dJ,em]
 refine cu (n:=acc.length) (m:=1) hG (by rw[V.cas_len]) (by rw[hvl]) (by omega) (by omega) (by decide) ?_
 rw[V.cas_snoc]
 simp only[↓pa,pb,aj,↓reduceIte,reduceEqDiff,reduceAdd,reduceLeDiff,reduceCtorEq,f0,f6,o6]
 refine(fh K (t:=t) (i:=j1) 93 rfl (by decide) (by simp only[pb,aj,↓reduceIte,reduceCtorEq]) hj1 hl).2 ?_
 refine ab (fun h1=>?_) (fun h1=>?_)
 ·rw[ai h1]at hQ
  have hjl:=cO (show cI t j1≠0 by rw[h1];decide)
  simp only[↓pa,pb,aj,av,eh,↓reduceIte,reduceEqDiff,reduceAdd,reduceLeDiff,reduceCtorEq,f4,f6,o4]
  rw[HM]
  exact dq hQ.symm rfl rfl hjl
 rw[ad h1]at hQ
 simp only[↓pa,pb,↓reduceIte,reduceCtorEq,f0]
 refine(fh K (t:=t) (i:=j1) 44 rfl (by decide) (by simp only[pb,aj,↓reduceIte,reduceCtorEq]) hj1 hl).2 ?_
 refine ab (fun h2=>?_) (fun h2=>?_)
 ·rw[ai h2]at hQ
  have hjl:=cO (show cI t j1≠0 by rw[h2];decide)
  simp only[↓pa,pb,aj,↓reduceIte,reduceEqDiff,reduceCtorEq,f0,f1,f4,f6,o4]
  exact⟨t.length- (j1+1),by omega,j1+1,n-1,acc++[v],_,rfl,by omega,by rw[cj];omega,by omega,rfl,by rw[cj],by rw[cj];exact fa hG,hQ⟩
 ·rw[ad h2]at hQ
  simp only[↓pa,pb,aj,av,eh,↓reduceIte,reduceEqDiff,reduceAdd,reduceLeDiff,reduceCtorEq,f4,f6,o4]
  exact be hQ.symm ⟨_,rfl,rfl,by simp only[av,eh,am],by simp only[av,eh]⟩ rfl rfl hj1
theorem xT{ns:List (List UInt8)}{x:List UInt8}{i:Nat}(h:i<ns.length):iV (ns++[x]) i=iV ns i:=by
 unfold iV
 rw[fe,fe,bA h]
theorem Jp{ns:List (List UInt8)}{x:List UInt8}:iV (ns++[x]) ns.length=x:=by
 unfold iV
 rw[fe];simp
theorem u6(ns:List (List UInt8))(x:List UInt8):hU (ns++[x])=(hU ns && (decide (ns.length=0)||ej (iV ns (ns.length-1)) x)):=by
 have hlen:(ns++[x]).length=ns.length+1:=by simp
 have hold:∀ i,i<ns.length→jg (ns++[x]) i=jg ns i:=fun i hi=>by
  unfold jg
  rw[xT hi]
  by_cases h0:i=0
  ·simp[h0]
  ·rw[xT (show i-1<ns.length by omega)]
 have hnew:jg (ns++[x]) ns.length=(decide (ns.length=0)||ej (iV ns (ns.length-1)) x):=by
  unfold jg
  rw[Jp]
  by_cases h0:ns.length=0
  ·simp[h0]
  ·rw[xT (show ns.length-1<ns.length by omega)]
 rw[Bool.eq_iff_iff,aa,hU,hU,hlen,mN,mN,←hnew]
 constructor
 ·intro h
  exact⟨fun j hj=>by rw[←hold j hj];exact h j (by omega),h _ (by omega)⟩
 ·rintro⟨h1,h2⟩ j hj
  by_cases hjn:j=ns.length
  ·rw[hjn];exact h2
  ·rw[hold j (by omega)];exact h1 j (by omega)
theorem u7{ns:List (List UInt8)}{x:List UInt8}(h:hU ns=false):hU (ns++[x])=false:=by rw[u6,h];rfl
theorem FJ{t:List UInt8}{rd:Nat→Option (V×Nat)}{n j:Nat}{ns:List (List UInt8)}{acc:List V}(hn:0<n):kH t rd n j ns acc=match oz t j with
  |some (x,j)=>if cI t j=58 then match rd (j+1)with
   |some (v,j)=>
    if cI t j=125 then(if hU (ns++[x])then some (.mk 7 0 0 [] (ns++[x]) (acc++[v]),j+1)else none)
    else if cI t j=44 then kH t rd (n-1) (j+1) (ns++[x]) (acc++[v])
    else none
   |none=>none
   else none
  |none=>none:=by
 obtain⟨m,rfl⟩:∃ m,n=m+1:=⟨n-1,by omega⟩
 rw[kH];rfl
theorem CK{t:List UInt8}{rd:Nat→Option (V×Nat)}:∀ (n j:Nat) (ns:List (List UInt8)) (acc:List V),hU ns=false→kH t rd n j ns acc=none
 |0,_,_,_,_=>rfl
 |n+1,j,ns,acc,h=>by
  have ih:=fun j acc x=>CK (t:=t) (rd:=rd) n j (ns++[x]) acc (u7 h)
  rw[kH]
  split
  ·split
   ·split
    ·split
     ·rw[ad (by rw[u7 h];simp)]
     ·split
      ·exact ih _ _ _
      ·rfl
    ·rfl
   ·rfl
  ·rfl
theorem iN{t u:ay}(h:jb t u):jb u t:=by
 cases t<;>cases u<;>first|exact trivial|exact fun e=>h e.symm
theorem xQ(ns:List (List UInt8))(x:List UInt8):ns.map S++[S x]=(ns++[x]).map S:=by simp
theorem ju{ns:List (List UInt8)}{x:List UInt8}:(ns++[x]).length=ns.length+1:=by simp
theorem CJ{ns:List (List UInt8)}{x:List UInt8}{acc:List V}{v:V}:PV.agg [I 7,I 0,I 0,S [],.list (ns.length+1) ((ns++[x]).map S) .no,.list (acc.length+1) (V.cas (acc++[v])) .no]=VA (.mk 7 0 0 [] (ns++[x]) (acc++[v])):=by
 rw[VA,V.ca,cj,ju]
theorem jO{e e2 sz bytes n n2 m:Nat}{cs ds:List PV}{tk u w:ay}(h:Gr e st.nx st.cnt n tk)(h1:cs.length=n*sz)(h2:ds.length=m*sz)(h3:(n+m) *bytes≤140737488355328)(h4:n+m≤140737488355328)(h5:0<sz)
  (h':Gr e2 st.nx st.cnt n2 u) (ha:jb tk u) (k:∀ st' t',st'.objs=st.objs→Gr e st'.nx st'.cnt (n+m) t'→Gr e2 st'.nx st'.cnt n2 u→jb t' u→A (mk (.list (n+m) (cs++ds) t') st')):cT (uo e sz bytes (.list n cs tk) (.list m ds w) st) mk A:=by
 rw[uQ h h1 h2 h3 h4 h5,fj]
 exact k _ _ rp (fa h) (iq h h' ha).1 (iq (m:=n+m) h h' ha).2
set_option maxHeartbeats 2000000 in
theorem Lt(K:bH cf){t:List UInt8}{i:Nat}(hs:st.objs s=some [S t,I i])(hi:i≤t.length)(hl:t.length≤2000000)(h123:cI t i=123):
  ∃ r c',lh t VA none dY r c'∧∃ fl,ar cf 224 [.ptr s 0,I 5] [] st=some (r,cQ (bU st s c') fl):=by
 refine fx K.tab (F:=F224) rfl rfl rfl (lb rfl) (lb rfl) (by simp[aQ]) hs (eJ t i) 1 ?_
 unfold F224 qr qd qm qc qk ql qf qt qu qx qs qo qN
 have hlt:=cO (show cI t i≠0 by rw[h123];decide)
 simp only[↓pa,↓bM,pb,aj,↓reduceIte,reduceEqDiff,reduceAdd,reduceLeDiff,reduceCtorEq]
 refine(fh K (t:=t) (i:=i) 123 rfl (by decide) (by simp only[pb,↓reduceIte,reduceCtorEq]) hi hl).2 ?_
 simp only[↓pa,pb,aj,↓reduceIte,reduceEqDiff,reduceAdd,reduceLeDiff,reduceCtorEq,h123]
 simp only[↓pa,pb,aj,av,↓reduceIte,reduceEqDiff,reduceAdd,reduceLeDiff,reduceCtorEq]
 exact be rfl ⟨_,rfl,rfl,by simp only[av,am],by simp only[av]⟩ rfl rfl hlt
set_option maxHeartbeats 4000000 in
theorem Mn(K:bH cf){t:List UInt8}{i b:Nat}(hs:st.objs s=some [S t,I i])(hi:i≤t.length)(hl:t.length≤2000000)(hb:b<5)(h123:cI t i=123)(ih:xL cf t b):
  ∃ r c',lh t VA (ix t (dO t b) (i+1)) dY r c'∧∃ fl,ar cf 224 [.ptr s 0,I (5- ((b+1:Nat):Int))] [] st=some (r,cQ (bU st s c') fl):=by
 refine fx K.tab (F:=F224) rfl rfl rfl (lb rfl) (lb rfl) (by simp[aQ]) hs (eJ t i) (t.length+1) ?_
 unfold F224 qr qd qm qc qk ql qf qt qu qx qs qo qN
 have hlt:=cO (show cI t i≠0 by rw[h123];decide)
 have hd5:¬ (5- ((b+1:Nat):Int)=5):=by omega
 have hdd:5- ((b+1:Nat):Int)+1=5- (b:Int):=by omega
 revert hd5 hdd
 generalize hdp:5- ((b+1:Nat):Int)=dp
 intro hd5 hdd
 simp only[↓pa,↓bM,pb,aj,↓reduceIte,reduceEqDiff,reduceAdd,reduceLeDiff,reduceCtorEq]
 refine(fh K (t:=t) (i:=i) 123 rfl (by decide) (by simp only[pb,↓reduceIte,reduceCtorEq]) hi hl).2 ?_
 simp only[↓pa,pb,↓reduceIte,reduceEqDiff,reduceCtorEq,h123,hd5]
 refine(fh K (t:=t) (i:=i+1) 125 rfl (by decide) (by simp only[pb,↓reduceIte]) hlt hl).2 ?_
 refine ab (fun h125=>?_) (fun h125=>?_)
 ·have hlt2:=cO (show cI t (i+1)≠0 by rw[h125];decide)
  simp only[↓pa,pb,aj,av,↓reduceIte,reduceEqDiff,reduceAdd,reduceLeDiff,reduceCtorEq]
  exact dq (by rw[ix,ai h125]) (by rfl) rfl hlt2
 have hP:ix t (dO t b) (i+1)=kH t (dO t b) (t.length+1- (i+1)) (i+1) [] []:=by rw[ix,ad h125]
 simp only[↓pa,pb,↓reduceIte]
 refine aX (fun k fr st=>∃ (j n:Nat) (ns:List (List UInt8)) (acc:List V) (tok tok2:ay),k=t.length-j∧j≤t.length∧acc.length≤j∧ns.length=acc.length∧t.length-j<n∧hU ns=true∧fr 0= .ptr 0 0∧fr 1=I dp∧fr 4= .ptr 4 0∧fr 6= .ptr 6 0∧st.objs 0=some [S t,I j]∧st.objs 4=some [I 0,I 0,I 0,S [],.list 0 [] .nil,.list 0 [] .nil]∧
  st.objs 6=some [I 7,I 0,I 0,S [],.list ns.length (ns.map S) tok,.list acc.length (V.cas acc) tok2]∧Gr 9 st.nx st.cnt ns.length tok∧Gr 204 st.nx st.cnt acc.length tok2∧jb tok tok2∧kH t (dO t b) n j ns acc=ix t (dO t b) (i+1)) (t.length- (i+1)) (by omega)
  ⟨i+1,t.length+1- (i+1),[],[],.nil,.nil,rfl,by omega,aY _,rfl,by omega,rfl,by simp only[↓pa,pb,↓reduceIte,reduceCtorEq],by simp only[↓pa,pb,↓reduceIte,reduceEqDiff],by simp only[↓pa,pb,↓reduceIte,reduceEqDiff],by simp only[↓pa,↓reduceIte,reduceEqDiff],by simp only[pb,↓reduceIte],by simp only[pb,↓reduceIte,reduceEqDiff,reduceCtorEq],by simp only[pb,↓reduceIte,reduceCtorEq];rfl,rfl,rfl,trivial,hP.symm⟩ ?_
 rintro k fr st ⟨j,n,ns,acc,tok,tok2,rfl,hj,hacc,hnl,hn,hris,f0,f1,f4,f6,o0,o4,o6,hG,hG2,hap,hQ⟩
 have hm:(ns.map S).length=ns.length:=bu _
 rw[FJ (by omega)]at hQ
 simp only[↓pa,pb,↓reduceIte,f0]
 refine fV (Kd K (t:=t) (i:=j) (by simp only[o0]) hj hl) (fun x j1 fl hx hj1=>?_) (fun p j1 fl hx hp hj1=>?_)
 rotate_left
 ·obtain⟨l,rfl⟩:=hp
  have hno:ix t (dO t b) (i+1)=none:=by rw[←hQ,hx]
  simp only[↓pa,pb,aj,av,eh,ah,af,↓reduceIte,reduceEqDiff,reduceAdd,reduceLeDiff,reduceCtorEq,f4,f6,o4,o6]
  exact be hno ⟨_,rfl,rfl,by simp only[av,eh,am],by simp only[av,eh]⟩ rfl rfl (by omega)
 have hm1:=sd hx
 rw[hx]at hQ
 simp only at hQ
 simp only[↓pa,pb,ah,af,↓reduceIte,reduceEqDiff,reduceCtorEq,f0]
 refine(fh K (t:=t) (i:=j1) 58 rfl (by decide) (by simp only[pb,aj,↓reduceIte]) hj1 hl).2 ?_
 refine ab (fun h58=>?_) (fun h58=>?_)
 rotate_left
 ·have hno:ix t (dO t b) (i+1)=none:=by rw[←hQ,ad h58]
  simp only[↓pa,pb,aj,av,eh,↓reduceIte,reduceEqDiff,reduceAdd,reduceLeDiff,reduceCtorEq,f4,f6,o4,o6]
  exact be hno ⟨_,rfl,rfl,by simp only[av,eh,am],by simp only[av,eh]⟩ rfl rfl (by omega)
 rw[ai h58]at hQ
 have hj58:=cO (show cI t j1≠0 by rw[h58];decide)
 have hrs:=u6 ns x
 rw[hris,bX]at hrs
 simp only[↓pa,pb,aj,↓reduceIte,reduceEqDiff,reduceAdd,reduceCtorEq,f6,o6]
 by_cases hup:hU (ns++[x])=true
 rotate_left
 ·have hup:hU (ns++[x])=false:=by simpa using hup
  have hno:ix t (dO t b) (i+1)=none:=by
   rw[←hQ]
   split
   ·split
    ·first|rfl|rw[ad (by rw[hup];simp)]
    ·split
     ·exact CK _ _ _ _ hup
     ·rfl
   ·rfl
  rw[hup]at hrs
  have hrs:=hrs.symm
  rw[iD]at hrs
  have hpos:0<ns.length:=by have:=hrs.1;simp only[decide_eq_false_iff_not]at this;omega
  have hpos':(0:Int)<(ns.length:Int):=by omega
  have hidx:((ns.length:Int) -1).toNat=ns.length-1:=by omega
  simp (disch:=omega)only[↓pa,pb,aj,↓reduceIte,reduceEqDiff,reduceAdd,reduceLeDiff,reduceCtorEq,f4,f6,o4,o6,hpos',hidx,fk,iY (show ns.length-1<ns.length by omega),hrs.2]
  simp only[↓pa,pb,aj,av,eh,↓reduceIte,reduceEqDiff,reduceAdd,reduceLeDiff,reduceCtorEq,f4]
  exact be hno ⟨_,rfl,rfl,by simp only[av,eh,am],by simp only[av,eh]⟩ rfl rfl (by omega)
 rw[hup]at hrs
 have hrs:=hrs.symm
 by_cases hz:ns.length=0
 ·have hz':¬ (0:Int)<(ns.length:Int):=by omega
  have hz'':¬0<ns.length:=by omega
  simp (disch:=omega)only[↓pa,pb,↓reduceIte,reduceEqDiff,reduceCtorEq,f0,f1,hz',hdd]
  refine fV (ih _ 0 (j1+1) (by simp only[pb,↓reduceIte]) hj58) (fun v j2 fl hv hj2=>?_) (fun p j2 fl hv hp hj2=>?_)
  rotate_left
  ·obtain⟨cs,rfl,hcs,hcn,hct⟩:=hp
   have hno:ix t (dO t b) (i+1)=none:=by rw[←hQ,hv]
   simp (disch:=omega)only[↓pa,pb,aj,av,eh,ah,af,↓reduceIte,reduceEqDiff,reduceAdd,reduceLeDiff,reduceCtorEq,f4,f6,o4,o6,hcs,dJ]
   exact be hno ⟨_,rfl,rfl,by simp only[av,eh,am],by simp only[av,eh]⟩ rfl rfl hj2
  have hm2:=m0 _ _ _ _ hv
  have hvl:=v.ca_len
  rw[hv]at hQ
  simp only at hQ
  simp (disch:=omega)only[↓pa,↓bM,pb,aj,ah,af,↓reduceIte,reduceEqDiff,reduceAdd,reduceLeDiff,reduceLT,reduceCtorEq,f6,o6,hvl,dJ]
  refine jO (n:=ns.length) (m:=1) (e2:=204) (n2:=acc.length) (u:=tok2) hG (by rw[hm];omega) rfl (by omega) (by omega) (by decide) hG2 hap (fun st1 tok' ho hG' hG2' hap'=>?_)
  rw[xQ]
  simp (disch:=omega)only[↓pa,↓bM,pb,aj,↓reduceIte,reduceEqDiff,reduceAdd,reduceLeDiff,reduceLT,reduceCtorEq,f6,o6,hvl,dJ,em,ho]
  refine jO (n:=acc.length) (m:=1) (e2:=9) (n2:=ns.length+1) (u:=tok') hG2' (by rw[V.cas_len]) (by rw[hvl]) (by omega) (by omega) (by decide) hG' (iN hap') (fun st2 tok2' ho2 hG2'' hG'' hap''=>?_)
  rw[V.cas_snoc]
  simp only[↓pa,pb,aj,↓reduceIte,reduceEqDiff,reduceAdd,reduceLeDiff,reduceCtorEq,f0,f6,ho2]
  refine(fh K (t:=t) (i:=j2) 125 rfl (by decide) (by simp only[pb,aj,↓reduceIte,reduceCtorEq,ho,ho2]) hj2 hl).2 ?_
  refine ab (fun k1=>?_) (fun k1=>?_)
  ·rw[ai k1,ai hup]at hQ
   have hjl:=cO (show cI t j2≠0 by rw[k1];decide)
   simp only[↓pa,pb,aj,av,eh,↓reduceIte,reduceEqDiff,reduceAdd,reduceLeDiff,reduceCtorEq,f4,f6,o4,ho,ho2]
   rw[CJ]
   exact dq hQ.symm rfl rfl hjl
  rw[ad k1]at hQ
  simp only[↓pa,pb,↓reduceIte,reduceCtorEq,f0]
  refine(fh K (t:=t) (i:=j2) 44 rfl (by decide) (by simp only[pb,aj,↓reduceIte,reduceCtorEq,ho,ho2]) hj2 hl).2 ?_
  refine ab (fun k2=>?_) (fun k2=>?_)
  ·rw[ai k2]at hQ
   have hjl:=cO (show cI t j2≠0 by rw[k2];decide)
   simp only[↓pa,pb,aj,↓reduceIte,reduceEqDiff,reduceCtorEq,f0,f1,f4,f6,o4,ho,ho2]
   exact⟨t.length- (j2+1),by omega,j2+1,n-1,ns++[x],acc++[v],tok',tok2',rfl,by omega,by rw[cj];omega,by rw[cj,ju];omega,by omega,hup,rfl,by rw[cj,ju],by rw[ju];exact hG'',by rw[cj];exact hG2'',iN hap'',hQ⟩
  ·rw[ad k2]at hQ
   simp only[↓pa,pb,aj,av,eh,↓reduceIte,reduceEqDiff,reduceAdd,reduceLeDiff,reduceCtorEq,f4,f6,o4,ho,ho2]
   exact be hQ.symm ⟨_,rfl,rfl,by simp only[av,eh,am],by simp only[av,eh]⟩ rfl rfl hj2
 ·have hs1:ej (iV ns (ns.length-1)) x=true:=by simpa [hz]using hrs
  have hpos:0<ns.length:=by omega
  have hpos':(0:Int)<(ns.length:Int):=by omega
  have hidx:((ns.length:Int) -1).toNat=ns.length-1:=by omega
  simp (disch:=omega)only[↓pa,pb,aj,↓reduceIte,reduceEqDiff,reduceAdd,reduceCtorEq,f0,f1,f6,o6,hpos',hidx,hdd,fk,iY (show ns.length-1<ns.length by omega),hs1]
  refine fV (ih _ 0 (j1+1) (by simp only[pb,↓reduceIte]) hj58) (fun v j2 fl hv hj2=>?_) (fun p j2 fl hv hp hj2=>?_)
  rotate_left
  ·obtain⟨cs,rfl,hcs,hcn,hct⟩:=hp
   have hno:ix t (dO t b) (i+1)=none:=by rw[←hQ,hv]
   simp (disch:=omega)only[↓pa,pb,aj,av,eh,ah,af,↓reduceIte,reduceEqDiff,reduceAdd,reduceLeDiff,reduceCtorEq,f4,f6,o4,o6,hcs,dJ]
   exact be hno ⟨_,rfl,rfl,by simp only[av,eh,am],by simp only[av,eh]⟩ rfl rfl hj2
  have hm2:=m0 _ _ _ _ hv
  have hvl:=v.ca_len
  rw[hv]at hQ
  simp only at hQ
  simp (disch:=omega)only[↓pa,↓bM,pb,aj,ah,af,↓reduceIte,reduceEqDiff,reduceAdd,reduceLeDiff,reduceLT,reduceCtorEq,f6,o6,hvl,dJ]
  refine jO (n:=ns.length) (m:=1) (e2:=204) (n2:=acc.length) (u:=tok2) hG (by rw[hm];omega) rfl (by omega) (by omega) (by decide) hG2 hap (fun st1 tok' ho hG' hG2' hap'=>?_)
  rw[xQ]
  simp (disch:=omega)only[↓pa,↓bM,pb,aj,↓reduceIte,reduceEqDiff,reduceAdd,reduceLeDiff,reduceLT,reduceCtorEq,f6,o6,hvl,dJ,em,ho]
  refine jO (n:=acc.length) (m:=1) (e2:=9) (n2:=ns.length+1) (u:=tok') hG2' (by rw[V.cas_len]) (by rw[hvl]) (by omega) (by omega) (by decide) hG' (iN hap') (fun st2 tok2' ho2 hG2'' hG'' hap''=>?_)
  rw[V.cas_snoc]
  simp only[↓pa,pb,aj,↓reduceIte,reduceEqDiff,reduceAdd,reduceLeDiff,reduceCtorEq,f0,f6,ho2]
  refine(fh K (t:=t) (i:=j2) 125 rfl (by decide) (by simp only[pb,aj,↓reduceIte,reduceCtorEq,ho,ho2]) hj2 hl).2 ?_
  refine ab (fun k1=>?_) (fun k1=>?_)
  ·rw[ai k1,ai hup]at hQ
   have hjl:=cO (show cI t j2≠0 by rw[k1];decide)
   simp only[↓pa,pb,aj,av,eh,↓reduceIte,reduceEqDiff,reduceAdd,reduceLeDiff,reduceCtorEq,f4,f6,o4,ho,ho2]
   rw[CJ]
   exact dq hQ.symm rfl rfl hjl
  rw[ad k1]at hQ
  simp only[↓pa,pb,↓reduceIte,reduceCtorEq,f0]
  refine(fh K (t:=t) (i:=j2) 44 rfl (by decide) (by simp only[pb,aj,↓reduceIte,reduceCtorEq,ho,ho2]) hj2 hl).2 ?_
  refine ab (fun k2=>?_) (fun k2=>?_)
  ·rw[ai k2]at hQ
   have hjl:=cO (show cI t j2≠0 by rw[k2];decide)
   simp only[↓pa,pb,aj,↓reduceIte,reduceEqDiff,reduceCtorEq,f0,f1,f4,f6,o4,ho,ho2]
   exact⟨t.length- (j2+1),by omega,j2+1,n-1,ns++[x],acc++[v],tok',tok2',rfl,by omega,by rw[cj];omega,by rw[cj,ju];omega,by omega,hup,rfl,by rw[cj,ju],by rw[ju];exact hG'',by rw[cj];exact hG2'',iN hap'',hQ⟩
  ·rw[ad k2]at hQ
   simp only[↓pa,pb,aj,av,eh,↓reduceIte,reduceEqDiff,reduceAdd,reduceLeDiff,reduceCtorEq,f4,f6,o4,ho,ho2]
   exact be hQ.symm ⟨_,rfl,rfl,by simp only[av,eh,am],by simp only[av,eh]⟩ rfl rfl hj2
def wU(t:List UInt8)(o:Option (Nat→Option (V×Nat)))(i:Nat):Option (V×Nat):=match o with
 |some rd=>jS t rd i
 |none=>none
def zU(t:List UInt8)(o:Option (Nat→Option (V×Nat)))(i:Nat):Option (V×Nat):=match o with
 |some rd=>ix t rd i
 |none=>none
theorem vM(t:List UInt8)(o:Option (Nat→Option (V×Nat)))(i:Nat):li t o i=
 if cI t i=34 then(nZ t (i+1)).map fun q=>(.mk 3 0 0 q.1 [] [],q.2)
 else if cI t i=64 then(fF t (i+1)).map fun q=>(.mk 4 q.1 0 [] [] [],q.2)
 else if cI t i=45∨d8 (cI t i)=true then(eC t i).map fun q=>(.mk 2 q.1 0 [] [] [],q.2)
 else if cI t i=40 then fG t (i+1)
 else if cI t i=91 then wU t o (i+1)
 else if cI t i=123 then zU t o (i+1)
 else if cI t i=60 then oy t (i+1)
 else if tk t i [110,117,108,108]then some (.mk 0 0 0 [] [] [],i+4)
 else if tk t i [116,114,117,101]then some (.mk 1 1 0 [] [] [],i+4)
 else if tk t i [102,97,108,115,101]then some (.mk 1 0 0 [] [] [],i+5)
 else if cI t i=110 then dP t 8 (i+1)
 else if cI t i=101 then dP t 9 (i+1)
 else none:=by cases o<;>rfl
theorem ut{t x:List UInt8}{i:Nat}(hi:i≤t.length)(h:tk t i x=true):i+x.length≤t.length:=by
 by_cases hx:t.length-i<x.length
 ·rw[GR hi hx]at h;cases h
 ·omega
set_option maxHeartbeats 4000000 in
theorem vu(K:bH cf){t:List UInt8}(hl:t.length≤2000000){b:Nat}{o:Option (Nat→Option (V×Nat))}(hV:∀ i,dO t b i=li t o i)
  (hL:∀ (st:St) (s i:Nat),st.objs s=some [S t,I i]→i≤t.length→cI t i=91→∃ r c',lh t VA (wU t o (i+1)) dY r c'∧∃ fl,ar cf 223 [.ptr s 0,I (5- (b:Int))] [] st=some (r,cQ (bU st s c') fl))
  (hM:∀ (st:St) (s i:Nat),st.objs s=some [S t,I i]→i≤t.length→cI t i=123→∃ r c',lh t VA (zU t o (i+1)) dY r c'∧∃ fl,ar cf 224 [.ptr s 0,I (5- (b:Int))] [] st=some (r,cQ (bU st s c') fl)):xL cf t b:=by
 intro st s i hs hi
 revert hL hM
 generalize 5- (b:Int)=dp
 intro hL hM
 refine fx K.tab (F:=F201) rfl rfl rfl (lb rfl) (lb rfl) (by simp[aQ]) hs (eJ t i) 1 ?_
 unfold F201 qr qd qm qc qt qu qx qs qo qN
 have hp:=(hV i).trans (vM t o i)
 simp only[↓pa,pb,↓reduceIte,reduceCtorEq]
 refine(pD K.tab (t:=t) (i:=i) (by simp only[pb,↓reduceIte,reduceCtorEq])).2 ?_
 simp only[↓pa,pb,↓reduceIte]
 refine ab (fun c1=>?_) (fun c1=>?_)
 ·rw[ai c1]at hp
  simp only[↓pa,pb,↓reduceIte,reduceCtorEq,c1]
  refine fV (Is K (t:=t) (i:=i) (by simp only[pb,↓reduceIte,reduceCtorEq]) hi hl c1) (fun v j fl hv hj=>?_) (fun p j fl hv hx hj=>?_)
  ·rw[hv]at hp
   simp only[↓pa,↓bM,pb,aj,av,ah,af,↓reduceIte,reduceEqDiff,reduceAdd,reduceLeDiff,reduceCtorEq]
   exact dq hp rfl rfl hj
  ·obtain⟨l,rfl⟩:=hx
   rw[hv]at hp
   simp only[↓pa,↓bM,pb,aj,av,ah,af,↓reduceIte,reduceEqDiff,reduceAdd,reduceLeDiff,reduceCtorEq]
   exact be hp ⟨_,rfl,rfl,by simp only[av,am],by simp only[av]⟩ rfl rfl hj
 rw[ad c1]at hp
 simp only[↓pa,pb,↓reduceIte,reduceEqDiff,c1]
 refine ab (fun c2=>?_) (fun c2=>?_)
 ·rw[ai c2]at hp
  simp only[↓pa,pb,↓reduceIte,reduceCtorEq,c2]
  refine fV (LI K (t:=t) (i:=i) (by simp only[pb,↓reduceIte,reduceCtorEq]) hi hl c2) (fun v j fl hv hj=>?_) (fun p j fl hv hx hj=>?_)
  ·rw[hv]at hp
   simp only[↓pa,↓bM,pb,aj,av,ah,af,↓reduceIte,reduceEqDiff,reduceAdd,reduceLeDiff,reduceCtorEq]
   exact dq hp rfl rfl hj
  ·obtain⟨l,rfl⟩:=hx
   rw[hv]at hp
   simp only[↓pa,↓bM,pb,aj,av,ah,af,↓reduceIte,reduceEqDiff,reduceAdd,reduceLeDiff,reduceCtorEq]
   exact be hp ⟨_,rfl,rfl,by simp only[av,am],by simp only[av]⟩ rfl rfl hj
 rw[ad c2]at hp
 by_cases c3:cI t i=45∨d8 (cI t i)=true
 ·rw[ai c3]at hp
  have c45:cI t i=45∨(¬cI t i=45∧d8 (cI t i)=true):=by
   by_cases h:cI t i=45
   ·exact .inl h
   ·exact .inr ⟨h,c3.resolve_left h⟩
  rcases c45 with c45|⟨c45,cd⟩
  ·simp only[↓pa,pb,↓reduceIte,reduceEqDiff,Int.reduceEq,reduceCtorEq,c45]
   refine pT K (t:=t) (i:=i) (by simp only[pb,↓reduceIte,reduceCtorEq]) hi hl (fun a j fl hv hj=>?_) (fun n j fl hv hj=>?_)
   ·rw[hv]at hp
    simp only[↓pa,↓bM,pb,aj,av,ah,af,↓reduceIte,reduceEqDiff,reduceAdd,reduceLeDiff,reduceCtorEq]
    exact dq hp rfl rfl hj
   ·rw[hv]at hp
    simp only[↓pa,↓bM,pb,aj,av,ah,af,↓reduceIte,reduceEqDiff,reduceAdd,reduceLeDiff,reduceCtorEq]
    exact be hp ⟨_,rfl,rfl,by simp only[av,am],by simp only[av]⟩ rfl rfl hj
  ·simp only[↓pa,pb,↓reduceIte,reduceEqDiff,reduceCtorEq,c2,c45,om K.tab,cd]
   refine pT K (t:=t) (i:=i) (by simp only[pb,↓reduceIte,reduceCtorEq]) hi hl (fun a j fl hv hj=>?_) (fun n j fl hv hj=>?_)
   ·rw[hv]at hp
    simp only[↓pa,↓bM,pb,aj,av,ah,af,↓reduceIte,reduceEqDiff,reduceAdd,reduceLeDiff,reduceCtorEq]
    exact dq hp rfl rfl hj
   ·rw[hv]at hp
    simp only[↓pa,↓bM,pb,aj,av,ah,af,↓reduceIte,reduceEqDiff,reduceAdd,reduceLeDiff,reduceCtorEq]
    exact be hp ⟨_,rfl,rfl,by simp only[av,am],by simp only[av]⟩ rfl rfl hj
 rw[ad c3]at hp
 have c3a:¬cI t i=45:=fun h=>c3 (.inl h)
 have c3b:d8 (cI t i)=false:=by cases h:d8 (cI t i);rfl;exact absurd (.inr h) c3
 simp only[↓pa,pb,↓reduceIte,reduceEqDiff,c2,c3a,om K.tab,c3b]
 refine ab (fun c4=>?_) (fun c4=>?_)
 ·rw[ai c4]at hp
  simp only[↓pa,pb,↓reduceIte,reduceCtorEq,c4]
  refine fV (Kb K (t:=t) (i:=i) (by simp only[pb,↓reduceIte,reduceCtorEq]) hi hl c4) (fun v j fl hv hj=>?_) (fun p j fl hv hx hj=>?_)
  ·have hvl:=v.ca_len
   simp (disch:=omega)only[↓pa,pb,aj,av,eh,ah,af,↓reduceIte,reduceEqDiff,reduceAdd,reduceLeDiff,reduceCtorEq,hvl,dJ,em]
   exact dq (hp.trans hv) rfl rfl hj
  ·obtain⟨cs,rfl,hcs,hcn,hct⟩:=hx
   simp (disch:=omega)only[↓pa,pb,aj,av,ah,af,↓reduceIte,reduceEqDiff,reduceAdd,reduceLeDiff,reduceCtorEq,hcs,hcn,hct,dJ,em]
   exact be (hp.trans hv) ⟨_,rfl,hcs,hcn,hct⟩ rfl rfl hj
 rw[ad c4]at hp
 simp only[↓pa,pb,↓reduceIte,reduceEqDiff,c4]
 refine ab (fun c5=>?_) (fun c5=>?_)
 ·rw[ai c5]at hp
  simp only[↓pa,pb,↓reduceIte,reduceEqDiff,reduceCtorEq,c5]
  refine fV (hL _ 0 i (by simp only[pb,↓reduceIte,reduceCtorEq]) hi c5) (fun v j fl hv hj=>?_) (fun p j fl hv hx hj=>?_)
  ·have hvl:=v.ca_len
   simp (disch:=omega)only[↓pa,pb,aj,av,eh,ah,af,↓reduceIte,reduceEqDiff,reduceAdd,reduceLeDiff,reduceCtorEq,hvl,dJ,em]
   exact dq (hp.trans hv) rfl rfl hj
  ·obtain⟨cs,rfl,hcs,hcn,hct⟩:=hx
   simp (disch:=omega)only[↓pa,pb,aj,av,ah,af,↓reduceIte,reduceEqDiff,reduceAdd,reduceLeDiff,reduceCtorEq,hcs,hcn,hct,dJ,em]
   exact be (hp.trans hv) ⟨_,rfl,hcs,hcn,hct⟩ rfl rfl hj
 rw[ad c5]at hp
 simp only[↓pa,pb,↓reduceIte,reduceEqDiff,c5]
 refine ab (fun c6=>?_) (fun c6=>?_)
 ·rw[ai c6]at hp
  simp only[↓pa,pb,↓reduceIte,reduceEqDiff,reduceCtorEq,c6]
  refine fV (hM _ 0 i (by simp only[pb,↓reduceIte,reduceCtorEq]) hi c6) (fun v j fl hv hj=>?_) (fun p j fl hv hx hj=>?_)
  ·have hvl:=v.ca_len
   simp (disch:=omega)only[↓pa,pb,aj,av,eh,ah,af,↓reduceIte,reduceEqDiff,reduceAdd,reduceLeDiff,reduceCtorEq,hvl,dJ,em]
   exact dq (hp.trans hv) rfl rfl hj
  ·obtain⟨cs,rfl,hcs,hcn,hct⟩:=hx
   simp (disch:=omega)only[↓pa,pb,aj,av,ah,af,↓reduceIte,reduceEqDiff,reduceAdd,reduceLeDiff,reduceCtorEq,hcs,hcn,hct,dJ,em]
   exact be (hp.trans hv) ⟨_,rfl,hcs,hcn,hct⟩ rfl rfl hj
 rw[ad c6]at hp
 simp only[↓pa,pb,↓reduceIte,reduceEqDiff,c6]
 refine ab (fun c7=>?_) (fun c7=>?_)
 ·rw[ai c7]at hp
  simp only[↓pa,pb,↓reduceIte,reduceCtorEq,c7]
  refine fV (Lr K (t:=t) (i:=i) (by simp only[pb,↓reduceIte,reduceCtorEq]) hi hl c7) (fun v j fl hv hj=>?_) (fun p j fl hv hx hj=>?_)
  ·have hvl:=v.ca_len
   simp (disch:=omega)only[↓pa,pb,aj,av,eh,ah,af,↓reduceIte,reduceEqDiff,reduceAdd,reduceLeDiff,reduceCtorEq,hvl,dJ,em]
   exact dq (hp.trans hv) rfl rfl hj
  ·obtain⟨cs,rfl,hcs,hcn,hct⟩:=hx
   simp (disch:=omega)only[↓pa,pb,aj,av,ah,af,↓reduceIte,reduceEqDiff,reduceAdd,reduceLeDiff,reduceCtorEq,hcs,hcn,hct,dJ,em]
   exact be (hp.trans hv) ⟨_,rfl,hcs,hcn,hct⟩ rfl rfl hj
 rw[ad c7]at hp
 simp only[↓pa,pb,↓reduceIte,reduceCtorEq,c7]
 refine(tu K.tab (t:=t) (i:=i) (x:=[110,117,108,108]) (by simp only[pb,↓reduceIte,reduceCtorEq]) hi hl (by decide)).2 ?_
 refine ab (fun c8=>?_) (fun c8=>?_)
 ·rw[ai c8]at hp
  have:=ut hi c8
  simp only[↓pa,↓bM,pb,aj,av,↓reduceIte,reduceEqDiff,reduceAdd,reduceLeDiff,reduceCtorEq]
  exact dq hp rfl rfl this
 rw[ad c8]at hp
 simp only[↓pa,pb,↓reduceIte,reduceCtorEq]
 refine(tu K.tab (t:=t) (i:=i) (x:=[116,114,117,101]) (by simp only[pb,↓reduceIte,reduceCtorEq]) hi hl (by decide)).2 ?_
 refine ab (fun c9=>?_) (fun c9=>?_)
 ·rw[ai c9]at hp
  have:=ut hi c9
  simp only[↓pa,↓bM,pb,aj,av,↓reduceIte,reduceEqDiff,reduceAdd,reduceLeDiff,reduceCtorEq]
  exact dq hp rfl rfl this
 rw[ad c9]at hp
 simp only[↓pa,pb,↓reduceIte,reduceCtorEq]
 refine(tu K.tab (t:=t) (i:=i) (x:=[102,97,108,115,101]) (by simp only[pb,↓reduceIte,reduceCtorEq]) hi hl (by decide)).2 ?_
 refine ab (fun c10=>?_) (fun c10=>?_)
 ·rw[ai c10]at hp
  have:=ut hi c10
  simp only[↓pa,↓bM,pb,aj,av,↓reduceIte,reduceEqDiff,reduceAdd,reduceLeDiff,reduceCtorEq]
  exact dq hp rfl rfl this
 rw[ad c10]at hp
 simp only[↓pa,pb,↓reduceIte,reduceEqDiff]
 refine ab (fun c11=>?_) (fun c11=>?_)
 ·rw[ai c11]at hp
  have hA:ig t i=dP t 8 (i+1):=by rw[ig,ad (by omega),ai c11]
  rw[←hA]at hp
  simp only[↓pa,pb,↓reduceIte,reduceEqDiff,reduceCtorEq,c11]
  refine fV (yl K (t:=t) (i:=i) (by simp only[pb,↓reduceIte,reduceCtorEq]) hi hl) (fun v j fl hv hj=>?_) (fun p j fl hv hx hj=>?_)
  ·have hvl:=v.ca_len
   simp (disch:=omega)only[↓pa,pb,aj,av,eh,ah,af,↓reduceIte,reduceEqDiff,reduceAdd,reduceLeDiff,reduceCtorEq,hvl,dJ,em]
   exact dq (hp.trans hv) rfl rfl hj
  ·obtain⟨cs,rfl,hcs,hcn,hct⟩:=hx
   simp (disch:=omega)only[↓pa,pb,aj,av,ah,af,↓reduceIte,reduceEqDiff,reduceAdd,reduceLeDiff,reduceCtorEq,hcs,hcn,hct,dJ,em]
   exact be (hp.trans hv) ⟨_,rfl,hcs,hcn,hct⟩ rfl rfl hj
 rw[ad c11]at hp
 simp only[↓pa,pb,↓reduceIte,reduceEqDiff,c11]
 refine ab (fun c12=>?_) (fun c12=>?_)
 ·rw[ai c12]at hp
  have hA:ig t i=dP t 9 (i+1):=by rw[ig,ai c12]
  rw[←hA]at hp
  simp only[↓pa,pb,↓reduceIte,reduceCtorEq,c12]
  refine fV (yl K (t:=t) (i:=i) (by simp only[pb,↓reduceIte,reduceCtorEq]) hi hl) (fun v j fl hv hj=>?_) (fun p j fl hv hx hj=>?_)
  ·have hvl:=v.ca_len
   simp (disch:=omega)only[↓pa,pb,aj,av,eh,ah,af,↓reduceIte,reduceEqDiff,reduceAdd,reduceLeDiff,reduceCtorEq,hvl,dJ,em]
   exact dq (hp.trans hv) rfl rfl hj
  ·obtain⟨cs,rfl,hcs,hcn,hct⟩:=hx
   simp (disch:=omega)only[↓pa,pb,aj,av,ah,af,↓reduceIte,reduceEqDiff,reduceAdd,reduceLeDiff,reduceCtorEq,hcs,hcn,hct,dJ,em]
   exact be (hp.trans hv) ⟨_,rfl,hcs,hcn,hct⟩ rfl rfl hj
 rw[ad c12]at hp
 simp only[↓pa,↓bM,pb,aj,av,↓reduceIte,reduceEqDiff,reduceAdd,reduceLeDiff,reduceCtorEq,c12]
 exact be hp ⟨_,rfl,rfl,by simp only[av,am],by simp only[av]⟩ rfl rfl hi
theorem yk(K:bH cf){t:List UInt8}(hl:t.length≤2000000):∀ b,b≤5→xL cf t b
 |0,_=>vu K hl (o:=none) (fun _=>rfl) (fun _ _ _ hs hi h=>Kg K hs hi hl h) (fun _ _ _ hs hi h=>Lt K hs hi hl h)
 |b+1,hb=>vu K hl (o:=some (dO t b)) (fun _=>rfl) (fun _ _ _ hs hi h=>Lu K hs hi hl (by omega) h (yk K hl b (by omega))) (fun _ _ _ hs hi h=>Mn K hs hi hl (by omega) h (yk K hl b (by omega)))
end Go.PM
