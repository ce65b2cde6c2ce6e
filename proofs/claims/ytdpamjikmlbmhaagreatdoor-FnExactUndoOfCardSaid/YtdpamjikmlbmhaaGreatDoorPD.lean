/- A part of the proof: texts PoH, PoI, PoJ, PoK, PoL, PoM, PoN, PgA, PgB, PgC, PgD, PgE, PgF, PgG, PgH, PgI, PgJ, PgK, PgL, PgM, PgN, PgO, joined. Conditions: none. -/
import Derived.Test.YtdpamjikmlbmhaaGreatDoorPC
import Derived.Lib.ItoaMem
import Derived.Lib.ParseIntB
import Derived.Lib.ItoaLen
import Derived.Lib.ParseIntBTie
import Derived.Laws.BitsLemmas
set_option linter.all false
set_option maxHeartbeats 32000000
open Nat (reduceEqDiff reduceAdd reduceLeDiff reduceLT reduceMul reduceSub)
namespace Go.PM
def uT(zs:List PV):List (Nat×Nat×PV)->Option (List PV)
 | []=>some zs
 |(off,sz,p)::rest=>match cellsOf p with
  |some cs=>if cs.length=sz/\off+sz<=zs.length then uT (bS zs off cs) rest else none
  |none=>none
def Ab(fr:Fr):∀ (ps:List (Nat×Nat×CX)) (zs:List PV),lF zs fr ps=uT zs (ps.map fun q=>(q.1,q.2.1,q.2.2.ev fr))
 | [],_=>rfl
 |(off,sz,x)::rest,zs=>by
  simp only[lF,bg,uT];cases cellsOf (x.ev fr)with
  |none=>rfl
  |some cs=>simp only[Ab fr rest]
def P8(o:Option (List PV))(st:St):Option (PV×St):=match o with
 |some cs=>some (.agg cs,st)
 |none=>none
def PW(e sz n:Nat)(zs:List PV)(o:Option (List PV))(st:St):Option (PV×St):=match o with
 |some cs=>if zs.length=sz/\0<sz then some (.list n cs (.full e),st)else none
 |none=>none
def BS(sz s off:Nat)(vs cs:Option (List PV))(st:St):Option (PV×St):=match vs,cs with
 |some vs,some cs=>if vs.length=sz/\off+sz<=cs.length then some (.hole,cA st s (bS cs off vs))else none
 |_,_=>none
def Jw{sz s off:Nat}{x:PV}{st:St}:AC sz (.ptr s off) x st=BS sz s off (cellsOf x) (st.objs s) st:=by
 simp only[AC,BS];cases cellsOf x with
 |none=>rfl
 |some vs=>cases h:st.objs s<;>simp only[h]
def L8{sz s off:Nat}{ag:Bool}{st:St}:AX sz ag (.ptr s off) st=(xO (st.objs s) off sz ag).map fun p=>(p,st):=by
 simp only[AX,xO];cases h:st.objs s<;>simp only[]<;>rfl
def Je(x:PV)(st:St):Option (PV×St):=match x with
 | .list n cs _=>match ui cs with
  |some bs=>if bs.length=n then some (.str ⟨bs.toArray⟩,st)else none
  |none=>none
 |_=>none
def xg(l:List UInt8):List PV:=l.map fun c=>U (c.toNat:Int)
def I8(l:List UInt8):ui (xg l)=some l:=by
 unfold xg
 induction l with
 |nil=>rfl
 |cons c l ih=>simp[ui,ih]
def FQ{l:List UInt8}{n:Nat}{t:aF}{st:St}(h:n=l.length):Je (.list n (xg l) t) st=some (S l,st):=by
 simp[Je,I8,h]
def pC(l:List UInt8):(xg l).length=l.length:=by simp[xg]
def An(l:List UInt8)(c:UInt8):xg l++[U (c.toNat:Int)]=xg (l++[c]):=by simp[xg]
def vi(sz:Nat)(x:PV)(lo hi:Option PV)(st:St):Option (PV×St):=match x with
 | .list n cs t=>match (match (match hi with|some x=>kx x n|none=>some n)with
   |none=>none
   |some h=>match (match lo with|some x=>kx x h|none=>some 0)with
    |none=>none
    |some l=>some (l,h))with
  |some (l,h)=>if cs.length=n*sz then some (.list (h-l) ((cs.drop (l*sz)).take ((h-l) *sz)) (t.cut lo.isNone n h),st)else none
  |none=>none
 |_=>none
def AP{c:PV}{cs:List PV}:bL (c::cs) 0 1 false=some c:=by
 simp[bL]
def Iu{c:PV}{cs:List PV}{n sz:Nat}{ag:Bool}:bL (c::cs) (n+1) sz ag=bL cs n sz ag:=by
 unfold bL;simp only[aA,List.drop_succ_cons,aa];have:n+1+sz<=cs.length+1↔n+sz<=cs.length:=by omega
 simp only[this]
def It{cs:List PV}{sz:Nat}:bL cs 0 sz true=if sz<=cs.length then some (.agg (cs.take sz))else none:=by
 simp[bL]
def xa{cs vs:List PV}{v:PV}{off:Nat}:bS cs off (v::vs)=bS (cs.set off v) (off+1) vs:=rfl
def xD:∀ (vs as cs:List PV),vs.length=cs.length->bS (as++cs) as.length vs=as++vs
 | [],as,[],_=>rfl
 |v::vs,as,c::cs,h=>by
  rw[xa];have:(as++c::cs).set as.length v=(as++[v])++cs:=by simp
  rw[this];have h2:=xD vs (as++[v]) cs (by simpa using h);rw[ae]at h2;simp only[aA,a6,ar]at h2;rw[h2];simp
def jm{vs cs:List PV}(h:vs.length=cs.length):bS cs 0 vs=vs:=by
 have:=xD vs [] cs h;simpa using this
def au:
  (∀ {cf:aJ} {fr:Fr} {st:St} {d:Option Nat} {zs:List PV} {ps:List (Nat×Nat×CX)},aC cf fr st d (.build zs ps)=P8 (uT zs (ps.map fun q=>(q.1,q.2.1,q.2.2.ev fr))) st)/\
  (∀ {cf:aJ} {fr:Fr} {st:St} {d:Option Nat} {e sz n:Nat} {zs:List PV} {ps:List (Nat×Nat×CX)},aC cf fr st d (.bsl e sz zs n ps)=PW e sz n zs (uT (List.replicate n zs).flatten (ps.map fun q=>(q.1,q.2.1,q.2.2.ev fr))) st)/\
  (∀ {cf:aJ} {fr:Fr} {st:St} {d:Option Nat} {e sz b:Nat} {x y:CX},aC cf fr st d (.app e sz b x y)=r7 e sz b (x.ev fr) (y.ev fr) st)/\
  (∀ {cf:aJ} {fr:Fr} {st:St} {d:Option Nat} {x:CX},aC cf fr st d (.b2s x)=Je (x.ev fr) st)/\
  (∀ {cf:aJ} {fr:Fr} {st:St} {d:Option Nat} {sz:Nat} {x:CX},aC cf fr st d (.slc sz x none none)=vi sz (x.ev fr) none none st)/\
  (∀ {cf:aJ} {fr:Fr} {st:St} {d:Option Nat} {sz:Nat} {x a:CX},aC cf fr st d (.slc sz x (some a) none)=vi sz (x.ev fr) (some (a.ev fr)) none st)/\
  (∀ {cf:aJ} {fr:Fr} {st:St} {d:Option Nat} {sz:Nat} {x b:CX},aC cf fr st d (.slc sz x none (some b))=vi sz (x.ev fr) none (some (b.ev fr)) st)/\
  (∀ {cf:aJ} {fr:Fr} {st:St} {d:Option Nat} {sz:Nat} {x a b:CX},aC cf fr st d (.slc sz x (some a) (some b))=vi sz (x.ev fr) (some (a.ev fr)) (some (b.ev fr)) st):=by
 refine⟨?_,?_,?_,?_,?_,?_,?_,?_⟩
 ·intros;simp only[aC,Ab];rfl
 ·intros;simp only[aC,Ab];rfl
 all_goals (intros;rfl)
def ah:
  (∀ {sz s off:Nat} {x:PV} {st:St},AC sz (.ptr s off) x st=BS sz s off (cellsOf x) (st.objs s) st)/\
  (∀ {sz s off:Nat} {ag:Bool} {st:St},AX sz ag (.ptr s off) st=(xO (st.objs s) off sz ag).map fun p=>(p,st))/\
  (∀ {sz s off:Nat} {vs cs:List PV} {st:St},BS sz s off (some vs) (some cs) st=if vs.length=sz/\off+sz<=cs.length then some (.hole,cA st s (bS cs off vs))else none)/\
  (∀ {cs:List PV} {off sz:Nat} {ag:Bool},xO (some cs) off sz ag=bL cs off sz ag)/\
  (∀ {c:PV} {cs:List PV},bL (c::cs) 0 1 false=some c)/\(∀ {c:PV} {cs:List PV} {n sz:Nat} {ag:Bool},bL (c::cs) (n+1) sz ag=bL cs n sz ag)/\
  (∀ {cs:List PV} {sz:Nat},bL cs 0 sz true=if sz<=cs.length then some (.agg (cs.take sz))else none)/\
  (∀ {cs:List PV},cellsOf (.agg cs)=some cs)/\(∀ {k:IntKind} {n:Int},cellsOf (.int k n)=some [.int k n])/\(∀ {b:Bool},cellsOf (.bool b)=some [.bool b])/\(∀ {s:ByteArray},cellsOf (.str s)=some [.str s])/\(∀ {n:Nat} {cs:List PV} {t:aF},cellsOf (.list n cs t)=some [.list n cs t])/\
  (∀ {cs st},P8 (some cs) st=some (.agg cs,st))/\(∀ {e sz n:Nat} {zs cs:List PV} {st:St},PW e sz n zs (some cs) st=if zs.length=sz/\0<sz then some (.list n cs (.full e),st)else none)/\
  (∀ {zs:List PV},uT zs []=some zs)/\(∀ {zs:List PV} {off sz:Nat} {p:PV} {rest:List (Nat×Nat×PV)},uT zs ((off,sz,p)::rest)=match cellsOf p with|some cs=>if cs.length=sz/\off+sz<=zs.length then uT (bS zs off cs) rest else none|none=>none)/\
  (∀ {cs:List PV} {off:Nat},bS cs off []=cs)/\(∀ {cs vs:List PV} {v:PV} {off:Nat},bS cs off (v::vs)=bS (cs.set off v) (off+1) vs)/\
  (∀ {c v:PV} {cs:List PV},(c::cs).set 0 v=v::cs)/\(∀ {c v:PV} {cs:List PV} {n:Nat},(c::cs).set (n+1) v=c::cs.set n v)/\
  (∀ {zs:List PV},(List.replicate 1 zs).flatten=zs)/\(∀ {zs:List PV},(List.replicate 2 zs).flatten=zs++zs)/\
  (∀ {cs:List PV},cs.take 0=[])/\(∀ {c:PV} {cs:List PV} {n:Nat},(c::cs).take (n+1)=c::cs.take n)/\(∀ {n:Nat},([]:List PV).take n=[])/\
  (([]:List PV).length=0)/\(∀ {c:PV} {cs:List PV},(c::cs).length=cs.length+1)/\
  (∀ {vs:List PV},([]++vs)=vs)/\(∀ {v:PV} {vs ws:List PV},((v::vs)++ws)=v::(vs++ws))/\
  (∀ {t:aF} {st:St} {n:Nat},(cV t st n).objs=st.objs)/\(∀ {t:aF} {st:St} {n:Nat},(cV t st n).maps=st.maps)/\
  (∀ {st:St} {v:Nat},(db st v).objs=st.objs)/\(∀ {st:St} {v:Nat},(db st v).maps=st.maps)/\(∀ {st:St} {v:Nat},(db st v).nx=st.nx)/\(∀ {st:St} {v:Nat},(db st v).cnt=st.cnt):=by
 refine⟨Jw,L8,rfl,rfl,AP,Iu,It,rfl,rfl,rfl,rfl,rfl,rfl,rfl,rfl,rfl,rfl,rfl,rfl,rfl,?_,?_,?_,?_,?_,?_,?_,?_,?_,jX,K9,rfl,rfl,rfl,rfl⟩<;>intros<;>first|rfl|simp[List.replicate]
def s8{fr:Fr}{st:St}{r:iG}{rs:List iG}:fG fr st (r::rs)=wG (od fr st r) (fG fr st rs):=by
 simp only[fG];cases od fr st r<;>cases fG fr st rs<;>rfl
def fO{n:Nat}{cs:List PV}{t:aF}:aO (.list n cs t)= .list n (aQ cs) .no:=by
 simp only[aO,aQ,ren];cases t<;>rfl
def aH:
  (∀ {rs:List iG} {Q:PV->List PV->Prop} {fr:Fr} {st:St},Jn rs Q .ret (fr,st)↔zO Q (fG fr st rs) (st.objs 0))/\
  (∀ {rs:List iG} {Q:PV->List PV->Prop} {fr:Fr} {st:St},Jn rs Q .go (fr,st)↔zO Q (fG fr st rs) (st.objs 0))/\
  (∀ {rs:List iG} {Q:PV->Prop} {fr:Fr} {st:St},BG rs Q .ret (fr,st)↔zO (fun p _=>Q p) (fG fr st rs) (some []))/\
  (∀ {rs:List iG} {Q:PV->Prop} {fr:Fr} {st:St},BG rs Q .go (fr,st)↔zO (fun p _=>Q p) (fG fr st rs) (some []))/\
  (∀ {Q:PV->List PV->Prop} {ps c:List PV},zO Q (some ps) (some c)↔(ft ps=true/\aX c=true/\Q (aO (fW ps)) (aQ c)))/\
  (∀ {fr:Fr} {st:St},fG fr st []=some [])/\(∀ {fr:Fr} {st:St} {r:iG} {rs:List iG},fG fr st (r::rs)=wG (od fr st r) (fG fr st rs))/\
  (∀ {p:PV} {ps:List PV},wG (some p) (some ps)=some (p::ps))/\
  (∀ {fr:Fr} {st:St} {t:Nat},od fr st (.tmp t)=some (fr t))/\(∀ {fr:Fr} {st:St} {a sz:Nat} {ag:Bool},od fr st (.cell a sz ag)=wJ (fr a) sz ag st)/\
  (∀ {s off sz:Nat} {ag:Bool} {st:St},wJ (.ptr s off) sz ag st=xO (st.objs s) off sz ag)/\
  (ft []=true)/\(∀ {p:PV} {ps:List PV},ft (p::ps)=(np p && li p && ft ps))/\
  (∀ {p:PV},fW [p]=p)/\(∀ {p q:PV} {ps:List PV},fW (p::q::ps)= .tup (p::q::ps))/\
  (∀ {k:IntKind} {n:Int},li (.int k n)=true)/\(∀ {b:Bool},li (.bool b)=true)/\(∀ {s:ByteArray},li (.str s)=true)/\(∀ {cs:List PV},li (.agg cs)=true)/\(∀ {n:Nat} {cs:List PV} {t:aF},li (.list n cs t)=true)/\
  (∀ {k:IntKind} {n:Int},np (.int k n)=true)/\(∀ {b:Bool},np (.bool b)=true)/\(∀ {s:ByteArray},np (.str s)=true)/\(∀ {cs:List PV},np (.agg cs)=aX cs)/\(∀ {n:Nat} {cs:List PV} {t:aF},np (.list n cs t)=aX cs)/\(np .nili=true)/\(np .err=true)/\
  (aX []=true)/\(∀ {p:PV} {ps:List PV},aX (p::ps)=(np p && aX ps))/\
  (∀ {k:IntKind} {n:Int},aO (.int k n)= .int k n)/\(∀ {b:Bool},aO (.bool b)= .bool b)/\(∀ {s:ByteArray},aO (.str s)= .str s)/\(∀ {cs:List PV},aO (.agg cs)= .agg (aQ cs))/\(∀ {cs:List PV},aO (.tup cs)= .tup (aQ cs))/\(∀ {n:Nat} {cs:List PV} {t:aF},aO (.list n cs t)= .list n (aQ cs) .no)/\
  (aQ []=[])/\(∀ {p:PV} {ps:List PV},aQ (p::ps)=aO p::aQ ps)/\
  (∀ {ns:List Nat} {c:List PV} {cs:List (List PV)},(bV ns (c::cs)).objs 0=some c):=by
 refine⟨?_,?_,?_,?_,?_,?_,s8,?_,?_,?_,?_,?_,?_,?_,?_,?_,?_,?_,?_,?_,?_,?_,?_,?_,?_,?_,?_,?_,?_,?_,?_,?_,?_,?_,fO,?_,?_,?_⟩<;>intros<;>first|rfl|(simp only[Jn,BG,kD,qy])
def WK(cf:aJ)(chk:List (Nat×Nat))(acc:List (List Nat))(os:List cW)(x:Fr×St)(K:Fr×St->Prop):Prop:=
 ∃ ks y,jc cf os x=some (ks,y)/\chk.all (oV (acc++ks))=true/\K y
def J5(b:Bool)(A:Prop):Prop:=b=true/\A
section
variable {cf:aJ} {N:Nat} {fr:Fr} {st:St} {chk:List (Nat×Nat)} {acc:List (List Nat)}
def OJ{os:List cW}{q:Nat×Nat}{Q:Ex->Fr×St->Prop}:Wp cf N (.reg os (q::chk)) (fr,st) Q↔WK cf (q::chk) [] os (fr,st) (Q .go):=by
 unfold Wp WK;simp only[ev,tN,aU];cases h:jc cf os (fr,st)with
 |none=>simp
 |some z=>
  obtain⟨ks,y⟩:=z;simp only;constructor
  ·rintro⟨e,y',h,hq⟩;split at h
   ·rename_i hc;simp only[eO,bB,cL]at h;obtain⟨rfl,rfl⟩:=h;exact⟨ks,y,rfl,hc,hq⟩
   ·simp at h
  ·rintro⟨ks',y',h,hc,hq⟩;simp only[bB,cL]at h;obtain⟨rfl,rfl⟩:=h;rw[am hc];exact⟨.go,y,rfl,hq⟩
def Qe{K:Fr×St->Prop}:WK cf chk acc [] (fr,st) K↔J5 (chk.all (oV acc)) (eG K (fr,st)):=by
 unfold WK J5 eG;simp only[jc];constructor
 ·rintro⟨ks,y,h,hc,hk⟩;cases h;rw[aD]at hc;exact⟨hc,hk⟩
 ·rintro⟨hc,hk⟩;exact⟨[],_,rfl,by rw[aD];exact hc,hk⟩
def As{o:cW}{os:List cW}{x:Fr×St}{K:Fr×St->Prop}:
  WK cf chk acc (o::os) x K↔∃ y,dF cf o x=some y/\WK cf chk (acc++[br x.1 o.op]) os y K:=by
 unfold WK;simp only[jc];constructor
 ·rintro⟨ks,y,h,hc,hk⟩;split at h
  ·rename_i z hz;refine⟨z,hz,?_⟩;split at h
   ·rename_i hz';cases h;exact⟨_,_,hz',by rw[bn];exact hc,hk⟩
   ·cases h
  ·cases h
 ·rintro⟨y,hy,ks,z,hz,hc,hk⟩;rw[hy];simp only[hz];exact⟨_,_,rfl,by rw[bn]at hc;exact hc,hk⟩
def ON{d:Option Nat}{op:eV}{os:List cW}{K:Fr×St->Prop}:
  WK cf chk acc (⟨none,d,op⟩::os) (fr,st) K↔dj (aC cf fr st d op) (fun v st'=>(put (de cf op d st fr) d v,st')) (fun y=>WK cf chk (acc++[br fr op]) os y K):=by
 rw[As];have h:=Cu (cf:=cf) (fr:=fr) (st:=st) (d:=d) (op:=op) (os:=[]) (K:=fun y=>WK cf chk (acc++[br fr op]) os y K);simp only[WO,jl,dj]at h ⊢;rw[<-(show(∃ y,(match dF cf ⟨none,d,op⟩ (fr,st)with|some y=>some y|none=>none)=some y/\WK cf chk (acc++[br fr op]) os y K)↔∃ y,dF cf ⟨none,d,op⟩ (fr,st)=some y/\WK cf chk (acc++[br fr op]) os y K by
  constructor<;>rintro⟨y,h,k⟩<;>refine⟨y,?_,k⟩<;>revert h<;>cases dF cf ⟨none,d,op⟩ (fr,st)<;>simp)]
 constructor
 ·intro hh;obtain⟨v,st',h1,y,h2,h3⟩:=h.1 hh;cases h2;exact⟨v,st',h1,h3⟩
 ·rintro⟨v,st',h1,h3⟩;exact h.2 ⟨v,st',h1,_,rfl,h3⟩
def M2{s:Nat}{b:Bool}{d:Option Nat}{op:eV}{os:List cW}{K:Fr×St->Prop}:
  WK cf chk acc (⟨some (s,b),d,op⟩::os) (fr,st) K↔DF (fr s) b (eG (fun y=>WK cf chk acc (⟨none,d,op⟩::os) y K) (fr,st)) (eG (fun y=>WK cf chk (acc++[br fr op]) os y K) (put fr d .hole,st)):=by
 simp only[eG];rw[As];have hW:=As (cf:=cf) (chk:=chk) (acc:=acc) (o:=⟨none,d,op⟩) (os:=os) (x:=(fr,st)) (K:=K);rw[hW];clear hW;unfold DF;simp only[dF,eZ];generalize fr s=p;cases p with
 |bool b'=>
  cases b<;>cases b'<;>simp[mh]
 |hole=>simp
 |_=>simp
end
def ax:
  (∀ {cf:aJ} {N:Nat} {fr:Fr} {st:St} {os:List cW} {q:Nat×Nat} {chk:List (Nat×Nat)} {Q:Ex->Fr×St->Prop},Wp cf N (.reg os (q::chk)) (fr,st) Q↔WK cf (q::chk) [] os (fr,st) (Q .go))/\
  (∀ {cf:aJ} {chk:List (Nat×Nat)} {acc:List (List Nat)} {fr:Fr} {st:St} {K:Fr×St->Prop},WK cf chk acc [] (fr,st) K↔J5 (chk.all (oV acc)) (eG K (fr,st)))/\
  (∀ {cf:aJ} {chk:List (Nat×Nat)} {acc:List (List Nat)} {fr:Fr} {st:St} {d:Option Nat} {op:eV} {os:List cW} {K:Fr×St->Prop},
   WK cf chk acc (⟨none,d,op⟩::os) (fr,st) K↔dj (aC cf fr st d op) (fun v st'=>(put (de cf op d st fr) d v,st')) (fun y=>WK cf chk (acc++[br fr op]) os y K))/\
  (∀ {cf:aJ} {chk:List (Nat×Nat)} {acc:List (List Nat)} {fr:Fr} {st:St} {s:Nat} {b:Bool} {d:Option Nat} {op:eV} {os:List cW} {K:Fr×St->Prop},
   WK cf chk acc (⟨some (s,b),d,op⟩::os) (fr,st) K↔DF (fr s) b (eG (fun y=>WK cf chk acc (⟨none,d,op⟩::os) y K) (fr,st)) (eG (fun y=>WK cf chk (acc++[br fr op]) os y K) (put fr d .hole,st)))/\
  (∀ {f:Fr×St->Prop} {x:Fr×St},J5 true (eG f x)↔f x):=
 ⟨OJ,Qe,ON,M2,by simp[J5,eG]⟩
def ap:
  (∀ {fr:Fr} {x:CX},br fr (.mv x)=[])/\(∀ {fr:Fr} {a b c:CX},br fr (.pick a b c)=[])/\(∀ {fr:Fr} {zs:List PV},br fr (.alloc zs)=[])/\(∀ {fr:Fr} {n:Nat} {x:CX},br fr (.box n x)=[])/\
  (∀ {fr:Fr} {zs:List PV} {ps:List (Nat×Nat×CX)},br fr (.build zs ps)=[])/\(∀ {fr:Fr} {e sz n:Nat} {zs:List PV} {ps:List (Nat×Nat×CX)},br fr (.bsl e sz zs n ps)=[])/\
  (∀ {fr:Fr} {sz:Nat} {ag:Bool} {x:CX},br fr (.load sz ag x)=nA (x.ev fr))/\(∀ {fr:Fr} {sz:Nat} {x y:CX},br fr (.store sz x y)=nA (x.ev fr))/\
  (∀ {fr:Fr} {x:CX},br fr (.nck x)=[])/\(∀ {fr:Fr} {op:BinOp} {x y:CX},br fr (.bin op x y)=[])/\(∀ {fr:Fr} {b:Bool} {x:CX},br fr (.isnil b x)=[])/\(∀ {fr:Fr} {b:Bool} {x y:CX},br fr (.beq b x y)=[])/\
  (∀ {fr:Fr} {op:UnOp} {x:CX},br fr (.un op x)=[])/\(∀ {fr:Fr} {k:IntKind} {x:CX},br fr (.toInt k x)=[])/\(∀ {fr:Fr} {x:CX},br fr (.s2s x)=[])/\(∀ {fr:Fr} {x:CX} {i:Nat},br fr (.ext x i)=[])/\
  (∀ {fr:Fr} {o:Nat} {x:CX},br fr (.fad o x)=[])/\(∀ {fr:Fr} {o sz:Nat} {ag:Bool} {x:CX},br fr (.fld o sz ag x)=[])/\(∀ {fr:Fr} {sz:Nat} {x y:CX},br fr (.iad sz x y)=[])/\(∀ {fr:Fr} {x y:CX},br fr (.sidx x y)=[])/\
  (∀ {fr:Fr} {x:CX} {l h:Option CX},br fr (.ssl x l h)=[])/\(∀ {fr:Fr} {sz:Nat} {x:CX} {l h:Option CX},br fr (.slc sz x l h)=[])/\(∀ {fr:Fr} {x:CX},br fr (.slen x)=[])/\(∀ {fr:Fr} {x:CX},br fr (.len x)=[])/\
  (∀ {fr:Fr} {e sz b:Nat} {x y:CX},br fr (.app e sz b x y)=[])/\(∀ {fr:Fr} {x:CX},br fr (.b2s x)=[])/\(∀ {fr:Fr} {e sz b:Nat} {zs:List PV} {n c:CX},br fr (.mks e sz b zs n c)=[])/\(∀ {fr:Fr} {e sz b:Nat} {n c:CX},br fr (.mk0 e sz b n c)=[])/\
  (∀ {fr:Fr} {f:Nat} {as:List CX} {mv:List Nat},br fr (.call f as mv)=(dw (as.map (·.ev fr))).getD [])/\
  (∀ {s o:Nat},nA (.ptr s o)=[s])/\(∀ {cs:List PV} {o:Nat} {t:aF},nA (.iptr cs o t)=[])/\(nA .hole=[])/\(nA .any=[])/\
  (∀ {l:List Nat},(some l).getD []=l)/\(∀ {k:IntKind} {n:Int} {ps:List PV},dw (.int k n::ps)=dw ps)/\(∀ {s:ByteArray} {ps:List PV},dw (.str s::ps)=dw ps)/\(∀ {b:Bool} {ps:List PV},dw (.bool b::ps)=dw ps)/\(∀ {ps:List PV},dw (.hole::ps)=dw ps)/\(dw []=some [])/\
  (∀ {as:List (List Nat)},[]++as=as)/\(∀ {a:List Nat} {as bs:List (List Nat)},(a::as)++bs=a::(as++bs)):=by
 refine⟨?_,?_,?_,?_,?_,?_,?_,?_,?_,?_,?_,?_,?_,?_,?_,?_,?_,?_,?_,?_,?_,?_,?_,?_,?_,?_,?_,?_,?_,?_,?_,?_,?_,?_,?_,?_,?_,?_,?_,?_,?_⟩<;>intros<;>rfl
def aq:(∀ {ks:List (List Nat)},List.all [] (oV ks)=true)/\(∀ {ks:List (List Nat)} {q:Nat×Nat} {qs:List (Nat×Nat)},List.all (q::qs) (oV ks)=(oV ks q && List.all qs (oV ks)))/\
  (∀ {ks:List (List Nat)} {i j:Nat},oV ks (i,j)=((ks[i]?).getD []).all fun k=>!((ks[j]?).getD []).contains k)/\(∀ {f:Nat->Bool},List.all [] f=true)/\(∀ {f:Nat->Bool} {k:Nat} {ks:List Nat},List.all (k::ks) f=(f k && List.all ks f))/\
  (∀ {k:Nat},([]:List Nat).contains k=false)/\(∀ {k j:Nat} {ks:List Nat},(j::ks).contains k=(decide (k=j)||ks.contains k)):=by
 refine⟨rfl,rfl,rfl,rfl,rfl,rfl,?_⟩
 intros k j ks
 rw[List.contains_cons];congr 1
mutual
theorem mm(f:Nat->Option Nat)(h:Nat->Nat):∀ p:PV,(∀ q∈aB p,f q.1=some (h q.1))->aB (ren f false p)=(aB p).map fun q=>(h q.1,q.2)
 | .list n cs t,hf=>by
  have ih:=lV f h cs fun q hq=>hf q (by simp only[aB,aG];exact .inr hq);simp only[ren,aB,ih,cn];congr 1;cases t with
  |own k e=>
   have:=hf (k,n) (by simp[aB]);simp only at this;simp[aF.ren,this]
  |sub k=>
   simp only[aF.ren];cases f k<;>rfl
  |el k e n=>
   simp only[aF.ren];cases f k<;>rfl
  |_=>rfl
 | .iptr cs o t,hf=>by
  have ih:=lV f h cs hf;simp only[ren,aB,ih]
 | .agg cs,hf=>by
  have ih:=lV f h cs hf;simp only[ren,aB,ih]
 | .tup cs,hf=>by
  have ih:=lV f h cs hf;simp only[ren,aB,ih]
 | .fn g cs,hf=>by
  have ih:=lV f h cs hf;simp only[ren,aB,ih]
 | .any,_| .hole,_| .int _ _,_| .bool _,_| .str _,_| .nilp,_| .nili,_| .err,_| .ptr _ _,_| .osl _ _ _ _,_| .mp _,_=>rfl
theorem lV(f:Nat->Option Nat)(h:Nat->Nat):∀ ps:List PV,(∀ q∈aw ps,f q.1=some (h q.1))->aw (bm f false ps)=(aw ps).map fun q=>(h q.1,q.2)
 | [],_=>rfl
 |p::ps,hf=>by
  simp only[bm,aw,cn];rw[mm f h p fun q hq=>hf q (by simp only[aw,aG];exact .inl hq),lV f h ps fun q hq=>hf q (by simp only[aw,aG];exact .inr hq)]
end
mutual
theorem ij(f:Nat->Option Nat):∀ p:PV,aO (ren f false p)=aO p
 | .list n cs t=>by
  have ih:=fw f cs;simp only[aO,aQ,ren]at ih ⊢;rw[ih];congr 1;cases t with
  |own k e=>simp only[aF.ren];cases f k<;>rfl
  |sub k=>simp only[aF.ren];cases f k<;>rfl
  |el k e n=>simp only[aF.ren];cases f k<;>rfl
  |_=>rfl
 | .iptr cs o t=>by
  have ih:=fw f cs;simp only[aO,aQ,ren]at ih ⊢;rw[ih];congr 1;cases t with
  |own k e=>simp only[aF.ren];cases f k<;>rfl
  |sub k=>simp only[aF.ren];cases f k<;>rfl
  |el k e n=>simp only[aF.ren];cases f k<;>rfl
  |_=>rfl
 | .agg cs=>by
  have ih:=fw f cs;simp only[aO,aQ,ren]at ih ⊢;rw[ih]
 | .tup cs=>by
  have ih:=fw f cs;simp only[aO,aQ,ren]at ih ⊢;rw[ih]
 | .fn g cs=>by
  have ih:=fw f cs;simp only[aO,aQ,ren]at ih ⊢;rw[ih]
 | .any| .hole| .int _ _| .bool _| .str _| .nilp| .nili| .err| .ptr _ _| .osl _ _ _ _| .mp _=>rfl
theorem fw(f:Nat->Option Nat):∀ ps:List PV,aQ (bm f false ps)=aQ ps
 | []=>rfl
 |p::ps=>by
  have h1:=ij f p;have h2:=fw f ps;simp only[aO,aQ,bm]at h1 h2 ⊢;rw[h1,h2]
end
def ck(k:Nat):List (Nat×Nat)->Nat
 | []=>0
 |q::l=>(if q.1=k then 1 else 0)+ck k l
def bt(k:Nat):∀ a b:List (Nat×Nat),ck k (a++b)=ck k a+ck k b
 | [],b=>by simp[ck]
 |q::a,b=>by rw[bo,ck,ck,bt k a b];omega
def fJ{k:Nat}:∀ {l:List (Nat×Nat)},0<ck k l↔∃ q∈l,q.1=k
 | []=>by simp[ck]
 |q::l=>by
  rw[ck];have ih:= @fJ k l;by_cases h:q.1=k
  ·simp[h];omega
  ·rw[ai h,ar,ih];simp[h]
def tz{k:Nat}{l:List (Nat×Nat)}(h:∀ q∈l,q.1≠k):ck k l=0:=by
 have:= @fJ k l;by_cases h0:0<ck k l
 ·obtain⟨q,hq,he⟩:=this.1 h0;exact absurd he (h q hq)
 ·omega
def ne:∀ {l:List (Nat×Nat)},(∀ k,ck k l<=1)->sG (l.map (·.1))=true
 | [],_=>rfl
 |q::l,h=>by
  simp only[bg,sG,aj,mK];refine⟨?_,ne fun k=>?_⟩
  ·have h1:=h q.1;rw[ck,am rfl]at h1;cases hc:(l.map (·.1)).contains q.1 with
   |false=>rfl
   |true=>
    obtain⟨x,hx,he⟩:=cX.1 (ff.1 hc);have:=fJ.2 ⟨x,hx,he⟩;omega
  ·have h1:=h k;rw[ck]at h1;omega
mutual
def aY:PV->Bool
 | .list _ cs t=>(match t with| .own _ _=>true| .sub _=>false| .el .. =>false|_=>cs.isEmpty) && bq cs
 | .agg cs=>bq cs
 | .tup cs=>bq cs
 | .fn _ cs=>bq cs
 | .iptr .. =>false
 |_=>true
def bq:List PV->Bool
 | []=>true
 |p::ps=>aY p && bq ps
end
mutual
theorem ld:∀ p:PV,aY p=true->fU p=true
 | .list n cs t,h=>by
  simp only[aY,aj]at h;simp only[fU,aj];refine⟨?_,lQ cs h.2⟩;cases t<;>simp_all [aF.of]
 | .agg cs,h=>by simp only[aY]at h;simp only[fU];exact lQ cs h
 | .tup cs,h=>by simp only[aY]at h;simp only[fU];exact lQ cs h
 | .fn _ cs,h=>by simp only[aY]at h;simp only[fU];exact lQ cs h
 | .iptr ..,h=>by simp[aY]at h
 | .any,_| .hole,_| .int _ _,_| .bool _,_| .str _,_| .nilp,_| .nili,_| .err,_| .ptr _ _,_| .osl _ _ _ _,_| .mp _,_=>rfl
theorem lQ:∀ ps:List PV,bq ps=true->fT ps=true
 | [],_=>rfl
 |p::ps,h=>by
  simp only[bq,aj]at h;simp only[fT,ld p h.1,lQ ps h.2,ay]
end
mutual
theorem tH(K:Nat->Bool):∀ p:PV,aY p=true->(∀ q∈aB p,K q.1=false)->tf K p=true
 | .list n cs t,h,hk=>by
  simp only[aY,aj]at h;simp only[tf,aj];refine⟨?_,m0 K cs h.2 fun q hq=>hk q (by simp only[aB,aG];exact .inr hq)⟩;cases t with
  |own k e=>have:=hk (k,n) (by simp[aB]);simp only[aF.free,aF.of];simp_all
  |sub k=>simp at h
  |el k e n=>simp at h
  |no=>rfl
  |nil=>rfl
  |full e=>rfl
 | .agg cs,h,hk=>by simp only[aY]at h;simp only[tf];exact m0 K cs h hk
 | .tup cs,h,hk=>by simp only[aY]at h;simp only[tf];exact m0 K cs h hk
 | .fn _ cs,h,hk=>by simp only[aY]at h;simp only[tf];exact m0 K cs h hk
 | .iptr ..,h,_=>by simp[aY]at h
 | .any,_,_| .hole,_,_| .int _ _,_,_| .bool _,_,_| .str _,_,_| .nilp,_,_| .nili,_,_| .err,_,_| .ptr _ _,_,_| .osl _ _ _ _,_,_| .mp _,_,_=>rfl
theorem m0(K:Nat->Bool):∀ ps:List PV,bq ps=true->(∀ q∈aw ps,K q.1=false)->dN K ps=true
 | [],_,_=>rfl
 |p::ps,h,hk=>by
  simp only[bq,aj]at h;simp only[dN,tH K p h.1 fun q hq=>hk q (by simp only[aw,aG];exact .inl hq),m0 K ps h.2 fun q hq=>hk q (by simp only[aw,aG];exact .inr hq),ay]
end
mutual
theorem kI(f:Nat->Option Nat):∀ p:PV,aY p=true->(∀ q∈aB p,(f q.1).isSome=true)->aY (ren f false p)=true
 | .list n cs t,h,hk=>by
  simp only[aY,aj]at h;rw[gx];simp only[aY,aj];refine⟨?_,gA f cs h.2 fun q hq=>hk q (by simp only[aB,aG];exact .inr hq)⟩;have he:(bm f false cs).isEmpty=cs.isEmpty:=by cases cs<;>rfl
  cases t with
  |own k e=>
   have h1:=hk (k,n) (by simp[aB]);obtain⟨k',hk'⟩:=cu.1 h1;simp only[aF.ren,show f k=some k' from hk']
  |sub k=>simp at h
  |el k e n=>simp at h
  |no=>simp only[aF.ren,he];exact h.1
  |nil=>simp only[aF.ren,he];exact h.1
  |full e=>simp only[aF.ren,he];exact h.1
 | .agg cs,h,hk=>by simp only[aY]at h;simp only[ren,aY];exact gA f cs h hk
 | .tup cs,h,hk=>by simp only[aY]at h;simp only[ren,aY];exact gA f cs h hk
 | .fn _ cs,h,hk=>by simp only[aY]at h;simp only[ren,aY];exact gA f cs h hk
 | .iptr ..,h,_=>by simp[aY]at h
 | .any,_,_| .hole,_,_| .int _ _,_,_| .bool _,_,_| .str _,_,_| .nilp,_,_| .nili,_,_| .err,_,_| .ptr _ _,_,_| .osl _ _ _ _,_,_| .mp _,_,_=>rfl
theorem gA(f:Nat->Option Nat):∀ ps:List PV,bq ps=true->(∀ q∈aw ps,(f q.1).isSome=true)->bq (bm f false ps)=true
 | [],_,_=>rfl
 |p::ps,h,hk=>by
  simp only[bq,aj]at h;simp only[bm,bq,kI f p h.1 fun q hq=>hk q (by simp only[aw,aG];exact .inl hq),gA f ps h.2 fun q hq=>hk q (by simp only[aw,aG];exact .inr hq),ay]
end
def cB(nx:Nat):List Nat->List (Nat×Nat)
 | []=>[]
 |n::ns=>(nx,n)::cB (nx+1) ns
def vr(nx:Nat):∀ a b:List Nat,cB nx (a++b)=cB nx a++cB (nx+a.length) b
 | [],b=>by simp[cB]
 |n::a,b=>by rw[bo,cB,cB,vr (nx+1) a b,bo,aA,lU,Nat.add_comm 1]
def GA(nx:Nat):∀ a:List Nat,(cB nx a).length=a.length
 | []=>rfl
 |n::a=>by rw[cB,aA,GA (nx+1) a,aA]
def lq{nx:Nat}:∀ {a:List Nat} {q:Nat×Nat},q∈cB nx a->nx<=q.1/\q.1<nx+a.length/\a.getD (q.1-nx) 0=q.2
 | [],q,h=>by simp[cB]at h
 |n::a,q,h=>by
  rw[cB,aZ]at h;rcases h with rfl|h
  ·simp
  ·obtain⟨h1,h2,h3⟩:=lq h;refine⟨by omega,by simp;omega,?_⟩;obtain⟨d,hd⟩:∃ d,q.1-nx=d+1:=⟨q.1-nx-1,by omega⟩;rw[hd,List.getD_cons_succ,<-h3];congr 1;omega
def qS{nx:Nat}(k:Nat):∀ a:List Nat,ck k (cB nx a)<=1
 | []=>by simp[cB,ck]
 |n::a=>by
  rw[cB,ck];have h1:= @qS (nx+1) k a;by_cases h:nx=k
  ·have:ck k (cB (nx+1) a)=0:=tz fun q hq=>by have:=lq hq;omega
   simp only[h,if_true]at this ⊢;omega
  ·simp only[h,if_false];omega
def md{x:Nat}:∀ {xs:List Nat},x∈xs->(bi xs x).isSome=true
 |y::ys,h=>by
  rw[bi];split
  ·rfl
  ·rename_i hn;have hx:x∈ys:=by
    rcases aZ.1 h with rfl|h
    ·exact absurd rfl hn
    ·exact h
   have:= @md x ys hx;simpa using this
def nD:∀ {l:List (Nat×Nat)} (d:Nat),(∀ k,ck k l<=1)->l.map (fun q=>(d+(bi (l.map (·.1)) q.1).getD 0,q.2))=cB d (l.map (·.2))
 | [],_,_=>rfl
 |q::l,d,h=>by
  have hl:∀ k,ck k l<=1:=fun k=>by have:=h k;rw[ck]at this;omega
  have ih:=nD (d+1) hl;simp only[bg,cB,bi,if_true];congr 1;rw[<-ih];refine List.map_congr_left fun x hx=>?_;have hne:q.1≠x.1:=by
   intro he;have h1:=h q.1;rw[ck,am rfl]at h1;have:=fJ.2 ⟨x,hx,he.symm⟩;omega
  rw[ai hne];have hm:x.1∈l.map (·.1):=cX.2 ⟨x,hx,rfl⟩;obtain⟨i,hi⟩:=cu.1 (md hm);simp only[hi,eO,Option.getD_some];congr 1;omega
def a8(st:St)(l:List (Nat×Nat)):Prop:=(∀ k,ck k l<=1)/\∀ q∈l,q.1<st.nx/\st.cnt q.1=q.2/\st.fl<=q.1
def a8.ok{st:St}{l:List (Nat×Nat)}(h:a8 st l):l.all (uH st)=true:=by
 rw[cw];intro q hq;obtain⟨h1,h2,h3⟩:=h.2 q hq;simp[uH,iQ,h1,h2,h3]
def cK{st:St}{l:List (Nat×Nat)}(h:a8 st l)(hf:st.fl<=st.nx)(ns:List Nat):a8 (st.more ns) (l++cB st.nx ns):=by
 refine⟨fun k=>?_,fun q hq=>?_⟩
 ·rw[bt];have h1:=h.1 k;have h2:= @qS st.nx k ns;by_cases hk:k<st.nx
  ·have:ck k (cB st.nx ns)=0:=tz fun q hq=>by have:=lq hq;omega
   omega
  ·have:ck k l=0:=tz fun q hq=>by have:=(h.2 q hq).1;omega
   omega
 ·rw[St.more_nx,St.more_fl];rcases aG.1 hq with hq|hq
  ·obtain⟨h1,h2,h3⟩:=h.2 q hq;exact⟨by omega,by rw[St.more_old _ _ h1];exact h2,h3⟩
  ·obtain⟨h1,h2,h3⟩:=lq hq;exact⟨by omega,by rw[St.more_new _ _ h1 h2];exact h3,by omega⟩
def aT{st:St}{s:Nat}{c:List PV}{l:List (Nat×Nat)}(h:a8 st l):a8 (cA st s c) l:=h
structure dC (nx:Nat) (ns:List Nat) (r:PV):Prop where
 tk:aB r=cB nx ns
 so:aY r=true
 np:np r=true
def ni{r0:PV}(hs:aY r0=true)(hn:np r0=true)(hd:∀ k,ck k (aB r0)<=1)(nx:Nat):
  dC nx ((aB r0).map (·.2)) (ren (fun k=>some (nx+k)) false (ren (bi ((aB r0).map (·.1))) false r0))/\dC 0 ((aB r0).map (·.2)) (ren (bi ((aB r0).map (·.1))) false r0):=by
 have hm:∀ q∈aB r0,(bi ((aB r0).map (·.1)) q.1).isSome=true:=fun q hq=>md (cX.2 ⟨q,hq,rfl⟩);have h1:aB (ren (bi ((aB r0).map (·.1))) false r0)=(aB r0).map fun q=>((bi ((aB r0).map (·.1)) q.1).getD 0,q.2):=
  mm _ (fun k=>(bi ((aB r0).map (·.1)) k).getD 0) r0 fun q hq=>by obtain⟨i,hi⟩:=cu.1 (hm q hq);rw[hi];rfl
 have hs1:=kI (bi ((aB r0).map (·.1))) r0 hs hm;refine⟨⟨?_,kI _ _ hs1 fun _ _=>rfl,?_⟩,⟨?_,hs1,?_⟩⟩
 ·rw[mm _ (fun k=>nx+k) _ fun _ _=>rfl,h1,List.map_map];exact nD nx hd
 ·rw[PM.np,gT,gT];exact hn
 ·rw[h1];have:=nD 0 hd;simpa using this
 ·rw[PM.np,gT];exact hn
def v7{r0:PV}{st1:St}(h:a8 st1 (aB r0)):lD true st1 r0 []=(ren (bi ((aB r0).map (·.1))) false r0,(aB r0).map (·.2),[]):=by
 have:jP []=[]:=rfl;simp only[lD,this,aD,ne h.1,h.ok,ay,if_true,cJ]
def nn:PV->Option Nat
 | .list _ _ (.own _ e)=>some e
 |_=>none
def vW{f:Nat->Option Nat}{p:PV}(h:∀ q∈aB p,(f q.1).isSome=true):nn (ren f false p)=nn p:=by
 cases p with
 |list n cs t=>
  rw[gx];cases t with
  |own k e=>
   obtain⟨j,hj⟩:=cu.1 (h (k,n) (by simp[aB]));have hj:f k=some j:=hj;simp only[aF.ren,hj,nn]
  |sub k=>simp only[aF.ren];cases f k<;>rfl
  |el k e n=>simp only[aF.ren];cases f k<;>rfl
  |_=>rfl
 |_=>rfl
def sA(rs:List iG)(Q:PV->Option Nat->Prop)(e:Ex)(y:Fr×St):Prop:=kD e/\∃ r0,fG y.1 y.2 rs=some [r0]/\li r0=true/\np r0=true/\aY r0=true/\a8 y.2 (aB r0)/\Q (aO r0) (nn r0)
section
variable {cf:aJ} {f:Nat} {F:bw} {as:List PV} {st:St} {rs:List iG}
def Ka(st:St)(ns:List Nat):{st.more ns with fl:=st.fl}=st.more ns:=by cases ns<;>rfl
def IU{F:bw}{fr:Fr}{s1:St}{r0:PV}(hown:F.own=true)(hps:fG fr s1 F.res=some [r0])(hr:li r0=true)(hp:np r0=true)(hk:a8 s1 (aB r0)):
  im F 0 fr s1=some (ren (bi ((aB r0).map (·.1))) false r0,(aB r0).map (·.2),[]):=by
 have h0:dz s1 (List.range 0)=some []:=rfl;have hm:=oc F.nk s1 [r0] (by simpa using hr);simp only[im,hps,h0,hm,fW,hp,dd,ay,if_true,hown,v7 hk]
def GW(hown:F.own=true)(hres:F.res=rs)(N:Nat){ns:List Nat}{Q:PV->Option Nat->Prop}(hnt:as.length<=F.nt)(h:Wp cf N F.body (eM as,bV ns []) (sA rs Q)):
  ∃ r ns',gr cf N F as ns []=some (r,ns',[])/\dC 0 ns' r/\(∀ nx,dC nx ns' (ren (fun k=>some (nx+k)) false r))/\Q (aO r) (nn r):=by
 obtain⟨e,⟨fr,s1⟩,hev,he,r0,hps,hr,hp,hso,hk,hQ⟩:=h;subst hres;have hf:=IU hown hps hr hp hk;refine⟨_,_,?_,(ni hso hp hk.1 0).2,fun nx=>(ni hso hp hk.1 nx).1,by rw[ij,vW fun q hq=>md (cX.2 ⟨q,hq,rfl⟩)];exact hQ⟩;unfold gr;rw[am ⟨hnt,aW _⟩,hev];cases e with
 |go=>exact hf
 |ret=>exact hf
 |exit i=>exact he.elim
def ye{r:PV}{ns:List Nat}(has:as.all bF=true)(hc:cf f (as.map aO) [] []=some (r,ns,[]))(hso:aY r=true):az cf f as [] st=some (ren (fun k=>some (st.nx+k)) false r,st.more ns):=by
 rw[p4 has hc,ld r hso,jZ,am rfl];congr 2;exact Ka st ns
def oT(K:jj cf)(hT:T f=some F)(hres:F.res=rs)(hown:F.own=true)(hnt:as.length<=F.nt)(has:∀ p∈as,dq p)(N:Nat){Q:PV->Prop}
  (h:Wp cf N F.body (eM as,bV [] []) (sA rs fun p _=>Q p)):∃ r ns,az cf f as [] st=some (r,st.more ns)/\dC st.nx ns r/\Q (aO r):=by
 obtain⟨h1,h2⟩:=dD has;obtain⟨r,ns,hrun,hF0,hF,hQ⟩:=GW hown hres N hnt h;have hcf:=K f F hT N _ _ _ _ hrun;refine⟨_,ns,ye h1 (by rw[h2];exact hcf) hF0.so,hF st.nx,by rw[ij];exact hQ⟩
def dx{o:Option (PV×St)}{mk:PV->St->Fr×St}{A:Fr×St->Prop}{v:PV}(h:∃ r ns,o=some (r,st.more ns)/\dC st.nx ns r/\aO r=v)(k:∀ r ns,dC st.nx ns r->aO r=v->A (mk r (st.more ns))):dj o mk A:=by
 obtain⟨r,ns,rfl,hF,hQ⟩:=h;exact⟨_,_,rfl,k r ns hF hQ⟩
end
def fi{r:PV}{cs:List PV}(h:aO r= .agg cs):∃ ds,r= .agg ds/\aQ ds=cs:=by
 cases r with
 |agg ds=>exact⟨ds,rfl,by simpa [aO,aQ,ren]using h⟩
 |list n ds t=>simp[aO,ren]at h
 |iptr ds o t=>simp[aO,ren]at h
 |_=>simp[aO,ren]at h
def bu{r:PV}{n:Nat}{cs:List PV}{t:aF}(h:aO r= .list n cs t):∃ ds u,r= .list n ds u/\aQ ds=cs/\t= .no:=by
 cases r with
 |list m ds u=>
  rw[fO]at h;injection h with h1 h2 h3;exact⟨ds,u,by rw[h1],h2,h3.symm⟩
 |agg ds=>simp[aO,ren]at h
 |iptr ds o t=>simp[aO,ren]at h
 |_=>simp[aO,ren]at h
def eu:∀ xs ys:List PV,bq (xs++ys)=(bq xs && bq ys)
 | [],ys=>rfl
 |x::xs,ys=>by simp only[bo,bq,eu xs ys,Bool.and_assoc]
def dP:∀ xs ys:List PV,aw (xs++ys)=aw xs++aw ys
 | [],ys=>rfl
 |x::xs,ys=>by simp only[bo,aw,dP xs ys,bn]
def F9(Q:PV->Option Nat->Prop)(r0:PV)(st:St):Prop:=li r0=true/\np r0=true/\aY r0=true/\a8 st (aB r0)/\Q (aO r0) (nn r0)
def Ga(Q:PV->Option Nat->Prop)(o:Option PV)(st:St):Prop:=match o with
 |some p=>F9 Q p st
 |none=>False
def Lg{e:Ex}(he:kD e){t:Nat}{Q:PV->Option Nat->Prop}{fr:Fr}{st:St}:sA [.tmp t] Q e (fr,st)↔F9 Q (fr t) st:=by
 constructor
 ·rintro⟨-,r0,h,k⟩;simp only[fG,od]at h;cases h;exact k
 ·rintro k;exact⟨he,_,rfl,k⟩
def Jm{e:Ex}(he:kD e){a sz:Nat}{ag:Bool}{Q:PV->Option Nat->Prop}{fr:Fr}{st:St}:sA [.cell a sz ag] Q e (fr,st)↔Ga Q (wJ (fr a) sz ag st) st:=by
 have h0:od fr st (.cell a sz ag)=wJ (fr a) sz ag st:=rfl;unfold sA;rw[s8,h0];cases wJ (fr a) sz ag st with
 |none=>simp[Ga,wG]
 |some p=>simp[Ga,fG,wG,F9,he]
def L4(e sz bytes:Nat)(n c:PV)(st:St):Option (PV×St):=match n,c with
  | .int .i64 0,.int .i64 b=>if 0<=b/\bytes*b.toNat<=dL/\b<=140737488355328/\0<sz then
    some (.list 0 [] (.own st.nx e),st.more [0])
   else none
  |_,_=>none
def LY(e sz bytes:Nat)(d:Option Nat)(zs:List PV)(n c:PV)(st:St):Option (PV×St):=match d,n,c with
  |some s,.int .i64 a,.int .i64 b=>if a=b/\0<=a/\bytes*a.toNat<=dL/\a<=140737488355328/\zs.length=sz/\0<sz then
    some (.osl e sz s a.toNat,cA st s (List.replicate a.toNat zs).flatten)
   else none
  |_,_,_=>none
def Hl{e sz bytes:Nat}{b:Int}{st:St}(h1:0<=b)(h2:bytes*b.toNat<=140737488355328)(h3:b<=140737488355328)(h4:0<sz):L4 e sz bytes (I 0) (I b) st=some (.list 0 [] (.own st.nx e),st.more [0]):=by
 have hb:dL=140737488355328:=rfl;simp only[L4,hb,h1,h2,h3,h4,lw,if_true]
def Hj{e sz bytes s:Nat}{zs:List PV}{a:Int}{st:St}(h1:0<=a)(h2:bytes*a.toNat<=140737488355328)(h3:a<=140737488355328)(h4:zs.length=sz)(h5:0<sz):LY e sz bytes (some s) zs (I a) (I a) st=some (.osl e sz s a.toNat,cA st s (List.replicate a.toNat zs).flatten):=by
 have hb:dL=140737488355328:=rfl;simp only[LY,hb,h1,h2,h3,h4,h5,lw,if_true]
def di:
  (∀ {cf:aJ} {fr:Fr} {st:St} {d:Option Nat} {e sz b:Nat} {n c:CX},aC cf fr st d (.mk0 e sz b n c)=L4 e sz b (n.ev fr) (c.ev fr) st)/\
  (∀ {cf:aJ} {fr:Fr} {st:St} {d:Option Nat} {e sz b:Nat} {zs:List PV} {n c:CX},aC cf fr st d (.mks e sz b zs n c)=LY e sz b d zs (n.ev fr) (c.ev fr) st)/\
  (∀ {t:Nat} {Q:PV->Option Nat->Prop} {fr:Fr} {st:St},sA [.tmp t] Q .ret (fr,st)↔F9 Q (fr t) st)/\(∀ {a sz:Nat} {ag:Bool} {Q:PV->Option Nat->Prop} {fr:Fr} {st:St},sA [.cell a sz ag] Q .ret (fr,st)↔Ga Q (wJ (fr a) sz ag st) st)/\
  (∀ {p:PV} {Q:PV->Option Nat->Prop} {st:St},Ga Q (some p) st↔F9 Q p st)/\(∀ {s off sz:Nat} {ag:Bool} {st:St},wJ (.ptr s off) sz ag st=xO (st.objs s) off sz ag)/\
  (∀ {st:St} {ns:List Nat},(st.more ns).objs=st.objs)/\(∀ {st:St} {ns:List Nat},(st.more ns).maps=st.maps)/\(∀ {st:St} {ns:List Nat},(st.more ns).nx=st.nx+ns.length):=
 ⟨by intros;rfl,by intros;rfl,Lg (oL.2 trivial),Jm (oL.2 trivial),Iff.rfl,rfl,fun{st ns}=>St.more_objs st ns,fun{st ns}=>St.more_maps st ns,fun{st ns}=>St.more_nx st ns⟩
mutual
theorem tF(K:Nat->Bool):∀ p:PV,tf K (aO p)=true
 | .list n cs t=>by
  have ih:=lW K cs;rw[fO];simp only[tf,ih,bv];rfl
 | .iptr cs o t=>by
  have ih:=lW K cs;simp only[aO,aQ,ren]at ih ⊢;simp only[tf,ih,bv];cases t<;>rfl
 | .agg cs=>by have ih:=lW K cs;simp only[aO,aQ,ren,tf]at ih ⊢;exact ih
 | .tup cs=>by have ih:=lW K cs;simp only[aO,aQ,ren,tf]at ih ⊢;exact ih
 | .fn g cs=>by have ih:=lW K cs;simp only[aO,aQ,ren,tf]at ih ⊢;exact ih
 | .any| .hole| .int _ _| .bool _| .str _| .nilp| .nili| .err| .ptr _ _| .osl _ _ _ _| .mp _=>rfl
theorem lW(K:Nat->Bool):∀ ps:List PV,dN K (aQ ps)=true
 | []=>rfl
 |p::ps=>by
  have h1:=tF K p;have h2:=lW K ps;simp only[aO,aQ,bm,dN]at h1 h2 ⊢;rw[h1,h2];rfl
end
def gU{J:List Nat}{p:PV}(h:dq p):bY J p=p:=by
 have:=tF (J.contains ·) p;rw[h.2.1]at this;rw[bY,am this]
def qQ{J:List Nat}{k:IntKind}{n:Int}:bY J (.int k n)= .int k n:=rfl
def pk{J:List Nat}{b:Bool}:bY J (.bool b)= .bool b:=rfl
def qO{J:List Nat}{s o:Nat}:bY J (.ptr s o)= .ptr s o:=rfl
def kN{J:List Nat}{p:PV}(h:aY p=true)(hk:∀ q∈aB p,q.1∉J):bY J p=p:=by
 rw[bY,am (tH _ p h fun q hq=>by simpa using hk q hq)]
def xN{J:List Nat}:∀ {cs:List PV},cZ cs->cs.map (bY J)=cs
 | [],_=>rfl
 |c::cs,h=>by
  have h1:=lW (J.contains ·) (c::cs);rw[h.2.1]at h1;simp only[dN,aj]at h1;have:∀ {ds:List PV},dN (J.contains ·) ds=true->ds.map (bY J)=ds:=by
   intro ds hd
   induction ds with
   |nil=>rfl
   |cons d ds ih=>
    simp only[dN,aj]at hd;rw[bg,ih hd.2,bY,am hd.1]
  exact this (by simp only[dN,h1.1,h1.2,ay])
def uN(J:List Nat)(fr:Fr):Fr:=fun t=>bY J (fr t)
def fA(J ns:List Nat)(st:St):St:={st.more ns with objs:=iZ J st.objs,maps:=lj J st.maps,cnt:=(fun t=>if J.contains t then 0 else(st.more ns).cnt t),fl:=st.fl}
def nL{st:St}{A B C:List (Nat×Nat)}{ns:List Nat}(h:a8 st (A++B++C))(hf:st.fl<=st.nx):a8 (fA (B.map (·.1)) ns st) (A++cB st.nx ns++C):=by
 have hd:∀ q,q∈A\/q∈C->q.1∉B.map (·.1):=by
  intro q hq hb;obtain⟨x,hx,he⟩:=cX.1 hb;have h1:=h.1 q.1;rw[bt,bt]at h1;have h2:=fJ.2 ⟨x,hx,he⟩;have h3:0<ck q.1 A\/0<ck q.1 C:=hq.imp (fun hq=>fJ.2 ⟨q,hq,rfl⟩) (fun hq=>fJ.2 ⟨q,hq,rfl⟩);omega
 have ho:∀ q,q∈A\/q∈C->q.1<st.nx/\st.cnt q.1=q.2/\st.fl<=q.1:=fun q hq=>h.2 q (by simp only[aG];rcases hq with h|h<;>simp[h])
 have hB:∀ q∈B,q.1<st.nx:=fun q hq=>(h.2 q (by simp[hq])).1;refine⟨fun k=>?_,fun q hq=>?_⟩
 ·have h1:=h.1 k;rw[bt,bt]at h1 ⊢;have h2:= @qS st.nx k ns;by_cases hk:k<st.nx
  ·have:ck k (cB st.nx ns)=0:=tz fun q hq=>by have:=lq hq;omega
   omega
  ·have e1:ck k A=0:=tz fun q hq=>by have:=(ho q (.inl hq)).1;omega
   have e2:ck k C=0:=tz fun q hq=>by have:=(ho q (.inr hq)).1;omega
   omega
 ·have hq':(q∈A\/q∈C)\/q∈cB st.nx ns:=by
   simp only[aG]at hq;rcases hq with(h|h)|h<;>simp[h]
  show q.1<(st.more ns).nx/\(if(B.map (·.1)).contains q.1 then 0 else(st.more ns).cnt q.1)=q.2/\st.fl<=q.1;rw[St.more_nx];rcases hq' with hq|hq
  ·obtain⟨h1,h2,h3⟩:=ho q hq;have:=hd q hq;rw[ai (by simpa using this),St.more_old _ _ h1];exact⟨by omega,h2,h3⟩
  ·obtain⟨h1,h2,h3⟩:=lq hq;have:q.1∉B.map (·.1):=by
    intro hb;obtain⟨x,hx,he⟩:=cX.1 hb;have:=hB x hx;omega
   rw[ai (by simpa using this),St.more_new _ _ h1 h2];exact⟨by omega,h3,by omega⟩
section
variable {cf:aJ} {f:Nat} {F:bw} {st:St} {rs:List iG} {n:Nat} {cs rest:List PV} {tk:aF}
def rk:∀ (rest:List PV) (i:Nat),0<i->gu [0] i rest=[]
 | [],_,_=>rfl
 |p::ps,i,h=>by
  have:([0]:List Nat).contains i=false:=by simp;omega
  rw[gu,this,rk ps (i+1) (by omega)];rfl
def Ao(mv:List Nat):∀ (ps:List PV) (i:Nat),ps.all bF=true->kc mv i ps=[]
 | [],_,_=>rfl
 |p::ps,i,h=>by
  rw[cT,aj]at h;have ih:=Ao mv ps (i+1) h.2;cases p<;>first|exact ih|exact absurd h.1 (by simp[bF])
def EP(hr:rest.all bF=true):d5 [0] (.list n cs tk::rest) []=aB (.list n cs tk):=by
 have h:tB (kc [0] 0 (.list n cs tk::rest)) []=[]:=by cases kc [0] 0 (.list n cs tk::rest)<;>rfl
 rw[d5,h,gu,rk _ _ (by omega)];simp
def sp(J:List Nat):∀ (rest:List PV) (i k:Nat),0<i->rest.all bF=true->fe J [0] i k rest=rest.map aO
 | [],_,_,_,_=>rfl
 |p::ps,i,k,h,hr=>by
  rw[cT,aj]at hr;have ih:=fun m=>sp J ps (i+1) m (by omega) hr.2;have hc:([0]:List Nat).contains i=false:=by simp;omega
  cases p<;>first|(simp only[fe,hc,ih,bg];rfl)|exact absurd hr.1 (by simp[bF])
def MA(hn:np (.list n cs tk)=true)(hk:a8 st (aB (.list n cs tk)))(hr:rest.all bF=true)(hsp:iu ((aB (.list n cs tk)).map (·.1)) [0] 1 rest=true){r:PV}{ns:List Nat}
  (hc:cf f (ren (bi ((aB (.list n cs tk)).map (·.1))) false (.list n cs tk)::rest.map aO) ((aB (.list n cs tk)).map (·.2)) []=some (r,ns,[])) (hs:aY r=true):
  az cf f (.list n cs tk::rest) [0] st=some (ren (fun k=>some (st.nx+k)) false r,fA ((aB (.list n cs tk)).map (·.1)) ns st)/\dn (.list n cs tk::rest) [0] st=(aB (.list n cs tk)).map (·.1):=by
 have hkeys:dw (.list n cs tk::rest)=some []:=by
  rw[dw,am hn]
  ·exact eY hr
  ·intros;contradiction
 have hm:=EP (n:=n) (cs:=cs) (tk:=tk) hr;have hb:me ((aB (.list n cs tk)).map (·.1)) (kc [0] 0 (.list n cs tk::rest)) []=[]:=by cases kc [0] 0 (.list n cs tk::rest)<;>rfl
 have hbs:∀ J l,nI J l []=true:=by intro J l;cases l<;>rfl
 have hh:fe ((aB (.list n cs tk)).map (·.1)) [0] 0 0 (.list n cs tk::rest)=ren (bi ((aB (.list n cs tk)).map (·.1))) false (.list n cs tk)::rest.map aO:=by
  rw[fe,sp _ _ _ _ (by omega) hr]
  ·rfl
  ·intros;contradiction
 have hs2:iu ((aB (.list n cs tk)).map (·.1)) [0] 0 (.list n cs tk::rest)=true:=by rw[iu,hsp];rfl
 constructor
 ·simp only[az,hkeys,dz,hm,ne hk.1,hk.ok,hs2,hbs,hb,ay,if_true,hh,hc,ld r hs,dd,a6,fx];rfl
 ·simp only[dn,hkeys,dz,hm]
def vX{e n:Nat}{cs:List PV}{tk:aF}(h:nn (.list n cs tk)=some e):∃ k,tk= .own k e:=by
 cases tk with
 |own k e'=>simp only[nn,bB]at h;exact⟨k,by rw[h]⟩
 |_=>simp[nn]at h
def jA(e:Nat)(tk:aF):Prop:=tk= .nil\/∃ k,tk= .own k e
def F2{o:Option (PV×St)}{mk:PV->St->Fr×St}{A:Fr×St->Prop}{v:PV}{J:List Nat}{e:Nat}{X:Prop}(h:∃ r ns,o=some (r,fA J ns st)/\dC st.nx ns r/\aO r=v/\nn r=some e/\X)(k:∀ r ns,dC st.nx ns r->aO r=v->nn r=some e/\X->A (mk r (fA J ns st))):dj o mk A:=by
 obtain⟨r,ns,rfl,hF,hQ,hX⟩:=h;exact⟨_,_,rfl,k r ns hF hQ hX⟩
end
def m7:
  (∀ {cf:aJ} {f:Nat} {as:List CX} {d:Option Nat} {st:St} {fr:Fr},de cf (.call f as [0]) d st fr=uN (dn (as.map (·.ev fr)) [0] st) fr)/\(∀ {J:List Nat} {fr:Fr} {t:Nat},uN J fr t=bY J (fr t))/\
  (∀ {J:List Nat} {k:IntKind} {n:Int},bY J (.int k n)= .int k n)/\(∀ {J:List Nat} {b:Bool},bY J (.bool b)= .bool b)/\(∀ {J:List Nat} {s:ByteArray},bY J (.str s)= .str s)/\(∀ {J:List Nat} {s o:Nat},bY J (.ptr s o)= .ptr s o)/\(∀ {J:List Nat} {e z s n:Nat},bY J (.osl e z s n)= .osl e z s n)/\
  (∀ {J ns:List Nat} {st:St} {s:Nat},(fA J ns st).objs s=(st.objs s).map fun c=>c.map (bY J))/\(∀ {c:List PV} {g:List PV->List PV},(some c).map g=some (g c)):=
 ⟨rfl,rfl,rfl,rfl,rfl,rfl,rfl,rfl,rfl⟩
def xq(sz:Nat)(a:PV)(vs:Option (List PV))(st:St):Option (PV×St):=match a,vs with
 | .ptr s off,some vs=>match st.objs s with
  |some cs=>if vs.length=sz/\off+sz<=cs.length then some (.hole,cA st s (bS cs off vs))else none
  |none=>none
 | .iptr cs off (.el k e n),some vs=>
  if vs.length=sz/\off+sz<=cs.length/\0<n/\st.cnt k=n/\k<st.nx/\st.fl<=k/\dN ([k].contains ·) cs=true/\dN ([k].contains ·) vs=true then
   some (.hole,{st with objs:=rD (ir cs off k e n vs) st.objs,maps:=sP (ir cs off k e n vs) st.maps})
  else none
 |_,_=>none
def FO(u:kS)(st:St):St:={st with objs:=rD u st.objs,maps:=sP u st.maps}
def Ra(u:kS)(fr:Fr):Fr:=fun t=>gn u (fr t)
def BR{sz off k e n:Nat}{cs vs:List PV}{st:St}(h1:vs.length=sz)(h2:off+sz<=cs.length)(h3:0<n)(h4:st.cnt k=n)(h5:k<st.nx)(h6:st.fl<=k)(h7:dN ([k].contains ·) cs=true)(h8:dN ([k].contains ·) vs=true):
  xq sz (.iptr cs off (.el k e n)) (some vs) st=some (.hole,FO (ir cs off k e n vs) st):=by
 simp only[xq];rw[am ⟨h1,h2,h3,h4,h5,h6,h7,h8⟩];rfl
def uR(o:Option (PV×PV×St))(as:List PV)(st:St):Option (PV×St):=match o with
 |some (r,p',st')=>if rS as=true then some (r,Nq p' as st st')else none
 |none=>none
def PY{J:List Nat}{k n e:Nat}{p:PV}{cs:List PV}:gn ⟨J,k,n,p⟩ (.list n cs (.own k e))=p:=by simp[gn,aF.isOwn]
def BB{cs cs' vs:List PV}{off k e e' n:Nat}:gn (ir cs off k e n vs) (.list n cs' (.own k e'))= .list n (bS cs off vs) (.own k e):=by simp[gn,aF.isOwn,ir]
def OB{u:kS}{n:Nat}{cs:List PV}{k e:Nat}(h:k≠u.k)(hJ:u.J.contains k=false):gn u (.list n cs (.own k e))= .list n (i7 u cs) (.own k e):=by
 have h1:(aF.own k e).isOwn u.k=false:=by simp[aF.isOwn,h]
 have h2:(aF.own k e).free (u.J.contains ·)=true:=by simp only[aF.free,aF.of,hJ,Bool.not_false]
 rw[gn,h1,dO,ai (by simp),am h2]
def free_none{K:Nat->Bool}{t:aF}(h:t.of=none):t.free K=true:=by simp[aF.free,h]
mutual
theorem yS(u:kS)(hu:u.J.contains u.k=true):∀ p:PV,tf (u.J.contains ·) p=true->gn u p=p
 | .list n cs t,h=>by
  simp only[tf,aj]at h;have ih:=qp u hu cs h.2;simp only[gn,ih];have:t.isOwn u.k=false:=by
   cases t with
   |own j e=>
    simp only[aF.isOwn,beq_eq_false_iff_ne,al];rintro rfl;have:=h.1;simp only[aF.free,aF.of,hu]at this;cases this
   |_=>rfl
  rw[this,ai (by simp),am h.1]
 | .iptr cs o t,h=>by
  simp only[tf,aj]at h;have ih:=qp u hu cs h.2;simp only[gn,ih];rw[am h.1]
 | .agg cs,h=>by simp only[tf]at h;simp only[gn,qp u hu cs h]
 | .tup cs,h=>by simp only[tf]at h;simp only[gn,qp u hu cs h]
 | .fn g cs,h=>by simp only[tf]at h;simp only[gn,qp u hu cs h]
 | .any,_| .hole,_| .int _ _,_| .bool _,_| .str _,_| .nilp,_| .nili,_| .err,_| .ptr _ _,_| .osl _ _ _ _,_| .mp _,_=>rfl
theorem qp(u:kS)(hu:u.J.contains u.k=true):∀ ps:List PV,dN (u.J.contains ·) ps=true->i7 u ps=ps
 | [],_=>rfl
 |p::ps,h=>by
  simp only[dN,aj]at h;simp only[i7,yS u hu p h.1,qp u hu ps h.2]
end
def FL{u:kS}(hu:u.J.contains u.k=true){p:PV}(h:aY p=true)(hk:∀ q∈aB p,q.1∉u.J):gn u p=p:=
 yS u hu p (tH _ p h fun q hq=>by simpa using hk q hq)
def DI{u:kS}(hu:u.J.contains u.k=true){ps:List PV}(h:bq ps=true)(hk:∀ q∈aw ps,q.1∉u.J):i7 u ps=ps:=
 qp u hu ps (m0 _ ps h fun q hq=>by simpa using hk q hq)
def MR{u:kS}(hu:u.J.contains u.k=true){p:PV}(h:dq p):gn u p=p:=by
 have:=tF (u.J.contains ·) p;rw[h.2.1]at this;exact yS u hu p this
def BA(u:kS):∀ a b:List PV,i7 u (a++b)=i7 u a++i7 u b
 | [],_=>rfl
 |x::a,b=>by simp only[bo,i7,BA u a b]
def fo{st:St}{l l':List (Nat×Nat)}(h:a8 st l)(h1:∀ k,ck k l'<=ck k l)(h2:∀ q∈l',q∈l):a8 st l':=
 ⟨fun k=>dJ (h1 k) (h.1 k),fun q hq=>h.2 q (h2 q hq)⟩
def rF{st:St}{X B Y:List (Nat×Nat)}(h:a8 st (X++B++Y)):∀ q∈X++Y,q.1∉B.map (·.1):=by
 intro q hq hb;obtain⟨x,hx,he⟩:=cX.1 hb;have h1:=h.1 q.1;rw[bt,bt]at h1;have h2:=fJ.2 ⟨x,hx,he⟩;have h3:0<ck q.1 X\/0<ck q.1 Y:=(aG.1 hq).imp (fun hq=>fJ.2 ⟨q,hq,rfl⟩) (fun hq=>fJ.2 ⟨q,hq,rfl⟩);omega
def Ec(t:Nat)(Q:Int->PV->Prop)(e:Ex)(y:Fr×St):Prop:=kD e/\∃ k,y.1 t=I k/\li (y.1 0)=true/\np (y.1 0)=true/\aY (y.1 0)=true/\a8 y.2 (aB (y.1 0))/\Q k (aO (y.1 0))
def Qg(Q:Int->PV->Prop)(r p:PV)(st:St):Prop:=∃ k,r=I k/\li p=true/\np p=true/\aY p=true/\a8 st (aB p)/\Q k (aO p)
def Lh{t:Nat}{Q:Int->PV->Prop}{fr:Fr}{st:St}:Ec t Q .ret (fr,st)↔Qg Q (fr t) (fr 0) st:=
 ⟨fun h=>h.2,fun h=>⟨oL.2 trivial,h⟩⟩
section
variable {cf:aJ} {f:Nat} {F:bw} {st:St} {n:Nat} {cs:List PV} {tk:aF}
def LH{as:List PV}{t:Nat}(hown:F.own=true)(hres:F.res=[.tmp t,.tmp 0])(N:Nat){ns:List Nat}{Q:Int->PV->Prop}(hnt:as.length<=F.nt)(h:Wp cf N F.body (eM as,bV ns []) (Ec t Q)):
  ∃ k p ns',gr cf N F as ns []=some (.tup [I k,p],ns',[])/\dC 0 ns' p/\(∀ nx,dC nx ns' (ren (fun k=>some (nx+k)) false p))/\Q k (aO p):=by
 obtain⟨e,⟨fr,s1⟩,hev,he,k,hk,hr,hp,hso,htk,hQ⟩:=h;have hf:im F 0 fr s1=some (.tup [I k,ren (bi ((aB (fr 0)).map (·.1))) false (fr 0)],(aB (fr 0)).map (·.2),[]):=by
  have h0:dz s1 (List.range 0)=some []:=rfl;have hps:fG fr s1 F.res=some [I k,fr 0]:=by rw[hres];simp only[fG,od];rw[show fr t=I k from hk]
  have hm:=oc F.nk s1 [I k,fr 0] (by
   intro p hp;simp at hp;rcases hp with rfl|rfl
   ·rfl
   ·exact hr)
  have hnp:np (.tup [I k,fr 0])=true:=by
   show aX [I k,fr 0]=true;have hp:np (fr 0)=true:=hp;simp only[aH,hp,ay]
  have htt:aB (.tup [I k,fr 0])=aB (fr 0):=by simp only[aB,aw,aU,aD]
  have:=v7 (r0:= .tup [I k,fr 0]) (st1:=s1) (by rw[htt];exact htk);rw[htt]at this;simp only[im,hps,h0,hm,fW,hnp,dd,ay,if_true,hown,this];rfl
 refine⟨k,_,_,?_,(ni hso hp htk.1 0).2,fun nx=>(ni hso hp htk.1 nx).1,by rw[ij];exact hQ⟩;unfold gr;rw[am ⟨hnt,aW _⟩,hev];cases e with
 |go=>exact hf
 |ret=>exact hf
 |exit i=>exact he.elim
def yg(K:jj cf)(hT:T (mI f)=some F){t:Nat}(hres:F.res=[.tmp t,.tmp 0])(hown:F.own=true)(hs:aY (.list n cs tk)=true)(hn:aX cs=true)(hk:a8 st (aB (.list n cs tk)))
  (hnt:2<=F.nt) (N:Nat) {k k':Int} {v:PV}
  (h:∀ cs0 tk0 ns,aQ cs0=aQ cs->cs0.length=cs.length->aX cs0=true->aY (.list n cs0 tk0)=true->a8 (bV ns []) (aB (.list n cs0 tk0))->Wp cf N F.body (eM [.list n cs0 tk0,I k],bV ns []) (Ec t fun j p=>j=k'/\p=v)):
  ∃ p ns,uP cf f [.list n cs tk,I k] st=some (I k',p,fA ((aB (.list n cs tk)).map (·.1)) ns st)/\dC st.nx ns p/\aO p=v/\dn [.list n cs tk,I k] [0] st=(aB (.list n cs tk)).map (·.1):=by
 have hn':np (.list n cs tk)=true:=hn;have hF0:=(ni hs hn' hk.1 0).2;rw[gx]at hF0;have hp:aX (bm (bi ((aB (.list n cs tk)).map (·.1))) false cs)=true:=by rw[aX,ge];exact hn
 have hTB:a8 (bV ((aB (.list n cs tk)).map (·.2)) []) (aB (.list n (bm (bi ((aB (.list n cs tk)).map (·.1))) false cs) (tk.ren (bi ((aB (.list n cs tk)).map (·.1))) false))):=by
  rw[hF0.tk];exact⟨fun j=>qS j _,fun q hq=>by have:=lq hq;exact⟨by simpa [bV]using this.2.1,by simpa [bV]using this.2.2,aW _⟩⟩
 obtain⟨j,p,ns,hrun,hFr,hF,hQ1,hQ2⟩:=LH hown hres N (as:=[.list n (bm (bi ((aB (.list n cs tk)).map (·.1))) false cs) (tk.ren (bi ((aB (.list n cs tk)).map (·.1))) false),I k]) hnt (h _ _ _ (fw _ _) (gB _ _ _) hp hF0.so hTB);have hcf:=K (mI f) F hT N _ _ _ _ hrun;rw[<-gx]at hcf;subst hQ1;have hst:aY (.tup [I j,p])=true:=by simp only[aY,bq,hFr.so,ay]
 obtain⟨h1,h2⟩:=MA (rest:=[I k]) hn' hk rfl rfl hcf hst;refine⟨ren (fun k=>some (st.nx+k)) false p,ns,?_,hF st.nx,by rw[ij];exact hQ2,h2⟩;unfold uP;rw[h1];rfl
def um{v q:PV}{k':Int}{J:List Nat}{mk:PV->St->Fr×St}{A:Fr×St->Prop}{n:Nat}{cs:List PV}{tk:aF}{X:Prop}
  (h:∃ p ns,uP cf f [.list n cs tk,q] st=some (I k',p,fA J ns st)/\dC st.nx ns p/\aO p=v/\X) (k:∀ p ns,uP cf f [.list n cs tk,q] st=some (I k',p,fA J ns st)->dC st.nx ns p->aO p=v->X->A (mk (I k') (fA J ns st))):dj (uR (uP cf f [.list n cs tk,q] st) [.list n cs tk,q] st) mk A:=by
 obtain⟨p,ns,hu,hF,hs,hX⟩:=h;refine⟨I k',fA J ns st,by rw[hu];rfl,k p ns hu hF hs hX⟩
end
def Ba{n:Nat}{cs rest:List PV}{k e:Nat}{r p:PV}{s st:St}{q:PV}:kU (some (r,p,s)) (.list n cs (.own k e)::rest) st q=gn ⟨dn (.list n cs (.own k e)::rest) [0] st,k,n,jb n p⟩ q:=rfl
def Bb{n:Nat}{cs rest:List PV}{tk:aF}{o:Option (PV×PV×St)}{st:St}{q:PV}(h:∀ k e,tk≠ .own k e):kU o (.list n cs tk::rest) st q=bY (dn (.list n cs tk::rest) [0] st) q:=by
 cases tk with
 |own k e=>exact absurd rfl (h k e)
 |_=>cases o<;>rfl
def AZ{q:PV}:bY [] q=q:=by
 unfold bY;have:tf (([]:List Nat).contains ·) q=true:=by
  have:=oa q;have e:(fun x=>([]:List Nat).contains x)=fun _=>false:=by funext x;rfl
  rw[e];exact this
 rw[am this]
def CK{n:Nat}{cs:List PV}{tk:aF}(hs:aY (.list n cs tk)=true)(h:∀ k e,tk≠ .own k e):cs=[]:=by
 simp only[aY,aj]at hs;cases tk with
 |own k e=>exact absurd rfl (h k e)
 |sub k=>simp at hs
 |el k e n=>simp at hs
 |_=>simpa using hs.1
def Ei{n:Nat}{cs:List PV}{tk:aF}(hs:aY (.list n cs tk)=true)(h:∀ k e,tk≠ .own k e):aB (.list n cs tk)=[]:=by
 have:=CK hs h;subst this;cases tk with
 |own k e=>exact absurd rfl (h k e)
 |_=>rfl
section
variable {n sz:Nat} {cs rest:List PV} {tk:aF} {r p':PV} {s st:St} {ns:List Nat}
def Kh(hs:aY (.list n cs tk)=true)(hn:aX cs=true)(hl:cs.length=n*sz)(h0:0<sz)(ht:dn (.list n cs tk::rest) [0] st=(aB (.list n cs tk)).map (·.1))(hF:dC st.nx ns p')(hz:cs=[]->aO p'= .list 0 [] .no){X Y:List (Nat×Nat)}(hk:a8 st (X++aB (.list n cs tk)++Y))(hf:st.fl<=st.nx):
  ∃ q,kU (some (r,p',s)) (.list n cs tk::rest) st (.list n cs tk)=q/\aY q=true/\np q=true/\aO q=aO p'/\a8 (fA ((aB (.list n cs tk)).map (·.1)) ns st) (X++aB q++Y):=by
 have hm:=nL (ns:=ns) hk hf;rw[<-hF.tk]at hm;have hn0:cs=[]↔n=0:=by
  constructor
  ·rintro rfl;simp only[a6]at hl;rcases je n with h|h
   ·exact h
   ·have:=Nat.mul_pos h h0;omega
  ·rintro rfl;exact cq (by rw[hl,Nat.zero_mul])
 have drop:a8 (fA ((aB (.list n cs tk)).map (·.1)) ns st) (X++[]++Y):=fo hm (fun k=>by rw[bt,bt,bt,bt];simp only[ck];omega) (fun q hq=>by simp at hq ⊢;rcases hq with h|h<;>simp[h])
 by_cases ho:∃ k e,tk= .own k e
 ·obtain⟨k,e,rfl⟩:=ho;rw[Ba,PY];refine⟨_,rfl,?_⟩;unfold jb;by_cases h:n=0
  ·rw[am h];exact⟨rfl,rfl,(hz (hn0.2 h)).symm,drop⟩
  ·rw[ai h];exact⟨hF.so,hF.np,rfl,hm⟩
 ·have ho':∀ k e,tk≠ .own k e:=fun k e h=>ho ⟨k,e,h⟩;have hc:=CK hs ho';have htk:=Ei hs ho';rw[Bb ho',ht,htk,cJ,AZ];refine⟨_,rfl,hs,hn,?_,?_⟩
  ·rw[hz hc,fO,hc,hn0.1 hc];rfl
  ·rw[htk]at drop ⊢;exact drop
def QD(hs:aY (.list n cs tk)=true)(hn:aX cs=true)(hl:cs.length=n*sz)(h0:0<sz)(ht:dn (.list n cs tk::rest) [0] st=(aB (.list n cs tk)).map (·.1))(hF:dC st.nx ns p')(hz:cs=[]->aO p'= .list 0 [] .no){X Y:List (Nat×Nat)}{N K E:Nat}{pre post:List PV}
  (hso:aY (.list N (pre++ .list n cs tk::post) (.own K E))=true) (hk:a8 st (X++aB (.list N (pre++ .list n cs tk::post) (.own K E))++Y)) (hf:st.fl<=st.nx):
  ∃ q,kU (some (r,p',s)) (.list n cs tk::rest) st (.list N (pre++ .list n cs tk::post) (.own K E))= .list N (pre++q::post) (.own K E)/\aY (.list N (pre++q::post) (.own K E))=true/\aY q=true/\np q=true/\aO q=aO p'/\a8 (fA ((aB (.list n cs tk)).map (·.1)) ns st) (X++aB (.list N (pre++q::post) (.own K E))++Y):=by
 have hsplit:X++aB (.list N (pre++ .list n cs tk::post) (.own K E))++Y=(X++((K,N)::aw pre))++aB (.list n cs tk)++(aw post++Y):=by
  rw[aB,dP,aw];simp only[bn,bo,aU]
 have hk2:=hk;rw[hsplit]at hk2;obtain⟨q,h1,h2,h3,h4,h5⟩:=Kh (r:=r) (s:=s) hs hn hl h0 ht hF hz hk2 hf;simp only[aY,eu,bq,cH,aj]at hso;have hap:=rF hk2;refine⟨q,?_,?_,h2,h3,h4,?_⟩
 ·by_cases ho:∃ k e,tk= .own k e
  ·obtain⟨k,e,rfl⟩:=ho;rw[Ba]at h1 ⊢;rw[ht]at h1 ⊢;have hJ:((aB (.list n cs (.own k e))).map (·.1)).contains k=true:=by simp[aB]
   have hK:K∉(aB (.list n cs (.own k e))).map (·.1):=hap (K,N) (by simp);have hKk:K≠k:=by rintro rfl;exact hK (by simp[aB])
   rw[OB (u:=⟨(aB (.list n cs (.own k e))).map (·.1),k,n,jb n p'⟩) hKk (by simpa using hK),BA,DI (u:=⟨(aB (.list n cs (.own k e))).map (·.1),k,n,jb n p'⟩) hJ hso.1 (fun x hx=>hap x (by simp[hx]))];simp only[i7];rw[DI (u:=⟨(aB (.list n cs (.own k e))).map (·.1),k,n,jb n p'⟩) hJ hso.2.2 (fun x hx=>hap x (by simp[hx])),h1]
  ·have ho':∀ k e,tk≠ .own k e:=fun k e h=>ho ⟨k,e,h⟩;have htk:=Ei hs ho';rw[Bb ho',ht,htk,cJ,AZ]at h1 ⊢;rw[h1]
 ·simp only[aY,eu,bq,hso.1,h2,hso.2.2,ay]
 ·have:X++aB (.list N (pre++q::post) (.own K E))++Y=(X++((K,N)::aw pre))++aB q++(aw post++Y):=by
   rw[aB,dP,aw];simp only[bn,bo,aU]
  rw[this];exact h5
end
section
variable {cf:aJ} {f:Nat} {st:St} {mk:PV->St->Fr×St} {A:Fr×St->Prop}
def pD{n sz N K E:Nat}{cs vs pre post:List PV}{tk:aF}{q:PV}{k':Int}{X Y:List (Nat×Nat)}
  (h:∃ p ns,uP cf f [.list n cs tk,q] st=some (I k',p,fA ((aB (.list n cs tk)).map (·.1)) ns st)/\dC st.nx ns p/\aO p= .list n vs .no/\dn [.list n cs tk,q] [0] st=(aB (.list n cs tk)).map (·.1))
  (hl:cs.length=n*sz) (h0:0<sz) (hz:n=0->vs=[]) (hso:aY (.list N (pre++ .list n cs tk::post) (.own K E))=true) (hnp:aX (pre++ .list n cs tk::post)=true) (hk:a8 st (X++aB (.list N (pre++ .list n cs tk::post) (.own K E))++Y)) (hf:st.fl=0)
  (k:∀ p ns c,uP cf f [.list n cs tk,q] st=some (I k',p,fA ((aB (.list n cs tk)).map (·.1)) ns st)->kU (some (I k',p,fA ((aB (.list n cs tk)).map (·.1)) ns st)) [.list n cs tk,q] st (.list N (pre++ .list n cs tk::post) (.own K E))= .list N (pre++c::post) (.own K E)->
   aY (.list N (pre++c::post) (.own K E))=true->aX (pre++c::post)=true->aO c= .list n vs .no->a8 (fA ((aB (.list n cs tk)).map (·.1)) ns st) (X++aB (.list N (pre++c::post) (.own K E))++Y)->A (mk (I k') (fA ((aB (.list n cs tk)).map (·.1)) ns st))):dj (uR (uP cf f [.list n cs tk,q] st) [.list n cs tk,q] st) mk A:=by
 have hs1:aY (.list n cs tk)=true:=by
  simp only[aY,eu,bq,aj]at hso;simpa [aY]using hso.2.2.1
 have hn1:aX cs=true:=by
  have:np (.list n cs tk)=true:=gm hnp (by simp);exact this
 refine um h fun p ns hu hF hv ht=>?_;have hz':cs=[]->aO p= .list 0 [] .no:=by
  intro e;have hn0:n=0:=by
   subst e;simp only[a6]at hl;rcases je n with h|h
   ·exact h
   ·have:=Nat.mul_pos h h0;omega
  rw[hv,hz hn0,hn0]
 obtain⟨c,k1,k2,k3,k4,k5,k6⟩:=QD (r:=I k') (s:=fA ((aB (.list n cs tk)).map (·.1)) ns st) (sz:=sz) hs1 hn1 hl h0 ht hF hz' hso hk (by omega);refine k p ns c hu k1 k2 ?_ (by rw[k5,hv]) k6;refine mP fun x hx=>?_;rcases aG.1 hx with h|h
 ·exact gm hnp (by simp[h])
 ·rcases aZ.1 h with rfl|h
  ·exact k4
  ·exact gm hnp (by simp[h])
end
def O8{o:Option (PV×PV×St)}{as:List PV}{st:St}{k:IntKind}{n:Int}:kU o as st (.int k n)= .int k n:=by
 unfold kU;split<;>rfl
def NY{o:Option (PV×PV×St)}{as:List PV}{st:St}{b:Bool}:kU o as st (.bool b)= .bool b:=by
 unfold kU;split<;>rfl
def O7{o:Option (PV×PV×St)}{as:List PV}{st:St}{s k:Nat}:kU o as st (.ptr s k)= .ptr s k:=by
 unfold kU;split<;>rfl
def wu{n:Nat}{cs rest:List PV}{tk:aF}{r p':PV}{s st:St}(ht:dn (.list n cs tk::rest) [0] st=(aB (.list n cs tk)).map (·.1)){q:PV}(h:dq q):kU (some (r,p',s)) (.list n cs tk::rest) st q=q:=by
 by_cases ho:∃ k e,tk= .own k e
 ·obtain⟨k,e,rfl⟩:=ho;rw[Ba,ht];exact MR (u:=⟨(aB (.list n cs (.own k e))).map (·.1),k,n,jb n p'⟩) (by simp[aB]) h
 ·rw[Bb fun k e h=>ho ⟨k,e,h⟩];exact gU h
section
variable {st:St} {mk:PV->St->Fr×St} {A:Fr×St->Prop}
def fC{n K E off:Nat}{pre post:List PV}{c v:PV}{X Y:List (Nat×Nat)}(hoff:off=pre.length)(hn:0<n)(hs:aY (.list n (pre++c::post) (.own K E))=true)(hnp:aX (pre++c::post)=true)(hk:a8 st (X++aB (.list n (pre++c::post) (.own K E))++Y))(hv:aY v=true/\aB v=[]/\np v=true)
  (k:aY (.list n (pre++v::post) (.own K E))=true->aX (pre++v::post)=true->a8 (FO (ir (pre++c::post) off K E n [v]) st) (X++aB (.list n (pre++v::post) (.own K E))++Y)->A (mk .hole (FO (ir (pre++c::post) off K E n [v]) st))):
  dj (xq 1 (.iptr (pre++c::post) off (.el K E n)) (some [v]) st) mk A:=by
 have hK:=hk.2 (K,n) (by simp[aB]);have hsc:bq (pre++c::post)=true:=by simpa [aY]using hs
 have hnotin:∀ q∈aw (pre++c::post),q.1≠K:=by
  intro q hq he;have h1:=hk.1 K;rw[bt,bt,aB,bt]at h1;have h2:=fJ.2 ⟨q,hq,he⟩;simp only[ck,if_true]at h1;omega
 refine⟨_,_,BR rfl (by simp[hoff]) hn hK.2.1 hK.1 hK.2.2 (m0 _ _ hsc fun q hq=>by simpa using hnotin q hq) (by have:=tH ([K].contains ·) v hv.1 (by rw[hv.2.1];simp);simp only[dN,this,ay]),k ?_ ?_ ?_⟩
 ·simp only[eu,bq,aj]at hsc;simp only[aY,eu,bq,hsc.1,hv.1,hsc.2.2,ay]
 ·have e1:aX pre=true:=mP fun q hq=>gm hnp (by simp[hq]);have e2:aX (v::post)=true:=mP fun q hq=>by
   rcases aZ.1 hq with rfl|h
   ·exact hv.2.2
   ·exact gm hnp (by simp[h])
  exact iz e1 e2
 ·have:a8 st (X++aB (.list n (pre++v::post) (.own K E))++Y):=fo hk (fun q=>by simp only[aB,dP,aw,hv.2.1,bt,ck];omega) (fun q hq=>by
   simp only[aB,dP,aw,hv.2.1,aG,aZ,eo,or_false,aU]at hq ⊢;rcases hq with(h|h|h|h)|h<;>simp[h])
  exact this
def ib{n K E E' off:Nat}{pre post cs':List PV}{c v:PV}(hoff:off=pre.length):gn (ir (pre++c::post) off K E n [v]) (.list n cs' (.own K E'))= .list n (pre++v::post) (.own K E):=by
 rw[BB,hoff];congr 1;simp[bS]
end
def bK:
  (∀ {cf:aJ} {fr:Fr} {st:St} {d:Option Nat} {sz:Nat} {a x:CX},aC cf fr st d (.stx sz a x)=xq sz (a.ev fr) (cellsOf (x.ev fr)) st)/\
  (∀ {cf:aJ} {fr:Fr} {st:St} {d:Option Nat} {f:Nat} {as:List CX},aC cf fr st d (.callU f as)=uR (uP cf f (as.map (·.ev fr)) st) (as.map (·.ev fr)) st)/\
  (∀ {cf:aJ} {fr:Fr} {st:St} {d:Option Nat} {sz:Nat} {a x:CX},de cf (.stx sz a x) d st fr=wq (a.ev fr) (cellsOf (x.ev fr)) fr)/\
  (∀ {cf:aJ} {fr:Fr} {st:St} {d:Option Nat} {f:Nat} {as:List CX},de cf (.callU f as) d st fr=IG (uP cf f (as.map (·.ev fr)) st) (as.map (·.ev fr)) st fr)/\
  (∀ {cs vs:List PV} {off k e n:Nat} {fr:Fr},wq (.iptr cs off (.el k e n)) (some vs) fr=Ra (ir cs off k e n vs) fr)/\(∀ {s off:Nat} {vs:Option (List PV)} {fr:Fr},wq (.ptr s off) vs fr=fr)/\
  (∀ {u:kS} {fr:Fr} {t:Nat},Ra u fr t=gn u (fr t))/\(∀ {o:Option (PV×PV×St)} {as:List PV} {st:St} {fr:Fr} {t:Nat},IG o as st fr t=kU o as st (fr t))/\
  (∀ {u:kS} {k:IntKind} {n:Int},gn u (.int k n)= .int k n)/\(∀ {u:kS} {b:Bool},gn u (.bool b)= .bool b)/\(∀ {u:kS} {s:ByteArray},gn u (.str s)= .str s)/\(∀ {u:kS} {s o:Nat},gn u (.ptr s o)= .ptr s o)/\
  (∀ {n k e:Nat},(aF.own k e).elt n= .el k e n)/\(∀ {u:kS} {st:St} {s:Nat},(FO u st).objs s=(st.objs s).map fun c=>i7 u c)/\
  (∀ {cf:aJ} {fr:Fr} {x y:CX} {sz:Nat},br fr (.stx sz x y)=[])/\(∀ {o:Option (PV×PV×St)} {as:List PV} {st:St} {k:IntKind} {n:Int},kU o as st (.int k n)= .int k n)/\(∀ {o:Option (PV×PV×St)} {as:List PV} {st:St} {b:Bool},kU o as st (.bool b)= .bool b)/\(∀ {o:Option (PV×PV×St)} {as:List PV} {st:St} {s k:Nat},kU o as st (.ptr s k)= .ptr s k)/\(∀ {t:Nat} {Q:Int->PV->Prop} {fr:Fr} {st:St},Ec t Q .ret (fr,st)↔Qg Q (fr t) (fr 0) st):=by
 refine⟨?_,?_,?_,?_,rfl,?_,rfl,rfl,rfl,rfl,rfl,rfl,rfl,rfl,rfl,O8,NY,O7,Lh⟩
 ·intros;rfl
 ·intros;rfl
 ·intro cf fr st d sz a x;cases d<;>rfl
 ·intro cf fr st d f as;cases d<;>rfl
 ·intros;rfl
end Go.PM
namespace Go.PM
variable {cf:aJ} {st:St}
def Be(c:Int):Bool:=decide (97<=c) && decide (c<=122)||decide (65<=c) && decide (c<=90)
def fB(c:Int):Bool:=decide (48<=c) && decide (c<=57)
def iB(c:Int):Bool:=Be c||fB c||decide (c=95)
def dW(l:List UInt8):Bool:=decide (1<=l.length) && decide (l.length<=20) && Be (cI l 0) && l.all fun c=>iB (c.toNat:Int)
def lk(n:Int):Bool:=decide (1<=n) && decide (n<=1000000000000)
def FT(l:List UInt8)(i:Nat)(hi:i<l.length)(f:UInt8->Bool):(l.take (i+1)).all f=((l.take i).all f && f l[i]):=by
 rw[aV hi,List.all_append];simp
def rC(l:List UInt8)(i:Nat)(hi:i<l.length):cI l i=(l[i].toNat:Int):=by simp[cI,hi]
def K5{l:List UInt8}{i:Nat}(hi:i<l.length)(h:iB (cI l i)=false)(f:UInt8->Bool)(hf:f=fun c=>iB (c.toNat:Int)):l.all f=false:=by
 rw[rC l i hi]at h;subst hf;rw[List.all_eq_false];exact⟨l[i],cp hi,by simpa using h⟩
def Aj(K:jj cf)(c:Int):az cf 172 [U c] [] st=some (.bool (Be c),st):=by
 refine df K (F:=F172) (t:=2) rfl rfl rfl (lb rfl) (by simp[bh]) (ct _) 1 ?_;simp only[F172,↓qU,seval];unfold Be
 repeat' (first|(refine af (fun _=>?_) (fun _=>?_))|(simp only[↓pa,pb,seval, *]))
def yh(K:jj cf)(c:Int):az cf 168 [U c] [] st=some (.bool (Be c),st):=by
 refine df K (F:=F168) (t:=2) rfl rfl rfl (lb rfl) (by simp[bh]) (ct _) 1 ?_;simp only[F168,↓qU,seval];unfold Be
 repeat' (first|(refine af (fun _=>?_) (fun _=>?_))|(simp only[↓pa,pb,seval, *]))
def rZ(K:jj cf)(c:Int):az cf 173 [U c] [] st=some (.bool (fB c),st):=by
 refine df K (F:=F173) (t:=2) rfl rfl rfl (lb rfl) (by simp[bh]) (ct _) 1 ?_;simp only[F173,↓qU,seval];unfold fB
 repeat' (first|(refine af (fun _=>?_) (fun _=>?_))|(simp only[↓pa,pb,seval, *]))
def oU(K:jj cf)(c:Int):az cf 169 [U c] [] st=some (.bool (fB c),st):=by
 refine df K (F:=F169) (t:=2) rfl rfl rfl (lb rfl) (by simp[bh]) (ct _) 1 ?_;simp only[F169,↓qU,seval];unfold fB
 repeat' (first|(refine af (fun _=>?_) (fun _=>?_))|(simp only[↓pa,pb,seval, *]))
def sO(K:jj cf)(n:Int):az cf 124 [I n] [] st=some (.bool (lk n),st):=by
 refine df K (F:=F124) (t:=2) rfl rfl rfl (lb rfl) (by simp[bh]) (ct _) 1 ?_;simp only[F124,↓qU,seval];unfold lk
 repeat' (first|(refine af (fun _=>?_) (fun _=>?_))|(simp only[↓pa,pb,seval, *]))
def qV(K:jj cf)(n:Int):az cf 118 [I n] [] st=some (.bool (lk n),st):=by
 refine df K (F:=F118) (t:=2) rfl rfl rfl (lb rfl) (by simp[bh]) (ct _) 1 ?_;simp only[F118,↓qU,seval];unfold lk
 repeat' (first|(refine af (fun _=>?_) (fun _=>?_))|(simp only[↓pa,pb,seval, *]))
def rA(K:jj cf)(l:List UInt8):az cf 127 [S l] [] st=some (.bool (dW l),st):=by
 refine df K (F:=F127) (t:=2) rfl rfl rfl (lb rfl) (by simp[bR]) (ct _) (l.length+1) ?_;simp only[F127,↓qU,seval];simp only[↓pa,pb,seval];refine af (fun h1=>?_) (fun h1=>?_)
 ·simp only[↓pa,pb,seval,h1];have:¬1<=l.length:=by omega
  simp[dW,this]
 simp only[↓pa,pb,seval,h1];refine af (fun h2=>?_) (fun h2=>?_)
 ·simp only[↓pa,pb,seval,h2];have:¬l.length<=20:=by omega
  simp[dW,this]
 simp (disch:=omega)only[↓pa,pb,seval,h2,Aj K];refine af (fun h3=>?_) (fun h3=>?_);rotate_left
 ·simp only[↓pa,pb,seval,h3];simp[dW,h3]
 simp only[↓pa,pb,seval,h3];refine a7 (fun k fr st=>∃ i:Nat,k=l.length-i/\i<=l.length/\fr 0=S l/\fr 19=I l.length/\fr 20=I i/\(l.take i).all (fun c=>iB (c.toNat:Int))=true) l.length (by omega) ⟨0,by simp,by simp,by simp only[↓pa,seval],by simp only[↓pa,seval],by simp only[↓pa,seval]<;>rfl,by simp⟩ ?_
 rintro k fr st ⟨i,rfl,hi,f0,f19,f20,hall⟩;simp only[↓pa,pb,seval,f19,f20];refine af (fun h4=>?_) (fun h4=>?_);rotate_left
 ·simp only[↓pa,pb,seval];have hil:i=l.length:=by omega
  subst hil;rw[ly]at hall;have h1':1<=l.length:=by omega
  have h2':l.length<=20:=by omega
  simp[dW,h1',h2',h3,hall]
 have hlt:i<l.length:=by omega
 have next:iB (cI l i)=true->∃ j,j<l.length-i/\∃ m:Nat,j=l.length-m/\m<=l.length/\True/\True/\I (↑i+1)=I m/\(l.take m).all (fun c=>iB (c.toNat:Int))=true:=fun h=>
  ⟨l.length- (i+1),by omega,i+1,rfl,by omega,trivial,trivial,by simp,by rw[FT l i hlt,hall,<-rC l i hlt,h];rfl⟩
 simp (disch:=omega)only[↓pa,pb,seval,f0,f20,Aj K];refine af (fun h5=>?_) (fun h5=>?_)
 ·simp (disch:=omega)only[↓pa,pb,seval,f0,f19,f20,h5];simpa using next (by simp[iB,h5])
 ·simp (disch:=omega)only[↓pa,pb,seval,f0,h5,rZ K];refine af (fun h6=>?_) (fun h6=>?_)
  ·simp (disch:=omega)only[↓pa,pb,seval,f0,f19,f20,h6];simpa using next (by simp[iB,h6])
  ·simp (disch:=omega)only[↓pa,pb,seval,f0,h6];refine af (fun h7=>?_) (fun h7=>?_)
   ·simp (disch:=omega)only[↓pa,pb,seval,f0,f19,f20,h7];simpa using next (by simp[iB,h7])
   ·simp only[↓pa,pb,seval];have:iB (cI l i)=false:=by simp[iB,h5,h6,h7]
    simp[dW,K5 hlt this _ rfl]
def mV(n:Nat)(ok:Nat->Bool):Bool:=(List.range n).all ok
def mf{n:Nat}{ok:Nat->Bool}(h:∀ j,j<n->ok j=true):mV n ok=true:=by
 simp only[mV,cw,mX];exact h
def gN{n i:Nat}{ok:Nat->Bool}(h:i<n)(k:ok i=false):mV n ok=false:=by
 simp only[mV,List.all_eq_false,mX];exact⟨i,h,by simp[k]⟩
def qr{n:Nat}{ok:Nat->Bool}:mV n ok=true↔∀ j,j<n->ok j=true:=by
 simp only[mV,cw,mX]
def gM{i:Nat}{ok:Nat->Bool}(h:∀ j,j<i->ok j=true)(k:ok i=true):∀ j,j<i+1->ok j=true:=fun j hj=>by
 by_cases e:j=i
 ·rw[e];exact k
 ·exact h j (by omega)
@[reducible] def TX (l:List (List UInt8)):PV:= .list l.length (l.map S) .no
def iV(l:List (List UInt8))(i:Nat):List UInt8:=l.getD i []
def gZ{l:List (List UInt8)}{i:Nat}(h:i<l.length):bL (l.map S) i 1 false=some (S (iV l i)):=by
 refine JY ?_;simp[iV,h]
def fy(l:List (List UInt8)):dq (TX l):=by
 refine gk ?_
 induction l with
 |nil=>exact eC
 |cons x l ih=>exact bQ (bR _) ih
def lE(l:List (List UInt8))(i:Nat):Bool:=decide (i=0)||d4 (iV l (i-1)) (iV l i)
def jR(l:List (List UInt8)):Bool:=mV l.length (lE l)
def jn(m:Int)(l:List (List UInt8)):Bool:=decide ((l.length:Int)<=m) && mV l.length fun i=>dW (iV l i) && lE l i
def ES(m:Int)(l:List (List UInt8)):jn m l=(decide ((l.length:Int)<=m) && (jR l && mV l.length fun i=>dW (iV l i))):=by
 unfold jn jR;congr 1;rw[oy];simp only[aj,qr];exact⟨fun h=>⟨fun j hj=>(h j hj).2,fun j hj=>(h j hj).1⟩,fun h j hj=>⟨h.2 j hj,h.1 j hj⟩⟩
def Gn(l:List UInt8)(h1:1<=l.length)(h3:Be (cI l 0)=true):(l.take 1).all (fun c=>iB (c.toNat:Int))=true:=by
 match l,h1 with
 |c::l,_=>
  have:Be (c.toNat:Int)=true:=h3;simp[iB,this]
def pB(K:jj cf)(l:List UInt8):az cf 121 [S l] [] st=some (.bool (dW l),st):=by
 refine df K (F:=F121) (t:=2) rfl rfl rfl (lb rfl) (by simp[bR]) (ct _) (l.length+1) ?_;simp only[F121,↓qU,seval];simp only[↓pa,pb,seval];refine af (fun h1=>?_) (fun h1=>?_)
 ·simp only[↓pa,pb,seval,h1];have:¬1<=l.length:=by omega
  simp[dW,this]
 simp only[↓pa,pb,seval,h1];refine af (fun h2=>?_) (fun h2=>?_)
 ·simp only[↓pa,pb,seval,h2];have:¬l.length<=20:=by omega
  simp[dW,this]
 simp (disch:=omega)only[↓pa,pb,seval,h2,yh K];refine af (fun h3=>?_) (fun h3=>?_);rotate_left
 ·simp only[↓pa,pb,seval,h3];simp[dW,h3]
 simp only[↓pa,pb,seval,h3];refine a7 (fun k fr st=>∃ i:Nat,k=l.length-i/\i<=l.length/\fr 0=S l/\fr 3=I i/\(l.take i).all (fun c=>iB (c.toNat:Int))=true) (l.length-1) (by omega) ⟨1,by simp,by omega,by simp only[↓pa,seval],by simp only[↓pa,seval]<;>rfl,Gn l (by omega) h3⟩ ?_
 rintro k fr st ⟨i,rfl,hi,f0,f3,hall⟩;simp only[↓pa,pb,seval,f0,f3];refine af (fun h4=>?_) (fun h4=>?_);rotate_left
 ·simp only[↓pa,pb,seval];have hil:i=l.length:=by omega
  subst hil;rw[ly]at hall;have h1':1<=l.length:=by omega
  have h2':l.length<=20:=by omega
  simp[dW,h1',h2',h3,hall]
 have hlt:i<l.length:=by omega
 have next:iB (cI l i)=true->∃ j,j<l.length-i/\∃ m:Nat,j=l.length-m/\m<=l.length/\True/\I (↑i+1)=I m/\(l.take m).all (fun c=>iB (c.toNat:Int))=true:=fun h=>
  ⟨l.length- (i+1),by omega,i+1,rfl,by omega,trivial,by simp,by rw[FT l i hlt,hall,<-rC l i hlt,h];rfl⟩
 simp (disch:=omega)only[↓pa,pb,seval,f0,f3,yh K];refine af (fun h5=>?_) (fun h5=>?_)
 ·simp (disch:=omega)only[↓pa,pb,seval,f0,f3,h5];simpa using next (by simp[iB,h5])
 ·simp (disch:=omega)only[↓pa,pb,seval,f0,f3,h5,oU K];refine af (fun h6=>?_) (fun h6=>?_)
  ·simp (disch:=omega)only[↓pa,pb,seval,f0,f3,h6];simpa using next (by simp[iB,h6])
  ·simp (disch:=omega)only[↓pa,pb,seval,f0,f3,h6];refine af (fun h7=>?_) (fun h7=>?_)
   ·simp (disch:=omega)only[↓pa,pb,seval,f0,f3,h7];simpa using next (by simp[iB,h7])
   ·simp only[↓pa,pb,seval];have:iB (cI l i)=false:=by simp[iB,h5,h6,h7]
    simp[dW,K5 hlt this _ rfl]
def Fz(K:jj cf)(l:List (List UInt8))(hl:(l.length:Int)<=2000000):az cf 166 [TX l] [] st=some (.bool (jR l),st):=by
 refine df K (F:=F166) (t:=2) rfl rfl rfl (lb rfl) (by simp[fy]) (ct _) (l.length+1) ?_;have hm:(l.map S).length=l.length:=bJ _;simp only[F166,↓qU,seval];simp only[↓pa,seval];refine a7 (fun k fr st=>∃ i:Nat,k=l.length-i/\1<=i/\(i<=l.length\/i=1)/\fr 0=TX l/\fr 3=I i/\∀ j,j<i->lE l j=true) (l.length-1) (by omega) ⟨1,by simp,by omega,by omega,by simp only[↓pa,seval],by simp only[↓pa,seval]<;>rfl,fun j hj=>?_⟩ ?_
 ·obtain rfl:j=0:=by omega
  rfl
 rintro k fr st ⟨i,rfl,hi1,hi,f0,f3,hall⟩;simp only[↓pa,pb,seval,f0,f3];refine af (fun h4=>?_) (fun h4=>?_);rotate_left
 ·simp only[↓pa,pb,seval];rw[jR,mf fun j hj=>hall j (by omega)]
 have hlt:i<l.length:=by omega
 have hp:((i:Int) -1).toNat=i-1:=by omega
 simp (disch:=omega)only[↓pa,pb,seval,f0,f3,hp,eh,gZ (show i<l.length from hlt),gZ (show i-1<l.length by omega)];have e:lE l i=d4 (iV l (i-1)) (iV l i):=by simp[lE,show i≠0 by omega]
 refine af (fun h5=>?_) (fun h5=>?_)
 ·simp (disch:=omega)only[↓pa,pb,seval,f0,f3,h5];exact⟨l.length- (i+1),by omega,i+1,rfl,by omega,by omega,by simp,gM hall (by rw[e];exact h5)⟩
 ·simp only[↓pa,pb,seval,h5];rw[jR,gN hlt (by rw[e];simpa using h5)]
def DA(K:jj cf)(l:List (List UInt8)):az cf 119 [TX l] [] st=some (.bool (jn 10 l),st):=by
 refine df K (F:=F119) (t:=2) rfl rfl rfl (lb rfl) (by simp[fy]) (ct _) (l.length+1) ?_;rw[ES];have hm:(l.map S).length=l.length:=bJ _;simp only[F119,↓qU,seval];simp only[↓pa,pb,seval];refine af (fun h1=>?_) (fun h1=>?_)
 ·simp only[↓pa,pb,seval,h1];have:¬ ((l.length:Int)<=10):=by omega
  simp only[this,decide_false,dO]
 have h1':(l.length:Int)<=10:=by omega
 simp only[↓pa,pb,seval,h1,Fz K l (by omega)];refine af (fun h2=>?_) (fun h2=>?_);rotate_left
 ·simp only[↓pa,pb,seval,h2]
 simp only[↓pa,pb,seval,h2];refine a7 (fun k fr st=>∃ i:Nat,k=l.length-i/\i<=l.length/\fr 0=TX l/\fr 3=I i/\∀ j,j<i->dW (iV l j)=true) l.length (by omega) ⟨0,by simp,by omega,by simp only[↓pa,seval],by simp only[↓pa,seval]<;>rfl,fun j hj=>by omega⟩ ?_
 rintro k fr st ⟨i,rfl,hi,f0,f3,hall⟩;simp only[↓pa,pb,seval,f0,f3];refine af (fun h4=>?_) (fun h4=>?_);rotate_left
 ·simp only[↓pa,pb,seval];have ha:mV l.length (fun i=>dW (iV l i))=true:=mf fun j hj=>hall j (by omega);simp[h1',ha]
 have hlt:i<l.length:=by omega
 simp (disch:=omega)only[↓pa,pb,seval,f0,f3,eh,gZ hlt,pB K];refine af (fun h5=>?_) (fun h5=>?_)
 ·simp (disch:=omega)only[↓pa,pb,seval,f0,f3,h5];exact⟨l.length- (i+1),by omega,i+1,rfl,by omega,by simp,gM hall h5⟩
 ·simp only[↓pa,pb,seval,h5];rw[gN hlt (by simpa using h5)];simp
def FG(K:jj cf)(l:List (List UInt8))(m:Int)(hm:m<=2000000):az cf 125 [TX l,I m] [] st=some (.bool (jn m l),st):=by
 refine df K (F:=F125) (t:=4) rfl rfl rfl (lb rfl) (by simp[fy,bh]) (ct _) (l.length+1) ?_;have hm:(l.map S).length=l.length:=bJ _;simp only[F125,↓qU,seval];simp only[↓pa,pb,seval];refine af (fun h1=>?_) (fun h1=>?_)
 ·simp only[↓pa,pb,seval,h1];have:¬ ((l.length:Int)<=m):=by omega
  simp[jn,this]
 have h1':(l.length:Int)<=m:=by omega
 simp only[↓pa,pb,seval,h1];refine a7 (fun k fr st=>∃ i:Nat,k=l.length-i/\i<=l.length/\fr 0=TX l/\fr 11=TX l/\fr 12=I l.length/\fr 13=I i/\∀ j,j<i->(dW (iV l j) && lE l j)=true) l.length (by omega) ⟨0,by simp,by omega,by simp only[↓pa,seval],by simp only[↓pa,seval],by simp only[↓pa,seval],by simp only[↓pa,seval]<;>rfl,fun j hj=>by omega⟩ ?_
 rintro k fr st ⟨i,rfl,hi,f0,f11,f12,f13,hall⟩;simp only[↓pa,pb,seval,f12,f13];refine af (fun h4=>?_) (fun h4=>?_);rotate_left
 ·simp only[↓pa,pb,seval];have ha:mV l.length (fun i=>dW (iV l i) && lE l i)=true:=mf fun j hj=>hall j (by omega);simp[jn,h1',ha]
 have hlt:i<l.length:=by omega
 have bad:(dW (iV l i) && lE l i)=false->jn m l=false:=fun h=>by rw[jn,gN hlt h];simp
 have next:(dW (iV l i) && lE l i)=true->∃ j,j<l.length-i/\∃ m:Nat,j=l.length-m/\m<=l.length/\True/\True/\True/\I (↑i+1)=I m/\∀ j,j<m->(dW (iV l j) && lE l j)=true:=fun h=>
  ⟨l.length- (i+1),by omega,i+1,rfl,by omega,trivial,trivial,trivial,by simp,gM hall h⟩
 simp (disch:=omega)only[↓pa,pb,seval,f11,f13,eh,gZ hlt,rA K];refine af (fun h5=>?_) (fun h5=>?_);rotate_left
 ·simp only[↓pa,pb,seval,h5];rw[bad (by simp[h5])]
 simp only[↓pa,pb,seval,h5];refine af (fun h6=>?_) (fun h6=>?_);rotate_left
 ·simp (disch:=omega)only[↓pa,pb,seval,f0,f11,f12,f13,h6];have:i=0:=by omega
  simpa using next (by rw[h5,lE];simp[this])
 have hp:((i:Int) -1).toNat=i-1:=by omega
 have e:lE l i=d4 (iV l (i-1)) (iV l i):=by simp[lE,show i≠0 by omega]
 simp (disch:=omega)only[↓pa,pb,seval,f0,h6,hp,eh,gZ (show i-1<l.length by omega)];refine af (fun h7=>?_) (fun h7=>?_)
 ·simp (disch:=omega)only[↓pa,pb,seval,f0,f11,f12,f13,h7];simpa using next (by rw[e];simp[h5,h7])
 ·simp only[↓pa,pb,seval,h7];rw[bad (by rw[e];simp[h5,h7])]
end Go.PM
namespace Go.PM
inductive V where
 |mk (kind n m:Int) (s:List UInt8) (ns:List (List UInt8)) (vs:List V)
def V.kind:V->Int| .mk k _ _ _ _ _=>k
def V.num:V->Int| .mk _ n _ _ _ _=>n
def V.items:V->List V| .mk _ _ _ _ _ vs=>vs
mutual
def V.ca:V->List PV
 | .mk k n m s ns vs=>[I k,I n,I m,S s,.list ns.length (ns.map S) .no,.list vs.length (V.cas vs) .no]
def V.cas:List V->List PV
 | []=>[]
 |v::vs=>v.ca++V.cas vs
end
mutual
def V.cb:V->List PV
 | .mk k n m s ns vs=>[I k,I n,I m,S s,.list vs.length (V.cbs vs) .no,.list ns.length (ns.map S) .no]
def V.cbs:List V->List PV
 | []=>[]
 |v::vs=>v.cb++V.cbs vs
end
def skip(p:Int->Bool)(t:List UInt8)(i:Nat):Nat:=i+((t.drop i).takeWhile fun c=>p (c.toNat:Int)).length
def dU(t:List UInt8)(i j:Nat):List UInt8:=(t.take j).drop i
def tk(t:List UInt8)(i:Nat)(s:List UInt8):Bool:=decide ((t.drop i).take s.length=s)
def ic(s:List UInt8):Option Int:=match Go.Lib.parseIntB 64 s with
 | .ok n=>if Go.Lib.itoa n=s then some n else none
 |_=>none
def gl(t:List UInt8)(i:Nat):Option (Int×Nat):=
 (ic (dU t i (skip fB t (if cI t i=45 then i+1 else i)))).map fun n=>(n,skip fB t (if cI t i=45 then i+1 else i))
def uD(t:List UInt8)(i:Nat):Option (Int×Nat):=match gl t i with
 |some (n,j)=>if 1<=n/\n<=1000000000000 then some (n,j)else none
 |none=>none
def iW(t:List UInt8):Nat->Nat->List UInt8->Option (List UInt8×Nat)
 |0,_,_=>none
 |k+1,i,acc=>
  if i<t.length then
   if cI t i=34 then some (acc,i+1)
   else if cI t i=92 then
    if cI t (i+1)=34\/cI t (i+1)=92 then iW t k (i+2) (acc++[t.getD (i+1) 0])
    else if cI t (i+1)=110 then iW t k (i+2) (acc++[10])else none
   else if cI t i<32 then none
   else iW t k (i+1) (acc++[t.getD i 0])
  else none
def rO(t:List UInt8)(i:Nat):Option (List UInt8×Nat):=iW t (t.length+1-i) i []
def sk(t:List UInt8)(i:Nat):Option (List UInt8×Nat):=
 if dW (dU t i (skip iB t i))then some (dU t i (skip iB t i),skip iB t i)else none
def jW(t:List UInt8):Nat->Nat->Int->Option Int
 |0,_,v=>some v
 |k+1,i,v=>if i<t.length/\fB (cI t i)=true then jW t k (i+1) (v*10+(cI t i-48))else none
def wo(y:Int):Bool:=decide (y.tmod 4=0) && (decide (y.tmod 100≠0)||decide (y.tmod 400=0))
def p6(y m:Int):Int:=if m=2 then(if wo y then 29 else 28)else if m=4\/m=6\/m=9\/m=11 then 30 else 31
def rj(y:Int):Nat->Int
 |0=>0
 |k+1=>rj y k+p6 y (k+1)
def Cd(y m d:Int):Int:=(y-1) *365+(y-1).tdiv 4- (y-1).tdiv 100+(y-1).tdiv 400+rj y (m.toNat-1)+d-1
def Ee(y m d:Int):Option Int:=if 1<=y/\1<=m/\m<=12/\1<=d/\d<=p6 y m then some (Cd y m d)else none
def ie(t:List UInt8)(i:Nat):Option (Int×Nat):=
 match jW t 4 i 0,jW t 2 (i+5) 0,jW t 2 (i+8) 0 with
 |some y,some m,some d=>if cI t (i+4)=45/\cI t (i+7)=45 then(Ee y m d).map fun n=>(n,i+10)else none
 |_,_,_=>none
def rI(x:Int):Bool:=decide (x< -1000000)||decide (1000000<x)
def ik(t:List UInt8)(i:Nat):Option (V×Nat):=match gl t i with
 |some (a,j)=>if cI t j=32 then match gl t (j+1)with
  |some (b,k)=>if cI t k=41/\rI a=false/\rI b=false then some (.mk 5 a b [] [] [],k+1)else none
  |none=>none
  else none
 |none=>none
def eX(t:List UInt8)(kind:Int)(i:Nat):Option (V×Nat):=(uD t i).map fun q=>(.mk kind q.1 0 [] [] [],q.2)
def nS(t:List UInt8):Nat->Bool->Nat->List V->Option (V×Nat)
 |0,_,_,_=>none
 |k+1,node,i,acc=>
  if cI t i=(if node then 110 else 101)then match eX t (if node then 8 else 9) (i+1)with
   |some (v,j)=>
    if node=true/\cI t j=62 then some (.mk 10 0 0 [] [] (acc++[v]),j+1)
    else if cI t j=32 then nS t k (!node) (j+1) (acc++[v])
    else none
   |none=>none
  else none
def sj(t:List UInt8)(i:Nat):Option (V×Nat):=nS t (t.length+1-i) true i []
def mQ(t:List UInt8)(rd:Nat->Option (V×Nat)):Nat->Nat->List V->Option (V×Nat)
 |0,_,_=>none
 |k+1,i,acc=>match rd i with
  |some (v,j)=>
   if cI t j=93 then some (.mk 6 0 0 [] [] (acc++[v]),j+1)
   else if cI t j=44 then mQ t rd k (j+1) (acc++[v])
   else none
  |none=>none
def mF(t:List UInt8)(rd:Nat->Option (V×Nat))(i:Nat):Option (V×Nat):=
 if cI t i=93 then some (.mk 6 0 0 [] [] [],i+1)else mQ t rd (t.length+1-i) i []
def nz(t:List UInt8)(rd:Nat->Option (V×Nat)):Nat->Nat->List (List UInt8)->List V->Option (V×Nat)
 |0,_,_,_=>none
 |k+1,i,ns,acc=>match sk t i with
  |some (s,j)=>if cI t j=58 then match rd (j+1)with
   |some (v,j)=>
    if cI t j=125 then(if jR (ns++[s])then some (.mk 7 0 0 [] (ns++[s]) (acc++[v]),j+1)else none)
    else if cI t j=44 then nz t rd k (j+1) (ns++[s]) (acc++[v])
    else none
   |none=>none
   else none
  |none=>none
def kB(t:List UInt8)(rd:Nat->Option (V×Nat))(i:Nat):Option (V×Nat):=
 if cI t i=125 then some (.mk 7 0 0 [] [] [],i+1)else nz t rd (t.length+1-i) i [] []
def om(t:List UInt8)(rd:Option (Nat->Option (V×Nat)))(i:Nat):Option (V×Nat):=
 if cI t i=34 then(rO t (i+1)).map fun q=>(.mk 3 0 0 q.1 [] [],q.2)
 else if cI t i=64 then(ie t (i+1)).map fun q=>(.mk 4 q.1 0 [] [] [],q.2)
 else if cI t i=45\/fB (cI t i)=true then(gl t i).map fun q=>(.mk 2 q.1 0 [] [] [],q.2)
 else if cI t i=40 then ik t (i+1)
 else if cI t i=91 then match rd with
  |some rd=>mF t rd (i+1)
  |none=>none
 else if cI t i=123 then match rd with
  |some rd=>kB t rd (i+1)
  |none=>none
 else if cI t i=60 then sj t (i+1)
 else if tk t i [110,117,108,108]then some (.mk 0 0 0 [] [] [],i+4)
 else if tk t i [116,114,117,101]then some (.mk 1 1 0 [] [] [],i+4)
 else if tk t i [102,97,108,115,101]then some (.mk 1 0 0 [] [] [],i+5)
 else if cI t i=110 then eX t 8 (i+1)
 else if cI t i=101 then eX t 9 (i+1)
 else none
def eW(t:List UInt8):Nat->Nat->Option (V×Nat)
 |0=>om t none
 |b+1=>om t (some (eW t b))
def fV(t:List UInt8):Option V:=if t.length<=2000 then match eW t 5 0 with
 |some (v,j)=>if j=t.length then some v else none
 |none=>none
 else none
def vR{t:List UInt8}{i:Nat}(h:t.length<=i):cI t i=0:=by simp[cI,cE h]
def dH{t:List UInt8}{i:Nat}(h:cI t i≠0):i<t.length:=by
 by_cases k:i<t.length
 ·exact k
 ·exact absurd (vR (by omega)) h
def lX{p:Int->Bool}{t:List UInt8}{i:Nat}(h:i<t.length)(k:p (cI t i)=true):skip p t i=skip p t (i+1):=by
 unfold skip;rw[bj h,List.takeWhile_cons];rw[rC t i h]at k;rw[am k,aA];omega
def qF{p:Int->Bool}{t:List UInt8}{i:Nat}(h:i<t.length->p (cI t i)=false):skip p t i=i:=by
 unfold skip;by_cases hi:i<t.length
 ·rw[bj hi,List.takeWhile_cons];have k:=h hi;rw[rC t i hi]at k;rw[ai (by simp[k])];rfl
 ·rw[gX (by omega)];rfl
def mO(p:Int->Bool)(t:List UInt8)(i:Nat):i<=skip p t i:=by unfold skip;omega
def qG{p:Int->Bool}{t:List UInt8}{i:Nat}(h:i<=t.length):skip p t i<=t.length:=by
 unfold skip;have:=(List.takeWhile_sublist (fun c:UInt8=>p (c.toNat:Int)) (l:=t.drop i)).length_le;rw[bl]at this;omega
def Ha{t:List UInt8}{i:Nat}{n:Int}{j:Nat}(hi:i<=t.length)(h:gl t i=some (n,j)):i<=j/\j<=t.length:=by
 unfold gl at h;simp only[av,cL]at h;obtain⟨_,_,_,rfl⟩:=h;split
 ·rename_i hc;have hlt:=dH (show cI t i≠0 by rw[hc];decide);have:=mO fB t (i+1);exact⟨by omega,qG (by omega)⟩
 ·exact⟨mO _ _ _,qG hi⟩
def OW{t:List UInt8}{i:Nat}{n:Int}{j:Nat}(hi:i<=t.length)(h:uD t i=some (n,j)):i<=j/\j<=t.length:=by
 unfold uD at h;split at h
 ·rename_i n' j' hp;split at h
  ·cases h;exact Ha hi hp
  ·cases h
 ·cases h
def V.ca_len(v:V):v.ca.length=6:=by cases v;rfl
def V.cb_len(v:V):v.cb.length=6:=by cases v;rfl
def V.cas_len:∀ vs:List V,(V.cas vs).length=vs.length*6
 | []=>rfl
 |v::vs=>by rw[V.cas,ae,V.ca_len,V.cas_len vs,aA];omega
def V.cbs_len:∀ vs:List V,(V.cbs vs).length=vs.length*6
 | []=>rfl
 |v::vs=>by rw[V.cbs,ae,V.cb_len,V.cbs_len vs,aA];omega
def V.cas_app:∀ vs ws:List V,V.cas (vs++ws)=V.cas vs++V.cas ws
 | [],_=>rfl
 |v::vs,ws=>by rw[bo,V.cas,V.cas,V.cas_app vs ws,bn]
def V.cbs_app:∀ vs ws:List V,V.cbs (vs++ws)=V.cbs vs++V.cbs ws
 | [],_=>rfl
 |v::vs,ws=>by rw[bo,V.cbs,V.cbs,V.cbs_app vs ws,bn]
def V.cas_snoc(vs:List V)(v:V):V.cas vs++v.ca=V.cas (vs++[v]):=by rw[V.cas_app,V.cas,V.cas,aD]
def V.cbs_snoc(vs:List V)(v:V):V.cbs vs++v.cb=V.cbs (vs++[v]):=by rw[V.cbs_app,V.cbs,V.cbs,aD]
def rg(ns:List (List UInt8)):cZ (ns.map S):=by
 induction ns with
 |nil=>exact eC
 |cons x l ih=>exact bQ (bR _) ih
mutual
theorem V.ca_plain:∀ v:V,cZ v.ca
 | .mk k n m s ns vs=>by
  rw[V.ca];exact bQ (bh _ _) (bQ (bh _ _) (bQ (bh _ _) (bQ (bR _) (bQ (gk (rg ns)) (bQ (gk (V.cas_plain vs)) eC)))))
theorem V.cas_plain:∀ vs:List V,cZ (V.cas vs)
 | []=>eC
 |v::vs=>by rw[V.cas];exact kW (V.ca_plain v) (V.cas_plain vs)
end
mutual
theorem V.cb_plain:∀ v:V,cZ v.cb
 | .mk k n m s ns vs=>by
  rw[V.cb];exact bQ (bh _ _) (bQ (bh _ _) (bQ (bh _ _) (bQ (bR _) (bQ (gk (V.cbs_plain vs)) (bQ (gk (rg ns)) eC)))))
theorem V.cbs_plain:∀ vs:List V,cZ (V.cbs vs)
 | []=>eC
 |v::vs=>by rw[V.cbs];exact kW (V.cb_plain v) (V.cbs_plain vs)
end
def eB:
  (∀ {v:V},aX v.ca=true)/\(∀ {v:V},aQ v.ca=v.ca)/\(∀ {v:V},aX v.cb=true)/\(∀ {v:V},aQ v.cb=v.cb)/\
  (∀ {vs:List V},aX (V.cas vs)=true)/\(∀ {vs:List V},aQ (V.cas vs)=V.cas vs)/\(∀ {vs:List V},aX (V.cbs vs)=true)/\(∀ {vs:List V},aQ (V.cbs vs)=V.cbs vs)/\
  (∀ {ns:List (List UInt8)},aX (ns.map S)=true)/\(∀ {ns:List (List UInt8)},aQ (ns.map S)=ns.map S)/\
  (∀ {v:V},v.ca.take 6=v.ca)/\(∀ {v:V},v.cb.take 6=v.cb)/\(∀ {v:V},v.ca.length=6)/\(∀ {v:V},v.cb.length=6)/\
  (∀ {v:V} {cs:List PV},cs.length=6->bS cs 0 v.ca=v.ca)/\(∀ {v:V} {cs:List PV},cs.length=6->bS cs 0 v.cb=v.cb):=by
 refine⟨fun{v}=>v.ca_plain.1,fun{v}=>v.ca_plain.2.1,fun{v}=>v.cb_plain.1,fun{v}=>v.cb_plain.2.1,fun{vs}=>(V.cas_plain vs).1,fun{vs}=>(V.cas_plain vs).2.1,fun{vs}=>(V.cbs_plain vs).1,fun{vs}=>(V.cbs_plain vs).2.1,fun{ns}=>(rg ns).1,fun{ns}=>(rg ns).2.1,fun{v}=>?_,fun{v}=>?_,fun{v}=>v.ca_len,fun{v}=>v.cb_len,fun{v cs} h=>?_,fun{v cs} h=>?_⟩
 ·exact aM (by rw[V.ca_len];omega)
 ·exact aM (by rw[V.cb_len];omega)
 ·exact jm (by rw[V.ca_len,h])
 ·exact jm (by rw[V.cb_len,h])
end Go.PM
namespace Go.PM
variable {cf:aJ} {st:St} {mk:PV->St->Fr×St} {A:Fr×St->Prop} {s:Nat}
def ak:(∀ {i:Nat},((i:Int)+1)=((i+1:Nat):Int))/\(∀ {i j:Nat},((i:Int)+(j:Int))=((i+j:Nat):Int))/\(∀ {i j:Nat},((i:Int)<(j:Int))=(i<j))/\(∀ {i j:Nat},((i:Int)<=(j:Int))=(i<=j))/\(∀ {i j:Nat},((i:Int)=(j:Int))=(i=j)):=by
 exact⟨by intros;simp,by intros;simp,by intros;simp,by intros;simp,by intros;apply propext;omega⟩
def xw{c:List PV}(h:st.objs s=some c):cA st s c=st:=by
 unfold cA;congr 1;funext k;split
 ·rename_i e;rw[e,h]
 ·rfl
def gt(t:List UInt8)(i:Int):cZ [S t,I i]:=bQ (bR _) (bQ (bh _ _) eC)
def Ap(t:List UInt8)(i:Int):su [S t,I i]:=jp (nK _) (jp (d6 _ _) qX)
def gS(t:List UInt8)(i:Int)(b:Bool):cZ [S t,I i,.bool b]:=bQ (bR _) (bQ (bh _ _) (bQ (vn _) eC))
def DK(t:List UInt8)(i:Int)(b:Bool):su [S t,I i,.bool b]:=jp (nK _) (jp (d6 _ _) (jp (ct _) qX))
def PA(K:jj cf){t:List UInt8}{i:Nat}(hs:st.objs s=some [S t,I i]):az cf 218 [.ptr s 0] [] st=some (U (cI t i),st):=by
 have:az cf 218 [.ptr s 0] [] st=some (U (cI t i),cA st s [S t,I i]):=by
  refine Bx K (F:=F218) (t:=2) rfl rfl rfl (lb rfl) (lb rfl) (by simp) (d6 _ _) hs (gt t i) (Ap t i) 1 ?_;simp only[F218,↓qU,seval];simp only[↓pa,pb,ah,ak,seval];refine af (fun h=>?_) (fun h=>?_)
  ·simp (disch:=omega)only[↓pa,pb,ah,seval,h]
  ·simp only[↓pa,pb,seval,h];rw[vR (by omega)]
 rw[this,xw hs]
def tq(K:jj cf){t:List UInt8}{i:Nat}(hs:st.objs s=some [S t,I i]):dj (az cf 218 [.ptr s 0] [] st) mk A↔A (mk (U (cI t i)) st):=by rw[PA K hs,fg]
def Lk{t x:List UInt8}{i:Nat}(hi:i<=t.length)(h:t.length-i<x.length):tk t i x=false:=by
 simp only[tk,decide_eq_false_iff_not];intro e;have:=bX List.length e;rw[aL,bl]at this;omega
def PH(K:jj cf)(a x:List UInt8):az cf 248 [S a,S x] [] st=some (.bool (decide (a.take x.length=x)),st):=by
 refine df K (F:=F248) (t:=4) rfl rfl rfl (lb rfl) (by simp[bR]) (ct _) 1 ?_;simp only[F248,↓qU,seval];simp only[↓pa,pb,ak,seval];refine af (fun h=>?_) (fun h=>?_)
 ·simp (disch:=omega)only[↓pa,pb,seval,h]
 ·simp only[↓pa,pb,seval,h];have:¬a.take x.length=x:=fun e=>by
   have:=bX List.length e;rw[aL]at this;omega
  simp only[this,decide_false]
def Nm(K:jj cf)(a x:List UInt8):az cf 241 [S a,S x] [] st=some (.bool (decide (a.take x.length=x)),st):=by
 refine df K (F:=F241) (t:=4) rfl rfl rfl (lb rfl) (by simp[bR]) (ct _) 1 ?_;simp only[F241,↓qU,seval];simp only[↓pa,pb,seval,PH K]
def FJ(K:jj cf)(a x:List UInt8):az cf 231 [S a,S x] [] st=some (.bool (decide (a.take x.length=x)),st):=by
 refine df K (F:=F231) (t:=4) rfl rfl rfl (lb rfl) (by simp[bR]) (ct _) 1 ?_;simp only[F231,↓qU,seval];simp only[↓pa,pb,ak,seval];refine af (fun h=>?_) (fun h=>?_)
 ·simp (disch:=omega)only[↓pa,pb,seval,h]
 ·simp only[↓pa,pb,seval,h];have:¬a.take x.length=x:=fun e=>by
   have:=bX List.length e;rw[aL]at this;omega
  simp only[this,decide_false]
def DU{t x:List UInt8}{i:Nat}:decide ((t.drop i).take x.length=x)=tk t i x:=rfl
def PO(K:jj cf){t x:List UInt8}{i:Nat}(hs:st.objs s=some [S t,I i])(hi:i<=t.length)(hl:t.length<=2000000)(hx:x.length<=2000000)(h:tk t i x=true):az cf 226 [.ptr s 0,S x] [] st=some (.bool true,cA st s [S t,I (i+x.length:Nat)]):=by
 refine Bx K (F:=F226) (t:=4) rfl rfl rfl (lb rfl) (lb rfl) (by simp[bR]) (ct _) hs (gt t i) (Ap t _) 1 ?_;simp only[F226,↓qU,seval];simp (disch:=omega)only[↓pa,pb,ah,ak,seval,Nm K,DU,h]
def PQ(K:jj cf){t x:List UInt8}{i:Nat}(hs:st.objs s=some [S t,I i])(hi:i<=t.length)(hl:t.length<=2000000)(h:¬tk t i x=true):az cf 226 [.ptr s 0,S x] [] st=some (.bool false,st):=by
 have:az cf 226 [.ptr s 0,S x] [] st=some (.bool false,cA st s [S t,I i]):=by
  refine Bx K (F:=F226) (t:=4) rfl rfl rfl (lb rfl) (lb rfl) (by simp[bR]) (ct _) hs (gt t i) (Ap t _) 1 ?_;simp only[F226,↓qU,seval];simp (disch:=omega)only[↓pa,pb,ah,seval,Nm K,DU,h]
 rw[this,xw hs]
def xA(K:jj cf){t x:List UInt8}{i:Nat}(hs:st.objs s=some [S t,I i])(hi:i<=t.length)(hl:t.length<=2000000)(hx:x.length<=2000000):
  dj (az cf 226 [.ptr s 0,S x] [] st) mk A↔mh (tk t i x=true) (eG A (mk (.bool true) (cA st s [S t,I (i+x.length:Nat)]))) (eG A (mk (.bool false) st)):=by
 by_cases h:tk t i x=true
 ·rw[PO K hs hi hl hx h,fg];simp only[h,eG,mh];simp
 ·rw[PQ K hs hi hl h,fg];simp only[eG,mh,h];simp
def MF(K:jj cf){t x:List UInt8}{i:Nat}(hs:st.objs s=some [S t,I i,.bool false])(hi:i<=t.length)(hl:t.length<=2000000)(hx:x.length<=2000000)(h:tk t i x=true):az cf 210 [.ptr s 0,S x] [] st=some (.bool true,cA st s [S t,I (i+x.length:Nat),.bool false]):=by
 refine Bx K (F:=F210) (t:=4) rfl rfl rfl (lb rfl) (lb rfl) (by simp[bR]) (ct _) hs (gS t i _) (DK t _ _) 1 ?_;simp only[F210,↓qU,seval];simp (disch:=omega)only[↓pa,pb,ah,ak,seval,FJ K,DU,h]
def Fx(K:jj cf){t x:List UInt8}{i:Nat}{b:Bool}(hs:st.objs s=some [S t,I i,.bool b])(hi:i<=t.length)(hl:t.length<=2000000)(h:¬ (b=false/\tk t i x=true)):az cf 210 [.ptr s 0,S x] [] st=some (.bool false,st):=by
 have:az cf 210 [.ptr s 0,S x] [] st=some (.bool false,cA st s [S t,I i,.bool b]):=by
  refine Bx K (F:=F210) (t:=4) rfl rfl rfl (lb rfl) (lb rfl) (by simp[bR]) (ct _) hs (gS t i _) (DK t _ _) 1 ?_;simp only[F210,↓qU,seval];cases b with
  |true=>simp only[↓pa,pb,ah,seval]
  |false=>
   have h':¬tk t i x=true:=fun k=>h ⟨rfl,k⟩;simp (disch:=omega)only[↓pa,pb,ah,seval,FJ K,DU,h']
 rw[this,xw hs]
def rN(K:jj cf){t x:List UInt8}{i:Nat}(hs:st.objs s=some [S t,I i,.bool false])(hi:i<=t.length)(hl:t.length<=2000000)(hx:x.length<=2000000):
  dj (az cf 210 [.ptr s 0,S x] [] st) mk A↔mh (tk t i x=true) (eG A (mk (.bool true) (cA st s [S t,I (i+x.length:Nat),.bool false]))) (eG A (mk (.bool false) st)):=by
 by_cases h:tk t i x=true
 ·rw[MF K hs hi hl hx h,fg];simp only[h,eG,mh];simp
 ·rw[Fx K hs hi hl (by simp[h]),fg];simp only[eG,mh,h];simp
def m5(K:jj cf){t x:List UInt8}{i:Nat}(hs:st.objs s=some [S t,I i,.bool true])(hi:i<=t.length)(hl:t.length<=2000000):
  dj (az cf 210 [.ptr s 0,S x] [] st) mk A↔A (mk (.bool false) st):=by
 rw[Fx K hs hi hl (by simp),fg]
def xn{t:List UInt8}{i:Nat}{c:UInt8}(hc:c≠0):tk t i [c]=decide (cI t i=(c.toNat:Int)):=by
 unfold tk cI;rw[oy];simp only[decide_eq_true_eq,aA,a6];by_cases hi:i<t.length
 ·have e:(t.drop i).take (0+1)=[t[i]]:=by rw[bj hi];rfl
  have g:t.getD i 0=t[i]:=by simp[hi]
  rw[e,g];constructor
  ·intro h;rw[List.singleton_inj.1 h]
  ·intro h;rw[UInt8.toNat_inj.1 (Int.ofNat_inj.1 h)]
 ·rw[gX (by omega)];simp[cE (show t.length<=i by omega)];intro h;apply hc;apply UInt8.toNat_inj.1;simp;omega
end Go.PM
namespace Go.PM
open Go.Lib
variable {cf:aJ} {st:St} {mk:PV->St->Fr×St} {A:Fr×St->Prop} {s:Nat}
structure bO (cf:aJ):Prop where
 tab:jj cf
 parse:∀ l:List UInt8,l.length<=2000000->cf 239 [S l,I 10,I 64] [] []=some (match parseIntB 64 l with
  | .ok n=> .tup [I n,.nili]
  | .range=> .tup [I (intSat 64 l),.err]
  |_=> .tup [I 0,.err],[],[])
 fmt:∀ n:Int,-9223372036854775808<=n->n<=9223372036854775807->cf 135 [I n,I 10] [] []=some (S (itoa n),[],[])
def I5(K:bO cf){n:Int}(h1: -9223372036854775808<=n)(h2:n<=9223372036854775807):az cf 135 [I n,I 10] [] st=some (S (itoa n),st):=
 sM (by simp[bh]) (nK _) (K.fmt n h1 h2)
def Dw(K:bO cf){l:List UInt8}(hl:l.length<=2000000){n:Int}(h:parseIntB 64 l= .ok n):az cf 239 [S l,I 10,I 64] [] st=some (.tup [I n,.nili],st):=
 sM (by simp[bh,bR]) (Aq (jp (d6 _ _) (jp K8 qX))) (by rw[K.parse l hl,h])
def Dx(K:bO cf){l:List UInt8}(hl:l.length<=2000000)(h:∀ n,parseIntB 64 l≠ .ok n):∃ n,az cf 239 [S l,I 10,I 64] [] st=some (.tup [I n,.err],st):=by
 cases e:parseIntB 64 l with
 |ok n=>exact absurd e (h n)
 |range=>exact⟨intSat 64 l,sM (by simp[bh,bR]) (Aq (jp (d6 _ _) (jp FP qX))) (by rw[K.parse l hl,e])⟩
 |_=>exact⟨0,sM (by simp[bh,bR]) (Aq (jp (d6 _ _) (jp FP qX))) (by rw[K.parse l hl,e])⟩
def oh{α:Type}(t:List UInt8)(enc:α->PV)(o:Option (α×Nat))(dm:PV->Prop)(r:PV)(c:List PV):Prop:=match o with
 |some (a,j)=>r= .tup [enc a,.bool true]/\c=[S t,I j]/\j<=t.length
 |none=>∃ p,∃ j:Nat,dm p/\r= .tup [p,.bool false]/\c=[S t,I j]/\j<=t.length
def qw{α:Type}(t:List UInt8)(enc:α->PV)(o:Option (α×Nat))(dm:PV->Prop)(r:PV)(c:List PV):Prop:=match o with
 |some (a,j)=>r=enc a/\c=[S t,I j,.bool false]/\j<=t.length
 |none=>∃ j:Nat,dm r/\c=[S t,I j,.bool true]/\j<=t.length
def iF{α:Type}{t:List UInt8}{enc:α->PV}{q:Option (α×Nat)}{dm:PV->Prop}{o:Option (PV×St)}(h:∃ r c',oh t enc q dm r c'/\∃ fl,o=some (r,db (cA st s c') fl))
  (k1:∀ a j fl,q=some (a,j)->j<=t.length->A (mk (.tup [enc a,.bool true]) (db (cA st s [S t,I j]) fl)))
  (k2:∀ p j fl,q=none->dm p->j<=t.length->A (mk (.tup [p,.bool false]) (db (cA st s [S t,I (j:Nat)]) fl))):dj o mk A:=by
 obtain⟨r,c',ho,fl,rfl⟩:=h;rw[fg]
 match q,ho,k1,k2 with
 |some (a,j),⟨e1,e2,e3⟩,k1,_=>rw[e1,e2];exact k1 a j fl rfl e3
 |none,⟨p,j,hd,e1,e2,e3⟩,_,k2=>rw[e1,e2];exact k2 p j fl rfl hd e3
def jt{α:Type}{t:List UInt8}{enc:α->PV}{q:Option (α×Nat)}{dm:PV->Prop}{o:Option (PV×St)}(h:∃ r c',qw t enc q dm r c'/\∃ fl,o=some (r,db (cA st s c') fl))
  (k1:∀ a j fl,q=some (a,j)->j<=t.length->A (mk (enc a) (db (cA st s [S t,I j,.bool false]) fl)))
  (k2:∀ p j fl,q=none->dm p->j<=t.length->A (mk p (db (cA st s [S t,I (j:Nat),.bool true]) fl))):dj o mk A:=by
 obtain⟨r,c',ho,fl,rfl⟩:=h;rw[fg]
 match q,ho,k1,k2 with
 |some (a,j),⟨e1,e2,e3⟩,k1,_=>rw[e1,e2];exact k1 a j fl rfl e3
 |none,⟨j,hd,e2,e3⟩,_,k2=>rw[e2];exact k2 r j fl rfl hd e3
def bH{α:Type}{t:List UInt8}{enc:α->PV}{p:PV}{j:Nat}{dm:PV->Prop}{r:PV}{c:List PV}{q:Option (α×Nat)}(hq:q=none)(hd:dm p)(h1:r= .tup [p,.bool false])(h2:c=[S t,I j])(h3:j<=t.length):oh t enc q dm r c:=by
 subst hq;exact⟨p,j,hd,h1,h2,h3⟩
def ek{α:Type}{t:List UInt8}{enc:α->PV}{a:α}{j:Nat}{dm:PV->Prop}{r:PV}{c:List PV}{q:Option (α×Nat)}(hq:q=some (a,j))(h1:r= .tup [enc a,.bool true])(h2:c=[S t,I j])(h3:j<=t.length):oh t enc q dm r c:=by
 subst hq;exact⟨h1,h2,h3⟩
def ez{α:Type}{t:List UInt8}{enc:α->PV}{a:α}{j:Nat}{dm:PV->Prop}{r:PV}{c:List PV}{q:Option (α×Nat)}(hq:q=some (a,j))(h1:r=enc a)(h2:c=[S t,I j,.bool false])(h3:j<=t.length):qw t enc q dm r c:=by
 subst hq;exact⟨h1,h2,h3⟩
def bp{α:Type}{t:List UInt8}{enc:α->PV}{j:Nat}{dm:PV->Prop}{r:PV}{c:List PV}{q:Option (α×Nat)}(hq:q=none)(hd:dm r)(h2:c=[S t,I j,.bool true])(h3:j<=t.length):qw t enc q dm r c:=by
 subst hq;exact⟨j,hd,h2,h3⟩
def oK(p:PV):Prop:=∃ n,p=I n
def wa{l:List UInt8}{n:Int}(h:parseIntB 64 l= .ok n):ic l=if itoa n=l then some n else none:=by simp[ic,h]
def zH{l:List UInt8}(h:∀ n,parseIntB 64 l≠ .ok n):ic l=none:=by
 unfold ic;split
 ·rename_i n e;exact absurd e (h n)
 ·rfl
def yz{t:List UInt8}{i j:Nat}(hj:j<=t.length):(dU t i j).length=j-i:=by simp[dU,hj]
def lf{t:List UInt8}{i j:Nat}:(t.take j).drop i=dU t i j:=rfl
def N9(K:bO cf){t:List UInt8}{i:Nat}(hs:st.objs s=some [S t,I i])(hi:i<=t.length)(hl:t.length<=2000000):
  ∃ r c',oh t I (gl t i) oK r c'/\∃ fl,az cf 221 [.ptr s 0] [] st=some (r,db (cA st s c') fl):=by
 refine hU K.tab (F:=F221) rfl rfl rfl (lb rfl) (lb rfl) (by simp) hs (gt t i) (t.length+1) ?_;simp only[F221,↓qU,seval];simp only[↓pa,pb,ah,seval];refine(tq K.tab (t:=t) (i:=i) (by simp only[pb,seval])).2 ?_;simp only[↓pa,pb,seval];have hJ:gl t i=(ic (dU t i (skip fB t (if cI t i=45 then i+1 else i)))).map fun n=>(n,skip fB t (if cI t i=45 then i+1 else i)):=rfl;have hle:skip fB t (if cI t i=45 then i+1 else i)<=t.length:=by
  split
  ·rename_i h;exact qG (by have:=dH (show cI t i≠0 by rw[h];decide);omega)
  ·exact qG hi
 have hge:i<=skip fB t (if cI t i=45 then i+1 else i):=by
  have:=mO fB t (if cI t i=45 then i+1 else i);split at this<;>split<;>omega
 revert hJ hle hge;generalize hj0:(if cI t i=45 then i+1 else i)=j0;generalize hjJ:skip fB t j0=J;intro hJ hle hge;refine af (fun h=>?_) (fun h=>?_)
 all_goals
  simp (disch:=omega)only[↓pa,pb,ah,ak,seval,h];refine a7 (fun k fr st=>∃ j:Nat,k=t.length-j/\j<=t.length/\fr 0= .ptr 0 0/\fr 4=I i/\st.objs 0=some [S t,I j]/\skip fB t j=J) (t.length-j0) (by omega) ⟨j0,rfl,?_,by simp only[↓pa,seval],by simp only[↓pa,seval],?_,hjJ⟩ ?_
  ·have:=mO fB t j0;omega
  ·subst hj0;simp only[pb,seval,h]
  rintro k fr st ⟨j,rfl,hj,f0,f4,o0,hsk⟩;simp only[↓pa,pb,ah,ak,seval,f0,o0];refine af (fun h1=>?_) (fun h1=>?_)
  ·simp (disch:=omega)only[↓pa,pb,ah,seval,f0,o0,rZ K.tab,h1];refine af (fun h2=>?_) (fun h2=>?_)
   ·simp (disch:=omega)only[↓pa,pb,ah,ak,seval,f0,f4,o0,h2];refine⟨t.length- (j+1),by omega,j+1,rfl,by omega,rfl,?_⟩;rw[<-lX h1 h2,hsk]
   ·have hjj:J=j:=by rw[<-hsk];exact qF fun _=>by simpa using h2
    subst hjj;simp (disch:=omega)only[↓pa,pb,ah,seval,f0,f4,o0,h2,lf];have hsl:(dU t i J).length<=2000000:=by rw[yz hle];omega
    by_cases hp:∃ n,parseIntB 64 (dU t i J)= .ok n
    ·obtain⟨n,hp⟩:=hp;have hb:=parseIntB_bounds hp;have hb1: -9223372036854775808<=n:=hb.1;have hb2:n<=9223372036854775807:=by have:=hb.2;omega
     simp only[↓pa,pb,ad,aa,seval,al,Dw K hsl hp,I5 K hb1 hb2];rw[wa hp]at hJ;refine af (fun he=>?_) (fun he=>?_)
     ·simp only[↓pa,pb,aH,seval,o0];rw[am (by simpa using he)]at hJ;exact ek hJ rfl rfl hle
     ·simp only[↓pa,pb,aH,seval,o0];rw[ai (by simpa using he)]at hJ;exact bH hJ ⟨_,rfl⟩ rfl rfl hle
    ·have hp:∀ n,parseIntB 64 (dU t i J)≠ .ok n:=fun n h=>hp ⟨n,h⟩;obtain⟨n,hn⟩:=Dx (st:=st) K hsl hp;simp only[↓pa,pb,aH,ad,aa,seval,o0,hn];rw[zH hp]at hJ;exact bH hJ ⟨_,rfl⟩ rfl rfl hle
  ·have hjj:J=j:=by rw[<-hsk];exact qF fun h=>absurd h h1
   subst hjj;simp (disch:=omega)only[↓pa,pb,ah,seval,f0,f4,o0,h1,lf];have hsl:(dU t i J).length<=2000000:=by rw[yz hle];omega
   by_cases hp:∃ n,parseIntB 64 (dU t i J)= .ok n
   ·obtain⟨n,hp⟩:=hp;have hb:=parseIntB_bounds hp;have hb1: -9223372036854775808<=n:=hb.1;have hb2:n<=9223372036854775807:=by have:=hb.2;omega
    simp only[↓pa,pb,ad,aa,seval,al,Dw K hsl hp,I5 K hb1 hb2];rw[wa hp]at hJ;refine af (fun he=>?_) (fun he=>?_)
    ·simp only[↓pa,pb,aH,seval,o0];rw[am (by simpa using he)]at hJ;exact ek hJ rfl rfl hle
    ·simp only[↓pa,pb,aH,seval,o0];rw[ai (by simpa using he)]at hJ;exact bH hJ ⟨_,rfl⟩ rfl rfl hle
   ·have hp:∀ n,parseIntB 64 (dU t i J)≠ .ok n:=fun n h=>hp ⟨n,h⟩;obtain⟨n,hn⟩:=Dx (st:=st) K hsl hp;simp only[↓pa,pb,aH,ad,aa,seval,o0,hn];rw[zH hp]at hJ;exact bH hJ ⟨_,rfl⟩ rfl rfl hle
end Go.PM
namespace Go.PM
open Go.Lib
def mM(a:Nat)(l:List UInt8):Nat:=l.foldl (fun a c=>a*10+(c.toNat-48)) a
def zA(a:Nat):mM a []=a:=by unfold mM;rw[List.foldl_nil]
def xl(a:Nat)(c:UInt8)(l:List UInt8):mM a (c::l)=mM (a*10+(c.toNat-48)) l:=by unfold mM;rw[mj]
def CA(a:Nat)(l:List UInt8)(c:UInt8):mM a (l++[c])=mM a l*10+(c.toNat-48):=by simp[mM]
def Nt(l:List UInt8):∀ a,a<=mM a l:=by
 induction l with
 |nil=>exact fun a=>aP _
 |cons c l ih=>intro a;rw[xl];have:=ih (a*10+(c.toNat-48));omega
def xU(c:UInt8):Bool:=fB (c.toNat:Int)
def tw{n:Int}:fB n=true↔48<=n/\n<=57:=by simp[fB]
def rT{c:UInt8}:xU c=true↔48<=c.toNat/\c.toNat<=57:=by simp[xU,fB];omega
def uW{d:Nat}(h:d<10):(UInt8.ofNat (48+d)).toNat=48+d:=by
 rw[UInt8.toNat_ofNat_of_lt' (by simp[UInt8.size];omega)]
def pA(u:Nat):decDigits u≠ []/\(∀ c∈decDigits u,xU c=true)/\mM 0 (decDigits u)=u:=by
 induction u using Nat.strongRecOn with
 |_ u ih=>
  by_cases h:u<10
  ·rw[decDigits,dif_pos h];refine⟨by simp,?_,?_⟩
   ·intro c hc;rw[dM.1 hc,rT,uW h];omega
   ·rw[xl,zA,uW h];omega
  ·obtain⟨h1,h2,h3⟩:=ih (u / 10) (by omega);rw[decDigits,dif_neg h];refine⟨by simp,?_,?_⟩
   ·intro c hc;rcases aG.1 hc with hc|hc
    ·exact h2 c hc
    ·rw[dM.1 hc,rT,uW (by omega)];omega
   ·rw[CA,h3,uW (by omega)];omega
def sU(M:Nat)(hM:M<=18446744073709551615):∀ (l:List UInt8) (a:Nat),(∀ c∈l,xU c=true)->mM a l<=M->parseUintM M a l= .ok (mM a l)
 | [],a,_,_=>rfl
 |c::l,a,h,hv=>by
  have hc:=rT.1 (h c (by simp));rw[xl]at hv;have hge:=Nt l (a*10+(c.toNat-48));rw[parseUintM,am hc,ai (by omega),ai (by omega),sU M hM l _ (fun d hd=>h d (by simp[hd])) hv];rfl
def Ix{n:Int}(h1: -9223372036854775808<=n)(h2:n<=9223372036854775807):parseIntB 64 (itoa n)= .ok n:=by
 have key:∀ u:Nat,u<=18446744073709551615->parseUintB 64 (decDigits u)= .ok u:=fun u hu=>by
  obtain⟨d1,d2,d3⟩:=pA u;rw[parseUintB,ai d1];have:=sU (2 ^ 64-1) (by decide) (decDigits u) 0 d2 (by rw[d3];simpa using hu);rw[d3]at this;exact this
 unfold itoa;split
 ·rename_i hn;have hu:=key n.natAbs (by omega);unfold parseIntB;have e:(45:UInt8).toNat=45:=rfl;simp only[e,or_true,if_true,hu,not_true,false_and,if_false,qy];rw[ai (by simp;omega)];congr 1;omega
 ·rename_i hn;have hu:=key n.toNat (by omega);obtain⟨d1,d2,d3⟩:=pA n.toNat
  match hd:decDigits n.toNat,d1 with
  |c::r,_=>
   have hc:=rT.1 (d2 c (by simp[hd]));rw[hd]at hu;unfold parseIntB;have e1:¬c.toNat=43:=by omega
   have e2:¬c.toNat=45:=by omega
   simp only[e1,e2,or_self,if_false,not_false_eq_true,qy,false_and];rw[hu];simp only;rw[ai (by simp;omega),show((n.toNat:Nat):Int)=n by omega]
def s9{n:Int}(h1: -9223372036854775808<=n)(h2:n<=9223372036854775807):ic (itoa n)=some n:=by
 rw[wa (Ix h1 h2),am rfl]
def m6{l:List UInt8}{n:Int}(h:ic l=some n):itoa n=l/\ -9223372036854775808<=n/\n<=9223372036854775807:=by
 by_cases hp:∃ m,parseIntB 64 l= .ok m
 ·obtain⟨m,hp⟩:=hp;rw[wa hp]at h;split at h
  ·rename_i e;cases h;have hb:=parseIntB_bounds hp;exact⟨e,hb.1,by have:=hb.2;omega⟩
  ·cases h
 ·rw[zH fun m hm=>hp ⟨m,hm⟩]at h;cases h
def AT(k:Nat):∀ u,u<10 ^ (k+1)->nDigits u<=k+1:=by
 induction k with
 |zero=>intro u h;rw[nDigits_small (by simpa using h)];omega
 |succ k ih=>
  intro u h;by_cases hu:u<10
  ·rw[nDigits_small hu];omega
  ·rw[nDigits_big hu];have:=ih (u / 10) (by rw[Nat.pow_succ]at h;omega);omega
def oJ{n:Int}(h1: -9223372036854775808<=n)(h2:n<=9223372036854775807):(itoa n).length<=20:=by
 unfold itoa;split
 ·rw[aA,decDigits_length];have:=AT 18 n.natAbs (by simp;omega);omega
 ·rw[decDigits_length];have:=AT 18 n.toNat (by simp;omega);omega
def yI(n:Int):itoa n≠ []:=by
 unfold itoa;split
 ·simp
 ·exact(pA _).1
def Db{n:Int}{c:UInt8}{r:List UInt8}(h:itoa n=c::r):(n<0/\c=45/\r=decDigits n.natAbs)\/(0<=n/\xU c=true):=by
 unfold itoa at h;split at h
 ·rename_i hn;cases h;exact .inl ⟨hn,rfl,rfl⟩
 ·rename_i hn;exact .inr ⟨by omega,(pA n.toNat).2.1 c (by rw[h];simp)⟩
def B3{n:Int}(h1:n<0)(h2: -10<n):itoa n=45::itoa (-n):=by
 unfold itoa;rw[am h1,ai (by omega)];congr 1;have:n.natAbs=(-n).toNat:=by omega
 rw[this]
def EW{n:Int}(h:n<= -10):itoa n=itoa (n.tdiv 10)++[UInt8.ofNat (48-n.tmod 10).toNat]:=by
 obtain⟨u,rfl⟩:∃ u:Nat,n= -(u:Int):=⟨n.natAbs,by omega⟩;have e1:(-(u:Int)).tdiv 10= -((u / 10:Nat):Int):=by rw[Int.neg_tdiv];rfl
 have e2:(-(u:Int)).tmod 10= -((u % 10:Nat):Int):=by rw[Int.neg_tmod];rfl
 rw[e1,e2];unfold itoa;rw[am (by omega),am (by omega),Int.natAbs_neg,Int.natAbs_neg,Int.natAbs_natCast,Int.natAbs_natCast]
 conv=>lhs;rw[decDigits,dif_neg (by omega)]
 rw[bo];have:(48- -((u % 10:Nat):Int)).toNat=48+u % 10:=by omega
 rw[this]
def IJ{n:Int}(h1:0<=n)(h2:n<10):itoa n=[UInt8.ofNat (48+n).toNat]:=by
 unfold itoa;rw[ai (by omega),decDigits,dif_pos (by omega)];congr 2;omega
def Md{n:Int}(h:10<=n):itoa n=itoa (n.tdiv 10)++[UInt8.ofNat (48+n.tmod 10).toNat]:=by
 obtain⟨u,rfl⟩:∃ u:Nat,n=(u:Int):=⟨n.toNat,by omega⟩;have e1:((u:Int)).tdiv 10=((u / 10:Nat):Int):=rfl;have e2:((u:Int)).tmod 10=((u % 10:Nat):Int):=rfl;rw[e1,e2];unfold itoa;rw[ai (by omega),ai (by omega),eQ,eQ]
 conv=>lhs;rw[decDigits,dif_neg (by omega)]
 congr 3
def zF{t:List UInt8}{i j:Nat}(h:i<j)(hj:j<=t.length):∃ c:UInt8,cI t i=(c.toNat:Int)/\dU t i j=c::dU t (i+1) j:=by
 have hi:i<t.length:=by omega
 refine⟨t[i],rC t i hi,?_⟩;unfold dU;rw[bj (by rw[aL];omega),List.getElem_take]
def rM(t:List UInt8)(i:Nat):dU t i i=[]:=by
 unfold dU;exact gX (by rw[aL];omega)
def Lt{t:List UInt8}{i j:Nat}(h:i<=j)(hj:j<t.length):dU t i (j+1)=dU t i j++[t[j]]:=by
 unfold dU;rw[aV hj,mD (by rw[aL];omega)]
def JU{t:List UInt8}{i:Nat}(hi:i<=t.length)(h:¬fB (cI t i)=true):uD t i=none:=by
 unfold uD;split
 ·rename_i n j hp;rw[ai];intro hn;have hle:=Ha hi hp;unfold gl at hp;simp only[av,cL]at hp;obtain⟨m,hm,rfl,rfl⟩:=hp;obtain⟨e,-,-⟩:=m6 hm;revert e hle;generalize hJ:skip fB t (if cI t i=45 then i+1 else i)=J;intro hle e;by_cases hlt:i<J
  ·obtain⟨c,hc,hs⟩:=zF hlt hle.2;rw[hs]at e;rcases Db e with⟨hneg,-,-⟩|⟨-,hd⟩
   ·omega
   ·exact h (by rw[hc];exact hd)
  ·have:J=i:=by omega
   rw[this,rM]at e;exact yI m e
 ·rfl
def Na{x d:Int}:IntKind.i64.wrap (IntKind.i64.wrap (IntKind.i64.wrap x*10)+d)=IntKind.i64.wrap (x*10+d):=by
 simp only[jJ];omega
def Qi{x:Int}:IntKind.i64.wrap (-(IntKind.i64.wrap x))=IntKind.i64.wrap (-x):=by
 simp only[jJ];omega
def vU(x:Int): -9223372036854775808<=IntKind.i64.wrap x/\IntKind.i64.wrap x<=9223372036854775807:=by
 simp only[jJ];omega
def tm{k:IntKind}{a b:Int}(h:b≠0):eq .quo (.int k a) (.int k b)=some (.int k (k.wrap (a.tdiv b))):=by simp[eq,gp,binOp,Op.intDiv,h,dV,iJ]
def sv{k:IntKind}{a b:Int}(h:b≠0):eq .rem (.int k a) (.int k b)=some (.int k (a.tmod b)):=by simp[eq,gp,binOp,Op.intDiv,h,dV,iJ]
def wQ{x:Int}{t:aF}{st:St}:Je (.list 1 [U x] t) st=some (S [UInt8.ofNat x.toNat],st):=rfl
def OQ(n:Int):(0<=n->0<=n.tdiv 10/\n.tdiv 10*10<=n/\n<n.tdiv 10*10+10)/\(n<=0->n.tdiv 10<=0/\n<=n.tdiv 10*10/\n.tdiv 10*10-10<n)/\n=n.tdiv 10*10+n.tmod 10:=by
 have:=Int.mul_tdiv_add_tmod n 10;rcases Int.le_total 0 n with h|h
 ·have h1:=Int.tmod_nonneg 10 h;have h2:=Int.tmod_lt_of_pos n (show(0:Int)<10 by decide);have h3:=Int.tdiv_nonneg h (show(0:Int)<=10 by decide);omega
 ·obtain⟨u,rfl⟩:∃ u:Nat,n= -(u:Int):=⟨n.natAbs,by omega⟩;have e1:(-(u:Int)).tdiv 10= -((u / 10:Nat):Int):=by rw[Int.neg_tdiv];rfl
  have e2:(-(u:Int)).tmod 10= -((u % 10:Nat):Int):=by rw[Int.neg_tmod];rfl
  rw[e1,e2];omega
end Go.PM
namespace Go.PM
open Go.Lib
variable {cf:aJ} {st:St} {mk:PV->St->Fr×St} {A:Fr×St->Prop} {s:Nat}
def No(K:bO cf):∀ (k:Nat) (n:Int),2*n.natAbs+(if n<0 then 1 else 0)<k-> -9223372036854775808<=n->n<=9223372036854775807->∀ st,az cf 98 [I n] [] st=some (S (itoa n),st)
 |0,_,h,_,_=>by omega
 |k+1,n,hk,h1,h2=>by
  intro st;have ih:=No K k;refine df K.tab (F:=F98) (t:=2) rfl rfl rfl (lb rfl) (by simp[bh]) (nK _) 1 ?_;simp only[F98,↓qU,reduceAdd,reduceSub];obtain⟨q1,q2,q3⟩:=OQ n;simp only[↓pa,pb,↓reduceIte,reduceCtorEq];refine af (fun h3=>?_) (fun h3=>?_)
  ·have ih1: -10<n->∀ st,az cf 98 [I (-n)] [] st=some (S (itoa (-n)),st):=fun h=>ih (-n) (by rw[am h3]at hk;rw[ai (by omega)];omega) (by omega) (by omega);have q2:=q2 (by omega);have ih2:n<= -10->∀ st,az cf 98 [I (n.tdiv 10)] [] st=some (S (itoa (n.tdiv 10)),st):=fun h=>ih (n.tdiv 10) (by rw[am h3]at hk;split<;>omega) (by omega) (by omega)
   simp only[↓pa,pb,↓reduceIte,reduceCtorEq,h3];refine af (fun h4=>?_) (fun h4=>?_)
   ·have e1:=oJ (n:= -n) (by omega) (by omega);have e2:([45]:List UInt8).length=1:=rfl;simp (disch:=omega)only[↓pa,pb,↓reduceIte,reduceCtorEq,h4,ih1 h4];rw[B3 h3 h4];rfl
   ·have hb:n<= -10:=by omega
    have e1:=oJ (n:=n.tdiv 10) (by omega) (by omega);have e2:([UInt8.ofNat (48-n.tmod 10).toNat]:List UInt8).length=1:=rfl;simp (disch:=omega)only[↓pa,↓au,pb,ah,↓reduceIte,reduceEqDiff,reduceAdd,reduceLeDiff,reduceLT,reduceCtorEq,h4,tm (show(10:Int)≠0 by decide),sv (show(10:Int)≠0 by decide),ih2 hb,wQ];rw[EW (n:=n) hb]
  ·simp only[↓pa,pb,↓reduceIte,reduceCtorEq,h3];refine af (fun h4=>?_) (fun h4=>?_)
   ·simp (disch:=omega)only[↓pa,↓au,pb,ah,↓reduceIte,reduceAdd,reduceLeDiff,reduceLT,reduceCtorEq,h4,wQ];rw[IJ (n:=n) (by omega) h4]
   ·have q1:=q1 (by omega);have e1:=oJ (n:=n.tdiv 10) (by omega) (by omega);have e2:([UInt8.ofNat (48+n.tmod 10).toNat]:List UInt8).length=1:=rfl;have ih3:=ih (n.tdiv 10) (by split at hk<;>split<;>omega) (by omega) (by omega)
    simp (disch:=omega)only[↓pa,↓au,pb,ah,↓reduceIte,reduceEqDiff,reduceAdd,reduceLeDiff,reduceLT,reduceCtorEq,h4,tm (show(10:Int)≠0 by decide),sv (show(10:Int)≠0 by decide),ih3,wQ];rw[Md (n:=n) (by omega)]
def vQ(K:bO cf){n:Int}(h1: -9223372036854775808<=n)(h2:n<=9223372036854775807):az cf 98 [I n] [] st=some (S (itoa n),st):=No K _ n (Nat.lt_succ_self _) h1 h2 st
def FU{t:List UInt8}{j0 j:Nat}(h0:j0<=j)(h:j<t.length)(hd:fB (cI t j)=true):((mM 0 (dU t j0 (j+1)):Nat):Int)=(mM 0 (dU t j0 j):Nat) *10+(cI t j-48):=by
 have hc:=tw.1 hd;rw[rC t j h]at hc ⊢;rw[Lt h0 h,CA];omega
def fq(p:PV):Prop:=∃ cs:List PV,p= .agg cs/\cs.length=6/\aX cs=true/\aQ cs=cs
def Em{t:List UInt8}{i J:Nat}{a:Int}(hi:i<=J)(hJ:J<=t.length)(hj:i≠J->(cI t i=45->i+1<=J/\a=IntKind.i64.wrap (-(mM 0 (dU t (i+1) J):Nat)))/\(cI t i≠45->a=IntKind.i64.wrap (mM 0 (dU t i J):Nat))):
  ∀ n,ic (dU t i J)=some n->i≠J/\J-i<=20/\a=n:=by
 intro n hn;obtain⟨e,r1,r2⟩:=m6 hn;have hne:i≠J:=fun h=>by
  rw[<-h,rM]at e;exact yI n e
 have hlen:=oJ r1 r2;rw[e,yz hJ]at hlen;refine⟨hne,hlen,?_⟩;obtain⟨c,hc,hs⟩:=zF (show i<J by omega) hJ;obtain⟨hA,hB⟩:=hj hne;rcases Db (e.trans hs)with⟨hneg,rfl,hr⟩|⟨hpos,hd⟩
 ·obtain⟨-,ha⟩:=hA hc;rw[ha,hr,(pA _).2.2,wrap_i64 (by omega) (by omega)];omega
 ·have hcc:=rT.1 hd;rw[hB (by omega),<-e];unfold itoa;rw[ai (by omega),(pA _).2.2,wrap_i64 (by omega) (by omega)];omega
def MJ(K:bO cf){t:List UInt8}{i:Nat}{b:Bool}(hs:st.objs s=some [S t,I i,.bool b])(hi:i<=t.length)(hl:t.length<=2000000):
  ∃ r c',qw t I (if b then none else gl t i) oK r c'/\∃ fl,az cf 213 [.ptr s 0] [] st=some (r,db (cA st s c') fl):=by
 refine hU K.tab (F:=F213) rfl rfl rfl (lb rfl) (lb rfl) (by simp) hs (gS t i b) (t.length+1) ?_;simp only[F213,↓qU,seval];by_cases h45:cI t i=45
 ·have hlt:=dH (show cI t i≠0 by rw[h45];decide);have hJ:gl t i=(ic (dU t i (skip fB t (i+1)))).map fun n=>(n,skip fB t (i+1)):=by rw[gl,am h45]
  have hle:skip fB t (i+1)<=t.length:=qG (by omega);have hge:i+1<=skip fB t (i+1):=mO _ _ _;revert hJ hle hge;generalize hjJ:skip fB t (i+1)=J;intro hJ hle hge;have hiJ:i<J:=by omega
  simp (disch:=omega)only[↓pa,pb,ah,ak,seval,h45,hlt];refine a7 (fun k fr st=>∃ j:Nat,k=t.length-j/\i+1<=j/\j<=t.length/\fr 0= .ptr 0 0/\fr 3=I i/\fr 4=I (IntKind.i64.wrap (mM 0 (dU t (i+1) j):Nat))/\st.objs 0=some [S t,I j,.bool b]/\skip fB t j=J) (t.length- (i+1)) (by omega) ⟨i+1,rfl,by omega,by omega,by simp only[↓pa,seval],by simp only[↓pa,seval],by rw[rM,zA];simp (disch:=omega)only[↓pa,pb,seval]<;>rfl,by simp only[pb,seval],hjJ⟩ ?_
  rintro k fr st ⟨j,rfl,hj0j,hj,f0,f3,f4,o0,hsk⟩;simp (disch:=omega)only[↓pa,pb,ah,ak,seval,f0,o0];by_cases hd:j<t.length/\fB (cI t j)=true
  ·obtain⟨h1,h2⟩:=hd;have hd':=tw.1 h2;simp (disch:=omega)only[↓pa,pb,ah,ak,seval,f0,f3,f4,o0,oU K.tab,h1,h2];refine⟨t.length- (j+1),by omega,j+1,rfl,by omega,by omega,?_,rfl,?_⟩
   ·rw[Na,FU hj0j h1 h2]
   ·rw[<-lX h1 h2,hsk]
  have hjj:J=j:=by
   rw[<-hsk];exact qF fun h=>by
    cases hx:fB (cI t j)
    ·rfl
    ·exact absurd ⟨h,hx⟩ hd
  subst hjj;have hq:∀ n,ic (dU t i J)=some n->i≠J/\J-i<=20/\IntKind.i64.wrap (-(IntKind.i64.wrap (mM 0 (dU t (i+1) J):Nat)))=n:=Em (by omega) hle fun _=>⟨fun _=>⟨by omega,Qi⟩,fun h=>absurd h45 h⟩;refine af (fun h1=>?_) (fun h1=>?_)
  ·simp (disch:=omega)only[↓pa,pb,ah,seval,f0,o0,h1,oU K.tab];refine af (fun h2=>?_) (fun h2=>?_)
   ·exact absurd ⟨h1,h2⟩ hd
   simp (disch:=omega)only[↓pa,↓ax,pb,ah,ap,ak,seval,f0,f3,f4,o0,h45,hiJ];have hne:¬i=J:=by omega
   have hno:∀ a,(∀ n,ic (dU t i J)=some n->i≠J/\J-i<=20/\a=n)->(J-i<=20->itoa a≠dU t i J)->gl t i=none:=fun a h1 h2=>by
    rw[hJ];cases hr:ic (dU t i J)with
    |none=>rfl
    |some n=>
     obtain⟨k1,k2,k3⟩:=h1 n hr;exact absurd (by rw[k3];exact(m6 hr).1) (h2 k2)
   simp (disch:=omega)only[↓pa,↓ax,pb,ah,ap,seval,f0,f3,o0,hne];refine af (fun h20=>?_) (fun h20=>?_)
   ·have hnone:gl t i=none:=hno _ hq fun h=>by omega
    have hx:=h20;simp (disch:=omega)only[↓pa,↓ax,pb,ah,ap,aq,aH,ad,aa,seval,f0,o0,hx];refine bp (dm:=oK) ?_ ⟨_,rfl⟩ rfl hle;rw[hnone];cases b<;>rfl
   ·have hr:=vU;simp (disch:=omega)only[↓pa,↓ax,pb,ah,ap,aq,ad,aa,seval,al,f0,f3,o0,h20,vQ K (hr _).1 (hr _).2,lf];refine af (fun he=>?_) (fun he=>?_)
    ·have hJ':=bX ic he;rw[s9 (hr _).1 (hr _).2]at hJ';rw[<-hJ']at hJ;simp (disch:=omega)only[↓pa,pb,aH,seval,o0,he];cases b
     ·exact ez hJ rfl rfl hle
     ·exact bp (dm:=oK) rfl ⟨_,rfl⟩ rfl hle
    ·have hnone:gl t i=none:=hno _ hq fun _=>he;have hx:=he;simp (disch:=omega)only[↓pa,pb,ah,aH,seval,f0,o0,hx];refine bp (dm:=oK) ?_ ⟨_,rfl⟩ rfl hle;rw[hnone];cases b<;>rfl
  ·simp (disch:=omega)only[↓pa,↓ax,pb,ah,ap,ak,seval,f0,f3,f4,o0,h1,h45,hiJ];have hne:¬i=J:=by omega
   have hno:∀ a,(∀ n,ic (dU t i J)=some n->i≠J/\J-i<=20/\a=n)->(J-i<=20->itoa a≠dU t i J)->gl t i=none:=fun a h1 h2=>by
    rw[hJ];cases hr:ic (dU t i J)with
    |none=>rfl
    |some n=>
     obtain⟨k1,k2,k3⟩:=h1 n hr;exact absurd (by rw[k3];exact(m6 hr).1) (h2 k2)
   simp (disch:=omega)only[↓pa,↓ax,pb,ah,ap,seval,f0,f3,o0,hne];refine af (fun h20=>?_) (fun h20=>?_)
   ·have hnone:gl t i=none:=hno _ hq fun h=>by omega
    have hx:=h20;simp (disch:=omega)only[↓pa,↓ax,pb,ah,ap,aq,aH,ad,aa,seval,f0,o0,hx];refine bp (dm:=oK) ?_ ⟨_,rfl⟩ rfl hle;rw[hnone];cases b<;>rfl
   ·have hr:=vU;simp (disch:=omega)only[↓pa,↓ax,pb,ah,ap,aq,ad,aa,seval,al,f0,f3,o0,h20,vQ K (hr _).1 (hr _).2,lf];refine af (fun he=>?_) (fun he=>?_)
    ·have hJ':=bX ic he;rw[s9 (hr _).1 (hr _).2]at hJ';rw[<-hJ']at hJ;simp (disch:=omega)only[↓pa,pb,aH,seval,o0,he];cases b
     ·exact ez hJ rfl rfl hle
     ·exact bp (dm:=oK) rfl ⟨_,rfl⟩ rfl hle
    ·have hnone:gl t i=none:=hno _ hq fun _=>he;have hx:=he;simp (disch:=omega)only[↓pa,pb,ah,aH,seval,f0,o0,hx];refine bp (dm:=oK) ?_ ⟨_,rfl⟩ rfl hle;rw[hnone];cases b<;>rfl
 ·have hJ:gl t i=(ic (dU t i (skip fB t i))).map fun n=>(n,skip fB t i):=by rw[gl,ai h45]
  have hle:skip fB t i<=t.length:=qG hi;have hge:i<=skip fB t i:=mO _ _ _;revert hJ hle hge;generalize hjJ:skip fB t i=J;intro hJ hle hge;by_cases hlt:i<t.length
  ·simp (disch:=omega)only[↓pa,pb,ah,ak,seval,h45,hlt];refine a7 (fun k fr st=>∃ j:Nat,k=t.length-j/\i<=j/\j<=t.length/\fr 0= .ptr 0 0/\fr 3=I i/\fr 4=I (IntKind.i64.wrap (mM 0 (dU t i j):Nat))/\st.objs 0=some [S t,I j,.bool b]/\skip fB t j=J) (t.length-i) (by omega) ⟨i,rfl,by omega,by omega,by simp only[↓pa,seval],by simp only[↓pa,seval],by rw[rM,zA];simp (disch:=omega)only[↓pa,pb,seval]<;>rfl,by simp only[pb,seval],hjJ⟩ ?_
   rintro k fr st ⟨j,rfl,hj0j,hj,f0,f3,f4,o0,hsk⟩;simp (disch:=omega)only[↓pa,pb,ah,ak,seval,f0,o0];by_cases hd:j<t.length/\fB (cI t j)=true
   ·obtain⟨h1,h2⟩:=hd;have hd':=tw.1 h2;simp (disch:=omega)only[↓pa,pb,ah,ak,seval,f0,f3,f4,o0,oU K.tab,h1,h2];refine⟨t.length- (j+1),by omega,j+1,rfl,by omega,by omega,?_,rfl,?_⟩
    ·rw[Na,FU hj0j h1 h2]
    ·rw[<-lX h1 h2,hsk]
   have hjj:J=j:=by
    rw[<-hsk];exact qF fun h=>by
     cases hx:fB (cI t j)
     ·rfl
     ·exact absurd ⟨h,hx⟩ hd
   subst hjj;have hq:∀ n,ic (dU t i J)=some n->i≠J/\J-i<=20/\IntKind.i64.wrap (mM 0 (dU t i J):Nat)=n:=Em (by omega) hle fun _=>⟨fun h=>absurd h h45,fun _=>rfl⟩;by_cases hiJ:i<J
   ·refine af (fun h1=>?_) (fun h1=>?_)
    ·simp (disch:=omega)only[↓pa,pb,ah,seval,f0,o0,h1,oU K.tab];refine af (fun h2=>?_) (fun h2=>?_)
     ·exact absurd ⟨h1,h2⟩ hd
     simp (disch:=omega)only[↓pa,↓ax,pb,ah,ap,ak,seval,f0,f3,o0,h45,hiJ];have hne:¬i=J:=by omega
     have hno:∀ a,(∀ n,ic (dU t i J)=some n->i≠J/\J-i<=20/\a=n)->(J-i<=20->itoa a≠dU t i J)->gl t i=none:=fun a h1 h2=>by
      rw[hJ];cases hr:ic (dU t i J)with
      |none=>rfl
      |some n=>
       obtain⟨k1,k2,k3⟩:=h1 n hr;exact absurd (by rw[k3];exact(m6 hr).1) (h2 k2)
     simp (disch:=omega)only[↓pa,↓ax,pb,ah,ap,seval,f0,f3,o0,hne];refine af (fun h20=>?_) (fun h20=>?_)
     ·have hnone:gl t i=none:=hno _ hq fun h=>by omega
      have hx:=h20;simp (disch:=omega)only[↓pa,↓ax,pb,ah,ap,aq,aH,ad,aa,seval,f0,f4,o0,hx];refine bp (dm:=oK) ?_ ⟨_,rfl⟩ rfl hle;rw[hnone];cases b<;>rfl
     ·have hr:=vU;simp (disch:=omega)only[↓pa,↓ax,pb,ah,ap,aq,ad,aa,seval,al,f0,f3,f4,o0,h20,vQ K (hr _).1 (hr _).2,lf];refine af (fun he=>?_) (fun he=>?_)
      ·have hJ':=bX ic he;rw[s9 (hr _).1 (hr _).2]at hJ';rw[<-hJ']at hJ;simp (disch:=omega)only[↓pa,pb,aH,seval,f4,o0,he];cases b
       ·exact ez hJ rfl rfl hle
       ·exact bp (dm:=oK) rfl ⟨_,rfl⟩ rfl hle
      ·have hnone:gl t i=none:=hno _ hq fun _=>he;have hx:=he;simp (disch:=omega)only[↓pa,pb,ah,aH,seval,f0,f4,o0,hx];refine bp (dm:=oK) ?_ ⟨_,rfl⟩ rfl hle;rw[hnone];cases b<;>rfl
    ·simp (disch:=omega)only[↓pa,↓ax,pb,ah,ap,ak,seval,f0,f3,o0,h1,h45,hiJ];have hne:¬i=J:=by omega
     have hno:∀ a,(∀ n,ic (dU t i J)=some n->i≠J/\J-i<=20/\a=n)->(J-i<=20->itoa a≠dU t i J)->gl t i=none:=fun a h1 h2=>by
      rw[hJ];cases hr:ic (dU t i J)with
      |none=>rfl
      |some n=>
       obtain⟨k1,k2,k3⟩:=h1 n hr;exact absurd (by rw[k3];exact(m6 hr).1) (h2 k2)
     simp (disch:=omega)only[↓pa,↓ax,pb,ah,ap,seval,f0,f3,o0,hne];refine af (fun h20=>?_) (fun h20=>?_)
     ·have hnone:gl t i=none:=hno _ hq fun h=>by omega
      have hx:=h20;simp (disch:=omega)only[↓pa,↓ax,pb,ah,ap,aq,aH,ad,aa,seval,f0,f4,o0,hx];refine bp (dm:=oK) ?_ ⟨_,rfl⟩ rfl hle;rw[hnone];cases b<;>rfl
     ·have hr:=vU;simp (disch:=omega)only[↓pa,↓ax,pb,ah,ap,aq,ad,aa,seval,al,f0,f3,f4,o0,h20,vQ K (hr _).1 (hr _).2,lf];refine af (fun he=>?_) (fun he=>?_)
      ·have hJ':=bX ic he;rw[s9 (hr _).1 (hr _).2]at hJ';rw[<-hJ']at hJ;simp (disch:=omega)only[↓pa,pb,aH,seval,f4,o0,he];cases b
       ·exact ez hJ rfl rfl hle
       ·exact bp (dm:=oK) rfl ⟨_,rfl⟩ rfl hle
      ·have hnone:gl t i=none:=hno _ hq fun _=>he;have hx:=he;simp (disch:=omega)only[↓pa,pb,ah,aH,seval,f0,f4,o0,hx];refine bp (dm:=oK) ?_ ⟨_,rfl⟩ rfl hle;rw[hnone];cases b<;>rfl
   ·have hiJ':J=i:=by omega
    have hnone:gl t i=none:=by
     rw[hJ];cases hr:ic (dU t i J)with
     |none=>rfl
     |some n=>exact absurd hiJ'.symm (hq n hr).1
    subst hiJ';simp (disch:=omega)only[↓pa,pb,ah,seval,f0,o0,hlt,oU K.tab];refine af (fun h2=>?_) (fun h2=>?_)
    ·exact absurd ⟨hlt,h2⟩ hd
    simp (disch:=omega)only[↓pa,↓ax,pb,ah,ap,aq,aH,ak,ad,aa,seval,f0,f3,f4,o0,Nat.lt_irrefl,eq_self];refine bp (dm:=oK) ?_ ⟨_,rfl⟩ rfl hle;rw[hnone];cases b<;>rfl
  ·have hiJ:J=i:=by omega
   have hnone:gl t i=none:=by
    rw[hJ,hiJ,rM];cases hr:ic []with
    |none=>rfl
    |some n=>exact absurd (m6 hr).1 (yI n)
   simp only[↓pa,pb,ah,ak,seval,hlt];refine a7 (fun k fr st=>k=0/\fr 0= .ptr 0 0/\fr 3=I i/\fr 4=I 0/\st.objs 0=some [S t,I i,.bool b]) 0 (by omega) ⟨rfl,by simp only[↓pa,seval],by simp only[↓pa,seval],by simp only[↓pa,seval],by simp only[pb,seval]⟩ ?_;rintro k fr st ⟨rfl,f0,f3,f4,o0⟩;simp only[↓pa,pb,ah,ak,seval,f0,f3,o0,hlt];simp only[↓pa,↓ax,pb,ah,ap,aq,aH,ad,aa,seval,f0,f3,f4,o0,Nat.lt_irrefl,eq_self];refine bp (dm:=oK) ?_ ⟨_,rfl⟩ rfl hi;rw[hnone];cases b<;>rfl
def tL(K:bO cf){t:List UInt8}{i:Nat}(hs:st.objs s=some [S t,I i])(hi:i<=t.length)(hl:t.length<=2000000)
  (k1:∀ a j fl,gl t i=some (a,j)->j<=t.length->A (mk (.tup [I a,.bool true]) (db (cA st s [S t,I (j:Nat)]) fl)))
  (k2:∀ (n:Int) j fl,gl t i=none->j<=t.length->A (mk (.tup [I n,.bool false]) (db (cA st s [S t,I (j:Nat)]) fl))):dj (az cf 221 [.ptr s 0] [] st) mk A:=
 iF (N9 K hs hi hl) k1 fun p j fl h1 ⟨n,hn⟩ h3=>hn▸k2 n j fl h1 h3
def oF(K:bO cf){t:List UInt8}{i:Nat}{b:Bool}(hs:st.objs s=some [S t,I i,.bool b])(hi:i<=t.length)(hl:t.length<=2000000)
  (k1:∀ a j fl,b=false->gl t i=some (a,j)->j<=t.length->A (mk (I a) (db (cA st s [S t,I (j:Nat),.bool false]) fl)))
  (k2:∀ (n:Int) j fl,(b=true\/gl t i=none)->j<=t.length->A (mk (I n) (db (cA st s [S t,I (j:Nat),.bool true]) fl))):dj (az cf 213 [.ptr s 0] [] st) mk A:=by
 refine jt (MJ K hs hi hl) ?_ ?_
 ·intro a j fl h1 h2;cases b with
  |true=>cases h1
  |false=>exact k1 a j fl rfl h1 h2
 ·rintro p j fl h1 ⟨n,rfl⟩ h3;refine k2 n j fl ?_ h3;cases b with
  |true=>exact .inl rfl
  |false=>exact .inr h1
def Rr(K:bO cf){t:List UInt8}{i:Nat}(hs:st.objs s=some [S t,I i])(hi:i<=t.length)(hl:t.length<=2000000):
  ∃ r c',oh t I (uD t i) oK r c'/\∃ fl,az cf 242 [.ptr s 0] [] st=some (r,db (cA st s c') fl):=by
 refine hU K.tab (F:=F242) rfl rfl rfl (lb rfl) (lb rfl) (by simp) hs (gt t i) 1 ?_;simp only[F242,↓qU,seval];simp only[↓pa,pb,seval];refine(tq K.tab (t:=t) (i:=i) (by simp only[pb,seval])).2 ?_;simp only[↓pa,pb,seval,rZ K.tab];refine af (fun h=>?_) (fun h=>?_);rotate_left
 ·simp only[↓pa,pb,aH,seval,h];exact bH (JU hi h) ⟨_,rfl⟩ rfl rfl hi
 simp only[↓pa,pb,seval,h];refine tL K (t:=t) (i:=i) (by simp only[pb,seval]) hi hl (fun a j fl h1 h2=>?_) (fun n j fl h1 h2=>?_)
 ·simp only[↓pa,pb,ad,aa,seval];have hp:uD t i=if 1<=a/\a<=1000000000000 then some (a,j)else none:=by rw[uD,h1]
  refine af (fun h3=>?_) (fun h3=>?_)
  ·by_cases h4:a<=1000000000000
   ·simp only[↓pa,pb,ah,aH,seval,h3,h4];rw[am ⟨h3,h4⟩]at hp;exact ek hp rfl rfl h2
   ·simp only[↓pa,pb,ah,aH,seval,h3,h4];rw[ai fun h=>h4 h.2]at hp;exact bH hp ⟨_,rfl⟩ rfl rfl h2
  ·simp only[↓pa,pb,ah,aH,seval,h3];rw[ai fun h=>h3 h.1]at hp;exact bH hp ⟨_,rfl⟩ rfl rfl h2
 ·simp only[↓pa,pb,ah,aH,ad,aa,seval];exact bH (by rw[uD,h1]) ⟨_,rfl⟩ rfl rfl h2
def Nc(K:bO cf){t:List UInt8}{i:Nat}(hs:st.objs s=some [S t,I i])(hi:i<=t.length)(hl:t.length<=2000000)
  (k1:∀ a j fl,uD t i=some (a,j)->j<=t.length->A (mk (.tup [I a,.bool true]) (db (cA st s [S t,I (j:Nat)]) fl)))
  (k2:∀ (n:Int) j fl,uD t i=none->j<=t.length->A (mk (.tup [I n,.bool false]) (db (cA st s [S t,I (j:Nat)]) fl))):dj (az cf 242 [.ptr s 0] [] st) mk A:=
 iF (Rr K hs hi hl) k1 fun p j fl h1 ⟨n,hn⟩ h3=>hn▸k2 n j fl h1 h3
@[reducible] def VA (v:V):PV:= .agg v.ca
@[reducible] def VB (v:V):PV:= .agg v.cb
def j4(t:List UInt8)(i:Nat):Option (V×Nat):=
 if cI t i=101 then eX t 9 (i+1)else if cI t i=110 then eX t 8 (i+1)else none
def Cm(K:bO cf){t:List UInt8}{i:Nat}(hs:st.objs s=some [S t,I i])(hi:i<=t.length)(hl:t.length<=2000000):
  ∃ r c',oh t VA (j4 t i) fq r c'/\∃ fl,az cf 227 [.ptr s 0] [] st=some (r,db (cA st s c') fl):=by
 refine hU K.tab (F:=F227) rfl rfl rfl (lb rfl) (lb rfl) (by simp) hs (gt t i) 1 ?_;simp only[F227,↓qU,seval];simp only[↓pa,pb,seval];refine(tq K.tab (t:=t) (i:=i) (by simp only[pb,seval])).2 ?_;simp only[↓pa,pb,seval];refine af (fun h1=>?_) (fun h1=>?_)
 ·have hlt:=dH (show cI t i≠0 by rw[h1];decide);have hp:j4 t i=eX t 9 (i+1):=by rw[j4,am h1]
  simp (disch:=omega)only[↓pa,pb,ah,ak,seval,h1];refine Nc K (t:=t) (i:=i+1) (by simp only[pb,seval]) hlt hl (fun a j fl h1 h2=>?_) (fun n j fl h1 h2=>?_)
  ·simp only[↓pa,↓au,pb,ah,aH,ad,aa,seval];exact ek (a:=V.mk 9 a 0 [] [] []) (by rw[hp,eX,h1];rfl) rfl rfl h2
  ·simp only[↓pa,↓au,pb,ah,aH,ad,aa,seval];exact bH (by rw[hp,eX,h1];rfl) ⟨_,rfl,rfl,by simp only[aH,ay],by simp only[aH]⟩ rfl rfl h2
 ·simp only[↓pa,pb,seval,h1];refine(tq K.tab (t:=t) (i:=i) (by simp only[pb,seval])).2 ?_;simp only[↓pa,pb,seval,al];refine af (fun h3=>?_) (fun h3=>?_)
  ·have hlt:=dH (show cI t i≠0 by rw[h3];decide);have hp:j4 t i=eX t 8 (i+1):=by rw[j4,ai h1,am h3]
   simp (disch:=omega)only[↓pa,pb,ah,ak,seval,h3];refine Nc K (t:=t) (i:=i+1) (by simp only[pb,seval]) hlt hl (fun a j fl h1 h2=>?_) (fun n j fl h1 h2=>?_)
   ·simp only[↓pa,↓au,pb,ah,aH,ad,aa,seval];exact ek (a:=V.mk 8 a 0 [] [] []) (by rw[hp,eX,h1];rfl) rfl rfl h2
   ·simp only[↓pa,↓au,pb,ah,aH,ad,aa,seval];exact bH (by rw[hp,eX,h1];rfl) ⟨_,rfl,rfl,by simp only[aH,ay],by simp only[aH]⟩ rfl rfl h2
  ·have hp:j4 t i=none:=by rw[j4,ai h1,ai h3]
   simp only[↓pa,↓au,pb,ah,aH,seval,h3];exact bH hp ⟨_,rfl,rfl,by simp only[aH,ay],by simp only[aH]⟩ rfl rfl hi
def Ah(K:bO cf){t:List UInt8}{i:Nat}{b:Bool}{k:Int}(hs:st.objs s=some [S t,I i,.bool b])(hi:i<=t.length)(hl:t.length<=2000000):
  ∃ r c',qw t VB (if b then none else eX t k i) fq r c'/\∃ fl,az cf 214 [.ptr s 0,I k] [] st=some (r,db (cA st s c') fl):=by
 refine hU K.tab (F:=F214) rfl rfl rfl (lb rfl) (lb rfl) (by simp[bh]) hs (gS t i b) 1 ?_;simp only[F214,↓qU,seval];simp only[↓pa,pb,seval];refine oF K (t:=t) (i:=i) (b:=b) (by simp only[pb,seval]) hi hl (fun a j fl hb h1 h2=>?_) (fun n j fl h1 h2=>?_)
 ·subst hb;have hp:eX t k i=(if 1<=a/\a<=1000000000000 then some (a,j)else none).map fun q=>(V.mk k q.1 0 [] [] [],q.2):=by rw[eX,uD,h1]
  simp only[↓pa,pb,seval];refine af (fun h3=>?_) (fun h3=>?_)
  ·rw[ai fun h=>by omega]at hp;simp only[↓pa,↓au,pb,ah,aH,seval,h3];exact bp (dm:=fq) (by rw[hp];rfl) ⟨_,rfl,rfl,by simp only[aH,ay],by simp only[aH]⟩ rfl h2
  ·simp only[↓pa,pb,seval,h3];refine af (fun h4=>?_) (fun h4=>?_)
   ·rw[ai fun h=>by omega]at hp;simp only[↓pa,↓au,pb,ah,aH,seval,h4];exact bp (dm:=fq) (by rw[hp];rfl) ⟨_,rfl,rfl,by simp only[aH,ay],by simp only[aH]⟩ rfl h2
   ·rw[am ⟨by omega,by omega⟩]at hp;simp only[↓pa,↓au,pb,ah,aH,seval,h4];exact ez (a:=V.mk k a 0 [] [] []) hp rfl rfl h2
 ·have hp:(if b then none else eX t k i)=none:=by
   cases b with
   |true=>rfl
   |false=>rcases h1 with h1|h1;cases h1;simp only[cz,if_false];rw[eX,uD,h1];rfl
  simp only[↓pa,pb,seval];refine af (fun h3=>?_) (fun h3=>?_)
  ·simp only[↓pa,↓au,pb,ah,aH,seval,h3];exact bp (dm:=fq) hp ⟨_,rfl,rfl,by simp only[aH,ay],by simp only[aH]⟩ rfl h2
  ·simp only[↓pa,pb,seval,h3];refine af (fun h4=>?_) (fun h4=>?_)
   ·simp only[↓pa,↓au,pb,ah,aH,seval,h4];exact bp (dm:=fq) hp ⟨_,rfl,rfl,by simp only[aH,ay],by simp only[aH]⟩ rfl h2
   ·simp only[↓pa,↓au,pb,ah,aH,seval,h4];exact bp (dm:=fq) hp ⟨_,rfl,rfl,by simp only[aH,ay],by simp only[aH]⟩ rfl h2
def sK(p:PV):Prop:=∃ l,p=S l
def nh{c:Int}:iB c=(Be c||fB c||decide (c=95)):=rfl
def uv{t:List UInt8}{j J:Nat}{p:Int->Bool}(hsk:skip p t j=J)(hd:¬ (j<t.length/\p (cI t j)=true)):J=j:=by
 rw[<-hsk];exact qF fun h=>by
  cases hx:p (cI t j)
  ·rfl
  ·exact absurd ⟨h,hx⟩ hd
def Om(K:bO cf){t:List UInt8}{i:Nat}(hs:st.objs s=some [S t,I i])(hi:i<=t.length)(hl:t.length<=2000000):
  ∃ r c',oh t S (sk t i) sK r c'/\∃ fl,az cf 240 [.ptr s 0] [] st=some (r,db (cA st s c') fl):=by
 refine hU K.tab (F:=F240) rfl rfl rfl (lb rfl) (lb rfl) (by simp) hs (gt t i) (t.length+1) ?_;simp only[F240,↓qU,seval];have hJ:sk t i=if dW (dU t i (skip iB t i))then some (dU t i (skip iB t i),skip iB t i)else none:=rfl;have hle:skip iB t i<=t.length:=qG hi;have hge:i<=skip iB t i:=mO _ _ _;revert hJ hle hge;generalize hjJ:skip iB t i=J;intro hJ hle hge;simp only[↓pa,pb,ah,seval];refine a7 (fun k fr st=>∃ j:Nat,k=t.length-j/\i<=j/\j<=t.length/\fr 0= .ptr 0 0/\fr 4=I i/\st.objs 0=some [S t,I j]/\skip iB t j=J) (t.length-i) (by omega) ⟨i,rfl,by omega,by omega,by simp only[↓pa,seval],by simp only[↓pa,seval],by simp only[pb,seval],hjJ⟩ ?_;rintro k fr st ⟨j,rfl,hj0,hj,f0,f4,o0,hsk⟩;simp only[↓pa,pb,ah,ak,seval,f0,o0];refine af (fun h1=>?_) (fun h1=>?_)
 ·simp (disch:=omega)only[↓pa,pb,ah,seval,f0,o0,h1,Aj K.tab];refine af (fun h2=>?_) (fun h2=>?_)
  ·have hd:iB (cI t j)=true:=by rw[nh,h2];rfl
   simp (disch:=omega)only[↓pa,pb,ah,ak,seval,f0,f4,o0,h2];refine⟨t.length- (j+1),by omega,j+1,rfl,by omega,by omega,rfl,?_⟩;rw[<-lX h1 hd,hsk]
  ·simp (disch:=omega)only[↓pa,pb,ah,seval,f0,o0,h2,rZ K.tab];refine af (fun h3=>?_) (fun h3=>?_)
   ·have hd:iB (cI t j)=true:=by rw[nh,h3];simp
    simp (disch:=omega)only[↓pa,pb,ah,ak,seval,f0,f4,o0,h3];refine⟨t.length- (j+1),by omega,j+1,rfl,by omega,by omega,rfl,?_⟩;rw[<-lX h1 hd,hsk]
   ·simp (disch:=omega)only[↓pa,pb,ah,seval,f0,o0,h3];refine af (fun h4=>?_) (fun h4=>?_)
    ·have hd:iB (cI t j)=true:=by rw[nh,h4];rfl
     simp (disch:=omega)only[↓pa,pb,ah,ak,seval,f0,f4,o0,h4];refine⟨t.length- (j+1),by omega,j+1,rfl,by omega,by omega,rfl,?_⟩;rw[<-lX h1 hd,hsk]
    ·have hjj:=uv hsk fun h=>by rw[nh]at h;simp[h2,h3,h4]at h
     subst hjj;simp (disch:=omega)only[↓pa,↓ax,pb,ah,ap,seval,f0,f4,o0,h4];simp only[↓pa,↓ax,pb,ap,aq,ad,aa,seval,lf,rA K.tab];by_cases hn:dW (dU t i J)=true
     ·simp only[↓pa,pb,aH,seval,o0,hn];exact ek (by rw[hJ,am hn]) rfl rfl hle
     ·have hn':dW (dU t i J)=false:=by simpa using hn
      simp only[↓pa,pb,aH,seval,o0,hn'];exact bH (by rw[hJ,ai hn]) ⟨_,rfl⟩ rfl rfl hle
 ·have hjj:=uv hsk fun h=>h1 h.1;subst hjj;simp (maxSteps:=1000000) (disch:=omega)only[↓pa,↓ax,pb,ah,ap,seval,f0,f4,o0,h1];simp only[↓pa,↓ax,pb,ap,aq,ad,aa,seval,lf,rA K.tab];by_cases hn:dW (dU t i J)=true
  ·simp only[↓pa,pb,aH,seval,o0,hn];exact ek (by rw[hJ,am hn]) rfl rfl hle
  ·have hn':dW (dU t i J)=false:=by simpa using hn
   simp only[↓pa,pb,aH,seval,o0,hn'];exact bH (by rw[hJ,ai hn]) ⟨_,rfl⟩ rfl rfl hle
def MK(K:bO cf){t:List UInt8}{i:Nat}{b:Bool}(hs:st.objs s=some [S t,I i,.bool b])(hi:i<=t.length)(hl:t.length<=2000000):
  ∃ r c',qw t S (if b then none else sk t i) sK r c'/\∃ fl,az cf 235 [.ptr s 0] [] st=some (r,db (cA st s c') fl):=by
 refine hU K.tab (F:=F235) rfl rfl rfl (lb rfl) (lb rfl) (by simp) hs (gS t i b) (t.length+1) ?_;simp only[F235,↓qU,seval];have hJ:sk t i=if dW (dU t i (skip iB t i))then some (dU t i (skip iB t i),skip iB t i)else none:=rfl;have hle:skip iB t i<=t.length:=qG hi;have hge:i<=skip iB t i:=mO _ _ _;revert hJ hle hge;generalize hjJ:skip iB t i=J;intro hJ hle hge;simp only[↓pa,pb,ah,seval];refine a7 (fun k fr st=>∃ j:Nat,k=t.length-j/\i<=j/\j<=t.length/\fr 0= .ptr 0 0/\fr 3=I i/\st.objs 0=some [S t,I j,.bool b]/\skip iB t j=J) (t.length-i) (by omega) ⟨i,rfl,by omega,by omega,by simp only[↓pa,seval],by simp only[↓pa,seval],by simp only[pb,seval],hjJ⟩ ?_;rintro k fr st ⟨j,rfl,hj0,hj,f0,f3,o0,hsk⟩;simp only[↓pa,pb,ah,ak,seval,f0,o0];refine af (fun h1=>?_) (fun h1=>?_)
 ·simp (disch:=omega)only[↓pa,pb,ah,seval,f0,o0,h1,yh K.tab];refine af (fun h2=>?_) (fun h2=>?_)
  ·have hd:iB (cI t j)=true:=by rw[nh,h2];rfl
   simp (disch:=omega)only[↓pa,pb,ah,ak,seval,f0,f3,o0,h2];refine⟨t.length- (j+1),by omega,j+1,rfl,by omega,by omega,rfl,?_⟩;rw[<-lX h1 hd,hsk]
  ·simp (disch:=omega)only[↓pa,pb,ah,seval,f0,o0,h2,oU K.tab];refine af (fun h3=>?_) (fun h3=>?_)
   ·have hd:iB (cI t j)=true:=by rw[nh,h3];simp
    simp (disch:=omega)only[↓pa,pb,ah,ak,seval,f0,f3,o0,h3];refine⟨t.length- (j+1),by omega,j+1,rfl,by omega,by omega,rfl,?_⟩;rw[<-lX h1 hd,hsk]
   ·simp (disch:=omega)only[↓pa,pb,ah,seval,f0,o0,h3];refine af (fun h4=>?_) (fun h4=>?_)
    ·have hd:iB (cI t j)=true:=by rw[nh,h4];rfl
     simp (disch:=omega)only[↓pa,pb,ah,ak,seval,f0,f3,o0,h4];refine⟨t.length- (j+1),by omega,j+1,rfl,by omega,by omega,rfl,?_⟩;rw[<-lX h1 hd,hsk]
    ·have hjj:=uv hsk fun h=>by rw[nh]at h;simp[h2,h3,h4]at h
     subst hjj;simp (disch:=omega)only[↓pa,pb,ah,seval,f0,f3,o0,h4];simp only[↓pa,pb,seval,lf,pB K.tab];by_cases hn:dW (dU t i J)=true
     ·simp (disch:=omega)only[↓pa,pb,ah,aH,seval,f0,f3,o0,hn,lf];cases b with
      |true=>exact bp (dm:=sK) rfl ⟨_,rfl⟩ rfl hle
      |false=>exact ez (dm:=sK) (by rw[hJ,am hn];rfl) rfl rfl hle
     ·have hn':dW (dU t i J)=false:=by simpa using hn
      simp (disch:=omega)only[↓pa,pb,ah,aH,seval,f0,f3,o0,hn',lf];exact bp (dm:=sK) (by rw[hJ,ai hn];cases b<;>rfl) ⟨_,rfl⟩ rfl hle
 ·have hjj:=uv hsk fun h=>h1 h.1;subst hjj;simp (maxSteps:=1000000) (disch:=omega)only[↓pa,pb,ah,seval,f0,f3,o0,h1];simp only[↓pa,pb,seval,lf,pB K.tab];by_cases hn:dW (dU t i J)=true
  ·simp (disch:=omega)only[↓pa,pb,ah,aH,seval,f0,f3,o0,hn,lf];cases b with
   |true=>exact bp (dm:=sK) rfl ⟨_,rfl⟩ rfl hle
   |false=>exact ez (dm:=sK) (by rw[hJ,am hn];rfl) rfl rfl hle
  ·have hn':dW (dU t i J)=false:=by simpa using hn
   simp (disch:=omega)only[↓pa,pb,ah,aH,seval,f0,f3,o0,hn',lf];exact bp (dm:=sK) (by rw[hJ,ai hn];cases b<;>rfl) ⟨_,rfl⟩ rfl hle
def bc{e sz bytes n m:Nat}{cs ds:List PV}{tk u:aF}(h:Gr e st.nx st.cnt n tk)(h1:cs.length=n*sz)(h2:ds.length=m*sz)(h3:(n+m) *bytes<=140737488355328)(h4:n+m<=140737488355328)(h5:0<sz)
  (k:A (mk (.list (n+m) (cs++ds) (cS e tk st)) (cV tk st (n+m)))):dj (r7 e sz bytes (.list n cs tk) (.list m ds u) st) mk A:=by
 rw[tD h h1 h2 h3 h4 h5,fg];exact k
def By(l:List UInt8)(t:List UInt8)(i:Nat):xg l++[U (cI t i)]=xg (l++[t.getD i 0]):=An l _
def CP{t:List UInt8}{n j:Nat}{acc:List UInt8}(hn:t.length-j<n)(h:j<t.length):iW t n j acc=
  if cI t j=34 then some (acc,j+1)
  else if cI t j=92 then
   if cI t (j+1)=34\/cI t (j+1)=92 then iW t (n-1) (j+2) (acc++[t.getD (j+1) 0])
   else if cI t (j+1)=110 then iW t (n-1) (j+2) (acc++[10])else none
  else if cI t j<32 then none
  else iW t (n-1) (j+1) (acc++[t.getD j 0]):=by
 obtain⟨m,rfl⟩:∃ m,n=m+1:=⟨n-1,by omega⟩;rw[iW,am h];rfl
def AJ{t:List UInt8}{n j:Nat}{acc:List UInt8}(hn:t.length-j<n)(h:¬j<t.length):iW t n j acc=none:=by
 obtain⟨m,rfl⟩:∃ m,n=m+1:=⟨n-1,by omega⟩;rw[iW,ai h]
def Cs{n:Nat}{l:List UInt8}(h:n=l.length)(c:UInt8):n+1=(l++[c]).length:=by rw[ae,h];rfl
def MI(K:bO cf){t:List UInt8}{i:Nat}(hs:st.objs s=some [S t,I i])(hi:i<=t.length)(hl:t.length<=2000000)(h34:cI t i=34):
  ∃ r c',oh t S (rO t (i+1)) sK r c'/\∃ fl,az cf 219 [.ptr s 0] [] st=some (r,db (cA st s c') fl):=by
 refine hU K.tab (F:=F219) rfl rfl rfl (lb rfl) (lb rfl) (by simp) hs (gt t i) (t.length+1) ?_;simp only[F219,↓qU,reduceAdd,reduceSub];have hlt:=dH (show cI t i≠0 by rw[h34];decide);have h34':tk t i [34]=true:=by rw[xn (by decide),h34];rfl
 simp only[↓pa,pb,↓reduceIte,reduceCtorEq];refine(xA K.tab (t:=t) (i:=i) (x:=[34]) (by simp only[pb]) hi hl (by decide)).2 ?_;simp only[↓pa,pb,↓reduceIte,reduceAdd,h34',aA,a6];refine a7 (fun k fr st=>∃ (j n m:Nat) (acc:List UInt8) (tok:aF),k=t.length-j/\j<=t.length/\acc.length<=j/\t.length-j<n/\m=acc.length/\fr 0= .ptr 0 0/\fr 4= .list m (xg acc) tok/\st.objs 0=some [S t,I j]/\Gr 5 st.nx st.cnt m tok/\iW t n j acc=rO t (i+1)) (t.length- (i+1)) (by omega) ⟨i+1,t.length+1- (i+1),0,[],.nil,rfl,by omega,aW _,by omega,rfl,by simp only[↓pa,↓reduceIte,reduceCtorEq],by simp only[↓pa,↓reduceIte];rfl,by simp only[pb,↓reduceIte],rfl,rfl⟩ ?_;rintro k fr st ⟨j,n,m,acc,tok,rfl,hj,hacc,hn,rfl,f0,f4,o0,hG,hQ⟩;simp only[↓pa,pb,ah,ak,↓reduceIte,reduceEqDiff,reduceAdd,reduceCtorEq,f0,o0];refine af (fun h1=>?_) (fun h1=>?_);rotate_left
 ·rw[AJ hn h1]at hQ;simp only[↓pa,pb,aH,↓reduceIte,reduceEqDiff,o0];exact bH hQ.symm ⟨_,rfl⟩ rfl rfl hj
 rw[CP hn h1]at hQ;simp (disch:=omega)only[↓pa,pb,ah,ak,↓reduceIte,reduceEqDiff,reduceAdd,reduceLeDiff,reduceCtorEq,f0,o0];refine af (fun h2=>?_) (fun h2=>?_)
 ·rw[am h2]at hQ;simp only[↓pa,↓au,pb,aH,↓reduceIte,reduceEqDiff,f4,h2,FQ (l:=acc) rfl];exact ek hQ.symm rfl rfl h1
 rw[ai h2]at hQ;simp only[↓pa,pb,↓reduceIte,reduceEqDiff,h2];refine af (fun h3=>?_) (fun h3=>?_)
 ·rw[am h3]at hQ;simp only[↓pa,pb,↓reduceIte,reduceCtorEq,f0,h3];refine(tq K.tab (t:=t) (i:=j+1) (by simp only[pb,↓reduceIte])).2 ?_;simp only[↓pa,pb,↓reduceIte];by_cases h4:cI t (j+1)=34\/cI t (j+1)=92
  ·rw[am h4]at hQ;have hlt:=dH (show cI t (j+1)≠0 by rcases h4 with h|h<;>rw[h]<;>decide)
   rcases h4 with h4|h4
   all_goals
    simp (disch:=omega)only[↓pa,↓au,pb,ah,↓reduceIte,reduceEqDiff,reduceAdd,reduceLeDiff,reduceLT,Int.reduceEq,reduceCtorEq,f0,f4,h4];refine bc (n:=acc.length) (m:=1) hG (by rw[pC];omega) rfl (by omega) (by omega) (by decide) ?_;simp (disch:=omega)only[↓pa,pb,ah,ak,↓reduceIte,reduceEqDiff,reduceAdd,reduceLeDiff,reduceCtorEq,f0];rw[<-h4];refine⟨t.length- (j+2),by omega,j+2,n-1,acc.length+1,acc++[t.getD (j+1) 0],_,rfl,by omega,by rw[ae];simp;omega,by omega,Cs rfl _,by rw[By],rfl,cD hG,hQ⟩
  ·rw[ai h4]at hQ;have h4a:¬cI t (j+1)=34:=fun h=>h4 (.inl h);have h4b:¬cI t (j+1)=92:=fun h=>h4 (.inr h);simp only[↓pa,pb,↓reduceIte,reduceEqDiff,h4a,h4b];refine af (fun h5=>?_) (fun h5=>?_)
   ·rw[am h5]at hQ;have hlt:=dH (show cI t (j+1)≠0 by rw[h5];decide);simp only[↓pa,↓au,pb,ah,↓reduceIte,reduceEqDiff,reduceAdd,reduceLeDiff,reduceLT,f4,h5];refine bc (n:=acc.length) (m:=1) hG (by rw[pC];omega) rfl (by omega) (by omega) (by decide) ?_;simp (disch:=omega)only[↓pa,pb,ah,ak,↓reduceIte,reduceEqDiff,reduceAdd,reduceLeDiff,reduceCtorEq,f0];refine⟨t.length- (j+2),by omega,j+2,n-1,acc.length+1,acc++[10],_,rfl,by omega,by rw[ae];simp;omega,by omega,Cs rfl _,?_,rfl,cD hG,hQ⟩;rw[<-An];rfl
   ·rw[ai h5]at hQ;simp only[↓pa,pb,aH,↓reduceIte,reduceEqDiff,h5];exact bH hQ.symm ⟨_,rfl⟩ rfl rfl h1
 rw[ai h3]at hQ;simp only[↓pa,pb,↓reduceIte,reduceEqDiff,h3];refine af (fun h4=>?_) (fun h4=>?_)
 ·rw[am h4]at hQ;simp only[↓pa,pb,aH,↓reduceIte,reduceEqDiff,h4];exact bH hQ.symm ⟨_,rfl⟩ rfl rfl h1
 rw[ai h4]at hQ;simp only[↓pa,↓au,pb,ah,↓reduceIte,reduceEqDiff,reduceAdd,reduceLeDiff,reduceLT,f4,h4];refine bc (n:=acc.length) (m:=1) hG (by rw[pC];omega) rfl (by omega) (by omega) (by decide) ?_;simp only[↓pa,pb,ah,↓reduceIte,reduceCtorEq,f0];exact⟨t.length- (j+1),by omega,j+1,n-1,acc.length+1,acc++[t.getD j 0],_,rfl,by omega,by rw[ae];simp;omega,by omega,Cs rfl _,by rw[By],rfl,cD hG,hQ⟩
def KR(K:bO cf){t:List UInt8}{i:Nat}(hs:st.objs s=some [S t,I i,.bool false])(hi:i<=t.length)(hl:t.length<=2000000):
  ∃ r c',qw t S (rO t i) sK r c'/\∃ fl,az cf 211 [.ptr s 0] [] st=some (r,db (cA st s c') fl):=by
 refine hU K.tab (F:=F211) rfl rfl rfl (lb rfl) (lb rfl) (by simp) hs (gS t i _) (t.length+1) ?_;simp only[F211,↓qU,reduceAdd,reduceSub];simp only[↓pa,↓au,pb,ah,↓reduceIte,reduceAdd,reduceLT,cG,da];refine a7 (fun k fr st=>∃ (j n m:Nat) (acc:List UInt8) (tok:aF),k=t.length-j/\j<=t.length/\acc.length<=j/\t.length-j<n/\m=acc.length/\fr 0= .ptr 0 0/\fr 3= .list m (xg acc) tok/\st.objs 0=some [S t,I j,.bool false]/\Gr 5 st.nx st.cnt m tok/\iW t n j acc=rO t i) (t.length-i) (by omega) ⟨i,t.length+1-i,0,[],.full 5,rfl,by omega,aW _,by omega,rfl,by simp only[↓pa,↓reduceIte,reduceCtorEq],by simp only[↓pa,↓reduceIte];rfl,by simp only[pb],gV,rfl⟩ ?_;rintro k fr st ⟨j,n,m,acc,tok,rfl,hj,hacc,hn,rfl,f0,f3,o0,hG,hQ⟩;simp only[↓pa,pb,ah,ak,↓reduceIte,reduceEqDiff,reduceAdd,reduceCtorEq,f0,o0];refine af (fun h1=>?_) (fun h1=>?_);rotate_left
 ·rw[AJ hn h1]at hQ;simp only[↓pa,pb,ah,aH,↓reduceIte,reduceAdd,reduceLeDiff,reduceCtorEq,f0,o0];exact bp (dm:=sK) hQ.symm ⟨_,rfl⟩ rfl hj
 rw[CP hn h1]at hQ;simp (disch:=omega)only[↓pa,pb,ah,ak,↓reduceIte,reduceEqDiff,reduceAdd,reduceLeDiff,reduceCtorEq,f0,o0];refine af (fun h2=>?_) (fun h2=>?_)
 ·rw[am h2]at hQ;simp only[↓pa,↓au,pb,aH,↓reduceIte,reduceEqDiff,f3,h2,FQ (l:=acc) rfl];exact ez hQ.symm rfl rfl h1
 rw[ai h2]at hQ;simp only[↓pa,pb,↓reduceIte,reduceEqDiff,h2];refine af (fun h3=>?_) (fun h3=>?_)
 ·rw[ai (by omega),am h3]at hQ;simp only[↓pa,pb,ah,aH,↓reduceIte,reduceAdd,reduceLeDiff,reduceCtorEq,f0,h3];exact bp (dm:=sK) hQ.symm ⟨_,rfl⟩ rfl h1
 simp only[↓pa,pb,↓reduceIte,reduceEqDiff,h3];refine af (fun h4=>?_) (fun h4=>?_)
 ·rw[am h4]at hQ;simp only[↓pa,pb,ah,ak,↓reduceIte,reduceEqDiff,reduceAdd,reduceCtorEq,f0,h4];refine af (fun h5=>?_) (fun h5=>?_)
  ·have h6:cI t (j+1)=0:=vR (by omega);rw[ai (by omega),ai (by omega)]at hQ;simp only[↓pa,pb,ah,aH,↓reduceIte,reduceEqDiff,reduceAdd,reduceLeDiff,reduceCtorEq,f0,h5];exact bp (dm:=sK) hQ.symm ⟨_,rfl⟩ rfl h1
  have hlt:j+1<t.length:=by omega
  simp (disch:=omega)only[↓pa,pb,ah,↓reduceIte,reduceEqDiff,reduceAdd,al,reduceCtorEq,f0,h5];by_cases h6:cI t (j+1)=34\/cI t (j+1)=92
  ·rw[am h6]at hQ;rcases h6 with h6|h6
   all_goals
    simp (maxSteps:=1000000) (disch:=omega)only[↓pa,↓au,pb,ah,ak,↓reduceIte,reduceEqDiff,reduceAdd,reduceLeDiff,reduceLT,Int.reduceEq,al,reduceCtorEq,f0,f3,h6];refine bc (n:=acc.length) (m:=1) hG (by rw[pC];omega) rfl (by omega) (by omega) (by decide) ?_;simp only[↓pa,pb,ah,↓reduceIte,reduceCtorEq,f0];rw[<-h6];refine⟨t.length- (j+2),by omega,j+2,n-1,acc.length+1,acc++[t.getD (j+1) 0],_,rfl,by omega,by rw[ae];simp;omega,by omega,Cs rfl _,by rw[By],rfl,cD hG,hQ⟩
  ·rw[ai h6]at hQ;have h4a:¬cI t (j+1)=34:=fun h=>h6 (.inl h);have h4b:¬cI t (j+1)=92:=fun h=>h6 (.inr h);simp (maxSteps:=1000000) (disch:=omega)only[↓pa,pb,ah,↓reduceIte,reduceEqDiff,reduceAdd,al,reduceCtorEq,f0,h4a,h4b];by_cases h7:cI t (j+1)=110
   ·rw[am h7]at hQ;simp (disch:=omega)only[↓pa,↓au,pb,ah,ak,↓reduceIte,reduceEqDiff,reduceAdd,reduceLeDiff,reduceLT,reduceCtorEq,f0,f3,h7];refine bc (n:=acc.length) (m:=1) hG (by rw[pC];omega) rfl (by omega) (by omega) (by decide) ?_;simp only[↓pa,pb,ah,↓reduceIte,reduceCtorEq,f0];refine⟨t.length- (j+2),by omega,j+2,n-1,acc.length+1,acc++[10],_,rfl,by omega,by rw[ae];simp;omega,by omega,Cs rfl _,?_,rfl,cD hG,hQ⟩;rw[<-An];rfl
   ·rw[ai h7]at hQ;simp only[↓pa,pb,ah,aH,↓reduceIte,reduceAdd,reduceLeDiff,reduceCtorEq,f0,h7];exact bp (dm:=sK) hQ.symm ⟨_,rfl⟩ rfl h1
 rw[ai h4,ai (by omega)]at hQ;simp only[↓pa,↓au,pb,ah,↓reduceIte,reduceEqDiff,reduceAdd,reduceLeDiff,reduceLT,f3,h4];refine bc (n:=acc.length) (m:=1) hG (by rw[pC];omega) rfl (by omega) (by omega) (by decide) ?_;simp only[↓pa,pb,ah,↓reduceIte,reduceCtorEq,f0];exact⟨t.length- (j+1),by omega,j+1,n-1,acc.length+1,acc++[t.getD j 0],_,rfl,by omega,by rw[ae];simp;omega,by omega,Cs rfl _,by rw[By],rfl,cD hG,hQ⟩
def PF(K:bO cf)(y:Int):az cf 245 [I y] [] st=some (.bool (wo y),st):=by
 refine df K.tab (F:=F245) (t:=2) rfl rfl rfl (lb rfl) (by simp[bh]) (ct _) 1 ?_;simp only[F245,↓qU,seval];unfold wo;have q1:=sv (k:= .i64) (a:=y) (show(4:Int)≠0 by decide);have q2:=sv (k:= .i64) (a:=y) (show(100:Int)≠0 by decide);have q3:=sv (k:= .i64) (a:=y) (show(400:Int)≠0 by decide);by_cases h1:y.tmod 4=0<;>by_cases h2:y.tmod 100=0<;>by_cases h3:y.tmod 400=0<;>simp only[↓pa,pb,seval,al,q1,q2,q3,h1,h2,h3]
def HS(K:bO cf)(y:Int):az cf 244 [I y] [] st=some (.bool (wo y),st):=by
 refine df K.tab (F:=F244) (t:=2) rfl rfl rfl (lb rfl) (by simp[bh]) (ct _) 1 ?_;simp only[F244,↓qU,seval];unfold wo;have q1:=sv (k:= .i64) (a:=y) (show(4:Int)≠0 by decide);have q2:=sv (k:= .i64) (a:=y) (show(100:Int)≠0 by decide);have q3:=sv (k:= .i64) (a:=y) (show(400:Int)≠0 by decide);by_cases h1:y.tmod 4=0<;>by_cases h2:y.tmod 100=0<;>by_cases h3:y.tmod 400=0<;>simp only[↓pa,pb,seval,al,q1,q2,q3,h1,h2,h3]
def HQ(K:bO cf)(y m:Int):az cf 237 [I y,I m] [] st=some (I (p6 y m),st):=by
 refine df K.tab (F:=F237) (t:=4) rfl rfl rfl (lb rfl) (by simp[bh]) (d6 _ _) 1 ?_;simp only[F237,↓qU,seval];unfold p6;by_cases h2:m=2
 ·cases hl:wo y<;>simp only[↓pa,pb,seval,PF K,h2,hl]<;>simp
 ·by_cases h4:m=4
  ·simp only[↓pa,pb,seval,h4]
  by_cases h6:m=6
  ·simp only[↓pa,pb,seval,h6]
  by_cases h9:m=9
  ·simp only[↓pa,pb,seval,h9]
  by_cases h11:m=11
  ·simp only[↓pa,pb,seval,h11]
  ·simp only[↓pa,pb,seval,h2,h4,h6,h9,h11]
def Gp{m:Int}(h1:1<=m)(h2:m<=12):m=1\/m=2\/m=3\/m=4\/m=5\/m=6\/m=7\/m=8\/m=9\/m=10\/m=11\/m=12:=by omega
def Nf:(List.replicate 12 [I 0]).flatten=[I 0,I 0,I 0,I 0,I 0,I 0,I 0,I 0,I 0,I 0,I 0,I 0]:=rfl
def KI:((12:Nat):Int)=12:=rfl
def FE(K:bO cf)(y:Int){m:Int}(h1:1<=m)(h2:m<=12):az cf 233 [I y,I m] [] st=some (I (p6 y m),st):=by
 refine df K.tab (F:=F233) (t:=4) rfl rfl rfl (lb rfl) (by simp[bh]) (d6 _ _) 1 ?_;simp only[F233,↓qU,reduceAdd,reduceSub];unfold p6;rcases Gp h1 h2 with rfl|rfl|rfl|rfl|rfl|rfl|rfl|rfl|rfl|rfl|rfl|rfl
 all_goals first
  |(simp (disch:=omega)only[↓pa,↓au,pb,ah,↓reduceIte,reduceEqDiff,reduceAdd,reduceLeDiff,reduceLT,Int.reduceToNat,Int.reduceEq,Int.reduceLT,Int.reduceLE,reduceMul,reduceCtorEq,HS K,Nf,ww,KI,Int.reduceToNat,Int.reduceSub,reduceMul];done)
  |(cases hl:wo y<;>simp (disch:=omega)only[↓pa,↓au,pb,ah,↓reduceIte,reduceEqDiff,reduceAdd,reduceLeDiff,reduceLT,Int.reduceToNat,Int.reduceLT,Int.reduceLE,reduceMul,reduceCtorEq,HS K,Nf,hl,ww,KI,Int.reduceToNat,Int.reduceSub,reduceMul])
def sI(y m:Int):28<=p6 y m/\p6 y m<=31:=by
 unfold p6
 repeat' split
 all_goals omega
def zS(y:Int):∀ k:Nat,0<=rj y k/\rj y k<=31*k
 |0=>by simp[rj]
 |k+1=>by
  have h1:=zS y k;have h2:=sI y (k+1);rw[rj];omega
def pg{x d:Int}(hx:0<=x)(hd:0<d):0<=x.tdiv d/\x.tdiv d<=x:=⟨Int.tdiv_nonneg hx (by omega),Int.tdiv_le_self d hx⟩
def C3(y:Int){k:Int}(h:1<=k):rj y (k.toNat-1)+p6 y k=rj y ((k+1).toNat-1):=by
 obtain⟨n,rfl⟩:∃ n:Nat,k=(n:Int)+1:=⟨(k-1).toNat,by omega⟩;have e1:((n:Int)+1).toNat-1=n:=by omega
 have e2:((n:Int)+1+1).toNat-1=n+1:=by omega
 rw[e1,e2,rj]
def MO(K:bO cf){y m d:Int}(hy1:1<=y)(hy2:y<=9999)(hm1:1<=m)(hm2:m<=12)(hd1:1<=d)(hd2:d<=31):az cf 238 [I y,I m,I d] [] st=some (I (Cd y m d),st):=by
 refine df K.tab (F:=F238) (t:=6) rfl rfl rfl (lb rfl) (by simp[bh]) (d6 _ _) 20 ?_;simp only[F238,↓qU,seval];unfold Cd;have q1:=tm (k:= .i64) (a:=y-1) (show(4:Int)≠0 by decide);have q2:=tm (k:= .i64) (a:=y-1) (show(100:Int)≠0 by decide);have q3:=tm (k:= .i64) (a:=y-1) (show(400:Int)≠0 by decide);have r1:=pg (x:=y-1) (d:=4) (by omega) (by decide);have r2:=pg (x:=y-1) (d:=100) (by omega) (by decide);have r3:=pg (x:=y-1) (d:=400) (by omega) (by decide);simp (disch:=omega)only[↓pa,pb,seval,q1,q2,q3];revert r1 r2 r3;generalize (y-1).tdiv 4=a1;generalize (y-1).tdiv 100=a2;generalize (y-1).tdiv 400=a3;intro r1 r2 r3;refine a7 (fun k fr st=>∃ j:Int,k=(m-j).toNat/\1<=j/\j<=m/\fr 0=I y/\fr 1=I m/\fr 2=I d/\fr 9=I j/\fr 8=I ((y-1) *365+a1-a2+a3+rj y (j.toNat-1))) (m-1).toNat (by omega) ⟨1,rfl,by omega,by omega,by simp only[↓pa,seval],by simp only[↓pa,seval],by simp only[↓pa,seval],by simp only[↓pa,seval],by simp only[↓pa,seval];simp[rj]⟩ ?_;rintro k fr st ⟨j,rfl,hj1,hj2,f0,f1,f2,f9,f8⟩;have hs:=zS y (j.toNat-1);have hr:=sI y j;simp only[↓pa,pb,seval,f1,f9];refine af (fun h1=>?_) (fun h1=>?_)
 ·simp (disch:=omega)only[↓pa,pb,seval,f0,f1,f2,f9,f8,h1,HQ K];refine⟨(m- (j+1)).toNat,by omega,j+1,rfl,by omega,by omega,rfl,?_⟩;rw[<-C3 y hj1];simp only[Int.add_assoc]
 ·obtain rfl:j=m:=by omega
  simp (disch:=omega)only[↓pa,pb,seval,f2,f8,h1]
def PS(K:bO cf){y:Int}(hy1:1<=y)(hy2:y<=9999):az cf 234 [I y] [] st=some (I ((y-1) *365+(y-1).tdiv 4- (y-1).tdiv 100+(y-1).tdiv 400),st):=by
 refine df K.tab (F:=F234) (t:=2) rfl rfl rfl (lb rfl) (by simp[bh]) (d6 _ _) 1 ?_;simp only[F234,↓qU,seval];have q1:=tm (k:= .i64) (a:=y-1) (show(4:Int)≠0 by decide);have q2:=tm (k:= .i64) (a:=y-1) (show(100:Int)≠0 by decide);have q3:=tm (k:= .i64) (a:=y-1) (show(400:Int)≠0 by decide);have r1:=pg (x:=y-1) (d:=4) (by omega) (by decide);have r2:=pg (x:=y-1) (d:=100) (by omega) (by decide);have r3:=pg (x:=y-1) (d:=400) (by omega) (by decide);simp (disch:=omega)only[↓pa,pb,seval,q1,q2,q3]
def qj:List UInt8->Int->Option Int
 | [],v=>some v
 |c::l,v=>if xU c then qj l (v*10+((c.toNat:Int) -48))else none
def wE{t:List UInt8}:∀ (n i:Nat) (v:Int),i+n<=t.length->jW t n i v=qj (dU t i (i+n)) v
 |0,i,v,h=>by rw[aI,rM];rfl
 |n+1,i,v,h=>by
  obtain⟨c,hc,hs⟩:=zF (t:=t) (i:=i) (j:=i+(n+1)) (by omega) h;have hd:xU c=fB (cI t i):=by rw[hc];rfl
  have ih:=wE (t:=t) n (i+1) (v*10+(cI t i-48)) (by omega);rw[show i+1+n=i+(n+1) by omega]at ih;rw[jW,hs,qj,hd,<-hc];by_cases hx:fB (cI t i)=true
  ·have hi:i<t.length:=by omega
   rw[am ⟨hi,hx⟩,am hx,ih]
  ·rw[ai fun h=>hx h.2,ai hx]
def tj{t:List UInt8}:∀ (n i:Nat) (v:Int),t.length<i+n->i<=t.length->jW t n i v=none
 |0,i,v,h,h2=>by omega
 |n+1,i,v,h,h2=>by
  rw[jW];split
  ·rename_i hx;exact tj n (i+1) _ (by omega) (by omega)
  ·rfl
def EK:∀ (l:List UInt8) (v w b:Int),qj l v=some w->0<=v->v<b->0<=w/\w<b*10 ^ l.length
 | [],v,w,b,h,h0,h1=>by cases h;simpa using⟨h0,h1⟩
 |c::l,v,w,b,h,h0,h1=>by
  rw[qj]at h;split at h
  ·rename_i hc;have hc:=rT.1 hc;have:=EK l _ w (b*10) h (by omega) (by omega);rw[aA,Int.pow_succ];rw[show b* (10 ^ l.length*10)=b*10*10 ^ l.length by rw[Int.mul_comm (10 ^ l.length) 10,Int.mul_assoc]];exact this
  ·cases h
def wF{t:List UInt8}:∀ (n i:Nat) (v w b:Int),jW t n i v=some w->0<=v->v<b->0<=w/\w<b*10 ^ n
 |0,i,v,w,b,h,h0,h1=>by cases h;simpa using⟨h0,h1⟩
 |n+1,i,v,w,b,h,h0,h1=>by
  rw[jW]at h;split at h
  ·rename_i hc;have hc:=tw.1 hc.2;have:=wF n _ _ w (b*10) h (by omega) (by omega);rw[Int.pow_succ];rw[show b* (10 ^ n*10)=b*10*10 ^ n by rw[Int.mul_comm (10 ^ n) 10,Int.mul_assoc]];exact this
  ·cases h
def og(l:List UInt8):Int:=match qj l 0 with
 |some v=>v
 |none=> -1
def I4(K:bO cf){l:List UInt8}(hl:l.length<=4):az cf 236 [S l] [] st=some (I (og l),st):=by
 refine df K.tab (F:=F236) (t:=2) rfl rfl rfl (lb rfl) (by simp[bR]) (d6 _ _) 20 ?_;simp only[F236,↓qU,seval];simp only[↓pa,pb,seval];refine a7 (fun k fr st=>∃ (j:Nat) (v:Int),k=l.length-j/\j<=l.length/\fr 0=S l/\fr 6=I l.length/\fr 7=I j/\fr 3=I v/\0<=v/\v<10 ^ j/\qj (l.drop j) v=qj l 0) l.length (by omega) ⟨0,0,rfl,by omega,by simp only[↓pa,seval],by simp only[↓pa,seval],by simp only[↓pa,seval]<;>rfl,by simp only[↓pa,seval],by decide,by decide,rfl⟩ ?_
 rintro k fr st ⟨j,v,rfl,hj,f0,f6,f7,f3,hv0,hv1,hQ⟩;have hp:(10:Int) ^ j<=10 ^ 4:=by
  have:j=0\/j=1\/j=2\/j=3\/j=4:=by omega
  rcases this with rfl|rfl|rfl|rfl|rfl<;>decide
 have hp4:(10:Int) ^ 4=10000:=rfl;simp only[↓pa,pb,ak,seval,f6,f7];refine af (fun h1=>?_) (fun h1=>?_)
 ·rw[bj h1]at hQ;have hc:=rC l j h1;have hdb:xU l[j]=fB (cI l j):=by rw[hc];rfl
  rw[qj,hdb,<-hc]at hQ;simp (disch:=omega)only[↓pa,pb,seval,f0,f7,h1,rZ K.tab];refine af (fun h2=>?_) (fun h2=>?_)
  ·have hd':=tw.1 h2;rw[am h2]at hQ;simp (disch:=omega)only[↓pa,pb,ak,seval,f0,f6,f7,f3,h2];exact⟨l.length- (j+1),by omega,j+1,v*10+(cI l j-48),rfl,by omega,rfl,rfl,by omega,by rw[Int.pow_succ];omega,hQ⟩
  ·rw[ai h2]at hQ;simp only[↓pa,pb,seval,h2];rw[og,<-hQ]
 ·have:j=l.length:=by omega
  subst this;rw[jH]at hQ;simp only[↓pa,pb,seval,f3,h1];rw[og,<-hQ];rfl
def Jo{y m d:Int}(h:1<=y/\1<=m/\m<=12/\1<=d/\d<=p6 y m):Ee y m d=some (Cd y m d):=am h
def mL{y m d:Int}(h:¬ (1<=y/\1<=m/\m<=12/\1<=d/\d<=p6 y m)):Ee y m d=none:=ai h
def yE{l:List UInt8}(h:qj l 0=none):og l= -1:=by rw[og,h]
def uI{l:List UInt8}{v:Int}(h:qj l 0=some v):og l=v:=by rw[og,h]
def zP{l:List UInt8}(h:l.length<=4): -1<=og l/\og l<=9999:=by
 cases e:qj l 0 with
 |none=>rw[yE e];omega
 |some v=>
  rw[uI e];have:=EK l 0 v 1 e (by decide) (by decide);have hp:(10:Int) ^ l.length<=10000:=by
   have:l.length=0\/l.length=1\/l.length=2\/l.length=3\/l.length=4:=by omega
   rcases this with h|h|h|h|h<;>rw[h]<;>decide
  omega
def LP{t:List UInt8}{i:Nat}(h:i+10<=t.length):ie t i=if cI t (i+4)=45/\cI t (i+7)=45 then(Ee (og (dU t i (i+4))) (og (dU t (i+5) (i+7))) (og (dU t (i+8) (i+10)))).map fun n=>(n,i+10)else none:=by
 rw[ie,wE 4 i 0 (by omega),wE 2 (i+5) 0 (by omega),wE 2 (i+8) 0 (by omega)];cases e1:qj (dU t i (i+4)) 0 with
 |none=>
  rw[yE e1,mL (by omega)];simp
 |some y=>
  rw[uI e1];cases e2:qj (dU t (i+5) (i+5+2)) 0 with
  |none=>
   rw[show i+7=i+5+2 by omega,yE e2,mL (by omega)];simp
  |some m=>
   rw[show i+7=i+5+2 by omega,uI e2];cases e3:qj (dU t (i+8) (i+8+2)) 0 with
   |none=>
    rw[show i+10=i+8+2 by omega,yE e3,mL (by omega)];simp
   |some d=>
    rw[show i+10=i+8+2 by omega,uI e3]
def Gl{t:List UInt8}{i:Nat}(h:t.length<i+10)(hi:i<=t.length):ie t i=none:=by
 rw[ie];by_cases h1:t.length<i+4
 ·rw[tj 4 i 0 h1 hi]
 by_cases h2:t.length<i+5+2
 ·by_cases h3:i+5<=t.length
  ·rw[tj 2 (i+5) 0 h2 h3];cases jW t 4 i 0<;>rfl
  ·have:cI t (i+4)=0:=vR (by omega);split
   ·rw[ai (by omega)]
   ·rfl
 by_cases h3:i+8<=t.length
 ·rw[tj 2 (i+8) 0 (by omega) h3];cases jW t 4 i 0<;>cases jW t 2 (i+5) 0<;>rfl
 ·have:cI t (i+7)=0:=vR (by omega);split
  ·rw[ai (by omega)]
  ·rfl
def zE{t:List UInt8}{i j:Nat}(h:j<=i+4):(dU t i j).length<=4:=by
 unfold dU;rw[bl,aL];omega
def NE{t:List UInt8}{i j a b:Nat}(h:i+b<=j):((dU t i j).take b).drop a=dU t (i+a) (i+b):=by
 unfold dU;rw[List.take_drop,List.take_take,jI,hY (by omega)]
def Ls{t:List UInt8}{i j b:Nat}(h:i+b<=j):(dU t i j).take b=dU t i (i+b):=by
 have:=NE (t:=t) (a:=0) h;simpa using this
def Lu{t:List UInt8}{i j a:Nat}:(dU t i j).drop a=dU t (i+a) j:=by
 unfold dU;rw[jI]
def PT(K:bO cf){t:List UInt8}{i:Nat}(hs:st.objs s=some [S t,I i])(hi:i<=t.length)(hl:t.length<=2000000)(h64:cI t i=64):
  ∃ r c',oh t I (ie t (i+1)) oK r c'/\∃ fl,az cf 220 [.ptr s 0] [] st=some (r,db (cA st s c') fl):=by
 refine hU K.tab (F:=F220) rfl rfl rfl (lb rfl) (lb rfl) (by simp) hs (gt t i) 1 ?_;simp only[F220,↓qU,seval];have hlt:=dH (show cI t i≠0 by rw[h64];decide);have e5:((i:Int)+5)=((i+5:Nat):Int):=rfl;have e8:((i:Int)+8)=((i+8:Nat):Int):=rfl;have e11:((i:Int)+11)=((i+11:Nat):Int):=rfl;simp (disch:=omega)only[↓pa,pb,ah,seval];refine af (fun h1=>?_) (fun h1=>?_)
 ·simp only[↓pa,pb,aH,seval,h1];exact bH (Gl (by omega) (by omega)) ⟨_,rfl⟩ rfl rfl hi
 have hp:ie t (i+1)=if cI t (i+5)=45/\cI t (i+8)=45 then(Ee (og (dU t (i+1) (i+5))) (og (dU t (i+6) (i+8))) (og (dU t (i+9) (i+11)))).map fun n=>(n,i+11)else none:=LP (by omega);simp (disch:=omega)only[↓pa,pb,ah,seval,al,h1,h64,e5];refine af (fun h2=>?_) (fun h2=>?_);rotate_left
 ·simp only[↓pa,pb,aH,seval,h2];exact bH (by rw[hp,ai fun h=>h2 h.1]) ⟨_,rfl⟩ rfl rfl hi
 simp (disch:=omega)only[↓pa,pb,ah,seval,al,h2,e8];refine af (fun h3=>?_) (fun h3=>?_);rotate_left
 ·simp only[↓pa,pb,aH,seval,h3];exact bH (by rw[hp,ai fun h=>h3 h.2]) ⟨_,rfl⟩ rfl rfl hi
 rw[am ⟨h2,h3⟩]at hp;have hsl:(dU t (i+1) (i+11)).length=10:=by rw[yz (by omega)];omega
 have l1:=zE (t:=t) (i:=i+1) (j:=i+5) (by omega);have l2:=zE (t:=t) (i:=i+6) (j:=i+8) (by omega);have l3:=zE (t:=t) (i:=i+9) (j:=i+11) (by omega);have c1:=fun st=>I4 (st:=st) K l1;have c2:=fun st=>I4 (st:=st) K l2;have c3:=fun st=>I4 (st:=st) K l3;have r1:=zP l1;have r2:=zP l2;have r3:=zP l3;simp (disch:=omega)only[↓pa,pb,ah,ak,seval,h3,e11,lf,Ls,Lu,lU,c1,c2,c3];revert r1 r2 r3 hp;generalize og (dU t (i+1) (i+5))=y;generalize og (dU t (i+6) (i+8))=m;generalize og (dU t (i+9) (i+11))=d;intro hp r1 r2 r3;refine af (fun k1=>?_) (fun k1=>?_)
 ·simp only[↓pa,pb,aH,seval,k1];exact bH (by rw[hp,mL (by omega)];rfl) ⟨_,rfl⟩ rfl rfl (by omega)
 simp only[↓pa,pb,seval,k1];refine af (fun k2=>?_) (fun k2=>?_)
 ·simp only[↓pa,pb,aH,seval,k2];exact bH (by rw[hp,mL (by omega)];rfl) ⟨_,rfl⟩ rfl rfl (by omega)
 simp only[↓pa,pb,seval,k2];refine af (fun k3=>?_) (fun k3=>?_)
 ·simp only[↓pa,pb,aH,seval,k3];exact bH (by rw[hp,mL (by omega)];rfl) ⟨_,rfl⟩ rfl rfl (by omega)
 simp only[↓pa,pb,seval,k3];refine af (fun k4=>?_) (fun k4=>?_)
 ·simp only[↓pa,pb,aH,seval,k4];exact bH (by rw[hp,mL (by omega)];rfl) ⟨_,rfl⟩ rfl rfl (by omega)
 simp only[↓pa,pb,seval,k4,HQ K];refine af (fun k5=>?_) (fun k5=>?_)
 ·simp only[↓pa,pb,aH,seval,k5];exact bH (by rw[hp,mL (by omega)];rfl) ⟨_,rfl⟩ rfl rfl (by omega)
 have hr:=sI y m;simp only[↓pa,pb,aH,seval,k5,MO K (y:=y) (m:=m) (d:=d) (by omega) (by omega) (by omega) (by omega) (by omega) (by omega)];exact ek (by rw[hp,Jo (by omega)];rfl) rfl rfl (by omega)
def fZ:PV:= .agg [I (-1),I 0,I 0,S [],.list 0 [] .no,.list 0 [] .no]
def PI(K:bO cf){t:List UInt8}{i:Nat}{b:Bool}(hs:st.objs s=some [S t,I i,.bool b]):
  ∃ r c',(r=fZ/\c'=[S t,I i,.bool true])/\∃ fl,az cf 209 [.ptr s 0] [] st=some (r,db (cA st s c') fl):=by
 refine hU K.tab (F:=F209) (Q:=fun r c'=>r=fZ/\c'=[S t,I i,.bool true]) rfl rfl rfl (lb rfl) (lb rfl) (by simp) hs (gS t i b) 1 ?_;simp only[F209,↓qU,seval];simp only[↓pa,↓au,pb,ah,aH,seval];rfl
def eA(K:bO cf){t:List UInt8}{i:Nat}{b:Bool}(hs:st.objs s=some [S t,I i,.bool b])
  (k:∀ fl,A (mk fZ (db (cA st s [S t,I i,.bool true]) fl))):dj (az cf 209 [.ptr s 0] [] st) mk A:=by
 refine M3 (PI K hs) ?_;rintro r c' fl ⟨rfl,rfl⟩;exact k fl
def MN(K:bO cf){t:List UInt8}{i n:Nat}{b:Bool}(hn:n<=4)(hs:st.objs s=some [S t,I i,.bool b])(hi:i<=t.length)(hl:t.length<=2000000):
  ∃ r c',qw t I (if b then none else(jW t n i 0).map fun v=>(v,i+n)) oK r c'/\∃ fl,az cf 232 [.ptr s 0,I n] [] st=some (r,db (cA st s c') fl):=by
 refine hU K.tab (F:=F232) rfl rfl rfl (lb rfl) (lb rfl) (by simp[bh]) hs (gS t i b) 20 ?_;simp only[F232,↓qU,seval];simp only[↓pa,seval];refine a7 (fun k fr st=>∃ (q:Nat) (v:Int),k=n-q/\q<=n/\i+q<=t.length/\fr 0= .ptr 0 0/\fr 1=I n/\fr 6=I q/\fr 5=I v/\st.objs 0=some [S t,I (i+q:Nat),.bool b]/\0<=v/\v<10 ^ q/\jW t (n-q) (i+q) v=jW t n i 0) n (by omega) ⟨0,0,rfl,by omega,by omega,by simp only[↓pa,seval],by simp only[↓pa,seval],by simp only[↓pa,seval]<;>rfl,by simp only[↓pa,seval],by simp only[pb,seval]<;>rfl,by decide,by decide,rfl⟩ ?_
 rintro k fr st ⟨q,v,rfl,hq,hiq,f0,f1,f6,f5,o0,hv0,hv1,hQ⟩;have hp:(10:Int) ^ q<=10 ^ 4:=by
  have:q=0\/q=1\/q=2\/q=3\/q=4:=by omega
  rcases this with rfl|rfl|rfl|rfl|rfl<;>decide
 have hp4:(10:Int) ^ 4=10000:=rfl;simp only[↓pa,pb,ak,seval,f1,f6];refine af (fun h1=>?_) (fun h1=>?_);rotate_left
 ·obtain rfl:q=n:=by omega
  rw[Nat.sub_self]at hQ;simp only[↓pa,pb,aH,seval,f5,o0,h1];rw[<-hQ];cases b with
  |true=>exact bp (dm:=oK) rfl ⟨_,rfl⟩ rfl hiq
  |false=>exact ez (dm:=oK) rfl rfl rfl hiq
 obtain⟨m,hm⟩:∃ m,n-q=m+1:=⟨n-q-1,by omega⟩;rw[hm,jW]at hQ;simp only[↓pa,pb,ah,ak,seval,f0,o0,h1];refine af (fun h2=>?_) (fun h2=>?_)
 ·rw[ai fun h=>by omega]at hQ;simp only[↓pa,pb,ah,aH,seval,f0,o0,h2];refine bp (dm:=oK) ?_ ⟨_,rfl⟩ rfl hiq;rw[<-hQ];cases b<;>rfl
 simp (disch:=omega)only[↓pa,pb,ah,seval,f0,o0,h2,oU K.tab];have h2':i+q<t.length:=by omega
 refine af (fun h3=>?_) (fun h3=>?_)
 ·rw[am ⟨h2',h3⟩]at hQ;have hd':=tw.1 h3;simp (disch:=omega)only[↓pa,pb,ah,ak,seval,f0,f1,f6,f5,o0,h3];exact⟨n- (q+1),by omega,q+1,v*10+(cI t (i+q) -48),rfl,by omega,by omega,rfl,rfl,rfl,by omega,by rw[Int.pow_succ];omega,by rw[show n- (q+1)=m by omega];exact hQ⟩
 ·rw[ai fun h=>h3 h.2]at hQ;simp only[↓pa,pb,ah,aH,seval,f0,o0,h3];refine bp (dm:=oK) ?_ ⟨_,rfl⟩ rfl hiq;rw[<-hQ];cases b<;>rfl
def l6(K:bO cf){t:List UInt8}{i n:Nat}{b:Bool}(hn:n<=4)(hs:st.objs s=some [S t,I i,.bool b])(hi:i<=t.length)(hl:t.length<=2000000)
  (k1:∀ v fl,b=false->jW t n i 0=some v->i+n<=t.length->A (mk (I v) (db (cA st s [S t,I (i+n:Nat),.bool false]) fl)))
  (k2:∀ (v:Int) j fl,(b=true\/jW t n i 0=none)->j<=t.length->A (mk (I v) (db (cA st s [S t,I (j:Nat),.bool true]) fl))):dj (az cf 232 [.ptr s 0,I n] [] st) mk A:=by
 refine jt (MN K hn hs hi hl) ?_ ?_
 ·intro v j fl h1 h2;cases b with
  |true=>cases h1
  |false=>
   simp only[cz,if_false,av,cL]at h1;obtain⟨v',h1,rfl,rfl⟩:=h1;exact k1 v' fl rfl h1 h2
 ·rintro p j fl h1 ⟨v,rfl⟩ h3;refine k2 v j fl ?_ h3;cases b with
  |true=>exact .inl rfl
  |false=>
   simp only[cz,if_false,fD]at h1;exact .inr h1
def Oz(K:bO cf){t:List UInt8}{i:Nat}(hs:st.objs s=some [S t,I i,.bool false])(hi:i<=t.length)(hl:t.length<=2000000):
  ∃ r c',qw t VB ((ie t i).map fun q=>(.mk 4 q.1 0 [] [] [],q.2)) fq r c'/\∃ fl,az cf 212 [.ptr s 0] [] st=some (r,db (cA st s c') fl):=by
 refine hU K.tab (F:=F212) rfl rfl rfl (lb rfl) (lb rfl) (by simp) hs (gS t i _) 20 ?_;simp only[F212,↓qU,seval];simp only[↓pa,pb,seval];refine l6 K (t:=t) (i:=i) (n:=4) (b:=false) (by decide) (by simp only[pb,seval]) hi hl (fun y fl _ hy hiy=>?_) (fun v j fl h hj=>?_);rotate_left
 ·have hy:jW t 4 i 0=none:=by rcases h with h|h;cases h;exact h
  have hno:(ie t i).map (fun q=>(V.mk 4 q.1 0 [] [] [],q.2))=none:=by rw[ie,hy];rfl
  simp only[↓pa,pb,ah,seval];refine l6 K (t:=t) (n:=2) (b:=true) (by decide) (by simp only[pb,seval]<;>rfl) (by assumption) hl (fun _ _ h=>by cases h) (fun _ _ _ _ _=>?_)
  simp only[↓pa,pb,ah,seval];refine l6 K (t:=t) (n:=2) (b:=true) (by decide) (by simp only[pb,seval]<;>rfl) (by assumption) hl (fun _ _ h=>by cases h) (fun _ _ _ _ _=>?_)
  simp only[↓pa,pb,ah,seval];refine eA K (t:=t) (by simp only[pb,ah,seval]<;>rfl) fun fl=>?_
  simp only[↓pa,pb,ah,aH,seval,fZ];exact bp (dm:=fq) hno ⟨_,rfl,rfl,by simp only[aH,ay],by simp only[aH]⟩ rfl (by omega)
 simp only[↓pa,pb,ah,seval];refine(rN K.tab (t:=t) (i:=i+4) (x:=[45]) (by simp only[pb,ah,seval]) hiy hl (by decide)).2 ?_;rw[xn (by decide)];refine af (fun h4=>?_) (fun h4=>?_);rotate_left
 ·have hno:(ie t i).map (fun q=>(V.mk 4 q.1 0 [] [] [],q.2))=none:=by
   rw[ie];split
   ·rw[ai fun h=>h4 (decide_eq_true h.1)];rfl
   ·rfl
  simp only[↓pa,pb,ah,seval];refine l6 K (t:=t) (n:=2) (b:=true) (by decide) (by simp only[pb,seval]<;>rfl) (by assumption) hl (fun _ _ h=>by cases h) (fun _ _ _ _ _=>?_)
  simp only[↓pa,pb,ah,seval];refine l6 K (t:=t) (n:=2) (b:=true) (by decide) (by simp only[pb,seval]<;>rfl) (by assumption) hl (fun _ _ h=>by cases h) (fun _ _ _ _ _=>?_)
  simp only[↓pa,pb,ah,seval];refine eA K (t:=t) (by simp only[pb,ah,seval]<;>rfl) fun fl=>?_
  simp only[↓pa,pb,ah,aH,seval,fZ];exact bp (dm:=fq) hno ⟨_,rfl,rfl,by simp only[aH,ay],by simp only[aH]⟩ rfl (by omega)
 have h4':cI t (i+4)=45:=of_decide_eq_true h4;have hi4:=dH (show cI t (i+4)≠0 by rw[h4'];decide);simp only[↓pa,pb,ah,seval,aA,a6];refine l6 K (t:=t) (i:=i+4+1) (n:=2) (b:=false) (by decide) (by simp only[pb,seval]) hi4 hl (fun m fl _ hm him=>?_) (fun v j fl h hj=>?_);rotate_left
 ·have hm:jW t 2 (i+5) 0=none:=by rcases h with h|h;cases h;exact h
  have hno:(ie t i).map (fun q=>(V.mk 4 q.1 0 [] [] [],q.2))=none:=by rw[ie,hy,hm];rfl
  simp only[↓pa,pb,ah,seval];refine l6 K (t:=t) (n:=2) (b:=true) (by decide) (by simp only[pb,seval]<;>rfl) (by assumption) hl (fun _ _ h=>by cases h) (fun _ _ _ _ _=>?_)
  simp only[↓pa,pb,ah,seval];refine eA K (t:=t) (by simp only[pb,ah,seval]<;>rfl) fun fl=>?_
  simp only[↓pa,pb,ah,aH,seval,fZ];exact bp (dm:=fq) hno ⟨_,rfl,rfl,by simp only[aH,ay],by simp only[aH]⟩ rfl (by omega)
 simp only[↓pa,pb,ah,seval];refine(rN K.tab (t:=t) (i:=i+4+1+2) (x:=[45]) (by simp only[pb,ah,seval]) him hl (by decide)).2 ?_;rw[xn (by decide)];refine af (fun h7=>?_) (fun h7=>?_);rotate_left
 ·have hno:(ie t i).map (fun q=>(V.mk 4 q.1 0 [] [] [],q.2))=none:=by
   rw[ie];split
   ·rw[ai fun h=>h7 (decide_eq_true h.2)];rfl
   ·rfl
  simp only[↓pa,pb,ah,seval];refine l6 K (t:=t) (n:=2) (b:=true) (by decide) (by simp only[pb,seval]<;>rfl) (by assumption) hl (fun _ _ h=>by cases h) (fun _ _ _ _ _=>?_)
  simp only[↓pa,pb,ah,seval];refine eA K (t:=t) (by simp only[pb,ah,seval]<;>rfl) fun fl=>?_
  simp only[↓pa,pb,ah,aH,seval,fZ];exact bp (dm:=fq) hno ⟨_,rfl,rfl,by simp only[aH,ay],by simp only[aH]⟩ rfl (by omega)
 have h7':cI t (i+7)=45:=of_decide_eq_true h7;have hi7:=dH (show cI t (i+7)≠0 by rw[h7'];decide);simp only[↓pa,pb,ah,seval,aA,a6];refine l6 K (t:=t) (i:=i+4+1+2+1) (n:=2) (b:=false) (by decide) (by simp only[pb,seval]) hi7 hl (fun d fl _ hd hid=>?_) (fun v j fl h hj=>?_);rotate_left
 ·have hd:jW t 2 (i+8) 0=none:=by rcases h with h|h;cases h;exact h
  have hno:(ie t i).map (fun q=>(V.mk 4 q.1 0 [] [] [],q.2))=none:=by
   rw[ie,hd];cases jW t 4 i 0<;>cases jW t 2 (i+5) 0<;>rfl
  simp only[↓pa,pb,ah,seval];refine eA K (t:=t) (by simp only[pb,ah,seval]<;>rfl) fun fl=>?_
  simp only[↓pa,pb,ah,aH,seval,fZ];exact bp (dm:=fq) hno ⟨_,rfl,rfl,by simp only[aH,ay],by simp only[aH]⟩ rfl (by omega)
 have hm':jW t 2 (i+5) 0=some m:=hm;have hd':jW t 2 (i+8) 0=some d:=hd;have hp:(ie t i).map (fun q=>(V.mk 4 q.1 0 [] [] [],q.2))=(Ee y m d).map fun n=>(V.mk 4 n 0 [] [] [],i+10):=by
  rw[ie,hy,hm',hd'];simp only;rw[am ⟨h4',h7'⟩];cases Ee y m d<;>rfl
 have r1:=wF 4 i 0 y 1 hy (by decide) (by decide);have r2:=wF 2 (i+5) 0 m 1 hm' (by decide) (by decide);have r3:=wF 2 (i+8) 0 d 1 hd' (by decide) (by decide);have e4:(1:Int) *10 ^ 4=10000:=rfl;have e2:(1:Int) *10 ^ 2=100:=rfl;rw[e4]at r1;rw[e2]at r2 r3;simp only[↓pa,pb,ah,seval];refine af (fun k1=>?_) (fun k1=>?_)
 ·have hno:(ie t i).map (fun q=>(V.mk 4 q.1 0 [] [] [],q.2))=none:=by rw[hp,mL (by omega),gD]
  simp only[↓pa,pb,seval,k1];refine eA K (t:=t) (by simp only[pb,ah,seval]<;>rfl) fun fl=>?_
  simp only[↓pa,pb,ah,aH,seval,fZ];exact bp (dm:=fq) hno ⟨_,rfl,rfl,by simp only[aH,ay],by simp only[aH]⟩ rfl (by omega)
 simp only[↓pa,pb,seval,k1];refine af (fun k2=>?_) (fun k2=>?_)
 ·have hno:(ie t i).map (fun q=>(V.mk 4 q.1 0 [] [] [],q.2))=none:=by rw[hp,mL (by omega),gD]
  simp only[↓pa,pb,seval,k2];refine eA K (t:=t) (by simp only[pb,ah,seval]<;>rfl) fun fl=>?_
  simp only[↓pa,pb,ah,aH,seval,fZ];exact bp (dm:=fq) hno ⟨_,rfl,rfl,by simp only[aH,ay],by simp only[aH]⟩ rfl (by omega)
 simp only[↓pa,pb,seval,k2];refine af (fun k3=>?_) (fun k3=>?_)
 ·have hno:(ie t i).map (fun q=>(V.mk 4 q.1 0 [] [] [],q.2))=none:=by rw[hp,mL (by omega),gD]
  simp only[↓pa,pb,seval,k3];refine eA K (t:=t) (by simp only[pb,ah,seval]<;>rfl) fun fl=>?_
  simp only[↓pa,pb,ah,aH,seval,fZ];exact bp (dm:=fq) hno ⟨_,rfl,rfl,by simp only[aH,ay],by simp only[aH]⟩ rfl (by omega)
 simp only[↓pa,pb,seval,k3];refine af (fun k4=>?_) (fun k4=>?_)
 ·have hno:(ie t i).map (fun q=>(V.mk 4 q.1 0 [] [] [],q.2))=none:=by rw[hp,mL (by omega),gD]
  simp only[↓pa,pb,seval,k4];refine eA K (t:=t) (by simp only[pb,ah,seval]<;>rfl) fun fl=>?_
  simp only[↓pa,pb,ah,aH,seval,fZ];exact bp (dm:=fq) hno ⟨_,rfl,rfl,by simp only[aH,ay],by simp only[aH]⟩ rfl (by omega)
 have hmm:=fun st=>FE (st:=st) K y (m:=m) (by omega) (by omega);simp only[↓pa,pb,seval,k4,hmm];refine af (fun k5=>?_) (fun k5=>?_)
 ·have hno:(ie t i).map (fun q=>(V.mk 4 q.1 0 [] [] [],q.2))=none:=by rw[hp,mL (by omega),gD]
  simp only[↓pa,pb,seval,k5];refine eA K (t:=t) (by simp only[pb,ah,seval]<;>rfl) fun fl=>?_
  simp only[↓pa,pb,ah,aH,seval,fZ];exact bp (dm:=fq) hno ⟨_,rfl,rfl,by simp only[aH,ay],by simp only[aH]⟩ rfl (by omega)
 have hr:=sI y m;rw[Jo (by omega)]at hp;have hdd:=fun st=>PS (st:=st) K (y:=y) (by omega) (by omega);have q1:=pg (x:=y-1) (d:=4) (by omega) (by decide);have q2:=pg (x:=y-1) (d:=100) (by omega) (by decide);have q3:=pg (x:=y-1) (d:=400) (by omega) (by decide);have hdn:Cd y m d=(y-1) *365+(y-1).tdiv 4- (y-1).tdiv 100+(y-1).tdiv 400+d-1+rj y (m.toNat-1):=by unfold Cd;omega
 simp (disch:=omega)only[↓pa,pb,seval,k5,hdd];revert q1 q2 q3 hdn;generalize (y-1).tdiv 4=a1;generalize (y-1).tdiv 100=a2;generalize (y-1).tdiv 400=a3;intro q1 q2 q3 hdn;refine a7 (fun k fr st=>∃ j:Int,k=(m-j).toNat/\1<=j/\j<=m/\fr 0= .ptr 0 0/\fr 2= .ptr 2 0/\fr 3=I y/\fr 4=I m/\fr 7=I j/\fr 6=I ((y-1) *365+a1-a2+a3+d-1+rj y (j.toNat-1))/\st.objs 0=some [S t,I (i+10:Nat),.bool false]/\st.objs 2=some [I 0,I 0,I 0,S [],.list 0 [] .nil,.list 0 [] .nil]) (m-1).toNat (by omega) ⟨1,rfl,by omega,by omega,by simp only[↓pa,pb,seval],by simp only[↓pa,seval],by simp only[↓pa,seval],by simp only[↓pa,seval],by simp only[↓pa,seval],by simp only[↓pa,seval];simp[rj],by simp only[pb,ah,seval],by simp only[pb,ah,seval]⟩ ?_;rintro k fr st ⟨j,rfl,hj1,hj2,f0,f2,f3,f4,f7,f6,o0,o2⟩;have hs:=zS y (j.toNat-1);have hr:=sI y j;have hms:=fun st=>FE (st:=st) K y (m:=j) (by omega) (by omega);simp only[↓pa,pb,seval,f4,f7];refine af (fun h1=>?_) (fun h1=>?_)
 ·simp (disch:=omega)only[↓pa,pb,seval,f0,f2,f3,f4,f7,f6,o0,o2,h1,hms];refine⟨(m- (j+1)).toNat,by omega,j+1,rfl,by omega,by omega,rfl,?_⟩;rw[<-C3 y hj1];simp only[Int.add_assoc]
 ·obtain rfl:j=m:=by omega
  simp only[↓pa,↓au,pb,ah,aH,seval,f2,f6,o0,o2,h1];refine ez hp ?_ rfl (by omega);rw[hdn];rfl
def gR(K:bO cf){t:List UInt8}{i:Nat}{c:UInt8}(n:Int)(hc:(c.toNat:Int)=n)(hn:n≠0)(hs:st.objs s=some [S t,I i])(hi:i<=t.length)(hl:t.length<=2000000):
  dj (az cf 226 [.ptr s 0,S [c]] [] st) mk A↔mh (cI t i=n) (eG A (mk (.bool true) (cA st s [S t,I (i+1:Nat)]))) (eG A (mk (.bool false) st)):=by
 rw[xA K.tab hs hi hl (show([c]:List UInt8).length<=2000000 by simp),xn (by rintro rfl;exact hn hc.symm),hc];simp only[decide_eq_true_eq];rfl
def fk(K:bO cf){t:List UInt8}{i:Nat}{c:UInt8}(n:Int)(hc:(c.toNat:Int)=n)(hn:n≠0)(hs:st.objs s=some [S t,I i,.bool false])(hi:i<=t.length)(hl:t.length<=2000000):
  dj (az cf 210 [.ptr s 0,S [c]] [] st) mk A↔mh (cI t i=n) (eG A (mk (.bool true) (cA st s [S t,I (i+1:Nat),.bool false]))) (eG A (mk (.bool false) st)):=by
 rw[rN K.tab hs hi hl (show([c]:List UInt8).length<=2000000 by simp),xn (by rintro rfl;exact hn hc.symm),hc];simp only[decide_eq_true_eq];rfl
def Oj(K:bO cf){t:List UInt8}{i:Nat}(hs:st.objs s=some [S t,I i])(hi:i<=t.length)(hl:t.length<=2000000)(h40:cI t i=40):
  ∃ r c',oh t VA (ik t (i+1)) fq r c'/\∃ fl,az cf 222 [.ptr s 0] [] st=some (r,db (cA st s c') fl):=by
 refine hU K.tab (F:=F222) rfl rfl rfl (lb rfl) (lb rfl) (by simp) hs (gt t i) 1 ?_;simp only[F222,↓qU,seval];have hlt:=dH (show cI t i≠0 by rw[h40];decide);simp only[↓pa,pb,seval];refine(gR K (t:=t) (i:=i) 40 rfl (by decide) (by simp only[pb,seval]) hi hl).2 ?_;simp only[↓pa,pb,seval,h40];refine tL K (t:=t) (i:=i+1) (by simp only[pb,seval]) hlt hl (fun a j fl ha hj=>?_) (fun n j fl ha hj=>?_);rotate_left
 ·have hno:ik t (i+1)=none:=by rw[ik,ha]
  simp only[↓pa,pb,ad,aa,seval];refine(gR K (t:=t) (i:=j) 32 rfl (by decide) (by simp only[pb,ah,seval]) hj hl).2 ?_;refine af (fun h=>?_) (fun h=>?_)
  ·have:=dH (show cI t j≠0 by rw[h];decide);simp only[↓pa,↓au,pb,ah,aH,seval];exact bH hno ⟨_,rfl,rfl,by simp only[aH,ay],by simp only[aH]⟩ rfl rfl (by omega)
  ·
   simp only[↓pa,↓au,pb,ah,aH,seval];exact bH hno ⟨_,rfl,rfl,by simp only[aH,ay],by simp only[aH]⟩ rfl rfl (by omega)
 simp only[↓pa,pb,ad,aa,seval];refine(gR K (t:=t) (i:=j) 32 rfl (by decide) (by simp only[pb,ah,seval]) hj hl).2 ?_;refine af (fun h32=>?_) (fun h32=>?_);rotate_left
 ·have hno:ik t (i+1)=none:=by rw[ik,ha];simp only;rw[ai h32]
  simp only[↓pa,↓au,pb,ah,aH,seval];exact bH hno ⟨_,rfl,rfl,by simp only[aH,ay],by simp only[aH]⟩ rfl rfl (by omega)
 have hjl:=dH (show cI t j≠0 by rw[h32];decide);simp only[↓pa,pb,seval];refine tL K (t:=t) (i:=j+1) (by simp only[pb,seval]) hjl hl (fun b k fl hb hk=>?_) (fun n k fl hb hk=>?_);rotate_left
 ·have hno:ik t (i+1)=none:=by rw[ik,ha];simp only;rw[am h32,hb]
  simp only[↓pa,↓au,pb,ah,aH,ad,aa,seval];exact bH hno ⟨_,rfl,rfl,by simp only[aH,ay],by simp only[aH]⟩ rfl rfl (by omega)
 have hp:ik t (i+1)=if cI t k=41/\rI a=false/\rI b=false then some (.mk 5 a b [] [] [],k+1)else none:=by rw[ik,ha];simp only;rw[am h32,hb]
 simp only[↓pa,pb,ad,aa,seval];refine(gR K (t:=t) (i:=k) 41 rfl (by decide) (by simp only[pb,ah,seval]) hk hl).2 ?_;refine af (fun h41=>?_) (fun h41=>?_);rotate_left
 ·have hno:ik t (i+1)=none:=by rw[hp,ai fun h=>h41 h.1]
  simp only[↓pa,↓au,pb,ah,aH,seval];exact bH hno ⟨_,rfl,rfl,by simp only[aH,ay],by simp only[aH]⟩ rfl rfl (by omega)
 have hkl:=dH (show cI t k≠0 by rw[h41];decide);have hbig:∀ x,rI x=true↔(x< -1000000\/1000000<x):=fun x=>by simp[rI]
 simp only[↓pa,pb,seval];refine af (fun b1=>?_) (fun b1=>?_)
 ·have hno:ik t (i+1)=none:=by rw[hp,ai fun h=>by rw[(hbig a).2 (.inl b1)]at h;simp at h]
  simp only[↓pa,↓au,pb,ah,seval,b1];simp only[↓pa,pb,ah,aH,seval];exact bH hno ⟨_,rfl,rfl,by simp only[aH,ay],by simp only[aH]⟩ rfl rfl (by omega)
 simp only[↓pa,pb,seval,b1];refine af (fun b2=>?_) (fun b2=>?_)
 ·have hno:ik t (i+1)=none:=by rw[hp,ai fun h=>by rw[(hbig a).2 (.inr b2)]at h;simp at h]
  simp only[↓pa,↓au,pb,ah,seval,b2];simp only[↓pa,pb,ah,aH,seval];exact bH hno ⟨_,rfl,rfl,by simp only[aH,ay],by simp only[aH]⟩ rfl rfl (by omega)
 simp only[↓pa,pb,seval,b2];refine af (fun b3=>?_) (fun b3=>?_)
 ·have hno:ik t (i+1)=none:=by rw[hp,ai fun h=>by rw[(hbig b).2 (.inl b3)]at h;simp at h]
  simp only[↓pa,↓au,pb,ah,seval,b3];simp only[↓pa,pb,ah,aH,seval];exact bH hno ⟨_,rfl,rfl,by simp only[aH,ay],by simp only[aH]⟩ rfl rfl (by omega)
 simp only[↓pa,pb,seval,b3];refine af (fun b4=>?_) (fun b4=>?_)
 ·have hno:ik t (i+1)=none:=by rw[hp,ai fun h=>by rw[(hbig b).2 (.inr b4)]at h;simp at h]
  simp only[↓pa,↓au,pb,ah,aH,seval,b4];exact bH hno ⟨_,rfl,rfl,by simp only[aH,ay],by simp only[aH]⟩ rfl rfl (by omega)
 ·have ba:rI a=false:=by cases h:rI a;rfl;exact absurd ((hbig a).1 h) (by omega)
  have bb:rI b=false:=by cases h:rI b;rfl;exact absurd ((hbig b).1 h) (by omega)
  simp only[↓pa,↓au,pb,ah,aH,seval,b4];exact ek (by rw[hp,am ⟨h41,ba,bb⟩]) rfl rfl hkl
end Go.PM
