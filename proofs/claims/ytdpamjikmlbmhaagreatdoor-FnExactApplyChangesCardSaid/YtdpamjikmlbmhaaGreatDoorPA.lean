/- A part of the proof. Conditions: none. -/
import Derived.Laws.AppendOwn
import Derived.Calls
import Derived.Tactics
import Derived.Laws.Cells
import Derived.Laws.Tables
import Derived.Laws.CopyRow
import Derived.Laws.MakeOwn
import Derived.Laws.OwnMore
import Derived.Laws.BytesArg
import Derived.MapKept
set_option linter.all false
namespace Go.PM
def ad:=@if_neg
def ae:=@Bool.and_eq_true
def af:=@List.length_append
def ah:=@List.getElem?_cons_succ
def aj:=@List.getElem?_cons_zero
def ak:=@if_pos
def am:=@Option.map_eq_some_iff
def ap:=@Bool.and_self
def aq:=@Nat.zero_add
def au:=@List.length_cons
def ax:=@List.getElem?_eq_getElem
def ay:=@List.mem_append
def aD:=@List.append_nil
def aE:=@Nat.le_refl
def aG:=@List.length_take
def aH:=@List.map_cons
def aM:=@Nat.zero_le
def aN:=@List.nil_append
def aO:=@List.length_nil
def aP:=@Array.getElem?_eq_some_iff
def aU:=@List.length_drop
def aW:=@List.take_succ_eq_append_getElem
def aX:=@List.mem_cons
def a6:=@List.drop_eq_getElem_cons
def a8:=@List.cons_append
def bf:=@List.flatMap_cons
def bg:=@Bool.and_true
def bi:=@Nat.add_zero
def bl:=@List.append_assoc
def bo:=@Option.some.injEq
def bq:=@congrArg
def br:=@List.getElem?_eq_some_iff
def bA:=@List.take_of_length_le
def bB:=@List.getElem?_eq_none
def bE:=@List.flatMap_append
def bF:=@List.eq_nil_of_length_eq_zero
def bG:=@Bool.false_eq_true
def bH:=@Array.getD_eq_getD_getElem?
def bK:=@Option.bind_eq_some_iff
def bL:=@List.getElem?_append_left
def bM:=@List.map_nil
def bQ:=@List.mem_of_getElem?
def bU:=@List.mem_cons_of_mem
def bW:=@Option.isSome_iff_exists
def bX:=@List.all_eq_true
def b8:=@List.length_map
def ch:=@List.map_append
def cn:=@Prod.mk.injEq
def cp:=@List.getElem?_append_right
def ct:=@List.getElem_mem
def cA:=@List.mem_map
def cF:=@Bool.or_eq_true
def cM:=@List.mem_append_left
def cN:=@List.all_cons
def cU:=@List.all_nil
def cW:=@List.mem_of_mem_drop
def cY:=@List.getElem?_take_of_lt
def dd:=@Result.andThen_ok
def de:=@List.getElem?_map
def dj:=@Bool.true_and
def dn:=@List.take_append_drop
def dq:=@List.mem_append_right
def dr:=@List.pairwise_cons
def du:=@ne_eq
def dv:=@List.replicate_zero
def dC:=@Option.map_some
def dM:=@List.drop_of_length_le
def dP:=@Option.bind_some
def dQ:=@Nat.le_trans
def dR:=@List.flatten_nil
def dZ:=@List.mem_singleton
def d5:=@List.getElem?_drop
def ei:=@List.contains_iff_mem
def em:=@List.getElem_of_mem
def eo:=@Int.toNat_of_nonneg
def ep:=@Array.length_toList
def ez:=@Int.toNat_natCast
def eK:=@List.not_mem_nil
def eU:=@Nat.mul_le_mul_right
def eV:=@List.mem_of_mem_take
def eZ:=@Option.map_eq_none_iff
def fe:=@List.drop_left
def fB:=@Nat.min_eq_left
def fG:=@List.drop_eq_nil_of_le
def fH:=@List.mem_or_eq_of_mem_set
def fR:=@List.ext_getElem?
def fU:=@List.drop_drop
def fX:=@Option.map_none
def gd:=@List.length_eq_zero_iff
def gg:=@Nat.succ_mul
def gh:=@List.getD_eq_getElem?_getD
def gp:=@Nat.mul_one
def gr:=@Nat.add_mul
def gB:=@Array.getElem?_eq_getElem
def gE:=@Array.getElem?_toList
def gJ:=@List.take_append_of_le_length
def gP:=@Option.isSome_none
def gZ:=@List.take_left
def g8:=@Bool.false_and
def ig:=@List.length_set
def iq:=@List.getElem?_take_eq_none
def iB:=@Nat.eq_zero_or_pos
def iC:=@List.eraseIdx_eq_take_drop_succ
def iD:=@Array.getElem?_setIfInBounds_ne
def iR:=@Nat.not_lt_zero
def iS:=@Nat.le_max_left
def iW:=@Array.getElem?_setIfInBounds_self_of_lt
def iZ:=@List.drop_append_of_le_length
def i7:=@List.pairwise_singleton
def jf:=@IntKind.wrap_i64
def jh:=@beq_iff_eq
def jz:=@List.singleton_append
def jA:=@List.getElem?_toArray
def jB:=@Array.getElem?_modify
def jE:=@List.length_eraseIdx_of_lt
def jH:=@List.size_toArray
def jP:=@List.getElem?_set_ne
def jQ:=@Bool.or_eq_false_iff
def kw:=@beq_self_eq_true
def kx:=@and_self
def ky:=@Nat.le_max_right
def kz:=@List.take_length
def kA:=@Array.getElem?_replicate
def kG:=@List.replicate_succ
def kP:=@Nat.add_assoc
def lm:=@List.foldl_cons
def ln:=@Bool.toNat_true
def lE:=@and_true
def lF:=@List.getElem?_set_self
def lN:=@Bool.not_eq_true'
def l8:=@List.mem_range
def mG:=@List.getElem?_of_mem
def mH:=@List.flatMap_nil
def mI:=@List.drop_length
def mN:=@Array.getElem?_append_left
def mV:=@List.take_succ_cons
def mZ:=@List.pairwise_iff_getElem
def m0:=@List.nodup_cons
def m3:=@List.mem_filter
def m4:=@List.getElem?_eq_none_iff
def m5:=@Bool.eq_iff_iff
def nA:=@Nat.add_sub_cancel
def nB:=@List.getElem?_take
def nC:=@Bool.or_true
def nD:=@Array.ext_getElem?
def nR:=@List.take_take
def nS:=@List.nodup_nil
def nT:=@List.drop_zero
def oT:=@List.mem_flatMap
def lb{a b:Nat}(h:Nat.ble a b=true):a<=b:=Nat.le_of_ble_eq_true h
inductive aB where
 |no|nil|full (e:Nat)|own (t:Nat) (e:Nat)|sub (t:Nat)|el (t:Nat) (e:Nat) (n:Nat)
 deriving DecidableEq
def aB.of:aB->Option Nat
 | .own k _=>some k
 | .sub k=>some k
 | .el k _ _=>some k
 |_=>none
def aB.der:aB->aB
 | .own k _=> .sub k
 | .sub k=> .sub k
 | .el k _ _=> .sub k
 |_=> .no
def aB.elt(n:Nat):aB->aB
 | .own k e=> .el k e n
 | .sub k=> .sub k
 | .el k _ _=> .sub k
 |_=> .no
def aB.cut(lo:Bool)(n h:Nat)(t:aB):aB:=if lo then(if h=n then t else t.elt n)else t.der
def aB.isOwn(t:aB)(k:Nat):Bool:=match t with
 | .own j _=>j==k
 |_=>false
inductive PV where
 |any
 |hole
 |int (k:IntKind) (n:Int)
 |bool (b:Bool)
 |str (s:ByteArray)
 |nilp
 |nili
 |err
 |agg (cs:List PV)
 |tup (vs:List PV)
 |list (n:Nat) (cs:List PV) (t:aB)
 |ptr (s:Nat) (off:Nat)
 |osl (e:Nat) (sz:Nat) (s:Nat) (n:Nat)
 |mp (s:Nat)
 |iptr (cs:List PV) (off:Nat) (t:aB)
 |fn (f:Nat) (cap:List PV)
instance:Inhabited PV:=⟨.any⟩
abbrev Fr:=Nat->PV
def xq(f:Fr)(d:Nat)(v:PV):Fr:=fun t=>if t=d then v else f t
structure St where
 nx:Nat
 cnt:Nat->Nat
 fl:Nat
 objs:Nat->Option (List PV)
 maps:Nat->Option (List (PV×PV))
def hH(st:St)(n:Nat):aB->Bool
 | .nil=>n==0
 | .full _=>true
 | .own k _=>decide (k<st.nx) && st.cnt k==n
 |_=>false
def St.count(st:St)(k n:Nat):St:={st with cnt:=fun t=>if t=k then n else st.cnt t}
def St.more(st:St):List Nat->St
 | []=>st
 |n::ns=>{st with nx:=st.nx+(n::ns).length,cnt:=fun t=>if t<st.nx then st.cnt t else(n::ns).getD (t-st.nx) 0}
def St.more_nx(st:St)(ns:List Nat):(st.more ns).nx=st.nx+ns.length:=by cases ns<;>rfl
def St.more_old(st:St)(ns:List Nat){t:Nat}(h:t<st.nx):(st.more ns).cnt t=st.cnt t:=by cases ns<;>simp[St.more,h]
def St.more_new(st:St)(ns:List Nat){t:Nat}(h:st.nx<=t)(h':t<st.nx+ns.length):(st.more ns).cnt t=ns.getD (t-st.nx) 0:=by
 cases ns with
 |nil=>simp at h';omega
 |cons n ns=>simp only[St.more];rw[ad (by omega)]
def St.more_fl(st:St)(ns:List Nat):(st.more ns).fl=st.fl:=by cases ns<;>rfl
def St.more_objs(st:St)(ns:List Nat):(st.more ns).objs=st.objs:=by cases ns<;>rfl
def St.more_maps(st:St)(ns:List Nat):(st.more ns).maps=st.maps:=by cases ns<;>rfl
def aB.ren(f:Nat->Option Nat)(s:Bool):aB->aB
 | .own k e=>(match f k with|some k'=> .own k' e|none=> .no)
 | .sub k=>(match f k with|some k'=> .sub k'|none=> .no)
 | .el k e n=>(match f k with|some k'=> .el k' e n|none=> .no)
 | .nil=>if s then .no else .nil
 | .full e=>if s then .no else .full e
 | .no=> .no
mutual
def ren(f:Nat->Option Nat)(s:Bool):PV->PV
 | .list n cs t=> .list n (aZ f s cs) (t.ren f s)
 | .iptr cs off t=> .iptr (aZ f s cs) off (t.ren f s)
 | .agg cs=> .agg (aZ f s cs)
 | .tup cs=> .tup (aZ f s cs)
 | .fn g cs=> .fn g (aZ f s cs)
 |p=>p
def aZ(f:Nat->Option Nat)(s:Bool):List PV->List PV
 | []=>[]
 |p::ps=>ren f s p::aZ f s ps
end
def aC:PV->PV:=ren (fun _=>none) true
def aF:List PV->List PV:=aZ (fun _=>none) true
def aB.free(K:Nat->Bool)(t:aB):Bool:=match t.of with
 |some k=>!K k
 |none=>true
mutual
def tf(K:Nat->Bool):PV->Bool
 | .list _ cs t=>t.free K && dw K cs
 | .iptr cs _ t=>t.free K && dw K cs
 | .fn _ cs=>dw K cs
 | .agg cs=>dw K cs
 | .tup cs=>dw K cs
 |_=>true
def dw(K:Nat->Bool):List PV->Bool
 | []=>true
 |p::ps=>tf K p && dw K ps
end
def aT:List Nat->Nat->Option Nat
 | [],_=>none
 |x::xs,k=>if x=k then some 0 else(aT xs k).map (· +1)
def rm:List Nat->Bool
 | []=>true
 |x::xs=>!xs.contains x && rm xs
def bV(J:List Nat)(p:PV):PV:=if tf (J.contains ·) p then p else .any
structure jX where
 J:List Nat
 k:Nat
 n:Nat
 p:PV
mutual
def fJ(u:jX):PV->PV
 | .list m cs t=>if t.isOwn u.k && m==u.n then u.p else if t.free (u.J.contains ·)then .list m (ik u cs) t else .any
 | .iptr cs o t=>if t.free (u.J.contains ·)then .iptr (ik u cs) o t else .any
 | .agg cs=> .agg (ik u cs)
 | .tup cs=> .tup (ik u cs)
 | .fn g cs=> .fn g (ik u cs)
 |p=>p
def ik(u:jX):List PV->List PV
 | []=>[]
 |p::ps=>fJ u p::ik u ps
end
mutual
def ar:PV->List (Nat×Nat)
 | .list n cs t=>(match t with| .own k _=>[(k,n)]|_=>[])++al cs
 | .iptr cs _ _=>al cs
 | .agg cs=>al cs
 | .tup cs=>al cs
 | .fn _ cs=>al cs
 |_=>[]
def al:List PV->List (Nat×Nat)
 | []=>[]
 |p::ps=>ar p++al ps
end
mutual
def ft:PV->Bool
 | .list _ cs t=>(cs.isEmpty||t.of.isSome) && fo cs
 | .iptr cs _ t=>(cs.isEmpty||t.of.isSome) && fo cs
 | .agg cs=>fo cs
 | .tup cs=>fo cs
 | .fn _ cs=>fo cs
 |_=>true
def fo:List PV->Bool
 | []=>true
 |p::ps=>ft p && fo ps
end
inductive CX where
 |sl (n:Nat)
 |k (p:PV)
def CX.ev(fr:Fr):CX->PV
 | .sl n=>fr n
 | .k p=>p
inductive ew where
 |mv (x:CX)
 |pick (c a b:CX)
 |alloc (zs:List PV)
 |box (sz:Nat) (x:CX)
 |build (zs:List PV) (ps:List (Nat×Nat×CX))
 |bsl (e sz:Nat) (zs:List PV) (n:Nat) (ps:List (Nat×Nat×CX))
 |load (sz:Nat) (ag:Bool) (a:CX)
 |store (sz:Nat) (a x:CX)
 |stx (sz:Nat) (a x:CX)
 |nck (x:CX)
 |bin (op:BinOp) (x y:CX)
 |isnil (neg:Bool) (x:CX)
 |beq (neg:Bool) (x y:CX)
 |un (op:UnOp) (x:CX)
 |toInt (k:IntKind) (x:CX)
 |s2s (x:CX)
 |ext (x:CX) (i:Nat)
 |fad (off:Nat) (x:CX)
 |fld (off sz:Nat) (ag:Bool) (x:CX)
 |iad (sz:Nat) (x i:CX)
 |sidx (x i:CX)
 |ssl (x:CX) (lo hi:Option CX)
 |slc (sz:Nat) (x:CX) (lo hi:Option CX)
 |mks (e sz bytes:Nat) (zs:List PV) (n c:CX)
 |mk0 (e sz bytes:Nat) (n c:CX)
 |slen (x:CX)
 |len (x:CX)
 |app (e sz bytes:Nat) (x y:CX)
 |apc (e sz bytes:Nat) (x y:CX)
 |b2s (x:CX)
 |mkfn (f:Nat) (as:List CX)
 |mkmap
 |mpset (kk:Nat) (m k v:CX)
 |mpget (ok:Bool) (zero:PV) (kk:Nat) (m k:CX)
 |mplen (m:CX)
 |call (f:Nat) (as:List CX) (mv:List Nat)
 |cval (f:CX) (as:List CX)
 |callU (f:Nat) (as:List CX)
structure bS where
 g:Option (Nat×Bool)
 d:Option Nat
 op:ew
def Al:PV->Bool
 | .agg _=>false
 | .tup _=>false
 | .any=>false
 | .hole=>false
 |_=>true
def vW:PV->Bool
 | .ptr .. =>false
 | .osl .. =>false
 | .mp .. =>false
 | .iptr .. =>false
 | .fn .. =>false
 |p=>Al p
def cellsOf:PV->Option (List PV)
 | .agg cs=>some cs
 |p=>if vW p then some [p]else none
def bD{α:Type}(cs:List α)(off:Nat):List α->List α
 | []=>cs
 |v::vs=>bD (cs.set off v) (off+1) vs
def kD(zs:List PV)(fr:Fr):List (Nat×Nat×CX)->Option (List PV)
 | []=>some zs
 |(off,sz,x)::rest=>
  match cellsOf (x.ev fr)with
  |some cs=>if cs.length=sz/\off+sz<=zs.length then kD (bD zs off cs) fr rest else none
  |none=>none
def bI(cs:List PV)(off sz:Nat)(ag:Bool):Option PV:=
 if off+sz<=cs.length then
  if ag then some (.agg ((cs.drop off).take sz))else if sz=1 then cs[off]? else none
 else none
def fN:PV->Option Value
 | .int k n=>some (.int k n)
 | .bool b=>some (.bool b)
 | .str s=>some (.string s)
 |_=>none
def ib:Value->Option PV
 | .int k n=>some (.int k n)
 | .bool b=>some (.bool b)
 | .string s=>some (.str s)
 |_=>none
def pf{α:Type}:Sem α->Option α
 | .pure v=>some v
 |_=>none
def dS(op:BinOp)(x y:PV):Option PV:=
 match fN x,fN y with
 |some a,some b=>(pf (Go.binOp op 0 a b)).bind ib
 |_,_=>none
def vr(op:UnOp)(x:PV):Option PV:=
 match fN x with
 |some a=>(pf (Op.unary op a)).bind ib
 |none=>none
def gx:PV->Bool
 | .ptr .. =>true
 | .osl .. =>true
 | .mp .. =>true
 |_=>false
def jG(x:PV)(top:Nat):Option Nat:=
 match x with
 | .int _ i=>if 0<=i/\i<=(top:Int)then some i.toNat else none
 |_=>none
def qF(lo hi:Option CX)(fr:Fr)(len cap:Nat):Option (Nat×Nat):=
 match (match hi with|some x=>jG (x.ev fr) cap|none=>some len)with
 |none=>none
 |some h=>
  match (match lo with|some x=>jG (x.ev fr) h|none=>some 0)with
  |none=>none
  |some l=>some (l,h)
def dB:Nat:=140737488355328
abbrev aA:=Nat->List PV->List Nat->List (List PV)->Option (PV×List Nat×List (List PV))
mutual
def off(K:Nat->Bool):PV->Bool
 | .ptr s _=>!K s
 | .osl _ _ s _=>!K s
 | .mp s=>!K s
 | .iptr cs _ _=>dh K cs
 | .fn _ cs=>dh K cs
 | .agg cs=>dh K cs
 | .tup cs=>dh K cs
 | .list _ cs _=>dh K cs
 |_=>true
def dh(K:Nat->Bool):List PV->Bool
 | []=>true
 |p::ps=>off K p && dh K ps
end
def np(p:PV):Bool:=off (fun _=>true) p
def aI(ps:List PV):Bool:=dh (fun _=>true) ps
def cX:List PV->Option (List Nat)
 | []=>some []
 | .ptr s off::ps=>
  match cX ps with
  |some ks=>if off=0/\ks.contains s=false then some (s::ks)else none
  |none=>none
 |p::ps=>if np p then cX ps else none
def eX(J mv:List Nat)(i n:Nat):List PV->List PV
 | []=>[]
 | .ptr _ _::ps=> .ptr n 0::eX J mv (i+1) (n+1) ps
 |p::ps=>(if mv.contains i then ren (aT J) false p else aC p)::eX J mv (i+1) n ps
def dl(st:St):List Nat->Option (List (List PV))
 | []=>some []
 |k::ks=>match st.objs k,dl st ks with
  |some c,some cs=>some (c::cs)
  |_,_=>none
def fi(objs:Nat->Option (List PV)):List Nat->List (List PV)->Nat->Option (List PV)
 |k::ks,c::cs=>fi (fun s=>if s=k then some c else objs s) ks cs
 |_,_=>objs
def fQ(mv:List Nat)(i:Nat):List PV->List (Nat×Nat)
 | []=>[]
 |p::ps=>(if mv.contains i then ar p else [])++fQ mv (i+1) ps
def gU(J mv:List Nat)(i:Nat):List PV->Bool
 | []=>true
 |p::ps=>(mv.contains i||tf (J.contains ·) p) && gU J mv (i+1) ps
def jx(mv:List Nat)(i:Nat):List PV->List Bool
 | []=>[]
 | .ptr _ _::ps=>mv.contains i::jx mv (i+1) ps
 |_::ps=>jx mv (i+1) ps
def rX:List Bool->List (List PV)->List (Nat×Nat)
 |b::bs,c::cs=>(if b then al c else [])++rX bs cs
 |_,_=>[]
def mD(J:List Nat):List Bool->List (List PV)->Bool
 |b::bs,c::cs=>(b||dw (J.contains ·) c) && mD J bs cs
 |_,[]=>true
 | [],_=>false
def lh(J:List Nat):List Bool->List (List PV)->List (List PV)
 |b::bs,c::cs=>(if b then aZ (aT J) false c else aF c)::lh J bs cs
 |_,cs=>cs.map aF
def sZ(st:St)(q:Nat×Nat):Bool:=hH st q.2 (.own q.1 0) && decide (st.fl<=q.1)
def dJ(mv:List Nat)(as:List PV)(cs:List (List PV)):List (Nat×Nat):=fQ mv 0 as++rX (jx mv 0 as) cs
def ix(J:List Nat)(objs:Nat->Option (List PV)):Nat->Option (List PV):=fun s=>(objs s).map fun c=>c.map (bV J)
def kl(J:List Nat)(maps:Nat->Option (List (PV×PV))):Nat->Option (List (PV×PV)):=fun s=>(maps s).map fun c=>c.map fun q=>(q.1,bV J q.2)
def nj(f:Nat):Bool:=[41,42,85,186,187,188].contains f
def oy(f:Nat)(as:List PV)(cs:List (List PV)):Bool:=(nj f||!cs.isEmpty) && (as.all (tf fun _=>true) && cs.all (dw fun _=>true))
def av(cf:aA)(f:Nat)(as:List PV)(mv:List Nat)(st:St):Option (PV×St):=
 match cX as with
 |none=>none
 |some ks=>
  match dl st ks with
  |none=>none
  |some cs=>
   match mv with
   | []=>
    match cf f (eX [] [] 0 0 as) [] (cs.map aF)with
    |some (r,ns,cs')=>if cs'.length=cs.length then
      some (ren (fun k=>some (st.nx+k)) false r,{st.more ns with objs:=fi st.objs ks (cs'.map (aZ (fun k=>some (st.nx+k)) false)),fl:=if(ft r && cs'.all fo)||oy f as cs then st.fl else st.nx})
     else none
    |none=>none
   |mv=>
    if rm ((dJ mv as cs).map (·.1)) && (dJ mv as cs).all (sZ st) && gU ((dJ mv as cs).map (·.1)) mv 0 as && mD ((dJ mv as cs).map (·.1)) (jx mv 0 as) cs then
     match cf f (eX ((dJ mv as cs).map (·.1)) mv 0 0 as) ((dJ mv as cs).map (·.2)) (lh ((dJ mv as cs).map (·.1)) (jx mv 0 as) cs)with
     |some (r,ns,cs')=>if cs'.length=cs.length then
       some (ren (fun k=>some (st.nx+k)) false r,{st.more ns with objs:=fi (ix ((dJ mv as cs).map (·.1)) st.objs) ks (cs'.map (aZ (fun k=>some (st.nx+k)) false)),maps:=kl ((dJ mv as cs).map (·.1)) st.maps,cnt:=(fun t=>if((dJ mv as cs).map (·.1)).contains t then 0 else(st.more ns).cnt t),fl:=if ft r && cs'.all fo then st.fl else st.nx})
      else none
     |none=>none
    else none
def cD(as:List PV)(mv:List Nat)(st:St):List Nat:=
 match mv with
 | []=>[]
 |mv=>match cX as with
  |some ks=>match dl st ks with
   |some cs=>(dJ mv as cs).map (·.1)
   |none=>[]
  |none=>[]
def sH:List PV->Option (List UInt8)
 | []=>some []
 | .int .u8 n::ps=>match sH ps with
  |some bs=>some (UInt8.ofNat n.toNat::bs)
  |none=>none
 |_=>none
def lW:PV->Nat
 | .int _ _=>0
 | .str _=>1
 | .bool _=>2
 |_=>3
def B4:PV->PV->Option Bool
 | .int k a,.int k' b=>if k=k' then some (a==b)else none
 | .str a,.str b=>some (a==b)
 | .bool a,.bool b=>some (a==b)
 |_,_=>none
def nK(k:PV):List (PV×PV)->Nat->Option (Option (Nat×PV))
 | [],_=>some none
 |e::es,i=>match B4 k e.1 with
  |some true=>some (some (i,e.2))
  |some false=>nK k es (i+1)
  |none=>none
def pU(u:jX)(objs:Nat->Option (List PV)):Nat->Option (List PV):=fun s=>(objs s).map fun c=>ik u c
def rz(u:jX)(maps:Nat->Option (List (PV×PV))):Nat->Option (List (PV×PV)):=fun s=>(maps s).map fun c=>c.map fun q=>(q.1,fJ u q.2)
def gT(cs:List PV)(off k e n:Nat)(vs:List PV):jX:=⟨[k],k,n,.list n (bD cs off vs) (.own k e)⟩
def kF(f:Nat):Nat:=f+1000000
def uP(cf:aA)(f:Nat)(as:List PV)(st:St):Option (PV×PV×St):=
 match av cf (kF f) as [0] st with
 |some (.tup [r,p'],st')=>some (r,p',st')
 |_=>none
def oH:List PV->Bool
 | .list _ _ _::_=>true
 | .agg _::_=>true
 |_=>false
def eP(n:Nat)(p:PV):PV:=if n=0 then .list 0 [] .no else p
def nY(l:List (Nat×Nat×PV))(m:Nat)(t:aB):Option PV:=match t with
 | .own k _=>(l.find? fun q=>q.1==k && q.2.1==m).map (·.2.2)
 |_=>none
mutual
def iO(J:List Nat)(l:List (Nat×Nat×PV)):PV->PV
 | .list m cs t=>match nY l m t with
  |some p=>p
  |none=>if t.free (J.contains ·)then .list m (gC J l cs) t else .any
 | .iptr cs o t=>if t.free (J.contains ·)then .iptr (gC J l cs) o t else .any
 | .agg cs=> .agg (gC J l cs)
 | .tup cs=> .tup (gC J l cs)
 | .fn g cs=> .fn g (gC J l cs)
 |p=>p
def gC(J:List Nat)(l:List (Nat×Nat×PV)):List PV->List PV
 | []=>[]
 |p::ps=>iO J l p::gC J l ps
end
def gF:List PV->List PV->List (Nat×Nat×PV)
 | .list n _ (.own k _)::cs,d::ds=>(k,n,eP n d)::gF cs ds
 |_::cs,_::ds=>gF cs ds
 |_,_=>[]
def IV(p':PV)(as:List PV)(st st':St):St:=match as,p' with
 | .agg cs::rest,.agg ds=>if cX (.agg cs::rest)=some []then{st' with objs:=fun s=>(st.objs s).map fun c=>gC (cD (.agg cs::rest) [0] st) (gF cs ds) c}else st'
 |_,_=>st'
def DB(e sz bytes:Nat)(x y:PV)(st:St):Option (PV×St):=match x,y with
 | .list n cs t,.list m ds _=>
  if hH st n t=true/\cs.length=n*sz/\ds.length=m*sz/\(n+m) *bytes<=dB/\n+m<=dB/\0<sz then
   match t with
   | .own k e'=>if e'=e then some (.list (n+m) (cs++ds) (.own k e),st.count k (n+m))else none
   | .full e'=>if e'=e/\(0<m\/n=0)then some (.list (n+m) (cs++ds) (.own st.nx e),st.more [n+m])else none
   |_=>some (.list (n+m) (cs++ds) (.own st.nx e),st.more [n+m])
  else none
 |_,_=>none
def ic(st:St)(k n:Nat):St:={st.more [n]with objs:=ix [k] st.objs,maps:=kl [k] st.maps,cnt:=fun t=>if [k].contains t then 0 else(st.more [n]).cnt t}
def lY(x y:PV)(st:St):List Nat:=match x with
 | .list _ cs (.el k _ c)=>if 0<c/\k<st.nx/\st.cnt k=c/\st.fl<=k/\dw ([k].contains ·) cs=true/\tf ([k].contains ·) y=true then [k]else []
 |_=>[]
def yK(e sz bytes:Nat)(x y:PV)(st:St):Option (PV×St):=match lY x y st,x with
 | [k],.list n cs (.el _ e' _)=>DB e sz bytes (.list n cs (.own st.nx e')) y (ic st k n)
 |_,_=>DB e sz bytes x y st
def aw(cf:aA)(fr:Fr)(st:St)(d:Option Nat):ew->Option (PV×St)
 | .mv x=>some (x.ev fr,st)
 | .pick c a b=>match c.ev fr with
  | .bool true=>some (a.ev fr,st)
  | .bool false=>some (b.ev fr,st)
  |_=>none
 | .alloc zs=>match d with
  |some s=>some (.ptr s 0,{st with objs:=fun k=>if k=s then some zs else st.objs k})
  |none=>none
 | .box sz x=>match d,cellsOf (x.ev fr)with
  |some s,some cs=>if cs.length=sz then some (.ptr s 0,{st with objs:=fun k=>if k=s then some cs else st.objs k})else none
  |_,_=>none
 | .build zs ps=>match kD zs fr ps with
  |some cs=>some (.agg cs,st)
  |none=>none
 | .bsl e sz zs n ps=>match kD (List.replicate n zs).flatten fr ps with
  |some cs=>if zs.length=sz/\0<sz then some (.list n cs (.full e),st)else none
  |none=>none
 | .load sz ag a=>match a.ev fr with
  | .ptr s off=>match st.objs s with
   |some cs=>(bI cs off sz ag).map fun p=>(p,st)
   |none=>none
  | .iptr cs off _=>(bI cs off sz ag).map fun p=>(p,st)
  |_=>none
 | .store sz a x=>match a.ev fr,cellsOf (x.ev fr)with
  | .ptr s off,some vs=>match st.objs s with
   |some cs=>if vs.length=sz/\off+sz<=cs.length then some (.hole,{st with objs:=fun k=>if k=s then some (bD cs off vs)else st.objs k})else none
   |none=>none
  |_,_=>none
 | .stx sz a x=>match a.ev fr,cellsOf (x.ev fr)with
  | .ptr s off,some vs=>match st.objs s with
   |some cs=>if vs.length=sz/\off+sz<=cs.length then some (.hole,{st with objs:=fun k=>if k=s then some (bD cs off vs)else st.objs k})else none
   |none=>none
  | .iptr cs off (.el k e n),some vs=>
   if vs.length=sz/\off+sz<=cs.length/\0<n/\st.cnt k=n/\k<st.nx/\st.fl<=k/\dw ([k].contains ·) cs=true/\dw ([k].contains ·) vs=true then
    some (.hole,{st with objs:=pU (gT cs off k e n vs) st.objs,maps:=rz (gT cs off k e n vs) st.maps})
   else none
  |_,_=>none
 | .nck x=>match x.ev fr with
  | .ptr s off=>some (.ptr s off,st)
  | .iptr cs off t=>some (.iptr cs off t,st)
  | .fn f cs=>some (.fn f cs,st)
  |_=>none
 | .bin op x y=>(dS op (x.ev fr) (y.ev fr)).map fun p=>(p,st)
 | .isnil neg x=>match x.ev fr with
  | .err=>some (.bool neg,st)
  | .nili=>some (.bool (!neg),st)
  |_=>none
 | .beq neg x y=>match x.ev fr,y.ev fr with
  | .bool a,.bool b=>some (.bool (if neg then !(a==b)else a==b),st)
  |_,_=>none
 | .un op x=>(vr op (x.ev fr)).map fun p=>(p,st)
 | .toInt k x=>match x.ev fr with
  | .int _ n=>some (.int k (k.wrap n),st)
  |_=>none
 | .s2s x=>match x.ev fr with
  | .str s=>some (.str s,st)
  |_=>none
 | .ext x i=>match x.ev fr with
  | .tup vs=>(vs[i]?).map fun p=>(p,st)
  |_=>none
 | .fad off x=>match x.ev fr with
  | .ptr s o=>some (.ptr s (o+off),st)
  | .iptr cs o t=>some (.iptr cs (o+off) t,st)
  |_=>none
 | .fld off sz ag x=>match x.ev fr with
  | .agg cs=>(bI cs off sz ag).map fun p=>(p,st)
  |_=>none
 | .iad sz x i=>match x.ev fr,i.ev fr with
  | .list n cs t,.int _ j=>if 0<=j/\j<(n:Int)/\cs.length=n*sz then some (.iptr cs (j.toNat*sz) (t.elt n),st)else none
  | .osl _ _ s n,.int _ j=>if 0<=j/\j<(n:Int)then some (.ptr s (j.toNat*sz),st)else none
  |_,_=>none
 | .sidx x i=>match x.ev fr,i.ev fr with
  | .str s,.int _ j=>if h:0<=j/\j.toNat<s.size then some (.int .u8 (s[j.toNat]'h.2).toNat,st)else none
  |_,_=>none
 | .ssl x lo hi=>match x.ev fr with
  | .str s=>match qF lo hi fr s.size s.size with
   |some (l,h)=>some (.str (s.extract l h),st)
   |none=>none
  |_=>none
 | .slc sz x lo hi=>match x.ev fr with
  | .list n cs t=>match qF lo hi fr n n with
   |some (l,h)=>if cs.length=n*sz then some (.list (h-l) ((cs.drop (l*sz)).take ((h-l) *sz)) (t.cut lo.isNone n h),st)else none
   |none=>none
  |_=>none
 | .mks e sz bytes zs n c=>match d,n.ev fr,c.ev fr with
  |some s,.int .i64 a,.int .i64 b=>if a=b/\0<=a/\bytes*a.toNat<=dB/\a<=140737488355328/\zs.length=sz/\0<sz then
    some (.osl e sz s a.toNat,{st with objs:=fun k=>if k=s then some (List.replicate a.toNat zs).flatten else st.objs k})
   else none
  |_,_,_=>none
 | .mk0 e sz bytes n c=>match n.ev fr,c.ev fr with
  | .int .i64 0,.int .i64 b=>if 0<=b/\bytes*b.toNat<=dB/\b<=140737488355328/\0<sz then
    some (.list 0 [] (.own st.nx e),st.more [0])
   else none
  |_,_=>none
 | .slen x=>match x.ev fr with
  | .str s=>some (.int .i64 s.size,st)
  |_=>none
 | .len x=>match x.ev fr with
  | .list n _ _=>some (.int .i64 n,st)
  | .osl _ _ _ n=>some (.int .i64 n,st)
  |_=>none
 | .app e sz bytes x y=>match x.ev fr,y.ev fr with
  | .list n cs t,.list m ds _=>
   if hH st n t=true/\cs.length=n*sz/\ds.length=m*sz/\(n+m) *bytes<=dB/\n+m<=dB/\0<sz then
    match t with
    | .own k e'=>if e'=e then some (.list (n+m) (cs++ds) (.own k e),st.count k (n+m))else none
    | .full e'=>if e'=e/\(0<m\/n=0)then some (.list (n+m) (cs++ds) (.own st.nx e),st.more [n+m])else none
    |_=>some (.list (n+m) (cs++ds) (.own st.nx e),st.more [n+m])
   else none
  |_,_=>none
 | .apc e sz bytes x y=>yK e sz bytes (x.ev fr) (y.ev fr) st
 | .b2s x=>match x.ev fr with
  | .list n cs _=>match sH cs with
   |some bs=>if bs.length=n then some (.str ⟨bs.toArray⟩,st)else none
   |none=>none
  |_=>none
 | .mkfn f as=>if(as.map (·.ev fr)).all (fun c=>gx c||np c)then some (.fn f (as.map (·.ev fr)),st)else none
 | .mkmap=>match d with
  |some s=>some (.mp s,{st with maps:=fun k=>if k=s then some []else st.maps k})
  |none=>none
 | .mpset kk m k v=>match m.ev fr with
  | .mp s=>match st.maps s with
   |some es=>if lW (k.ev fr)=kk/\np (v.ev fr)=true then match nK (k.ev fr) es 0 with
    |some (some (i,_))=>some (.hole,{st with maps:=fun j=>if j=s then some (es.set i (k.ev fr,v.ev fr))else st.maps j})
    |some none=>some (.hole,{st with maps:=fun j=>if j=s then some (es++[(k.ev fr,v.ev fr)])else st.maps j})
    |none=>none
    else none
   |none=>none
  |_=>none
 | .mpget ok zero kk m k=>match m.ev fr with
  | .mp s=>match st.maps s with
   |some es=>if lW (k.ev fr)=kk then match nK (k.ev fr) es 0 with
    |some (some (_,v))=>some (if ok then .tup [v,.bool true]else v,st)
    |some none=>some (if ok then .tup [zero,.bool false]else zero,st)
    |none=>none
    else none
   |none=>none
  |_=>none
 | .mplen m=>match m.ev fr with
  | .mp s=>match st.maps s with
   |some es=>some (.int .i64 es.length,st)
   |none=>none
  |_=>none
 | .call f as mv=>av cf f (as.map (·.ev fr)) mv st
 | .cval f as=>match f.ev fr with
  | .fn g cap=>if g<1000000 then av cf g (as.map (·.ev fr)++cap) [] st else none
  |_=>none
 | .callU f as=>match uP cf f (as.map (·.ev fr)) st with
  |some (r,p',st')=>if oH (as.map (·.ev fr))=true then some (r,IV p' (as.map (·.ev fr)) st st')else none
  |none=>none
def eE(fr:Fr):Option (Nat×Bool)->Option Bool
 |none=>some true
 |some (s,b)=>match fr s with
  | .bool b'=>some (b==b')
  | .hole=>some false
  |_=>none
def put(fr:Fr)(d:Option Nat)(v:PV):Fr:=
 match d with
 |some d=>xq fr d v
 |none=>fr
def Gq(s:Nat):PV->Bool
 | .ptr k _=>k=s
 | .osl _ _ k _=>k=s
 | .mp k=>k=s
 |_=>false
def eA(s:Nat):PV->PV
 | .ptr k off=>if k=s then .any else .ptr k off
 | .osl e sz k n=>if k=s then .any else .osl e sz k n
 | .mp k=>if k=s then .any else .mp k
 | .fn f cs=>if cs.any (Gq s)then .any else .fn f cs
 |p=>p
def jM:ew->Bool
 | .alloc _=>true
 | .box _ _=>true
 | .mks .. =>true
 | .mkmap=>true
 |_=>false
def Ll(fr:Fr)(st:St):ew->List Nat
 | .call _ as mv=>cD (as.map (·.ev fr)) mv st
 |_=>[]
def uS(a:PV)(vs:Option (List PV))(fr:Fr):Fr:=match a,vs with
 | .iptr cs off (.el k e n),some vs=>fun t=>fJ (gT cs off k e n vs) (fr t)
 |_,_=>fr
def kU(o:Option (PV×PV×St))(as:List PV)(st:St):PV->PV:=match as,o with
 | .list n _ (.own k _)::_,some (_,p',_)=>fJ ⟨cD as [0] st,k,n,eP n p'⟩
 | .agg cs::_,some (_,.agg ds,_)=>iO (cD as [0] st) (gF cs ds)
 |_,_=>bV (cD as [0] st)
def Gl(o:Option (PV×PV×St))(as:List PV)(st:St)(fr:Fr):Fr:=fun t=>kU o as st (fr t)
def cJ(cf:aA)(op:ew)(d:Option Nat)(st:St)(fr:Fr):Fr:=
 match op,d with
 | .alloc _,some s=>fun t=>eA s (fr t)
 | .box _ _,some s=>fun t=>eA s (fr t)
 | .mks ..,some s=>fun t=>eA s (fr t)
 | .mkmap,some s=>fun t=>eA s (fr t)
 | .call _ _ [],_=>fr
 | .call f as mv,_=>fun t=>bV (Ll fr st (.call f as mv)) (fr t)
 | .stx _ a x,_=>uS (a.ev fr) (cellsOf (x.ev fr)) fr
 | .apc _ _ _ x y,_=>fun t=>bV (lY (x.ev fr) (y.ev fr) st) (fr t)
 | .callU f as,_=>Gl (uP cf f (as.map (·.ev fr)) st) (as.map (·.ev fr)) st fr
 |_,_=>fr
def dk(cf:aA)(o:bS)(x:Fr×St):Option (Fr×St):=
 match eE x.1 o.g with
 |some true=>match aw cf x.1 x.2 o.d o.op with
  |some (v,st)=>some (put (cJ cf o.op o.d x.2 x.1) o.d v,st)
  |none=>none
 |some false=>some (put x.1 o.d .hole,x.2)
 |none=>none
def iI(cf:aA):List bS->Fr×St->Option (Fr×St)
 | [],x=>some x
 |o::os,x=>match dk cf o x with
  |some y=>iI cf os y
  |none=>none
structure oR where
 b:Nat
 cap:Nat
 sz:Nat
 e:Nat
 m:Nat
inductive mi where
 |full (m:Nat)
 |room (r:oR)
def mi.cnt:mi->Nat
 | .full m=>m
 | .room r=>r.m
structure Gh where
 com:Nat->Nat->Option Value
 sh:Nat->Option (Nat×Nat)
 tk:Nat->Option mi
 ob:Nat->Option Nat
 nx:Nat
 pv:Nat->Option Nat
 xp:Nat->Bool
 oe:Nat->Option (Nat×Nat)
 mb:Nat->Option Nat
def Gh.bx(G:Gh)(s:Nat):Option Nat×Option (Nat×Nat)×Option Nat:=(G.ob s,G.oe s,G.mb s)
def lL{G G':Gh}{s:Nat}(h:G'.bx s=G.bx s):G'.ob s=G.ob s:=(Prod.mk.inj h).1
def zN{G G':Gh}{s:Nat}(h:G'.bx s=G.bx s):G'.oe s=G.oe s:=(Prod.mk.inj (Prod.mk.inj h).2).1
def GS{G G':Gh}{s:Nat}(h:G'.bx s=G.bx s):G'.mb s=G.mb s:=(Prod.mk.inj (Prod.mk.inj h).2).2
def tQ(G:Gh)(n cap len b o:Nat):aB->Prop
 | .no=>True
 | .sub _=>True
 | .el t e c=>t<G.nx/\∀ x,G.tk t=some x->c<=x.cnt/\(c=x.cnt->match x with
  | .full _=>True
  | .room r=>r.b=b/\o=0/\r.cap=cap/\r.e=e/\len=n*r.sz)
 | .nil=>False
 | .full e=>cap=n/\o=0/\∃ k,G.sh b=some (e,k)/\k=len
 | .own t e=>t<G.nx/\∀ x,G.tk t=some x->n<=x.cnt/\(n=x.cnt->match x with
  | .full _=>cap=n/\o=0/\∃ k,G.sh b=some (e,k)/\k=len
  | .room r=>r.b=b/\o=0/\r.cap=cap/\r.e=e/\len=n*r.sz)
def DG(G:Gh)(len b o:Nat):aB->Prop
 | .el t e n=>t<G.nx/\∀ x,G.tk t=some x->n<=x.cnt/\(n=x.cnt->match x with
  | .full _=>True
  | .room r=>r.b=b/\o=0/\r.e=e/\len=n*r.sz)
 |_=>True
def yN(G:Gh):aB->Prop
 | .own t _=>t<G.nx/\∀ x,G.tk t=some x->x.cnt=0->x= .full 0
 | .el _ _ c=>c=0
 |_=>True
inductive R (G:Gh):PV->Value->Prop
 |any (v:Value):R G .any v
 |hole:R G .hole undef
 |int (k:IntKind) (n:Int):R G (.int k n) (.int k n)
 |bool (b:Bool):R G (.bool b) (.bool b)
 |str (s:ByteArray):R G (.str s) (.string s)
 |nilp:R G .nilp (.pointer none)
 |nili:R G .nili .nilIface
 |err (t:TypeId) (v:Value):R G .err (.iface t v)
 |agg (cs:List PV) (vs:List Value) (hl:cs.length=vs.length) (hr:∀ (j:Nat) (p:PV) (u:Value),cs[j]? =some p->vs[j]? =some u->R G p u)
   (h1:∀ u∈vs,u.oneCell'=true):R G (.agg cs) (.agg vs.toArray)
 |tup (cs:List PV) (vs:List Value) (hl:cs.length=vs.length) (hr:∀ (j:Nat) (p:PV) (u:Value),cs[j]? =some p->vs[j]? =some u->R G p u):
   R G (.tup cs) (.tuple vs.toArray)
 |listN (t:aB) (ht:yN G t):R G (.list 0 [] t) (.slice none 0 0)
 |listE (a:Addr):R G (.list 0 [] .no) (.slice (some a) 0 0)
 |list (n:Nat) (cs:List PV) (t:aB) (b o cap:Nat) (us:List Value) (hn:n<=cap) (hl:cs.length=us.length)
   (hc:∀ (j:Nat) (u:Value),us[j]? =some u->G.com b (o+j)=some u) (hr:∀ (j:Nat) (p:PV) (u:Value),cs[j]? =some p->us[j]? =some u->R G p u)
   (h1:∀ u∈us,u.oneCell'=true) (ht:tQ G n cap us.length b o t)
   (hp:∀ k,us≠ []->G.pv b=some k->t.of=some k) (hx:us≠ []->t≠ .no->G.xp b=false):R G (.list n cs t) (.slice (some ⟨b,o,none⟩) n cap)
 |ptr (s off b:Nat) (hb:G.ob s=some b):R G (.ptr s off) (.pointer (some ⟨b,off,none⟩))
 |osl (e sz s n b:Nat) (hb:G.ob s=some b) (he:G.oe s=some (e,sz)):R G (.osl e sz s n) (.slice (some ⟨b,0,none⟩) n n)
 |mp (s b:Nat) (hb:G.mb s=some b):R G (.mp s) (.map (some b))
 |iptr (cs:List PV) (off:Nat) (t:aB) (b o:Nat) (us:List Value) (hl:cs.length=us.length)
   (hc:∀ (j:Nat) (u:Value),us[j]? =some u->G.com b (o+j)=some u) (hr:∀ (j:Nat) (p:PV) (u:Value),cs[j]? =some p->us[j]? =some u->R G p u)
   (h1:∀ u∈us,u.oneCell'=true) (ht:DG G us.length b o t) (hp:∀ k,us≠ []->G.pv b=some k->t.of=some k) (hx:us≠ []->t≠ .no->G.xp b=false):R G (.iptr cs off t) (.pointer (some ⟨b,o+off,none⟩))
 |fn (f:Nat) (cs:List PV) (vs:List Value) (hl:cs.length=vs.length) (hr:∀ (j:Nat) (p:PV) (u:Value),cs[j]? =some p->vs[j]? =some u->R G p u):
   R G (.fn f cs) (.func (.func f) #[] vs.toArray)
def Rs(G:Gh)(cs:List PV)(vs:List Value):Prop:=
 cs.length=vs.length/\(∀ (j:Nat) (p:PV) (u:Value),cs[j]? =some p->vs[j]? =some u->R G p u)/\∀ u∈vs,u.oneCell'=true
structure Le (G G':Gh):Prop where
 com:∀ b o v,G.com b o=some v->G'.com b o=some v
 sh:∀ b x,G.sh b=some x->G'.sh b=some x
 tk:∀ t x',t<G.nx->G'.tk t=some x'->∃ x,G.tk t=some x/\x.cnt<=x'.cnt/\(x.cnt=x'.cnt->x=x')
 nx:G.nx<=G'.nx
 pv:∀ b k o v,G.com b o=some v->G'.pv b=some k->G.pv b=some k
 xp:G'.xp=G.xp
def Le.refl(G:Gh):Le G G:=⟨fun _ _ _ h=>h,fun _ _ h=>h,fun _ x' _ h=>⟨x',h,aE _,fun _=>rfl⟩,aE _,fun _ _ _ _ _ h=>h,rfl⟩
def Le.trans{G G' G'':Gh}(h:Le G G')(h':Le G' G''):Le G G'':=
 ⟨fun b o v x=>h'.com b o v (h.com b o v x),fun b x y=>h'.sh b x (h.sh b x y),
  fun t x' ht y=>by
   obtain⟨x1,e1,l1,q1⟩:=h'.tk t x' (Nat.lt_of_lt_of_le ht h.nx) y;obtain⟨x,e,l,q⟩:=h.tk t x1 ht e1;refine⟨x,e,dQ l l1,fun hc=>?_⟩;have c1:x.cnt=x1.cnt:=by omega
   have:=q c1;subst this;exact q1 hc,
  dQ h.nx h'.nx,fun b k o v hc hp=>h.pv b k o v hc (h'.pv b k o v (h.com b o v hc) hp),h'.xp.trans h.xp⟩
structure Rn (f:Nat->Option Nat) (K:Nat->Bool) (X:Bool) (G G':Gh):Prop where
 com:∀ b o v,G.com b o=some v->(∀ k,G.pv b=some k->K k=false)->G'.com b o=some v
 sh:∀ b x,G.sh b=some x->G'.sh b=some x
 tk:∀ k k',f k=some k'->K k=false->k<G.nx->k'<G'.nx/\∀ x',G'.tk k'=some x'->∃ x,G.tk k=some x/\x.cnt<=x'.cnt/\(x.cnt=x'.cnt->x=x')
 pv:∀ b k' o v,G.com b o=some v->(∀ k,G.pv b=some k->K k=false)->G'.pv b=some k'->(∃ k,G.pv b=some k/\f k=some k')\/(X=true/\G.xp b=true)
 xp:∀ b o v,G.com b o=some v->(∀ k,G.pv b=some k->K k=false)->G'.xp b=true->G.xp b=true\/∃ k,G.pv b=some k/\f k=none
def Le.rn{G G':Gh}(h:Le G G'):Rn some (fun _=>false) false G G':=
 ⟨fun b o v hc _=>h.com b o v hc,h.sh,fun k k' hk _ hlt=>by
  cases hk;exact⟨Nat.lt_of_lt_of_le hlt h.nx,fun x' hx=>h.tk k x' hlt hx⟩,fun b k' o v hc _ hp=> .inl ⟨k',h.pv b k' o v hc hp,rfl⟩,fun b o v _ _ hx=> .inl (by rw[<-h.xp];exact hx)⟩
def aB.der_of{t:aB}:t.der.of=t.of:=by cases t<;>rfl
def der_of{G:Gh}{b:Nat}{t:aB}{us:List Value}(hp:∀ k,us≠ []->G.pv b=some k->t.of=some k):∀ k,us≠ []->G.pv b=some k->t.der.of=some k:=
 fun k h1 h2=>by rw[aB.der_of];exact hp k h1 h2
def aB.ren_of{f:Nat->Option Nat}{s:Bool}{t:aB}{k k':Nat}(h:t.of=some k)(hf:f k=some k'):(t.ren f s).of=some k':=by
 cases t<;>simp[aB.of]at h<;>subst h<;>simp[aB.ren,hf,aB.of]
def tQ.ren{f:Nat->Option Nat}{s:Bool}{K:Nat->Bool}{G G':Gh}{X:Bool}(h:Rn f K X G G'){n cap len b o:Nat}{t:aB}(ht:tQ G n cap len b o t)(hk:t.free K=true):tQ G' n cap len b o (t.ren f s):=by
 cases t with
 |no=>trivial
 |nil=>cases ht
 |full e=>cases s with
  |true=>trivial
  |false=>obtain⟨h1,h2,k,h3,h4⟩:=ht;exact⟨h1,h2,k,h.sh _ _ h3,h4⟩
 |sub k=>simp only[aB.ren];cases f k<;>trivial
 |el k e c=>
  obtain⟨hlt,ht⟩:=ht;simp only[aB.ren];cases hf:f k with
  |none=>trivial
  |some k'=>
   obtain⟨hlt',htk⟩:=h.tk k k' hf (by simpa [aB.free,aB.of]using hk) hlt;refine⟨hlt',fun x' hx'=>?_⟩;obtain⟨x,hx,hle,heq⟩:=htk x' hx';obtain⟨hn,hm⟩:=ht x hx;refine⟨dQ hn hle,fun hc=>?_⟩;have:=heq (by omega);subst this;exact hm hc
 |own k e=>
  obtain⟨hlt,ht⟩:=ht;simp only[aB.ren];cases hf:f k with
  |none=>trivial
  |some k'=>
   obtain⟨hlt',htk⟩:=h.tk k k' hf (by simpa [aB.free,aB.of]using hk) hlt;refine⟨hlt',fun x' hx'=>?_⟩;obtain⟨x,hx,hle,heq⟩:=htk x' hx';obtain⟨hn,hm⟩:=ht x hx;refine⟨dQ hn hle,fun hc=>?_⟩;have:=heq (by omega);subst this;have:=hm hc;cases x with
   |full m=>obtain⟨h1,h2,k,h3,h4⟩:=this;exact⟨h1,h2,k,h.sh _ _ h3,h4⟩
   |room r=>exact this
def DG.ren{f:Nat->Option Nat}{s:Bool}{K:Nat->Bool}{G G':Gh}{X:Bool}(h:Rn f K X G G'){len b o:Nat}{t:aB}(ht:DG G len b o t)(hk:t.free K=true):DG G' len b o (t.ren f s):=by
 cases t with
 |no=>trivial
 |nil=>cases s<;>trivial
 |full e=>cases s<;>trivial
 |sub k=>simp only[aB.ren];cases f k<;>trivial
 |own k e=>simp only[aB.ren];cases f k<;>trivial
 |el k e n=>
  obtain⟨hlt,ht⟩:=ht;simp only[aB.ren];cases hf:f k with
  |none=>trivial
  |some k'=>
   obtain⟨hlt',htk⟩:=h.tk k k' hf (by simpa [aB.free,aB.of]using hk) hlt;refine⟨hlt',fun x' hx'=>?_⟩;obtain⟨x,hx,hle,heq⟩:=htk x' hx';obtain⟨hn,hm⟩:=ht x hx;refine⟨dQ hn hle,fun hc=>?_⟩;have:=heq (by omega);subst this;exact hm hc
def aB.cut_of{lo:Bool}{n h:Nat}{t:aB}:(t.cut lo n h).of=t.of:=by
 unfold aB.cut;split
 ·split
  ·rfl
  ·cases t<;>rfl
 ·exact aB.der_of
def aB.cut_no{lo:Bool}{n h:Nat}{t:aB}(h:t.cut lo n h≠ .no):t≠ .no:=by
 rintro rfl;apply h;unfold aB.cut;split
 ·split<;>rfl
 ·rfl
def N7{G:Gh}{lo:Bool}{t:aB}(ht:yN G t):yN G (t.cut lo 0 0):=by
 unfold aB.cut;split
 ·rw[ak rfl];exact ht
 ·cases t<;>trivial
def N6{G:Gh}{lo:Bool}{n h sz cap len len' b o:Nat}{t:aB}(ht:tQ G n cap len b o t)(hlo:lo=true->h=n->len'=len)(hl:len=n*sz)(hl':lo=true->len'=h*sz)(hh:h<=n){cap' o':Nat}(hc:lo=true->cap'=cap/\o'=o){h':Nat}(he:lo=true->h'=h):tQ G h' cap' len' b o' (t.cut lo n h):=by
 unfold aB.cut;cases lo with
 |false=>cases t<;>trivial
 |true=>
  obtain⟨rfl,rfl⟩:=hc rfl;cases he rfl;simp only[if_true];split
  ·rename_i e;subst e;rw[hlo rfl rfl];exact ht
  ·cases t with
   |own k e=>
    obtain⟨h1,h2⟩:=ht;refine⟨h1,fun x hx=>?_⟩;obtain⟨h3,h4⟩:=h2 x hx;refine⟨h3,fun hc=>?_⟩;have:=h4 hc;cases x with
    |full m=>trivial
    |room r=>
     obtain⟨e1,e2,e3,e4,e5⟩:=this;refine⟨e1,e2,e3,e4,?_⟩;rw[hl' rfl];have hz:n*sz=n*r.sz:=by omega
     rcases iB n with h0|h0
     ·have:h=0:=by omega
      rw[this];simp
     ·rw[Nat.eq_of_mul_eq_mul_left h0 hz]
   |_=>trivial
def aB.elt_of{n:Nat}{t:aB}:(t.elt n).of=t.of:=by cases t<;>rfl
def aB.elt_no{n:Nat}{t:aB}(h:t.elt n≠ .no):t≠ .no:=by rintro rfl;exact h rfl
def elt_of{G:Gh}{n b:Nat}{t:aB}{us:List Value}(hp:∀ k,us≠ []->G.pv b=some k->t.of=some k):∀ k,us≠ []->G.pv b=some k->(t.elt n).of=some k:=
 fun k h1 h2=>by rw[aB.elt_of];exact hp k h1 h2
def N5{G:Gh}{n cap len b o:Nat}{t:aB}(h:tQ G n cap len b o t):DG G len b o (t.elt n):=by
 cases t with
 |own k e=>
  obtain⟨h1,h2⟩:=h;refine⟨h1,fun x hx=>?_⟩;obtain⟨h3,h4⟩:=h2 x hx;refine⟨h3,fun hc=>?_⟩;have:=h4 hc;cases x with
  |full m=>trivial
  |room r=>exact⟨this.1,this.2.1,this.2.2.2.1,this.2.2.2.2⟩
 |_=>trivial
def yN.ren{f:Nat->Option Nat}{s:Bool}{K:Nat->Bool}{G G':Gh}{X:Bool}(h:Rn f K X G G'){t:aB}(ht:yN G t)(hk:t.free K=true):yN G' (t.ren f s):=by
 cases t with
 |no=>trivial
 |nil=>cases s<;>trivial
 |full e=>cases s<;>trivial
 |sub k=>simp only[aB.ren];cases f k<;>trivial
 |el k e n=>simp only[aB.ren];cases f k<;>first|trivial|exact ht
 |own k e=>
  simp only[aB.ren];cases hf:f k with
  |none=>trivial
  |some k'=>
   obtain⟨hlt',htk⟩:=h.tk k k' hf (by simpa [aB.free,aB.of]using hk) ht.1;refine⟨hlt',fun x' hx' h0=>?_⟩;obtain⟨x,hx,hle,heq⟩:=htk x' hx';have:=heq (by omega);subst this;exact ht.2 x hx h0
def kK{K:Nat->Bool}:∀ {cs:List PV} {j:Nat} {p:PV},dw K cs=true->cs[j]? =some p->tf K p=true
 | [],_,_,_,h=>by simp at h
 |c::cs,j,p,ho,h=>by
  simp only[dw,ae]at ho;cases j with
  |zero=>simp at h;subst h;exact ho.1
  |succ j=>exact kK ho.2 (by simpa using h)
def oF{K:Nat->Bool}:∀ {cs:List PV} {j:Nat} {p:PV},dh K cs=true->cs[j]? =some p->off K p=true
 | [],_,_,_,h=>by simp at h
 |c::cs,j,p,ho,h=>by
  simp only[dh,ae]at ho;cases j with
  |zero=>simp at h;subst h;exact ho.1
  |succ j=>exact oF ho.2 (by simpa using h)
def lz:∀ {cs:List PV} {j:Nat} {p:PV},fo cs=true->cs[j]? =some p->ft p=true
 | [],_,_,_,h=>by simp at h
 |c::cs,j,p,ho,h=>by
  simp only[fo,ae]at ho;cases j with
  |zero=>simp at h;subst h;exact ho.1
  |succ j=>exact lz ho.2 (by simpa using h)
def fW(f:Nat->Option Nat)(s:Bool):∀ (cs:List PV),(aZ f s cs).length=cs.length
 | []=>rfl
 |c::cs=>by simp[aZ,fW f s cs]
def uB(f:Nat->Option Nat)(s:Bool):∀ (cs:List PV) (j:Nat),(aZ f s cs)[j]? =(cs[j]?).map (ren f s)
 | [],j=>by simp[aZ]
 |c::cs,0=>by simp[aZ]
 |c::cs,j+1=>by simp[aZ,uB f s cs j]
def gK(f:Nat->Option Nat)(s:Bool)(n:Nat)(cs:List PV)(t:aB):ren f s (.list n cs t)= .list n (aZ f s cs) (t.ren f s):=by
 simp[ren]
def si(f:Nat->Option Nat)(s:Bool)(cs:List PV)(off:Nat)(t:aB):ren f s (.iptr cs off t)= .iptr (aZ f s cs) off (t.ren f s):=by
 simp[ren]
def R.ren{f:Nat->Option Nat}{KT:Nat->Bool}{G G':Gh}{X:Bool}(h:Rn f KT X G G')(K:Nat->Bool)(hob:∀ s,K s=false->G'.bx s=G.bx s){sw:Bool}{p:PV}{v:Value}(hr:R G p v)
  (hk:off K p=true) (ht:tf KT p=true) (hX:X=true->ft p=true):R G' (PM.ren f sw p) v:=by
 have get:∀ {cs:List PV} {j:Nat} {q:PV},(aZ f sw cs)[j]? =some q->∃ q',cs[j]? =some q'/\PM.ren f sw q'=q:=by
  intro cs j q hq;rw[uB]at hq;cases hc:cs[j]? with
  |none=>rw[hc]at hq;simp at hq
  |some q'=>rw[hc]at hq;simp at hq;exact⟨q',rfl,hq⟩
 have first:∀ {us:List Value} {b o:Nat},us≠ []->(∀ (j:Nat) (u:Value),us[j]? =some u->G.com b (o+j)=some u)->∃ v,G.com b o=some v:=by
  intro us b o hne hc;cases us with
  |nil=>exact absurd rfl hne
  |cons u us=>exact⟨u,hc 0 u rfl⟩
 have frOk:∀ {us:List Value} {b:Nat} {t:aB},t.free KT=true->(∀ k,us≠ []->G.pv b=some k->t.of=some k)->us≠ []->∀ k,G.pv b=some k->KT k=false:=by
  intro us b t hf hp hne k hk';have:=hp k hne hk';simpa [aB.free,this]using hf
 have comOk:∀ {us:List Value} {b o:Nat} {t:aB},t.free KT=true->(∀ k,us≠ []->G.pv b=some k->t.of=some k)->(∀ (j:Nat) (u:Value),us[j]? =some u->G.com b (o+j)=some u)->∀ (j:Nat) (u:Value),us[j]? =some u->G'.com b (o+j)=some u:=by
  intro us b o t hf hp hc j u hu;have hne:us≠ []:=by intro e;subst e;simp at hu
  exact h.com _ _ _ (hc j u hu) (frOk hf hp hne)
 have xpOk:∀ {us:List Value} {b o:Nat} {t:aB},t.free KT=true->(∀ k,us≠ []->G.pv b=some k->t.of=some k)->(us≠ []->t≠ .no->G.xp b=false)->(∀ (j:Nat) (u:Value),us[j]? =some u->G.com b (o+j)=some u)->
   us≠ []->t.ren f sw≠ .no->G'.xp b=false:=by
  intro us b o t hf hp hx hc hne ht';cases hxb:G'.xp b with
  |false=>rfl
  |true=>
   obtain⟨v0,hv0⟩:=first hne hc
   have htn:t≠ .no:=by rintro rfl;exact ht' rfl
   rcases h.xp b _ v0 hv0 (frOk hf hp hne) hxb with h1|⟨k,h1,h2⟩
   ·rw[hx hne htn]at h1;cases h1
   ·have:=hp k hne h1;cases t<;>simp[aB.of]at this<;>subst this<;>exact absurd (by simp[aB.ren,h2]) ht'
 have pvOk:∀ {us:List Value} {b o:Nat} {t:aB},t.free KT=true->(X=true->us≠ []->t.of.isSome=true)->(∀ k,us≠ []->G.pv b=some k->t.of=some k)->(us≠ []->t≠ .no->G.xp b=false)->(∀ (j:Nat) (u:Value),us[j]? =some u->G.com b (o+j)=some u)->∀ k',us≠ []->G'.pv b=some k'->(t.ren f sw).of=some k':=by
  intro us b o t hf hcl hp hx hc k' hne hk';obtain⟨v0,hv0⟩:=first hne hc
  rcases h.pv b k' _ v0 hv0 (frOk hf hp hne) hk' with⟨k,hk1,hk2⟩|⟨hX',hxb⟩
  ·exact aB.ren_of (hp k hne hk1) hk2
  ·have h1:=hcl hX' hne;have htn:t≠ .no:=by rintro rfl;simp[aB.of]at h1
   rw[hx hne htn]at hxb;cases hxb
 have clOk:∀ {cs:List PV} {us:List Value} {t:aB},cs.length=us.length->(X=true->(cs.isEmpty||t.of.isSome)=true)->X=true->us≠ []->t.of.isSome=true:=by
  intro cs us t hl h1 h2 hne;have:=h1 h2;cases cs with
  |nil=>exact absurd (bF hl.symm) hne
  |cons c cs=>simpa using this
 induction hr with
 |any v=>exact .any v
 |hole=>exact .hole
 |int k n=>exact .int k n
 |bool b=>exact .bool b
 |str s=>exact .str s
 |nilp=>exact .nilp
 |nili=>exact .nili
 |err t v=>exact .err t v
 |agg cs vs hl _ h1 ih=>
  refine .agg _ vs (by rw[fW];exact hl) (fun j q u hq hu=>?_) h1;obtain⟨q',hq',rfl⟩:=get hq;exact ih j q' u hq' hu (oF (by simpa [off]using hk) hq') (kK (by simpa [tf]using ht) hq') (fun hx=>lz (by simpa [ft]using hX hx) hq')
 |tup cs vs hl _ ih=>
  refine .tup _ vs (by rw[fW];exact hl) (fun j q u hq hu=>?_);obtain⟨q',hq',rfl⟩:=get hq;exact ih j q' u hq' hu (oF (by simpa [off]using hk) hq') (kK (by simpa [tf]using ht) hq') (fun hx=>lz (by simpa [ft]using hX hx) hq')
 |listN t htn=>
  rw[gK];exact .listN _ (htn.ren h (by simpa [tf,dw]using ht))
 |listE a=>
  rw[gK];exact .listE a
 |list n cs t b o cap us hn hl hc _ h1 htr hp hx ih=>
  rw[gK];simp only[tf,ae]at ht;simp only[ft,ae]at hX;refine .list n _ _ b o cap us hn (by rw[fW];exact hl) (comOk ht.1 hp hc) (fun j q u hq hu=>?_) h1 (htr.ren h ht.1) (pvOk ht.1 (clOk hl fun h=>(hX h).1) hp hx hc) (xpOk ht.1 hp hx hc);obtain⟨q',hq',rfl⟩:=get hq;exact ih j q' u hq' hu (oF (by simpa [off]using hk) hq') (kK ht.2 hq') (fun hx=>lz (hX hx).2 hq')
 |ptr s off b hb=>exact .ptr s off b (by rw[lL (hob s (by simpa [PM.off]using hk))];exact hb)
 |osl e sz s n b hb he=>
  have:=hob s (by simpa [PM.off]using hk);exact .osl e sz s n b (by rw[lL this];exact hb) (by rw[zN this];exact he)
 |mp s b hb=>exact .mp s b (by rw[GS (hob s (by simpa [PM.off]using hk))];exact hb)
 |iptr cs off t b o us hl hc _ h1 htp hp hx ih=>
  rw[si];simp only[tf,ae]at ht;simp only[ft,ae]at hX;refine .iptr _ off _ b o us (by rw[fW];exact hl) (comOk ht.1 hp hc) (fun j q u hq hu=>?_) h1 (htp.ren h ht.1) (pvOk ht.1 (clOk hl fun h=>(hX h).1) hp hx hc) (xpOk ht.1 hp hx hc);obtain⟨q',hq',rfl⟩:=get hq;exact ih j q' u hq' hu (oF (by simpa [PM.off]using hk) hq') (kK ht.2 hq') (fun hx=>lz (hX hx).2 hq')
 |fn g cs vs hl _ ih=>
  refine .fn g _ vs (by rw[fW];exact hl) (fun j q u hq hu=>?_);obtain⟨q',hq',rfl⟩:=get hq;exact ih j q' u hq' hu (oF (by simpa [off]using hk) hq') (kK (by simpa [tf]using ht) hq') (fun hx=>lz (by simpa [ft]using hX hx) hq')
def aB.ren_some(t:aB):t.ren some false=t:=by cases t<;>rfl
mutual
theorem ren_some:∀ (p:PV),ren some false p=p
 | .list n cs t=>by rw[gK,pd cs,aB.ren_some]
 | .iptr cs o t=>by rw[si,pd cs,aB.ren_some]
 | .agg cs=>by simp[ren,pd cs]
 | .tup cs=>by simp[ren,pd cs]
 | .fn g cs=>by simp[ren,pd cs]
 | .ptr _ _=>rfl
 | .osl _ _ _ _=>rfl
 | .mp _=>rfl
 | .any=>rfl
 | .hole=>rfl
 | .int _ _=>rfl
 | .bool _=>rfl
 | .str _=>rfl
 | .nilp=>rfl
 | .nili=>rfl
 | .err=>rfl
theorem pd:∀ (ps:List PV),aZ some false ps=ps
 | []=>rfl
 |p::ps=>by simp[aZ,ren_some p,pd ps]
end
def aB.free_none(t:aB):t.free (fun _=>false)=true:=by
 unfold aB.free;cases t.of<;>rfl
mutual
theorem mP:∀ (p:PV),tf (fun _=>false) p=true
 | .list _ cs t=>by simp[tf,aB.free_none,j9 cs]
 | .iptr cs _ t=>by simp[tf,aB.free_none,j9 cs]
 | .agg cs=>by simp[tf,j9 cs]
 | .tup cs=>by simp[tf,j9 cs]
 | .fn _ cs=>by simp[tf,j9 cs]
 | .ptr _ _=>rfl
 | .osl _ _ _ _=>rfl
 | .mp _=>rfl
 | .any=>rfl
 | .hole=>rfl
 | .int _ _=>rfl
 | .bool _=>rfl
 | .str _=>rfl
 | .nilp=>rfl
 | .nili=>rfl
 | .err=>rfl
theorem j9:∀ (ps:List PV),dw (fun _=>false) ps=true
 | []=>rfl
 |p::ps=>by simp[dw,mP p,j9 ps]
end
def R.le{G G':Gh}(h:Le G G')(K:Nat->Bool)(hob:∀ s,K s=false->G'.bx s=G.bx s){p:PV}{v:Value}(hr:R G p v)(hk:off K p=true):R G' p v:=by
 have:=hr.ren (sw:=false) h.rn K hob hk (mP p) (by simp);rwa [ren_some]at this
mutual
theorem su:∀ (p:PV),off (fun _=>false) p=true
 | .ptr _ _=>rfl
 | .osl _ _ _ _=>rfl
 | .mp _=>rfl
 | .iptr cs _ _=>by simpa [off]using pk cs
 | .fn _ cs=>by simpa [off]using pk cs
 | .agg cs=>by simpa [off]using pk cs
 | .tup cs=>by simpa [off]using pk cs
 | .list _ cs _=>by simpa [off]using pk cs
 | .any=>rfl
 | .hole=>rfl
 | .int _ _=>rfl
 | .bool _=>rfl
 | .str _=>rfl
 | .nilp=>rfl
 | .nili=>rfl
 | .err=>rfl
theorem pk:∀ (ps:List PV),dh (fun _=>false) ps=true
 | []=>rfl
 |p::ps=>by simp[dh,su p,pk ps]
end
mutual
theorem CI(K:Nat->Bool):∀ (p:PV),off (fun _=>true) p=true->off K p=true
 | .ptr _ _,h=>by simp[off]at h
 | .osl _ _ _ _,h=>by simp[off]at h
 | .mp _,h=>by simp[off]at h
 | .iptr cs _ _,h=>by simpa [off]using qA K cs (by simpa [off]using h)
 | .fn _ cs,h=>by simpa [off]using qA K cs (by simpa [off]using h)
 | .agg cs,h=>by simpa [off]using qA K cs (by simpa [off]using h)
 | .tup cs,h=>by simpa [off]using qA K cs (by simpa [off]using h)
 | .list _ cs _,h=>by simpa [off]using qA K cs (by simpa [off]using h)
 | .any,_=>rfl
 | .hole,_=>rfl
 | .int _ _,_=>rfl
 | .bool _,_=>rfl
 | .str _,_=>rfl
 | .nilp,_=>rfl
 | .nili,_=>rfl
 | .err,_=>rfl
theorem qA(K:Nat->Bool):∀ (ps:List PV),dh (fun _=>true) ps=true->dh K ps=true
 | [],_=>rfl
 |p::ps,h=>by
  simp only[dh,ae]at h;simp[dh,CI K p h.1,qA K ps h.2]
end
def ju{cs:List PV}{j:Nat}{p:PV}(h:aI cs=true)(hp:cs[j]? =some p):np p=true:=oF h hp
def cz:PV->Bool
 | .fn _ cs=>cs.all fun c=>gx c||np c
 |p=>gx p||np p
def CP(s:Nat)(p:PV)(h:cz p=true):off (fun k=>decide (k=s)) (eA s p)=true:=by
 cases p with
 |ptr k o=>simp only[eA];split<;>simp_all [off]
 |osl e sz k n=>simp only[eA];split<;>simp_all [off]
 |mp k=>simp only[eA];split<;>simp_all [off]
 |fn f cs=>
  simp only[eA];split
  ·rfl
  ·rename_i hk;simp only[cz,bX]at h;simp only[off];have:∀ (l:List PV),(∀ c∈l,(gx c||np c)=true)->l.any (Gq s)=false->dh (fun k=>decide (k=s)) l=true:=by
    intro l
    induction l with
    |nil=>intros;rfl
    |cons c l ih=>
     intro h1 h2;simp only[List.any_cons,jQ]at h2;have hc:=h1 c (by simp);simp only[dh,ae];refine⟨?_,ih (fun x hx=>h1 x (by simp[hx])) h2.2⟩;cases c<;>first
      |(exact CI _ _ (by simpa [gx,np]using hc))
      |(simp[Gq]at h2;simp[off,h2.1])
   exact this cs h (by simpa using hk)
 |_=>simp only[eA];exact CI (fun k=>decide (k=s)) _ (by simpa [cz,gx,np]using h)
def R.mono{G G':Gh}(h:Le G G')(hob:∀ s,G'.bx s=G.bx s){p:PV}{v:Value}(hr:R G p v):R G' p v:=
 hr.le h (fun _=>false) (fun s _=>hob s) (su p)
def lB(u:jX):∀ cs:List PV,(ik u cs).length=cs.length
 | []=>rfl
 |c::cs=>by simp[ik,lB u cs]
def vj(u:jX):∀ (cs:List PV) (j:Nat),(ik u cs)[j]? =(cs[j]?).map (fJ u)
 | [],j=>by simp[ik]
 |c::cs,0=>by simp[ik]
 |c::cs,j+1=>by simp only[ik,ah];exact vj u cs j
def R.bk{u:jX}{G G':Gh}(h:Rn some (u.J.contains ·) false G G')(hbx:∀ s,G'.bx s=G.bx s)(hp:∀ cs t v,t.isOwn u.k=true->R G (.list u.n cs t) v->R G' u.p v){q:PV}{v:Value}(hr:R G q v):R G' (fJ u q) v:=by
 have get:∀ {cs:List PV} {j:Nat} {q:PV},(ik u cs)[j]? =some q->∃ q',cs[j]? =some q'/\fJ u q'=q:=by
  intro cs j q hq;rw[vj]at hq;cases hc:cs[j]? with
  |none=>rw[hc]at hq;simp at hq
  |some q'=>rw[hc]at hq;simp at hq;exact⟨q',rfl,hq⟩
 have first:∀ {us:List Value} {b o:Nat},us≠ []->(∀ (j:Nat) (u:Value),us[j]? =some u->G.com b (o+j)=some u)->∃ v,G.com b o=some v:=by
  intro us b o hne hc;cases us with
  |nil=>exact absurd rfl hne
  |cons u us=>exact⟨u,hc 0 u rfl⟩
 have frOk:∀ {us:List Value} {b:Nat} {t:aB},t.free (u.J.contains ·)=true->(∀ k,us≠ []->G.pv b=some k->t.of=some k)->us≠ []->∀ k,G.pv b=some k->u.J.contains k=false:=by
  intro us b t hf hp hne k hk';have:=hp k hne hk';simpa [aB.free,this]using hf
 have comOk:∀ {us:List Value} {b o:Nat} {t:aB},t.free (u.J.contains ·)=true->(∀ k,us≠ []->G.pv b=some k->t.of=some k)->(∀ (j:Nat) (u:Value),us[j]? =some u->G.com b (o+j)=some u)->∀ (j:Nat) (u:Value),us[j]? =some u->G'.com b (o+j)=some u:=by
  intro us b o t hf hp hc j w hu;have hne:us≠ []:=by intro e;subst e;simp at hu
  exact h.com _ _ _ (hc j w hu) (frOk hf hp hne)
 have xpOk:∀ {us:List Value} {b o:Nat} {t:aB},t.free (u.J.contains ·)=true->(∀ k,us≠ []->G.pv b=some k->t.of=some k)->(us≠ []->t≠ .no->G.xp b=false)->(∀ (j:Nat) (u:Value),us[j]? =some u->G.com b (o+j)=some u)->
   us≠ []->t≠ .no->G'.xp b=false:=by
  intro us b o t hf hp hx hc hne ht';cases hxb:G'.xp b with
  |false=>rfl
  |true=>
   obtain⟨v0,hv0⟩:=first hne hc
   rcases h.xp b _ v0 hv0 (frOk hf hp hne) hxb with h1|⟨k,h1,h2⟩
   ·rw[hx hne ht']at h1;cases h1
   ·cases h2
 have pvOk:∀ {us:List Value} {b o:Nat} {t:aB},t.free (u.J.contains ·)=true->(∀ k,us≠ []->G.pv b=some k->t.of=some k)->(∀ (j:Nat) (u:Value),us[j]? =some u->G.com b (o+j)=some u)->∀ k',us≠ []->G'.pv b=some k'->t.of=some k':=by
  intro us b o t hf hp hc k' hne hk';obtain⟨v0,hv0⟩:=first hne hc
  rcases h.pv b k' _ v0 hv0 (frOk hf hp hne) hk' with⟨k,hk1,hk2⟩|⟨hX',_⟩
  ·have:=Option.some.inj hk2;subst this;exact hp _ hne hk1
  ·cases hX'
 induction hr with
 |any v=>exact .any v
 |hole=>exact .hole
 |int k n=>exact .int k n
 |bool b=>exact .bool b
 |str s=>exact .str s
 |nilp=>exact .nilp
 |nili=>exact .nili
 |err t v=>exact .err t v
 |agg cs vs hl _ h1 ih=>
  simp only[fJ];refine .agg _ vs (by rw[lB];exact hl) (fun j q w hq hu=>?_) h1;obtain⟨q',hq',rfl⟩:=get hq;exact ih j q' w hq' hu
 |tup cs vs hl _ ih=>
  simp only[fJ];refine .tup _ vs (by rw[lB];exact hl) (fun j q w hq hu=>?_);obtain⟨q',hq',rfl⟩:=get hq;exact ih j q' w hq' hu
 |listN t htn=>
  simp only[fJ];split
  ·rename_i hc;simp only[ae,jh]at hc;refine hp [] t _ hc.1 ?_;rw[<-hc.2];exact .listN t htn
  ·split
   ·rename_i hf;have:=htn.ren (s:=false) h hf;rw[aB.ren_some]at this;exact .listN t this
   ·exact .any _
 |listE a=>
  simp only[fJ];split
  ·rename_i hc;simp[aB.isOwn]at hc
  ·split
   ·exact .listE a
   ·exact .any _
 |list n cs t b o cap us hn hl hc hr0 h1 htr hpp hx ih=>
  simp only[fJ];split
  ·rename_i hcc;simp only[ae,jh]at hcc;refine hp cs t _ hcc.1 ?_;rw[<-hcc.2];exact .list n cs t b o cap us hn hl hc hr0 h1 htr hpp hx
  ·split
   ·rename_i hf;have htr':=htr.ren (s:=false) h hf;rw[aB.ren_some]at htr';refine .list n _ t b o cap us hn (by rw[lB];exact hl) (comOk hf hpp hc) (fun j q w hq hu=>?_) h1 htr' (pvOk hf hpp hc) (xpOk hf hpp hx hc);obtain⟨q',hq',rfl⟩:=get hq;exact ih j q' w hq' hu
   ·exact .any _
 |ptr s off b hb=>exact .ptr s off b (by rw[lL (hbx s)];exact hb)
 |osl e sz s n b hb he=>exact .osl e sz s n b (by rw[lL (hbx s)];exact hb) (by rw[zN (hbx s)];exact he)
 |mp s b hb=>exact .mp s b (by rw[GS (hbx s)];exact hb)
 |iptr cs off t b o us hl hc _ h1 htp hpp hx ih=>
  simp only[fJ];split
  ·rename_i hf;have htp':=htp.ren (s:=false) h hf;rw[aB.ren_some]at htp';refine .iptr _ off t b o us (by rw[lB];exact hl) (comOk hf hpp hc) (fun j q w hq hu=>?_) h1 htp' (pvOk hf hpp hc) (xpOk hf hpp hx hc);obtain⟨q',hq',rfl⟩:=get hq;exact ih j q' w hq' hu
  ·exact .any _
 |fn g cs vs hl _ ih=>
  simp only[fJ];refine .fn g _ vs (by rw[lB];exact hl) (fun j q w hq hu=>?_);obtain⟨q',hq',rfl⟩:=get hq;exact ih j q' w hq' hu
mutual
theorem IU(u:jX)(K:Nat->Bool)(hp:off K u.p=true):∀ p:PV,off K p=true->off K (fJ u p)=true
 | .list m cs t,h=>by
  have ih:=qH u K hp cs (by simpa [off]using h);simp only[fJ];split
  ·exact hp
  ·split
   ·simpa [off]using ih
   ·rfl
 | .iptr cs o t,h=>by
  have ih:=qH u K hp cs (by simpa [off]using h);simp only[fJ];split
  ·simpa [off]using ih
  ·rfl
 | .agg cs,h=>by have ih:=qH u K hp cs (by simpa [off]using h);simpa [fJ,off]using ih
 | .tup cs,h=>by have ih:=qH u K hp cs (by simpa [off]using h);simpa [fJ,off]using ih
 | .fn g cs,h=>by have ih:=qH u K hp cs (by simpa [off]using h);simpa [fJ,off]using ih
 | .any,h| .hole,h| .int _ _,h| .bool _,h| .str _,h| .nilp,h| .nili,h| .err,h| .ptr _ _,h| .osl _ _ _ _,h| .mp _,h=>h
theorem qH(u:jX)(K:Nat->Bool)(hp:off K u.p=true):∀ ps:List PV,dh K ps=true->dh K (ik u ps)=true
 | [],_=>rfl
 |p::ps,h=>by
  simp only[dh,ae]at h;simp only[ik,dh,IU u K hp p h.1,qH u K hp ps h.2,ap]
end
def xi{u:jX}(hp:np u.p=true){p:PV}(h:np p=true):np (fJ u p)=true:=IU u _ hp p h
def Nw{u:jX}(hp:np u.p=true){ps:List PV}(h:aI ps=true):aI (ik u ps)=true:=qH u _ hp ps h
def FC{u:jX}(hp:np u.p=true){p:PV}(h:cz p=true):cz (fJ u p)=true:=by
 have plain:∀ q:PV,np q=true->cz q=true:=by
  intro q hq;cases q with
  |fn g cs=>
   simp only[cz,bX,cF];intro c hc;obtain⟨j,hj⟩:=mG hc;exact .inr (ju (by simpa [np,off,aI]using hq) hj)
  |_=>simp only[cz,hq,nC]
 cases p with
 |fn g cs=>
  simp only[cz,bX,cF]at h;simp only[fJ,cz,bX,cF];intro c hc;obtain⟨j,hj⟩:=mG hc;rw[vj,am]at hj;obtain⟨d,hd,rfl⟩:=hj;rcases h d (bQ hd)with h1|h1
  ·left;cases d<;>simp[gx]at h1<;>rfl
  ·exact .inr (xi hp h1)
 |list m cs t=>exact plain _ (xi hp (by simpa [cz,gx]using h))
 |iptr cs o t=>exact plain _ (xi hp (by simpa [cz,gx]using h))
 |agg cs=>exact plain _ (xi hp (by simpa [cz,gx]using h))
 |tup cs=>exact plain _ (xi hp (by simpa [cz,gx]using h))
 |_=>exact h
def fK(P:Program)(t:Nat):Option Nat:=(P.info? t).map (·.size)
def Rm(G:Gh)(es:List (PV×PV))(vs:List MapEntry):Prop:=
 es.length=vs.length/\∀ (i:Nat) (q:PV×PV) (x:MapEntry),es[i]? =some q->vs[i]? =some x->fN q.1=some x.key/\R G q.2 x.val
def Whole(B:Nat->Nat->Option Value)(b:Nat)(s:Option (Nat×Nat)):Prop:=∃ x,s=some x/\∀ o,o<x.2->B b o≠none
structure bz (P:Program) (B:Nat->Nat->Option Value) (G:Gh) (st:St) (w:World):Prop where
 com:∀ b o v,G.com b o=some v->w.cell? ⟨b,o,none⟩=some v
 sh:∀ b e k,G.sh b=some (e,k)->∃ cur:Array Value,w.heap[b]? =some (.cells cur e (0,0))/\cur.size=k
 nx:G.nx=st.nx
 cnt:∀ t x,G.tk t=some x->t<st.nx/\st.cnt t=x.cnt
 live:∀ t,t<st.nx->∃ x,G.tk t=some x
 room:∀ t r,G.tk t=some (.room r)->G.sh r.b=some (r.e,r.cap*r.sz)/\r.cap<=maxLen/\r.m<=r.cap/\fK P r.e=some r.sz/\(∀ o,r.m*r.sz<=o->G.com r.b o=none)/\G.xp r.b=false
 apart:∀ t u r q,G.tk t=some (.room r)->G.tk u=some (.room q)->r.b=q.b->t=u
 priv:∀ t r,G.tk t=some (.room r)->(st.fl<=t->G.pv r.b=some t)/\∀ j,G.pv r.b=some j->j=t
 objs:∀ s cs,st.objs s=some cs->∃ b e vs,G.ob s=some b/\w.heap[b]? =some (.cells (List.toArray vs) e (0,0))/\Rs G cs vs
 obs:∀ s b,G.ob s=some b->b<w.heap.size/\(∀ o,G.com b o=none)/\G.sh b=none
 obj:∀ s u b,G.ob s=some b->G.ob u=some b->s=u
 nob:∀ s,st.objs s=none->G.ob s=none
 npo:∀ s cs,st.objs s=some cs->aI cs=true
 pvl:∀ b k,G.pv b=some k->b<w.heap.size
 xpl:∀ b,G.xp b=true->b<w.heap.size
 base:∀ b o v,B b o=some v->G.com b o=some v/\G.pv b=none/\Whole B b (G.sh b)
 oes:∀ s b e sz,G.ob s=some b->G.oe s=some (e,sz)->fK P e=some sz/\∃ cur,w.heap[b]? =some (.cells cur e (0,0))
 mobj:∀ s es,st.maps s=some es->∃ b vs clk,G.mb s=some b/\w.heap[b]? =some (.map (List.toArray vs) clk)/\Rm G es vs/\∀ q∈es,np q.2=true
 mbs:∀ s b,G.mb s=some b->∃ vs clk,w.heap[b]? =some (.map vs clk)
 mbi:∀ s u b,G.mb s=some b->G.mb u=some b->s=u
 nomb:∀ s,st.maps s=none->G.mb s=none
 obx:∀ s b,G.ob s=some b->G.pv b=none/\G.xp b=false
 ful:∀ t m,G.tk t=some (.full m)->m=0
structure rD (G G':Gh):Prop where
 com:∀ b o v,G.com b o=some v->G.pv b=none->G'.com b o=some v/\G'.pv b=none
 sh:∀ b x,G.sh b=some x->G'.sh b=some x
 xp:G'.xp=G.xp
def Le.w{G G':Gh}(h:Le G G'):rD G G':=
 ⟨fun b o v hc hp=>⟨h.com b o v hc,by
  cases hk:G'.pv b with
  |none=>rfl
  |some k=>rw[h.pv b k o v hc hk]at hp;cases hp⟩,h.sh,h.xp⟩
def rD.refl(G:Gh):rD G G:=(Le.refl G).w
def rD.trans{G G' G'':Gh}(h:rD G G')(k:rD G' G''):rD G G'':=
 ⟨fun b o v hc hp=>have⟨h1,h2⟩:=h.com b o v hc hp;k.com b o v h1 h2,fun b x hx=>k.sh b x (h.sh b x hx),k.xp.trans h.xp⟩
structure cu (G:Gh) (w:World) (G':Gh) (w':World):Prop where
 le:rD G G'
 size:w.heap.size<=w'.heap.size
 kept:∀ b,b<w.heap.size->(∀ s,G.ob s≠some b)->(∀ t r,G.tk t=some (.room r)->r.b≠b)->(∀ s,G.mb s≠some b)->w'.heap[b]? =w.heap[b]?
 nearO:∀ s b,G'.ob s=some b->(∃ u,G.ob u=some b)\/w.heap.size<=b
 nearT:∀ t r,G'.tk t=some (.room r)->(∃ u q,G.tk u=some (.room q)/\q.b=r.b)\/w.heap.size<=r.b
 nearC:∀ b o v,G'.com b o=some v->G.com b o=some v\/(∃ t r,G.tk t=some (.room r)/\r.b=b)\/w.heap.size<=b
 nearS:∀ b x,G'.sh b=some x->G.sh b=some x\/w.heap.size<=b
 nearP:∀ b k,G'.pv b=some k->(∃ k',G.pv b=some k')\/w.heap.size<=b
 nearM:∀ s b,G'.mb s=some b->(∃ u,G.mb u=some b)\/w.heap.size<=b
 eff:w'.os=w.os/\w'.output=w.output
def cu.refl(G:Gh)(w:World):cu G w G w:=
 ⟨rD.refl G,aE _,fun _ _ _ _ _=>rfl,fun s b h=> .inl ⟨s,h⟩,fun t r h=> .inl ⟨t,r,h,rfl⟩,fun _ _ _ h=> .inl h,fun _ _ h=> .inl h,fun _ k h=> .inl ⟨k,h⟩,fun s b h=> .inl ⟨s,h⟩,⟨rfl,rfl⟩⟩
def cu.trans{G G' G'':Gh}{w w' w'':World}(h:cu G w G' w')(k:cu G' w' G'' w''):cu G w G'' w'' where
 le:=h.le.trans k.le
 eff:=⟨k.eff.1.trans h.eff.1,k.eff.2.trans h.eff.2⟩
 size:=dQ h.size k.size
 kept b hb ho ht hm:=by
  rw[k.kept b (Nat.lt_of_lt_of_le hb h.size) ?_ ?_ ?_,h.kept b hb ho ht hm]
  ·intro s hs;rcases h.nearO s b hs with⟨u,hu⟩|hle
   ·exact ho u hu
   ·omega
  ·intro t r hr e;rcases h.nearT t r hr with⟨u,q,hu,hq⟩|hle
   ·exact ht u q hu (hq.trans e)
   ·omega
  ·intro s hs;rcases h.nearM s b hs with⟨u,hu⟩|hle
   ·exact hm u hu
   ·omega
 nearO s b hs:=by
  rcases k.nearO s b hs with⟨u,hu⟩|hle
  ·exact h.nearO u b hu
  ·exact .inr (dQ h.size hle)
 nearT t r hr:=by
  rcases k.nearT t r hr with⟨u,q,hu,hq⟩|hle
  ·rcases h.nearT u q hu with⟨u',q',hu',hq'⟩|hle
   ·exact .inl ⟨u',q',hu',hq'.trans hq⟩
   ·exact .inr (hq▸hle)
  ·exact .inr (dQ h.size hle)
 nearC b o v hc:=by
  rcases k.nearC b o v hc with hc|⟨t,r,hr,rfl⟩|hle
  ·exact h.nearC b o v hc
  ·rcases h.nearT t r hr with⟨u,q,hu,hq⟩|hle
   ·exact .inr (.inl ⟨u,q,hu,hq⟩)
   ·exact .inr (.inr hle)
  ·exact .inr (.inr (dQ h.size hle))
 nearS b x hs:=by
  rcases k.nearS b x hs with hs|hle
  ·exact h.nearS b x hs
  ·exact .inr (dQ h.size hle)
 nearP b t hp:=by
  rcases k.nearP b t hp with⟨t',hp⟩|hle
  ·exact h.nearP b t' hp
  ·exact .inr (dQ h.size hle)
 nearM s b hs:=by
  rcases k.nearM s b hs with⟨u,hu⟩|hle
  ·exact h.nearM u b hu
  ·exact .inr (dQ h.size hle)
def gW:Value->Option PV
 | .int k n=>some (.int k n)
 | .bool b=>some (.bool b)
 | .string s=>some (.str s)
 | .pointer none=>some .nilp
 | .nilIface=>some .nili
 | .slice none 0 0=>some (.list 0 [] .nil)
 |_=>none
def iw:List Value->Option (List PV)
 | []=>some []
 |v::vs=>match gW v,iw vs with
  |some p,some ps=>some (p::ps)
  |_,_=>none
def bC:Operand->Option CX
 | .tmp t=>some (.sl t)
 | .const v=>(gW v).map .k
 | .global _=>none
 | .func f=>some (.k (.fn f []))
def pO:List Operand->Option (List CX)
 | []=>some []
 |x::xs=>match bC x,pO xs with
  |some c,some cs=>some (c::cs)
  |_,_=>none
variable (P:Program)
def rP(t:Nat):Option Bool:=match P.underlying t with
 |some (.struct _)=>some true
 |some (.array _ _)=>some true
 |some _=>some false
 |none=>none
def gb(t:Nat):Option (List PV):=match P.info? t with
 |some i=>match i.zero with
  |some v=>iw v.cells.toList
  |none=>none
 |none=>none
def zx(t:Nat):Bool:=match P.underlying t with
 |some .string=>true
 |_=>false
def nq(t:Nat):Option Nat:=match P.underlying t with
 |some (.slice e)=>some e
 |_=>none
def yQ(t:Nat):Option PV:=match P.info? t with
 |some i=>match i.zero with
  |some (.agg cs)=>(iw cs.toList).map .agg
  |some v=>gW v
  |none=>none
 |none=>none
def rI(t:Nat):Option (Nat×Nat):=match P.underlying t with
 |some (.map k v)=>match P.underlying k with
  |some (.int _)=>some (0,v)
  |some .string=>some (1,v)
  |some .bool=>some (2,v)
  |_=>none
 |_=>none
def J1(t:Nat):Bool:=match P.underlying t with
 |some (.int .u8)=>true
 |_=>false
def Ap(t:Nat):Bool:=match P.underlying t with
 |some (.interface _)=>true
 |_=>false
def CU(t:Nat):Bool:=match P.underlying t with
 |some .bool=>true
 |_=>false
def kO:Option Operand->Option (Option CX)
 |none=>some none
 |some x=>(bC x).map some
def nG:Operand->Bool
 | .const .nilIface=>true
 |_=>false
def ie(place:Nat->Option (Nat×Nat)):List (Nat×Operand)->Option (List (Nat×Nat×CX))
 | []=>some []
 |(i,x)::r=>match place i,bC x,ie place r with
  |some (off,sz),some c,some cs=>some ((off,sz,c)::cs)
  |_,_,_=>none
def x4(t:Nat):Option (List (Nat×Nat)):=match P.underlying t with
 |some (.struct fs)=>fs.toList.mapM (fun f=>(P.info? f.type).map fun i=>(f.offset,i.size))
 |_=>none
def kq:Op->Option ew
 | .move x=>(bC x).map .mv
 | .assign x=>(bC x).map .mv
 | .pick c a b=>match bC c,bC a,bC b with
  |some c,some a,some b=>some (.pick c a b)
  |_,_,_=>none
 | .build t ps=>match gb P t,x4 P t with
  |some zs,some pl=>match ie (pl.toArray[·]?) ps.toList with
   |some cs=>some (.build zs cs)
   |none=>none
  |_,_=>none
 | .load t a=>match fK P t,rP P t,bC a with
  |some sz,some ag,some a=>some (.load sz ag a)
  |_,_,_=>none
 | .nilCheck x=>(bC x).map .nck
 | .binOp op t x y _=>match bC x,bC y with
  |some cx,some cy=>match nG y,Ap P t,CU P t,op with
   |true,true,_,.eql=>some (.isnil false cx)
   |true,true,_,.neq=>some (.isnil true cx)
   |false,_,true,.eql=>some (.beq false cx cy)
   |false,_,true,.neq=>some (.beq true cx cy)
   |false,_,_,op=>some (.bin op cx cy)
   |_,_,_,_=>none
  |_,_=>none
 | .unOp op _ x=>(bC x).map (.un op)
 | .convert s d x=>match P.underlying s,P.underlying d,bC x with
  |some (.int _),some (.int k),some x=>some (.toInt k x)
  |some .string,some .string,some x=>some (.s2s x)
  |some (.slice e),some .string,some x=>if J1 P e && fK P e==some 1 then some (.b2s x)else none
  |_,_,_=>none
 | .makeFunc (.func f) ⟨[]⟩ ⟨caps⟩=>(pO caps).map (.mkfn f)
 | .makeMap t none=>match rI P t with
  |some _=>some .mkmap
  |none=>none
 | .mapUpdate t m k v=>match rI P t,bC m,bC k,bC v with
  |some (kk,_),some m,some k,some v=>some (.mpset kk m k v)
  |_,_,_,_=>none
 | .lookup t m k ok=>match rI P t,bC m,bC k with
  |some (kk,e),some m,some k=>match yQ P e with
   |some z=>some (.mpget ok z kk m k)
   |none=>none
  |_,_,_=>none
 | .extract x i=>(bC x).map (.ext · i)
 | .fieldAddr s x f=>match P.underlying s,bC x with
  |some (.struct fs),some x=>match fs[f]? with
   |some fd=>match fK P fd.type with
    |some (_+1)=>some (.fad fd.offset x)
    |_=>none
   |none=>none
  |_,_=>none
 | .field s x f=>match P.underlying s,bC x with
  |some (.struct fs),some x=>match fs[f]? with
   |some fd=>match fK P fd.type,rP P fd.type with
    |some sz,some ag=>some (.fld fd.offset sz ag x)
    |_,_=>none
   |none=>none
  |_,_=>none
 | .indexAddr t x i=>match nq P t,bC x,bC i with
  |some e,some x,some i=>match fK P e with
   |some sz=>some (.iad sz x i)
   |none=>none
  |_,_,_=>none
 | .index t x i=>match zx P t,bC x,bC i with
  |true,some x,some i=>some (.sidx x i)
  |_,_,_=>none
 | .slice t x lo hi none=>match bC x,kO lo,kO hi with
  |some x,some lo,some hi=>if zx P t then some (.ssl x lo hi)else match nq P t with
   |some e=>match fK P e with
    |some sz=>some (.slc sz x lo hi)
    |none=>none
   |none=>none
  |_,_,_=>none
 | .alloc e=>(gb P e).map .alloc
 | .box e x=>match fK P e,bC x with
  |some sz,some x=>some (.box sz x)
  |_,_=>none
 | .store t a x=>match fK P t,bC a,bC x with
  |some sz,some a,some x=>some (.store sz a x)
  |_,_,_=>none
 | .buildSlice t n ps=>match nq P t with
  |some e=>match fK P e,gb P e with
   |some sz,some zs=>match ie (fun i=>some (i*sz,sz)) ps.toList with
    |some cs=>if n*sz<=16777216 then some (.bsl e sz zs n cs)else none
    |none=>none
   |_,_=>none
  |none=>none
 | .makeSlice t l c=>match nq P t with
  |some e=>match P.info? e,gb P e,bC l,bC c with
   |some i,some zs,some l,some c=>match l with
    | .k (.int .i64 0)=>if zs.length=i.size then some (.mk0 e i.size i.bytes l c)else none
    |_=>some (.mks e i.size i.bytes zs l c)
   |_,_,_,_=>none
  |none=>none
 | .call {callee:= .builtin .append,args:=⟨[x,y]⟩,argTypes:=⟨[t,t']⟩}=>match nq P t with
  |some e=>match P.info? e,gb P e,bC x,bC y with
   |some i,some zs,some x,some y=>if t=t'/\zs.length=i.size then some (.app e i.size i.bytes x y)else none
   |_,_,_,_=>none
  |none=>none
 | .call {callee:= .builtin .len,args:=⟨[x]⟩,argTypes:=⟨[t]⟩}=>match bC x with
  |some x=>if zx P t then some (.slen x)else if(nq P t).isSome then some (.len x)else if(rI P t).isSome then some (.mplen x)else none
  |none=>none
 |_=>none
def eT(G:Gh)(nt:Nat)(fr:Fr)(a:Act):Prop:=nt<=a.tmps.size/\(∀ t,R G (fr t) (a.tmps.getD t undef))/\∀ t,cz (fr t)=true
def v8(G:Gh):∀ {v:Value} {p:PV},gW v=some p->R G p v:=by
 intro v p h;cases v with
 |int k n=>simp[gW]at h;subst h;exact .int k n
 |bool b=>simp[gW]at h;subst h;exact .bool b
 |string s=>simp[gW]at h;subst h;exact .str s
 |pointer a=>cases a with
  |none=>simp[gW]at h;subst h;exact .nilp
  |some a=>simp[gW]at h
 |nilIface=>simp[gW]at h;subst h;exact .nili
 |slice a n c=>
  unfold gW at h;split at h
  all_goals first
   |(rename_i e;cases e;done)
   |(rename_i e;cases e;cases h;exact .listN _ trivial)
   |(cases h;done)
 |_=>simp[gW]at h
def cE{G:Gh}{nt:Nat}{fr:Fr}{a:Act}(hF:eT G nt fr a){x:Operand}{c:CX}(h:bC x=some c):R G (c.ev fr) (a.eval x):=by
 cases x with
 |tmp t=>simp[bC]at h;subst h;exact hF.2.1 t
 |const v=>
  simp only[bC,am]at h;obtain⟨p,hp,rfl⟩:=h;exact v8 G hp
 |global g=>simp[bC]at h
 |func f=>simp[bC]at h;subst h;exact .fn f [] [] rfl (fun j p u hp=>by simp at hp)
end Go.PM
namespace Go.PM
variable {P:Program} {B:Nat->Nat->Option Value}
def bm{t:Nat}{d:TypeDesc}(w:World)(h:P.underlying t=some d):(underlying t).run P w= .ok d w:=by
 simp[underlying,h]
def gV{t n:Nat}(w:World)(h:fK P t=some n):(sizeOf t).run P w= .ok n w:=by
 simp only[fK,am]at h;obtain⟨i,hi,rfl⟩:=h;simp[sizeOf,typeInfo,hi]
def sQ{t:Nat}{b:Bool}(w:World)(h:rP P t=some b):(isAgg t).run P w= .ok b w:=by
 unfold rP at h;cases hu:P.underlying t with
 |none=>rw[hu]at h;simp at h
 |some d=>
  rw[hu]at h;simp only[isAgg,Sem.run_bind,bm w hu,dd];cases d<;>simp at h<;>subst h<;>rfl
def oP(b o n:Nat):(⟨b,o,none⟩:Addr).add n=⟨b,o+n,none⟩:=by
 unfold Addr.add;split
 ·rename_i h;subst h;rfl
 ·rfl
def qM{G:Gh}{w:World}{t sz:Nat}{ag:Bool}(hs:fK P t=some sz)(hg:rP P t=some ag){b o off:Nat}{cs:List PV}{us:List Value}
  (hl:cs.length=us.length) (hr:∀ (j:Nat) (p:PV) (u:Value),cs[j]? =some p->us[j]? =some u->R G p u) (h1:∀ u∈us,u.oneCell'=true)
  (hc:∀ (j:Nat) (u:Value),us[j]? =some u->w.cell? ⟨b,o+j,none⟩=some u) {p:PV} (hp:bI cs off sz ag=some p):
  ∃ v,(loadVar t ⟨b,o+off,none⟩).run P w= .ok v w/\R G p v:=by
 unfold bI at hp;by_cases hle:off+sz<=cs.length
 case neg=>rw[ad hle]at hp;cases hp
 rw[ak hle]at hp;cases ag with
 |true=>
  rw[ak rfl]at hp;cases hp;have hlen:((us.drop off).take sz).length=sz:=by rw[aG,aU];omega
  have hload:=run_loadCells_list (P:=P) w ⟨b,o+off,none⟩ ((us.drop off).take sz) (fun j v hj=>by
   rw[oP];have hj':j<sz:=by
    have:=br.1 hj;obtain⟨h,_⟩:=this;omega
   rw[cY hj',d5]at hj;rw[kP];exact hc _ _ hj)
  rw[hlen]at hload;refine⟨.agg ((us.drop off).take sz).toArray,?_,.agg _ _ ?_ ?_ ?_⟩
  ·simp[loadVar,sQ w hg,gV w hs,hload]
  ·rw[hlen,aG,aU];omega
  ·intro j p u hp hu;by_cases hj:j<sz
   ·rw[cY hj,d5]at hp hu;exact hr _ _ _ hp hu
   ·rw[iq (by omega)]at hp;cases hp
  ·intro u hu;exact h1 u (cW (eV hu))
 |false=>
  rw[ad (by simp)]at hp;by_cases h1s:sz=1
  case neg=>rw[ad h1s]at hp;cases hp
  rw[ak h1s]at hp;have hlt:off<us.length:=by
   have:=br.1 hp;obtain⟨h,_⟩:=this;omega
  have hu:us[off]? =some us[off]:=ax hlt;exact⟨us[off],by simp[loadVar,sQ w hg,hc _ _ hu],hr _ _ _ hp hu⟩
def pC{α:Type}:∀ (vs cs:List α) (off:Nat),(bD cs off vs).length=cs.length
 | [],_,_=>rfl
 |v::vs,cs,off=>by simp[bD,pC vs]
def bz.box{G:Gh}{st:St}{w:World}(hI:bz P B G st w){s b:Nat}{cs:List PV}(h:st.objs s=some cs)(hb:G.ob s=some b):
  ∃ e vs,w.heap[b]? =some (.cells (List.toArray vs) e (0,0))/\Rs G cs vs/\∀ (j:Nat) (u:Value),vs[j]? =some u->w.cell? ⟨b,0+j,none⟩=some u:=by
 obtain⟨b',e,vs,hb',hh,hR⟩:=hI.objs s cs h;rw[hb]at hb';cases hb';refine⟨e,vs,hh,hR,fun j u hu=>?_⟩;simp[World.cell?,hh,hu]
def jp(P:Program)(G:Gh)(w:World)(x:Sem Next)(p:PV):Prop:=∃ v,x.run P w= .ok (.value v) w/\R G p v
def jJ{G:Gh}{w:World}{s:Sem Value}{p:PV}{v:Value}(h:s.run P w= .ok v w)(hR:R G p v):
  jp P G w (do pure (.value (<-s))) p:=⟨v,by simp[h],hR⟩
def tU{G:Gh}{p:PV}{v u:Value}(h:R G p v)(hu:fN p=some u):v=u:=by
 cases h<;>simp[fN]at hu<;>exact hu
def ET{G:Gh}{v:Value}{p:PV}(h:ib v=some p):R G p v:=by
 cases v<;>simp[ib]at h<;>subst h
 ·exact .bool _
 ·exact .int _ _
 ·exact .str _
def D2{α:Type}{s:Sem α}{v:α}(h:pf s=some v)(w:World):s.run P w= .ok v w:=by
 cases s<;>simp[pf]at h
 subst h;rfl
def pt{p:PV}{u:Value}(h:fN p=some u):(∃ k n,u= .int k n)\/(∃ b,u= .bool b)\/∃ s,u= .string s:=by
 cases p<;>simp[fN]at h<;>subst h
 ·exact .inl ⟨_,_,rfl⟩
 ·exact .inr (.inl ⟨_,rfl⟩)
 ·exact .inr (.inr ⟨_,rfl⟩)
def GU{op:BinOp}{a b v:Value}(ha:(∃ k n,a= .int k n)\/(∃ b,a= .bool b)\/∃ s,a= .string s)(hb:(∃ k n,b= .int k n)\/(∃ b',b= .bool b')\/∃ s,b= .string s)
  (h:pf (binOp op 0 a b)=some v) (t:Nat):binOp op t a b= .pure v:=by
 have hp:∀ (s:Sem Value),pf s=some v->s= .pure v:=by
  intro s hs;cases s<;>simp[pf]at hs;subst hs;rfl
 have h':=hp _ h;rcases ha with⟨k,n,rfl⟩|⟨x,rfl⟩|⟨x,rfl⟩<;>rcases hb with⟨k',n',rfl⟩|⟨y,rfl⟩|⟨y,rfl⟩
 all_goals first
  |(rw[<-h'];cases op<;>rfl)
  |(exfalso;cases op<;>cases h')
section
variable {G:Gh} {nt:Nat} {fr:Fr} {st st':St} {w:World} {a:Act} {o:Oper} {co:ew} {d:Option Nat} {cf:aA} {p:PV}
def Au{op:BinOp}{t:Nat}{x y:Operand}{u v:Value}(hu:(∃ k n,u= .int k n)\/(∃ b,u= .bool b)\/∃ s,u= .string s):eqGuard op t x y u v=pure ():=by
 unfold eqGuard;rcases hu with⟨k,n,rfl⟩|⟨b,rfl⟩|⟨s,rfl⟩<;>(cases op<;>rfl)
def Js(hF:eT G nt fr a){op:BinOp}{t yt:Nat}{x y:Operand}(hop:o.op= .binOp op t x y yt){cx cy:CX}(hx:bC x=some cx)(hy:bC y=some cy)
  (h:dS op (cx.ev fr) (cy.ev fr)=some p):jp P G w (execOp a.eval o) p:=by
 have hRx:=cE hF hx;have hRy:=cE hF hy;simp only[execOp,hop];unfold dS at h;split at h
 ·rename_i u v hu hv;have e1:=tU hRx hu;have e2:=tU hRy hv;simp only[bK]at h;obtain⟨r,hr,hp⟩:=h;have hb:=GU (pt hu) (pt hv) hr t;refine jJ (v:=r) ?_ (ET hp);rw[e1,e2,Au (pt hu)];simp[hb]
 ·cases h
def sR{t:Nat}{ms:Array (String×TypeId)}(hu:P.underlying t=some (.interface ms))(u:TypeId)(v:Value):(Op.equal t (.iface u v) .nilIface).run P w= .ok false w:=by
 unfold Op.equal Op.maxDepth;rw[Op.equalIn,Sem.run_bind,bm w hu];rfl
def vt{t:Nat}{ms:Array (String×TypeId)}(hu:P.underlying t=some (.interface ms)):(Op.equal t .nilIface .nilIface).run P w= .ok true w:=by
 unfold Op.equal Op.maxDepth;rw[Op.equalIn,Sem.run_bind,bm w hu];rfl
def tV{t:Nat}(hu:P.underlying t=some .bool)(x y:Bool):(Op.equal t (.bool x) (.bool y)).run P w= .ok (x==y) w:=by
 unfold Op.equal Op.maxDepth;rw[Op.equalIn,Sem.run_bind,bm w hu];rfl
def Co(t:Nat)(x y:Value){b:Bool}(hb:binOp .eql t x y=(do pure (.bool (<-Op.equal t x y))))(h:(Op.equal t x y).run P w= .ok b w):(binOp .eql t x y).run P w= .ok (.bool b) w:=by
 rw[hb,Sem.run_bind,h];rfl
def Cn(t:Nat)(x y:Value){b:Bool}(hb:binOp .neq t x y=(do pure (.bool (!(<-Op.equal t x y)))))(h:(Op.equal t x y).run P w= .ok b w):(binOp .neq t x y).run P w= .ok (.bool !b) w:=by
 rw[hb,Sem.run_bind,h];rfl
def yV(hF:eT G nt fr a){op:BinOp}{t yt:Nat}{x y:Operand}(hop:o.op= .binOp op t x y yt){cx:CX}(hx:bC x=some cx)(hy:nG y=true)
  (hi:Ap P t=true) {neg:Bool} (hn:(op= .eql/\neg=false)\/(op= .neq/\neg=true))
  (h:aw cf fr st d (.isnil neg cx)=some (p,st')):st'=st/\jp P G w (execOp a.eval o) p:=by
 have hRx:=cE hF hx;have hyv:a.eval y= .nilIface:=by
  cases y with
  |const v=>cases v<;>simp[nG]at hy;rfl
  |_=>simp[nG]at hy
 have hyc:(y matches .const _)=true:=by
  cases y with
  |const v=>rfl
  |_=>simp[nG]at hy
 obtain⟨ms,hu⟩:∃ ms,P.underlying t=some (.interface ms):=by
  unfold Ap at hi;split at hi
  ·exact⟨_,by assumption⟩
  ·cases hi
 have hrun:∀ w:World,(underlying t).run P w= .ok (.interface ms) w:=fun w=>bm w hu;simp only[aw]at h;simp only[execOp,hop,hyv];generalize a.eval x=xv at hRx;split at h
 ·rename_i e;rw[e]at hRx;cases h;cases hRx with
  |err u v=>
   refine⟨rfl,jJ (v:= .bool neg) ?_ (.bool _)⟩;rcases hn with⟨rfl,rfl⟩|⟨rfl,rfl⟩
   ·exact Co t _ _ rfl (sR hu u v)
   ·exact Cn t _ _ rfl (sR hu u v)
 ·rename_i e;rw[e]at hRx;cases h;cases hRx with
  |nili=>
   refine⟨rfl,jJ (v:= .bool (!neg)) ?_ (.bool _)⟩;have hyc':∃ v,y= .const v:=by
    cases y with
    |const v=>exact⟨v,rfl⟩
    |_=>simp[nG]at hy
   obtain⟨v,rfl⟩:=hyc';rcases hn with⟨rfl,rfl⟩|⟨rfl,rfl⟩
   ·have hg:eqGuard .eql t x (.const v) .nilIface .nilIface=pure ():=by simp[eqGuard]
    rw[hg];exact Co t _ _ rfl (vt hu)
   ·have hg:eqGuard .neq t x (.const v) .nilIface .nilIface=pure ():=by simp[eqGuard]
    rw[hg];exact Cn t _ _ rfl (vt hu)
 ·cases h
def Ck(hF:eT G nt fr a){op:BinOp}{t yt:Nat}{x y:Operand}(hop:o.op= .binOp op t x y yt){cx cy:CX}(hx:bC x=some cx)(hy:bC y=some cy)
  (hi:CU P t=true) {neg:Bool} (hn:(op= .eql/\neg=false)\/(op= .neq/\neg=true))
  (h:aw cf fr st d (.beq neg cx cy)=some (p,st')):st'=st/\jp P G w (execOp a.eval o) p:=by
 have hRx:=cE hF hx;have hRy:=cE hF hy;have hu:P.underlying t=some .bool:=by
  unfold CU at hi;split at hi
  ·assumption
  ·cases hi
 have hrun:∀ w:World,(underlying t).run P w= .ok .bool w:=fun w=>bm w hu;simp only[aw]at h;simp only[execOp,hop];generalize a.eval x=xv at hRx;generalize a.eval y=yv at hRy;split at h
 ·rename_i e1 e2;rw[e1]at hRx;rw[e2]at hRy;cases h;cases hRx;cases hRy;refine⟨rfl,jJ (v:= .bool _) ?_ (.bool _)⟩;rcases hn with⟨rfl,rfl⟩|⟨rfl,rfl⟩
  ·exact Co t _ _ rfl (tV hu _ _)
  ·exact Cn t _ _ rfl (tV hu _ _)
 ·cases h
def Lu(hF:eT G nt fr a){op:UnOp}{t:Nat}{x:Operand}(hop:o.op= .unOp op t x){cx:CX}(hx:bC x=some cx)
  (h:vr op (cx.ev fr)=some p):jp P G w (execOp a.eval o) p:=by
 have hRx:=cE hF hx;simp only[execOp,hop];unfold vr at h;split at h
 ·rename_i u hu;have e1:=tU hRx hu;simp only[bK]at h;obtain⟨r,hr,hp⟩:=h;refine jJ (v:=r) ?_ (ET hp);rw[e1];exact D2 hr w
 ·cases h
end
section
variable {G:Gh} {nt:Nat} {fr:Fr} {st st':St} {w:World} {a:Act} {o:Oper} {co:ew} {d:Option Nat} {cf:aA} {p:PV}
def EC(hF:eT G nt fr a){x:Operand}(hop:o.op= .move x\/o.op= .assign x){cx:CX}(hx:bC x=some cx)
  (h:aw cf fr st d (.mv cx)=some (p,st')):st'=st/\jp P G w (execOp a.eval o) p:=by
 cases h;refine⟨rfl,a.eval x,?_,cE hF hx⟩;rcases hop with hop|hop<;>simp only[execOp,hop]<;>rfl
def Ho(hF:eT G nt fr a){c x y:Operand}(hop:o.op= .pick c x y){cc cx cy:CX}(hc:bC c=some cc)(hx:bC x=some cx)(hy:bC y=some cy)
  (h:aw cf fr st d (.pick cc cx cy)=some (p,st')):st'=st/\jp P G w (execOp a.eval o) p:=by
 have hRc:=cE hF hc;simp only[aw]at h;simp only[execOp,hop];generalize a.eval c=cv at hRc;split at h
 ·rename_i e;rw[e]at hRc;cases hRc;cases h;exact⟨rfl,a.eval x,by simp[asBool],cE hF hx⟩
 ·rename_i e;rw[e]at hRc;cases hRc;cases h;exact⟨rfl,a.eval y,by simp[asBool],cE hF hy⟩
 ·cases h
def Hq(hI:bz P B G st w)(hF:eT G nt fr a){t:Nat}{x:Operand}(hop:o.op= .load t x){cx:CX}(hx:bC x=some cx){sz:Nat}{ag:Bool}(hs:fK P t=some sz)(hg:rP P t=some ag)
  (h:aw cf fr st d (.load sz ag cx)=some (p,st')):st'=st/\jp P G w (execOp a.eval o) p:=by
 have hR:=cE hF hx;simp only[aw]at h;simp only[execOp,hop];generalize a.eval x=xv at hR;split at h
 ·rename_i s off e;rw[e]at hR;cases hR with
  |ptr _ _ b hb=>
   split at h
   ·rename_i cs hcs;simp only[am]at h;obtain⟨q,hq,hqe⟩:=h;cases hqe;obtain⟨e',vs,hh,hRs,hcell⟩:=hI.box hcs hb;obtain⟨v,hv,hRv⟩:=qM (P:=P) (o:=0) (off:=off) hs hg hRs.1 hRs.2.1 hRs.2.2 hcell hq;rw[aq]at hv;exact⟨rfl,v,by simp[Instr.loadAt,Instr.sureAddr,hv],hRv⟩
   ·cases h
 ·rename_i cs off tk e;rw[e]at hR;cases hR with
  |iptr _ _ _ b o' us hl hc hr h1 _ _ _=>
   simp only[am]at h;obtain⟨q,hq,hqe⟩:=h;cases hqe;obtain⟨v,hv,hRv⟩:=qM (P:=P) (w:=w) hs hg hl hr h1 (fun j u hu=>hI.com _ _ _ (hc j u hu)) hq;exact⟨rfl,v,by simp[Instr.loadAt,Instr.sureAddr,hv],hRv⟩
 ·cases h
def Jm(hF:eT G nt fr a){x:Operand}(hop:o.op= .nilCheck x){cx:CX}(hx:bC x=some cx)
  (h:aw cf fr st d (.nck cx)=some (p,st')):st'=st/\jp P G w (execOp a.eval o) p:=by
 have hR:=cE hF hx;simp only[aw]at h;simp only[execOp,hop];generalize a.eval x=xv at hR;split at h
 all_goals first
  |(cases h;done)
  |(rename_i e
    rw[e]at hR;cases h;refine⟨rfl,xv,?_,hR⟩;cases hR<;>rfl)
def FR(hF:eT G nt fr a){s t:Nat}{x:Operand}(hop:o.op= .convert s t x){cx:CX}(hx:bC x=some cx){k0 k:IntKind}(hs:P.underlying s=some (.int k0))(ht:P.underlying t=some (.int k))
  (h:aw cf fr st d (.toInt k cx)=some (p,st')):st'=st/\jp P G w (execOp a.eval o) p:=by
 have hR:=cE hF hx;simp only[aw]at h;simp only[execOp,hop];generalize a.eval x=xv at hR;split at h
 ·rename_i e;rw[e]at hR;cases hR;cases h;exact⟨rfl,_,by simp[convert,bm w hs,bm w ht,Conv.intToInt],.int _ _⟩
 ·cases h
def D1(hF:eT G nt fr a){s t:Nat}{x:Operand}(hop:o.op= .convert s t x){cx:CX}(hx:bC x=some cx)(hs:P.underlying s=some .string)(ht:P.underlying t=some .string)
  (h:aw cf fr st d (.s2s cx)=some (p,st')):st'=st/\jp P G w (execOp a.eval o) p:=by
 have hR:=cE hF hx;simp only[aw]at h;simp only[execOp,hop];generalize a.eval x=xv at hR;split at h
 ·rename_i e;rw[e]at hR;cases hR;cases h;exact⟨rfl,_,by simp[convert,bm w hs,bm w ht],.str _⟩
 ·cases h
def Jr(hF:eT G nt fr a){x:Operand}{i:Nat}(hop:o.op= .extract x i){cx:CX}(hx:bC x=some cx)
  (h:aw cf fr st d (.ext cx i)=some (p,st')):st'=st/\jp P G w (execOp a.eval o) p:=by
 have hR:=cE hF hx;simp only[aw]at h;simp only[execOp,hop];generalize a.eval x=xv at hR;split at h
 ·rename_i vs e;rw[e]at hR;cases hR with
  |tup _ us hl hr=>
   simp only[am]at h;obtain⟨q,hq,hqe⟩:=h;cases hqe;have hlt:i<us.length:=by
    have:=br.1 hq;obtain⟨h,_⟩:=this;omega
   exact⟨rfl,us[i],by simp[Instr.extract,hlt],hr i _ _ hq (ax hlt)⟩
 ·cases h
def Jq(hF:eT G nt fr a){s:Nat}{x:Operand}{f:Nat}(hop:o.op= .fieldAddr s x f){cx:CX}(hx:bC x=some cx){fs:Array Field}{fd:Field}{n:Nat}(hu:P.underlying s=some (.struct fs))
  (hf:fs[f]? =some fd) (hs:fK P fd.type=some (n+1)) (h:aw cf fr st d (.fad fd.offset cx)=some (p,st')):st'=st/\jp P G w (execOp a.eval o) p:=by
 have hR:=cE hF hx;simp only[aw]at h;simp only[execOp,hop];generalize a.eval x=xv at hR;have hrun:∀ (b o':Nat),(Instr.fieldAt s (.pointer (some ⟨b,o',none⟩)) f).run P w= .ok (.pointer (some ⟨b,o'+fd.offset,none⟩)) w:=by
  intro b o';simp only[Instr.fieldAt,Sem.run_bind,bm w hu,dd,hf,Instr.sureAddr,fieldPlace,Sem.run_pure,gV w hs];simp[oP]
 split at h
 ·rename_i k off e;rw[e]at hR;cases h;cases hR with
  |ptr _ _ b hb=>exact⟨rfl,_,by simp[hrun],.ptr _ _ _ hb⟩
 ·rename_i cs off tk e;rw[e]at hR;cases h;cases hR with
  |iptr _ _ _ b o' us hl hc hr h1 htp hp hx'=>exact⟨rfl,.pointer (some ⟨b,o'+(off+fd.offset),none⟩),by simp[hrun,kP],.iptr _ _ _ _ _ us hl hc hr h1 htp hp hx'⟩
 ·cases h
def Ju{cs:List PV}{us:List Value}{t sz off:Nat}{ag:Bool}(hs:fK P t=some sz)(hg:rP P t=some ag)(hl:cs.length=us.length)
  (hr:∀ (j:Nat) (p:PV) (u:Value),cs[j]? =some p->us[j]? =some u->R G p u) (h1:∀ u∈us,u.oneCell'=true) (hp:bI cs off sz ag=some p):
  ∃ v,(part t us.toArray off).run P w= .ok v w/\R G p v:=by
 unfold bI at hp;by_cases hle:off+sz<=cs.length
 case neg=>rw[ad hle]at hp;cases hp
 rw[ak hle]at hp;cases ag with
 |true=>
  rw[ak rfl]at hp;cases hp;have hlen:((us.drop off).take sz).length=sz:=by rw[aG,aU];omega
  refine⟨.agg ((us.drop off).take sz).toArray,?_,.agg _ _ ?_ ?_ ?_⟩
  ·simp[part,sQ w hg,gV w hs]
  ·rw[hlen,aG,aU];omega
  ·intro j p u hp hu;by_cases hj:j<sz
   ·rw[cY hj,d5]at hp hu;exact hr _ _ _ hp hu
   ·rw[iq (by omega)]at hp;cases hp
  ·intro u hu;exact h1 u (cW (eV hu))
 |false=>
  rw[ad (by simp)]at hp;by_cases h1s:sz=1
  case neg=>rw[ad h1s]at hp;cases hp
  rw[ak h1s]at hp;have hlt:off<us.length:=by
   have:=br.1 hp;obtain⟨h,_⟩:=this;omega
  exact⟨us[off],by simp[part,sQ w hg,hlt],hr _ _ _ hp (ax hlt)⟩
def Jp(hF:eT G nt fr a){s:Nat}{x:Operand}{f:Nat}(hop:o.op= .field s x f){cx:CX}(hx:bC x=some cx){fs:Array Field}{fd:Field}{sz:Nat}{ag:Bool}(hu:P.underlying s=some (.struct fs))
  (hf:fs[f]? =some fd) (hs:fK P fd.type=some sz) (hg:rP P fd.type=some ag) (h:aw cf fr st d (.fld fd.offset sz ag cx)=some (p,st')):st'=st/\jp P G w (execOp a.eval o) p:=by
 have hR:=cE hF hx;simp only[aw]at h;simp only[execOp,hop];generalize a.eval x=xv at hR;split at h
 ·rename_i cs e;rw[e]at hR;simp only[am]at h;obtain⟨q,hq,hqe⟩:=h;cases hqe;cases hR with
  |agg _ us hl hr h1=>
   obtain⟨v,hv,hRv⟩:=Ju (P:=P) (w:=w) hs hg hl hr h1 hq;exact⟨rfl,v,by simp[Instr.field,bm w hu,hf,asAgg,hv],hRv⟩
 ·cases h
def Jo(hF:eT G nt fr a){t e0:Nat}{x i:Operand}(hop:o.op= .indexAddr t x i){cx ci:CX}(hx:bC x=some cx)(hi:bC i=some ci){sz:Nat}(hu:P.underlying t=some (.slice e0))(hs:fK P e0=some sz)
  (h:aw cf fr st d (.iad sz cx ci)=some (p,st')):st'=st/\jp P G w (execOp a.eval o) p:=by
 have hR:=cE hF hx;have hRi:=cE hF hi;simp only[aw]at h;simp only[execOp,hop];generalize a.eval x=xv at hR;generalize a.eval i=iv at hRi;split at h
 ·rename_i n cs tk k j e1 e2;rw[e1]at hR;rw[e2]at hRi;split at h
  ·rename_i hb;cases h;cases hRi;cases hR with
   |listN=>omega
   |listE=>omega
   |list _ _ _ b o' cap us hn hl hc hr h1 ht hp hx'=>
    refine⟨rfl,.pointer (some ⟨b,o'+j.toNat*sz,none⟩),?_,.iptr _ _ _ _ _ us hl hc hr h1 (N5 ht) (elt_of hp) (fun h1 h2=>hx' h1 (aB.elt_no h2))⟩;simp only[Instr.indexAt,asIntOf,Sem.run_bind,Sem.run_pure,dd,bm w hu];simp[hb.1,hb.2.1,oP,gV w hs]
  ·cases h
 ·rename_i ee esz s n k j e1 e2;rw[e1]at hR;rw[e2]at hRi;split at h
  ·rename_i hb;cases h;cases hRi;cases hR with
   |osl _ _ _ _ b hbb hee=>
    refine⟨rfl,.pointer (some ⟨b,0+j.toNat*sz,none⟩),?_,?_⟩
    ·simp only[Instr.indexAt,asIntOf,Sem.run_bind,Sem.run_pure,dd,bm w hu];simp[hb.1,hb.2,oP,gV w hs]
    ·rw[aq];exact .ptr _ _ _ hbb
  ·cases h
 ·cases h
def Hn(hF:eT G nt fr a){t:Nat}{x i:Operand}(hop:o.op= .index t x i){cx ci:CX}(hx:bC x=some cx)(hi:bC i=some ci)(hu:P.underlying t=some .string)
  (h:aw cf fr st d (.sidx cx ci)=some (p,st')):st'=st/\jp P G w (execOp a.eval o) p:=by
 have hR:=cE hF hx;have hRi:=cE hF hi;simp only[aw]at h;simp only[execOp,hop];generalize a.eval x=xv at hR;generalize a.eval i=iv at hRi;split at h
 ·rename_i s k j e1 e2;rw[e1]at hR;rw[e2]at hRi;split at h
  ·rename_i hb;cases h;cases hRi;cases hR;refine⟨rfl,_,?_,.int _ _⟩;simp only[Instr.index,asIntOf,Sem.run_bind,Sem.run_pure,dd,bm w hu];simp[hb.1,hb.2]
  ·cases h
 ·cases h
def Hm(hF:eT G nt fr a){t:Nat}{x:Operand}(hop:o.op= .call {callee:= .builtin .len,args:= #[x],argTypes:= #[t]}){cx:CX}(hx:bC x=some cx)
  (hu:P.underlying t=some .string) (h:aw cf fr st d (.slen cx)=some (p,st')):st'=st/\jp P G w (execOp a.eval o) p:=by
 have hR:=cE hF hx;simp only[aw]at h;simp only[execOp,hop,resolve,invoke,builtin];generalize hxe:a.eval x=xv at hR;split at h
 ·rename_i s e;rw[e]at hR;cases hR;cases h;exact⟨rfl,goInt s.size,by simp[hxe,Builtin.len_,bm w hu],.int _ _⟩
 ·cases h
def Jn(hF:eT G nt fr a){t e0:Nat}{x:Operand}(hop:o.op= .call {callee:= .builtin .len,args:= #[x],argTypes:= #[t]}){cx:CX}(hx:bC x=some cx)
  (hu:P.underlying t=some (.slice e0)) (h:aw cf fr st d (.len cx)=some (p,st')):st'=st/\jp P G w (execOp a.eval o) p:=by
 have hR:=cE hF hx;simp only[aw]at h;simp only[execOp,hop,resolve,invoke,builtin];generalize hxe:a.eval x=xv at hR;split at h
 ·rename_i n cs k e;rw[e]at hR;cases h;refine⟨rfl,goInt n,?_,.int _ _⟩;cases hR<;>simp[hxe,Builtin.len_,bm w hu]
 ·rename_i e' sz' s n e;rw[e]at hR;cases h;refine⟨rfl,goInt n,?_,.int _ _⟩;cases hR<;>simp[hxe,Builtin.len_,bm w hu]
 ·cases h
end
def D4:∀ {v:Value} {p:PV},gW v=some p->v.oneCell'=true:=by
 intro v p h;cases v<;>simp[gW]at h<;>rfl
def od(G:Gh):∀ {vs:List Value} {ps:List PV},iw vs=some ps->Rs G ps vs
 | [],ps,h=>by
  simp[iw]at h;subst h;exact⟨rfl,fun j p u hp=>by simp at hp,fun u hu=>by simp at hu⟩
 |v::vs,ps,h=>by
  unfold iw at h;split at h
  ·rename_i p ps' hp hps;cases h;obtain⟨hl,hr,h1⟩:=od G hps;refine⟨by simp[hl],fun j q u hq hu=>?_,fun u hu=>?_⟩
   ·cases j with
    |zero=>simp at hq hu;subst hq;subst hu;exact v8 G hp
    |succ j=>exact hr j q u (by simpa using hq) (by simpa using hu)
   ·rcases aX.1 hu with rfl|hu
    ·exact D4 hp
    ·exact h1 u hu
  ·cases h
def Rs.set{G:Gh}{cs:List PV}{us:List Value}(h:Rs G cs us)(off:Nat){p:PV}{u:Value}(hR:R G p u)(h1:u.oneCell'=true):Rs G (cs.set off p) (us.set off u):=by
 obtain⟨hl,hr,ho⟩:=h;refine⟨by simp[hl],fun j q v hq hv=>?_,fun v hv=>?_⟩
 ·by_cases hj:off=j
  ·subst hj;rw[List.getElem?_set]at hq hv;simp only[if_true]at hq hv;split at hq
   ·cases hq;split at hv
    ·cases hv;exact hR
    ·cases hv
   ·cases hq
  ·rw[jP hj]at hq hv;exact hr j q v hq hv
 ·rcases fH hv with hv|rfl
  ·exact ho v hv
  ·exact h1
def Rs.put{G:Gh}:∀ {ds:List PV} {vs:List Value} {cs:List PV} {us:List Value} (off:Nat),Rs G cs us->Rs G ds vs->Rs G (bD cs off ds) (bD us off vs)
 | [],[],_,_,_,h,_=>h
 | [],_::_,_,_,_,_,h=>by have:=h.1;simp at this
 |_::_,[],_,_,_,_,h=>by have:=h.1;simp at this
 |d::ds,v::vs,cs,us,off,h,h'=>by
  obtain⟨hl,hr,h1⟩:=h';exact Rs.put (off+1) (h.set off (hr 0 d v rfl rfl) (h1 v (by simp))) ⟨by simpa using hl,fun j p u hp hu=>hr (j+1) p u (by simpa using hp) (by simpa using hu),fun u hu=>h1 u (by simp[hu])⟩
def C2:∀ (vs:List Value) (k off:Nat) (cells:Array Value),((vs.zipIdx k).foldl (fun cs (x:Value×Nat)=>cs.setIfInBounds (off+x.2) x.1) cells).toList=bD cells.toList (off+k) vs
 | [],_,_,_=>rfl
 |v::vs,k,off,cells=>by
  simp only[List.zipIdx_cons,lm,bD];rw[C2 vs (k+1) off (cells.setIfInBounds (off+k) v)];simp[kP]
def Ih(v:Value)(off:Nat)(cells:Array Value):(v.cells.zipIdx.foldl (fun cs (x:Value×Nat)=>cs.setIfInBounds (off+x.2) x.1) cells).toList=bD cells.toList off v.cells.toList:=by
 rw[<-Array.foldl_toList,Array.toList_zipIdx];exact C2 v.cells.toList 0 off cells
def rN{G:Gh}{p:PV}{v:Value}(hR:R G p v){cs:List PV}(h:cellsOf p=some cs):Rs G cs v.cells.toList:=by
 unfold cellsOf at h;split at h
 ·cases h;cases hR with
  |agg _ vs hl hr h1=>exact⟨by simpa [Value.cells]using hl,by simpa [Value.cells]using hr,by simpa [Value.cells]using h1⟩
 ·rename_i hne;split at h
  ·rename_i hp;cases h;have h1:v.oneCell'=true/\v.cells= #[v]:=by
    cases hR<;>simp[vW,Al]at hp<;>exact⟨rfl,rfl⟩
   rw[h1.2];refine⟨rfl,fun j q u hq hu=>?_,fun u hu=>?_⟩
   ·cases j with
    |zero=>simp at hq hu;subst hq;subst hu;exact hR
    |succ j=>simp at hq
   ·simp at hu;subst hu;exact h1.1
  ·cases h
def C6{G:Gh}{nt:Nat}{fr:Fr}{a:Act}(hF:eT G nt fr a)(place:Nat->Option (Nat×Nat)):∀ {parts:List (Nat×Operand)} {ps:List (Nat×Nat×CX)} {zs cs:List PV} {cells:Array Value},
  ie place parts=some ps->Rs G zs cells.toList->kD zs fr ps=some cs->∃ cells',Instr.fill place cells (parts.map fun x=>(x.1,a.eval x.2))=some cells'/\Rs G cs cells'.toList
 | [],ps,zs,cs,cells,hc,hz,hf=>by
  simp[ie]at hc;subst hc;cases hf;exact⟨cells,rfl,hz⟩
 |(i,x)::r,ps,zs,cs,cells,hc,hz,hf=>by
  unfold ie at hc;split at hc
  ·rename_i off sz c cs' hpl hx hr;cases hc;unfold kD at hf;split at hf
   ·rename_i ds hds;split at hf
    ·rename_i hlen;have hRs:=rN (cE hF hx) hds;have hsz:(a.eval x).cells.size=sz:=by have:=hRs.1;simp at this;omega
     have hle:¬ (off+(a.eval x).cells.size>cells.size):=by have:=hz.1;simp at this;omega
     obtain⟨cells',hfill,hRs'⟩:=C6 hF place (cells:=(a.eval x).cells.zipIdx.foldl (fun cs (x:Value×Nat)=>cs.setIfInBounds (off+x.2) x.1) cells) hr (by rw[Ih];exact hz.put off hRs) hf;refine⟨cells',?_,hRs'⟩;simp only[aH,Instr.fill,hpl];rw[ad (by simp[hsz]at hle ⊢;omega)];exact hfill
    ·cases hf
   ·cases hf
  ·cases hc
section
variable {G:Gh} {nt:Nat} {fr:Fr} {st st':St} {w:World} {a:Act} {o:Oper} {d:Option Nat} {cf:aA} {p:PV}
def FU(hF:eT G nt fr a){t:Nat}{ps:Array (Nat×Operand)}(hop:o.op= .build t ps){zs:List PV}{pl:List (Nat×Nat)}{cps:List (Nat×Nat×CX)}(hz:gb P t=some zs)(hpl:x4 P t=some pl)
  (hps:ie (pl.toArray[·]?) ps.toList=some cps) (h:aw cf fr st d (.build zs cps)=some (p,st')):st'=st/\jp P G w (execOp a.eval o) p:=by
 simp only[aw]at h;simp only[execOp,hop];split at h
 ·rename_i cs hcs;cases h;unfold gb at hz;split at hz
  ·rename_i it hit;split at hz
   ·rename_i z hzz;obtain⟨cells',hfill,hRs⟩:=C6 hF (pl.toArray[·]?) hps (od G hz) hcs;have hb:P.built t ((ps.map fun(x:Nat×Operand)=>(x.1,a.eval x.2)).toList)=some cells':=by
     unfold x4 at hpl;split at hpl
     ·rename_i fs hu;unfold Program.built;rw[hit,hu];simp only[hzz,hpl];rw[Array.toList_map];exact hfill
     ·cases hpl
    refine⟨rfl,.agg cells',?_,?_⟩
    ·simp[run_build w t _ cells' hb]
    ·have:=R.agg (G:=G) cs cells'.toList hRs.1 hRs.2.1 hRs.2.2;simpa using this
   ·cases hz
  ·cases hz
 ·cases h
def BK{p:PV}{v:Value}(hR:R G p v){top n:Nat}(h:jG p top=some n)(code:BoundsCode):(Instr.sliceBound v top code).run P w= .ok n w/\n<=top:=by
 unfold jG at h;split at h
 ·split at h
  ·rename_i hb;cases h;cases hR;refine⟨?_,by omega⟩;simp[Instr.sliceBound,asIntOf,hb.1,hb.2]
  ·cases h
 ·cases h
def ud(hF:eT G nt fr a){lo hi:Option Operand}{clo chi:Option CX}(hlo:kO lo=some clo)(hhi:kO hi=some chi){len cap l h:Nat}(hc:qF clo chi fr len cap=some (l,h))(rt:Bool)(hle:len<=cap):
  (Instr.sliceBounds rt len cap (lo.map a.eval) (hi.map a.eval) none).run P w= .ok (l,h,cap) w/\l<=h/\h<=cap:=by
 unfold qF at hc;have hlo':∀ x,lo=some x->∃ c,bC x=some c/\clo=some c:=by
  intro x hx;subst hx;simp only[kO,am]at hlo;obtain⟨c,h1,h2⟩:=hlo;exact⟨c,h1,h2.symm⟩
 have hhi':∀ x,hi=some x->∃ c,bC x=some c/\chi=some c:=by
  intro x hx;subst hx;simp only[kO,am]at hhi;obtain⟨c,h1,h2⟩:=hhi;exact⟨c,h1,h2.symm⟩
 split at hc
 ·cases hc
 ·rename_i h0 hh;split at hc
  ·cases hc
  ·rename_i l0 hl;cases hc;have H1:(match hi.map a.eval with|some v=>Instr.sliceBound v cap (if rt then .sliceAcap else .sliceAlen)|none=>pure len).run P w= .ok h w/\h<=cap:=by
    cases hi with
    |none=>
     simp only[kO]at hhi;cases hhi;simp only at hh;cases hh;exact⟨rfl,hle⟩
    |some x=>
     obtain⟨c,hx,rfl⟩:=hhi' x rfl;exact BK (cE hF hx) hh _
   have H2:(match lo.map a.eval with|some v=>Instr.sliceBound v h (if(none:Option Value).isSome then .slice3C else .sliceB)|none=>pure 0).run P w= .ok l w/\l<=h:=by
    cases lo with
    |none=>
     simp only[kO]at hlo;cases hlo;simp only at hl;cases hl;exact⟨rfl,aM _⟩
    |some x=>
     obtain⟨c,hx,rfl⟩:=hlo' x rfl;exact BK (cE hF hx) hl _
   refine⟨?_,H2.2,H1.2⟩;cases hi with
   |none=>
    simp only[fX]at H1;cases lo with
    |none=>
     simp only[fX]at H2;simp only[Instr.sliceBounds,fX,Sem.run_bind,Sem.run_pure,dd];rw[Sem.run_pure]at H1 H2;have e1:=H1.1;have e2:=H2.1;cases e1;cases e2;rfl
    |some y=>
     simp only[dC]at H2;simp only[Instr.sliceBounds,fX,dC,Sem.run_bind,Sem.run_pure,dd];rw[Sem.run_pure]at H1;have e1:=H1.1;cases e1;rw[H2.1];rfl
   |some x=>
    simp only[dC]at H1;cases lo with
    |none=>
     simp only[fX]at H2;simp only[Instr.sliceBounds,fX,dC,Sem.run_bind,Sem.run_pure,dd];rw[H1.1];rw[Sem.run_pure]at H2;have e2:=H2.1;cases e2;rfl
    |some y=>
     simp only[dC]at H2;simp only[Instr.sliceBounds,dC,Sem.run_bind,Sem.run_pure,dd];rw[H1.1];simp only[dd];rw[H2.1];rfl
def GT{x:PV}{t t' n:Nat}(h:jG x t=some n)(hle:t<=t'):jG x t'=some n:=by
 unfold jG at h ⊢;split at h
 ·split at h
  ·rename_i hb;rw[ak ⟨hb.1,by omega⟩];exact h
  ·cases h
 ·cases h
def Kh{lo hi:Option CX}{fr:Fr}{len cap cap' l h:Nat}(hc:qF lo hi fr len cap=some (l,h))(hle:cap<=cap'):qF lo hi fr len cap'=some (l,h):=by
 unfold qF at hc ⊢;cases hi with
 |none=>exact hc
 |some x=>
  simp only at hc ⊢;split at hc
  ·cases hc
  ·rename_i h0 hh;rw[GT hh hle];exact hc
def Jk(hF:eT G nt fr a){t:Nat}{x:Operand}{lo hi:Option Operand}(hop:o.op= .slice t x lo hi none){cx:CX}(hx:bC x=some cx){clo chi:Option CX}(hlo:kO lo=some clo)(hhi:kO hi=some chi)
  (hu:P.underlying t=some .string) (h:aw cf fr st d (.ssl cx clo chi)=some (p,st')):st'=st/\jp P G w (execOp a.eval o) p:=by
 have hR:=cE hF hx;simp only[aw]at h;simp only[execOp,hop];generalize a.eval x=xv at hR;split at h
 ·rename_i s e;rw[e]at hR;cases hR;split at h
  ·rename_i l hh hc;cases h;have:=(ud (P:=P) (w:=w) hF hlo hhi hc false (aE _)).1;refine⟨rfl,_,?_,.str _⟩;simp[Instr.sliceAt,Instr.slice,bm w hu,this]
  ·cases h
 ·cases h
def Jl(hF:eT G nt fr a){t e0:Nat}{x:Operand}{lo hi:Option Operand}(hop:o.op= .slice t x lo hi none){cx:CX}(hx:bC x=some cx){clo chi:Option CX}(hlo:kO lo=some clo)(hhi:kO hi=some chi)
  (hu:P.underlying t=some (.slice e0)) {sz:Nat} (hs:fK P e0=some sz) (h:aw cf fr st d (.slc sz cx clo chi)=some (p,st')):st'=st/\jp P G w (execOp a.eval o) p:=by
 have hR:=cE hF hx;simp only[aw]at h;simp only[execOp,hop];generalize a.eval x=xv at hR;split at h
 ·rename_i n cs k e1;rw[e1]at hR;split at h
  ·rename_i l hh hc;split at h
   ·rename_i hlen;cases h;refine⟨rfl,?_⟩;cases hR with
    |listE a=>
     obtain⟨hrun,hle1,hle2⟩:=ud (P:=P) (w:=w) hF hlo hhi hc true (aE _);have e1:hh=0:=by omega
     have e2:l=0:=by omega
     subst e1 e2;refine⟨.slice (some a) 0 0,?_,?_⟩
     ·simp[Instr.sliceAt,Instr.slice,bm w hu,hrun,gV w hs]
     ·have ht:(aB.no).cut clo.isNone 0 0= .no:=by cases clo<;>rfl
      simpa [ht]using R.listE (G:=G) a
    |listN _ ht=>
     obtain⟨hrun,hle1,hle2⟩:=ud (P:=P) (w:=w) hF hlo hhi hc true (aE _);have e1:hh=0:=by omega
     have e2:l=0:=by omega
     subst e1 e2;refine⟨.slice none 0 0,?_,?_⟩
     ·simp[Instr.sliceAt,Instr.slice,bm w hu,hrun,gV w hs]
     ·have ht':yN G (k.cut clo.isNone 0 0):=N7 ht;simpa using R.listN (G:=G) _ ht'
    |list _ _ _ b o' cap us hn hl hcm hr h1 ht hp hx'=>
     have hle2:=(ud (P:=P) (w:=w) hF hlo hhi hc true (aE _)).2.2;obtain⟨hrun,hle1,_⟩:=ud (P:=P) (w:=w) hF hlo hhi (Kh hc hn) true hn;have hmul:(h0:hh<=n)->hh*sz<=us.length:=fun h0=>by rw[<-hl,hlen];exact eU _ h0
     have hmul':=hmul hle2;have hsub:(hh-l) *sz=hh*sz-l*sz:=Nat.sub_mul _ _ _;have hlm:l*sz<=hh*sz:=eU _ hle1;refine⟨.slice (some ⟨b,o'+(if cap=l then 0 else l*sz),none⟩) (hh-l) (cap-l),?_,?_⟩
     ·by_cases hcl:cap=l
      ·subst hcl;simp[Instr.sliceAt,Instr.slice,bm w hu,hrun,gV w hs]
      ·simp[Instr.sliceAt,Instr.slice,bm w hu,hrun,gV w hs,hcl,oP]
     ·have hb0:((us.drop (l*sz)).take ((hh-l) *sz)).length=(hh-l) *sz:=by rw[aG,aU];omega
      refine .list _ _ _ _ _ _ ((us.drop (l*sz)).take ((hh-l) *sz)) (by omega) ?_ ?_ ?_ ?_ ?_ ?_ ?_
      ·rw[hb0,aG,aU];omega
      ·intro j u hj;by_cases hlt:j<(hh-l) *sz
       ·rw[cY hlt,d5]at hj;have:=hcm _ _ hj;split
        ·rename_i e0;have e5:hh=l:=by omega
         subst e5;simp at hlt
        ·rwa [kP]
       ·rw[iq (by omega)]at hj;cases hj
      ·intro j q u hq hj;by_cases hlt:j<(hh-l) *sz
       ·rw[cY hlt,d5]at hj hq;exact hr _ _ _ hq hj
       ·rw[iq (by omega)]at hj;cases hj
      ·intro u hu;exact h1 u (cW (eV hu))
      ·have hl0:clo.isNone=true->l=0:=fun h0=>by
        cases clo with
        |none=>
         simp only[qF]at hc;split at hc
         ·cases hc
         ·simp only[bo,cn]at hc;exact hc.1.symm
        |some c=>cases h0
       have hlu:us.length=n*sz:=by rw[<-hl];exact hlen
       rw[hb0];refine N6 (sz:=sz) ht (fun h0 h1=>?_) hlu (fun h0=>?_) hle2 (fun h0=>?_) (fun h0=>?_)
       ·rw[hl0 h0,h1,hlu];simp
       ·rw[hl0 h0];simp
       ·rw[hl0 h0];simp
       ·rw[hl0 h0];simp
      ·intro q hne hq;rw[aB.cut_of];exact hp q (fun e0=>hne (by rw[e0];simp)) hq
      ·intro hne hd;exact hx' (fun e0=>hne (by rw[e0];simp)) (aB.cut_no hd)
   ·cases h
  ·cases h
 ·cases h
end
def gR(w:World)(g:Nat)(cs:Array Value):(w.setRow g cs).heap.size=w.heap.size:=by simp[World.setRow]
def jN(w:World)(o:Obj):(w.alloc o).heap.size=w.heap.size+1:=Array.size_push ..
def uf{w:World}{o:Obj}{b k:Nat}(h:b<w.heap.size):(w.alloc o).cell? ⟨b,k,none⟩=w.cell? ⟨b,k,none⟩:=
 World.cell?_of_block (heap_alloc_old w o b h)
def Rs.le{G G':Gh}(h:Le G G'){cs:List PV}{vs:List Value}(hR:Rs G cs vs)(hn:aI cs=true):Rs G' cs vs:=by
 obtain⟨hl,hr,h1⟩:=hR;refine⟨hl,fun j p u hp hu=>?_,h1⟩;exact(hr j p u hp hu).le h (fun _=>true) (fun s hs=>by cases hs) (ju hn hp)
def bz.setBox{G:Gh}{st:St}{w:World}(hI:bz P B G st w){s b e:Nat}{cs cs':List PV}{vs vs':List Value}(hs:st.objs s=some cs)(hb:G.ob s=some b)(hh:w.heap[b]? =some (.cells vs.toArray e (0,0)))
  (hR:Rs G cs' vs') (hn:aI cs'=true):
  bz P B G {st with objs:=fun k=>if k=s then some cs' else st.objs k} (w.setRow b vs'.toArray)/\cu G w G (w.setRow b vs'.toArray):=by
 have hbo:=hI.obs s b hb;have hother:∀ k,k≠b->(w.setRow b vs'.toArray).heap[k]? =w.heap[k]? :=fun k hk=>setRow_other w b k _ hk;have hmap:∀ {b':Nat} {vs:Array MapEntry} {clk:Nat},w.heap[b']? =some (.map vs clk)->b'≠b:=by
  rintro b' us clk h rfl;rw[hh]at h;cases h
 refine⟨⟨?_,?_,hI.nx,hI.cnt,hI.live,hI.room,hI.apart,hI.priv,?_,?_,hI.obj,?_,?_,fun b k h=>by rw[gR];exact hI.pvl b k h,fun b h=>by rw[gR];exact hI.xpl b h,hI.base,?_,?_,?_,hI.mbi,hI.nomb,hI.obx,hI.ful⟩,⟨rD.refl G,by rw[gR];exact aE _,?_,fun s' b' h=> .inl ⟨s',h⟩,fun t r h=> .inl ⟨t,r,h,rfl⟩,fun _ _ _ h=> .inl h,fun _ _ h=> .inl h,fun _ k h=> .inl ⟨k,h⟩,fun s b h=> .inl ⟨s,h⟩,⟨rfl,rfl⟩⟩⟩;rotate_left 6
 ·intro s' b' e' sz h1 h2;obtain⟨h3,cur,h4⟩:=hI.oes s' b' e' sz h1 h2;refine⟨h3,?_⟩;by_cases hbb:b'=b
  ·subst hbb;have h5:=h4;rw[hh]at h5;cases h5;exact⟨_,setRow_heap w b' _ _ _ _ hh⟩
  ·exact⟨cur,by rw[hother b' hbb];exact h4⟩
 ·intro s' es h;obtain⟨b',us,clk,h1,h2,h3⟩:=hI.mobj s' es h;exact⟨b',us,clk,h1,by rw[hother b' (hmap h2)];exact h2,h3⟩
 ·intro s' b' h;obtain⟨us,clk,h2⟩:=hI.mbs s' b' h;exact⟨us,clk,by rw[hother b' (hmap h2)];exact h2⟩
 rotate_left 1
 ·intro b' o v hc;have hne:b'≠b:=by rintro rfl;rw[hbo.2.1]at hc;cases hc
  rw[cell_setRow_other w b _ _ hne];exact hI.com b' o v hc
 ·intro b' e' k hsh;have hne:b'≠b:=by rintro rfl;rw[hbo.2.2]at hsh;cases hsh
  rw[hother b' hne];exact hI.sh b' e' k hsh
 ·intro s' cs'' h;by_cases hk:s'=s
  ·subst hk;simp only[if_true]at h;cases h;exact⟨b,e,vs',hb,setRow_heap w b _ _ e _ hh,hR⟩
  ·simp only[ad hk]at h;obtain⟨b2,e2,vs2,hb2,hh2,hR2⟩:=hI.objs s' cs'' h;have hne:b2≠b:=by rintro rfl;exact hk (hI.obj s' s _ hb2 hb)
   exact⟨b2,e2,vs2,hb2,by rw[hother b2 hne];exact hh2,hR2⟩
 ·intro s' b' h;rw[gR];exact hI.obs s' b' h
 ·intro s' h;by_cases hk:s'=s
  ·simp[hk]at h
  ·simp only[ad hk]at h;exact hI.nob s' h
 ·intro s' cs'' h;by_cases hk:s'=s
  ·simp only[hk,if_true]at h;cases h;exact hn
  ·simp only[ad hk]at h;exact hI.npo s' cs'' h
 ·intro b' hb' ho _ _;exact hother b' (by rintro rfl;exact ho s hb)
def Gh.newBox(G:Gh)(s B:Nat)(x:Option (Nat×Nat)):Gh:={G with ob:=fun k=>if k=s then some B else G.ob k,oe:=fun k=>if k=s then x else G.oe k}
def wC{G:Gh}{s B:Nat}{x:Option (Nat×Nat)}{k:Nat}(h:k≠s):(G.newBox s B x).bx k=G.bx k:=by simp[Gh.bx,Gh.newBox,h]
def Rm.le{G G':Gh}(h:Le G G'){es:List (PV×PV)}{vs:List MapEntry}(hR:Rm G es vs)(hn:∀ q∈es,np q.2=true):Rm G' es vs:=
 ⟨hR.1,fun i q x hq hx=>⟨(hR.2 i q x hq hx).1,(hR.2 i q x hq hx).2.le h (fun _=>true) (fun s hs=>by cases hs) (hn q (bQ hq))⟩⟩
def bz.newBox{G:Gh}{st:St}{w:World}(hI:bz P B G st w)(s e:Nat)(xe:Option (Nat×Nat))(hxe:∀ e' sz,xe=some (e',sz)->e'=e/\fK P e=some sz){cs:List PV}{vs:List Value}(hR:Rs G cs vs)(hn:aI cs=true):
  bz P B (G.newBox s w.heap.size xe) {st with objs:=fun k=>if k=s then some cs else st.objs k} (w.alloc (.cells vs.toArray e (0,0)))/\Le G (G.newBox s w.heap.size xe)/\cu G w (G.newBox s w.heap.size xe) (w.alloc (.cells vs.toArray e (0,0))):=by
 have hle:Le G (G.newBox s w.heap.size xe):=⟨fun _ _ _ h=>h,fun _ _ h=>h,fun _ x' _ h=>⟨x',h,aE _,fun _=>rfl⟩,aE _,fun _ _ _ _ _ h=>h,rfl⟩;have hcomN:∀ o,G.com w.heap.size o=none:=by
  intro o;cases h:G.com w.heap.size o with
  |none=>rfl
  |some v=>
   have:=World.block_lt_of_cell? w _ (hI.com _ _ _ h);simp at this
 have hshN:G.sh w.heap.size=none:=by
  cases h:G.sh w.heap.size with
  |none=>rfl
  |some x=>
   obtain⟨cur,hc,_⟩:=hI.sh _ x.1 x.2 h;have:=(aP.1 hc).1;omega
 refine⟨⟨?_,?_,hI.nx,hI.cnt,hI.live,hI.room,hI.apart,hI.priv,?_,?_,?_,?_,?_,fun b k h=>by rw[jN];have:=hI.pvl b k h;omega,fun b h=>by rw[jN];have:=hI.xpl b h;omega,hI.base,?_,?_,?_,hI.mbi,hI.nomb,fun s' b h=>?_,hI.ful⟩,hle,⟨hle.w,by rw[jN];omega,?_,?_,fun t r h=> .inl ⟨t,r,h,rfl⟩,fun _ _ _ h=> .inl h,fun _ _ h=> .inl h,fun _ k h=> .inl ⟨k,h⟩,fun s b h=> .inl ⟨s,h⟩,⟨rfl,rfl⟩⟩⟩;rotate_left 7
 ·intro s' b' e' sz h1 h2;by_cases hk:s'=s
  ·simp only[Gh.newBox,hk,if_true]at h1 h2;cases h1;obtain⟨rfl,h3⟩:=hxe e' sz h2;exact⟨h3,_,heap_alloc_new w _⟩
  ·simp only[Gh.newBox,ad hk]at h1 h2;obtain⟨h3,cur,h4⟩:=hI.oes s' b' e' sz h1 h2;exact⟨h3,cur,by rw[heap_alloc_old w _ b' (aP.1 h4).1];exact h4⟩
 ·intro s' es h;obtain⟨b',us,clk,h1,h2,h3,h4⟩:=hI.mobj s' es h;exact⟨b',us,clk,h1,by rw[heap_alloc_old w _ b' (aP.1 h2).1];exact h2,h3.le hle h4,h4⟩
 ·intro s' b' h;obtain⟨us,clk,h2⟩:=hI.mbs s' b' h;exact⟨us,clk,by rw[heap_alloc_old w _ b' (aP.1 h2).1];exact h2⟩
 ·by_cases hk:s'=s
  ·simp only[Gh.newBox,hk,if_true]at h;cases h;refine⟨?_,?_⟩
   ·cases hp:G.pv w.heap.size with
    |none=>exact hp
    |some k=>have:=hI.pvl _ k hp;omega
   ·cases hp:G.xp w.heap.size with
    |false=>exact hp
    |true=>have:=hI.xpl _ hp;omega
  ·simp only[Gh.newBox,ad hk]at h;exact hI.obx s' b h
 rotate_left 2
 ·intro b o v h;have:=hI.com b o v h;rw[uf (World.block_lt_of_cell? w _ this)];exact this
 ·intro b e' k h;obtain⟨cur,hc,hk⟩:=hI.sh b e' k h;exact⟨cur,by rw[heap_alloc_old w _ b (aP.1 hc).1];exact hc,hk⟩
 ·intro s' cs' h;by_cases hk:s'=s
  ·subst hk;simp only[if_true]at h;cases h;exact⟨w.heap.size,e,vs,by simp[Gh.newBox],heap_alloc_new w _,hR.le hle hn⟩
  ·simp only[ad hk]at h;obtain⟨b,e',vs',hb,hh,hR'⟩:=hI.objs s' cs' h;exact⟨b,e',vs',by simp[Gh.newBox,hk,hb],by rw[heap_alloc_old w _ b (aP.1 hh).1];exact hh,hR'.le hle (hI.npo s' cs' h)⟩
 ·intro s' b h;rw[jN];by_cases hk:s'=s
  ·simp only[Gh.newBox,hk,if_true]at h;cases h;exact⟨by omega,hcomN,hshN⟩
  ·simp only[Gh.newBox,ad hk]at h;obtain⟨h1,h2,h3⟩:=hI.obs s' b h;exact⟨by omega,h2,h3⟩
 ·intro s' u b h1 h2;by_cases hk:s'=s<;>by_cases hu:u=s
  ·rw[hk,hu]
  ·simp only[Gh.newBox,hk,if_true,ad hu]at h1 h2;cases h1;have:=(hI.obs u _ h2).1;omega
  ·simp only[Gh.newBox,hu,if_true,ad hk]at h1 h2;cases h2;have:=(hI.obs s' _ h1).1;omega
  ·simp only[Gh.newBox,ad hk,ad hu]at h1 h2;exact hI.obj s' u b h1 h2
 ·intro s' h;by_cases hk:s'=s
  ·simp[hk]at h
  ·simp only[ad hk]at h;simp only[Gh.newBox,ad hk];exact hI.nob s' h
 ·intro s' cs' h;by_cases hk:s'=s
  ·simp only[hk,if_true]at h;cases h;exact hn
  ·simp only[ad hk]at h;exact hI.npo s' cs' h
 ·intro b hb _ _ _;exact heap_alloc_old w _ b hb
 ·intro s' b h;by_cases hk:s'=s
  ·simp only[Gh.newBox,hk,if_true]at h;cases h;exact .inr (aE _)
  ·simp only[Gh.newBox,ad hk]at h;exact .inl ⟨s',h⟩
def Gh.lay(G:Gh)(B e k:Nat)(us:List Value)(ow:Option Nat):Gh:=
 {G with com:=fun b o=>if b=B then us[o]? else G.com b o,sh:=fun b=>if b=B then some (e,k)else G.sh b,pv:=fun b=>if b=B then ow else G.pv b}
def bz.fresh_com{G:Gh}{st:St}{w:World}(hI:bz P B G st w)(o:Nat):G.com w.heap.size o=none:=by
 cases h:G.com w.heap.size o with
 |none=>rfl
 |some v=>
  have:=World.block_lt_of_cell? w _ (hI.com _ _ _ h);simp at this
def bz.fresh_xp{G:Gh}{st:St}{w:World}(hI:bz P B G st w):G.xp w.heap.size=false:=by
 cases h:G.xp w.heap.size with
 |false=>rfl
 |true=>have:=hI.xpl _ h;omega
def bz.fresh_sh{G:Gh}{st:St}{w:World}(hI:bz P B G st w):G.sh w.heap.size=none:=by
 cases h:G.sh w.heap.size with
 |none=>rfl
 |some x=>
  obtain⟨cur,hc,_⟩:=hI.sh _ x.1 x.2 h;have:=(aP.1 hc).1;omega
def bz.lay{G:Gh}{st:St}{w:World}(hI:bz P B G st w)(e:Nat)(us rest:List Value)(ow:Option Nat)(w':World)(hw:w'.heap=(w.alloc (.cells (us++rest).toArray e (0,0))).heap)(he:w'.os=w.os/\w'.output=w.output):
  bz P B (G.lay w.heap.size e (us++rest).length us ow) st w'/\Le G (G.lay w.heap.size e (us++rest).length us ow)/\cu G w (G.lay w.heap.size e (us++rest).length us ow) w':=by
 have hle:Le G (G.lay w.heap.size e (us++rest).length us ow):=by
  refine⟨fun b o v h=>?_,fun b x h=>?_,fun _ x' _ h=>⟨x',h,aE _,fun _=>rfl⟩,aE _,fun b k o v hc hp=>?_,rfl⟩;rotate_left 2
  ·by_cases hb:b=w.heap.size
   ·subst hb;rw[hI.fresh_com]at hc;cases hc
   ·simp only[Gh.lay,ad hb]at hp;exact hp
  ·by_cases hb:b=w.heap.size
   ·subst hb;rw[hI.fresh_com]at h;cases h
   ·simp only[Gh.lay,ad hb];exact h
  ·by_cases hb:b=w.heap.size
   ·subst hb;rw[hI.fresh_sh]at h;cases h
   ·simp only[Gh.lay,ad hb];exact h
 have hold:∀ b,b<w.heap.size->w'.heap[b]? =w.heap[b]? :=fun b hb=>by rw[hw];exact heap_alloc_old w _ b hb
 have hnew:w'.heap[w.heap.size]? =some (.cells (us++rest).toArray e (0,0)):=by rw[hw];exact heap_alloc_new w _
 have hsz:w'.heap.size=w.heap.size+1:=by rw[hw];exact jN w _
 refine⟨⟨?_,?_,hI.nx,hI.cnt,hI.live,?_,hI.apart,?_,?_,?_,hI.obj,hI.nob,hI.npo,?_,fun b h=>by have:=hI.xpl b h;omega,?_,?_,?_,?_,hI.mbi,hI.nomb,fun s b h=>?_,hI.ful⟩,hle,⟨hle.w,by omega,fun b hb _ _ _=>hold b hb,fun s b h=> .inl ⟨s,h⟩,fun t r h=> .inl ⟨t,r,h,rfl⟩,fun b o v h=>?_,fun b x h=>?_,fun b k h=>?_,fun s b h=> .inl ⟨s,h⟩,he⟩⟩;rotate_left 7
 ·intro b o v h;obtain⟨h1,h2⟩:=hI.base b o v h;have hne:b≠w.heap.size:=by rintro rfl;rw[hI.fresh_com]at h1;cases h1
  simp only[Gh.lay,ad hne];exact⟨h1,h2⟩
 ·intro s' b' e' sz h1 h2;obtain⟨h3,cur,h4⟩:=hI.oes s' b' e' sz h1 h2;exact⟨h3,cur,by rw[hold b' (aP.1 h4).1];exact h4⟩
 ·intro s' es h;obtain⟨b',us',clk,h1,h2,h3,h4⟩:=hI.mobj s' es h;exact⟨b',us',clk,h1,by rw[hold b' (aP.1 h2).1];exact h2,h3.le hle h4,h4⟩
 ·intro s' b' h;obtain⟨us',clk,h2⟩:=hI.mbs s' b' h;exact⟨us',clk,by rw[hold b' (aP.1 h2).1];exact h2⟩
 ·have hne:b≠w.heap.size:=by have:=(hI.obs s b h).1;omega
  simp only[Gh.lay,ad hne];exact hI.obx s b h
 rotate_left 3
 ·intro b o v h;by_cases hb:b=w.heap.size
  ·subst hb;simp only[Gh.lay,if_true]at h;simp only[World.cell?,hnew];have hlt:=(br.1 h).1;simp[bL hlt,h]
  ·simp only[Gh.lay,ad hb]at h;have:=hI.com b o v h;have hlt:=World.block_lt_of_cell? w _ this;rw[World.cell?_of_block (w:=w) (w':=w') (a:=⟨b,o,none⟩) (hold b hlt)];exact this
 ·intro b e' k h;by_cases hb:b=w.heap.size
  ·subst hb;simp only[Gh.lay,if_true]at h;cases h;exact⟨_,hnew,by simp⟩
  ·simp only[Gh.lay,ad hb]at h;obtain⟨cur,hc,hk⟩:=hI.sh b e' k h;exact⟨cur,by rw[hold b (aP.1 hc).1];exact hc,hk⟩
 ·intro t r h;obtain⟨h1,h2,h3,h5,h4,h6⟩:=hI.room t r h;have hne:r.b≠w.heap.size:=by intro e;rw[e,hI.fresh_sh]at h1;cases h1
  refine⟨by simp only[Gh.lay,ad hne];exact h1,h2,h3,h5,fun o ho=>by simp only[Gh.lay,ad hne];exact h4 o ho,h6⟩
 ·intro t r h;have h1:=(hI.room t r h).1;have hne:r.b≠w.heap.size:=by intro e;rw[e,hI.fresh_sh]at h1;cases h1
  simp only[Gh.lay,ad hne];exact hI.priv t r h
 ·intro s cs h;obtain⟨b,e',vs,hb,hh,hR⟩:=hI.objs s cs h;exact⟨b,e',vs,hb,by rw[hold b (hI.obs s b hb).1];exact hh,hR.le hle (hI.npo s cs h)⟩
 ·intro s b h;obtain⟨h1,h2,h3⟩:=hI.obs s b h;have hne:b≠w.heap.size:=by omega
  refine⟨by omega,fun o=>by simp only[Gh.lay,ad hne];exact h2 o,by simp only[Gh.lay,ad hne];exact h3⟩
 ·intro b k h;by_cases hb:b=w.heap.size
  ·omega
  ·simp only[Gh.lay,ad hb]at h;have:=hI.pvl b k h;omega
 ·by_cases hb:b=w.heap.size
  ·exact .inr (.inr (by omega))
  ·simp only[Gh.lay,ad hb]at h;exact .inl h
 ·by_cases hb:b=w.heap.size
  ·exact .inr (by omega)
  ·simp only[Gh.lay,ad hb]at h;exact .inl h
 ·by_cases hb:b=w.heap.size
  ·exact .inr (by omega)
  ·simp only[Gh.lay,ad hb]at h;exact .inl ⟨k,h⟩
def Gh.tok(G:Gh)(k:Nat)(x:mi):Gh:={G with tk:=fun t=>if t=k then some x else G.tk t,nx:=max G.nx (k+1)}
def DP(P:Program)(G:Gh)(fl k:Nat)(r:oR):Prop:=
 G.sh r.b=some (r.e,r.cap*r.sz)/\r.cap<=maxLen/\r.m<=r.cap/\fK P r.e=some r.sz/\(∀ o,r.m*r.sz<=o->G.com r.b o=none)/\(∀ t q,t≠k->G.tk t=some (.room q)->q.b≠r.b)/\(fl<=k->G.pv r.b=some k)/\(∀ j,G.pv r.b=some j->j=k)/\G.xp r.b=false
structure xn (st st':St) (k n:Nat):Prop where
 nx:st'.nx=max st.nx (k+1)
 le:k<=st.nx
 cnt:∀ t,t<st.nx->t≠k->st'.cnt t=st.cnt t
 here:st'.cnt k=n
 fl:st'.fl=st.fl
 objs:st'.objs=st.objs
 maps:st'.maps=st.maps
def St.grown_count{st:St}{k n:Nat}(h:k<st.nx):xn st (st.count k n) k n:=
 ⟨by simp[St.count];omega,by omega,fun t _ hne=>by simp[St.count,hne],by simp[St.count],rfl,rfl,rfl⟩
def St.grown_more{st:St}{n:Nat}:xn st (st.more [n]) st.nx n:=
 ⟨by simp[St.more],by omega,fun t ht _=>by simp[St.more,ht],by simp[St.more],rfl,rfl,rfl⟩
def Le.tok{st:St}{w:World}{G:Gh}(hI:bz P B G st w){k:Nat}{x:mi}(hm:∀ x0,G.tk k=some x0->x0.cnt<=x.cnt/\(x0.cnt=x.cnt->x0=x)):Le G (G.tok k x):=by
 have hnx:=hI.nx;refine⟨fun _ _ _ h=>h,fun _ _ h=>h,fun t x' ht h=>?_,iS _ _,fun _ _ _ _ _ h=>h,rfl⟩;by_cases htk:t=k
 ·subst htk;simp only[Gh.tok,if_true]at h;cases h;obtain⟨x0,hx0⟩:=hI.live t (by omega);exact⟨x0,hx0,hm x0 hx0⟩
 ·simp only[Gh.tok,ad htk]at h;exact⟨x',h,aE _,fun _=>rfl⟩
def bz.tok{G:Gh}{st st':St}{w:World}(hI:bz P B G st w){k:Nat}{x:mi}(hg:xn st st' k x.cnt)(hm:∀ x0,G.tk k=some x0->x0.cnt<=x.cnt/\(x0.cnt=x.cnt->x0=x))
  (hx:∀ r,x= .room r->DP P G st.fl k r) (hfu:∀ m,x= .full m->m=0):bz P B (G.tok k x) st' w:=by
 have hle:=Le.tok hI hm;have hnx:=hI.nx;obtain⟨g1,g2,g3,g4,g5,g6,g7⟩:=hg;refine⟨hI.com,hI.sh,by simp only[Gh.tok];omega,?_,?_,?_,?_,?_,?_,hI.obs,hI.obj,by rw[g6];exact hI.nob,by rw[g6];exact hI.npo,hI.pvl,hI.xpl,hI.base,hI.oes,?_,hI.mbs,hI.mbi,by rw[g7];exact hI.nomb,hI.obx,fun t m h=>by
  by_cases ht:t=k
  ·subst ht;simp only[Gh.tok,if_true,bo]at h;exact hfu m h
  ·simp only[Gh.tok,ad ht]at h;exact hI.ful t m h⟩
 rotate_left 6
 ·intro s es h;rw[g7]at h;obtain⟨b',us',clk,h1,h2,h3,h4⟩:=hI.mobj s es h;exact⟨b',us',clk,h1,h2,h3.le hle h4,h4⟩
 ·intro t y h;by_cases ht:t=k
  ·subst ht;simp only[Gh.tok,if_true]at h;cases h;exact⟨by omega,g4⟩
  ·simp only[Gh.tok,ad ht]at h;obtain⟨h1,h2⟩:=hI.cnt t y h;exact⟨by omega,by rw[g3 t h1 ht];exact h2⟩
 ·intro t ht;by_cases h:t=k
  ·exact⟨x,by simp[Gh.tok,h]⟩
  ·obtain⟨y,hy⟩:=hI.live t (by omega);exact⟨y,by simp[Gh.tok,h,hy]⟩
 ·intro t r h;by_cases ht:t=k
  ·subst ht;simp only[Gh.tok,if_true]at h;cases h;obtain⟨h1,h2,h3,h4,h5,_,_,_,h6⟩:=hx r rfl;exact⟨h1,h2,h3,h4,h5,h6⟩
  ·simp only[Gh.tok,ad ht]at h;exact hI.room t r h
 ·intro t u r q h1 h2 hb;by_cases ht:t=k<;>by_cases hu:u=k
  ·rw[ht,hu]
  ·simp only[Gh.tok,ht,if_true]at h1;simp only[Gh.tok,ad hu]at h2;cases h1;exact absurd hb.symm ((hx r rfl).2.2.2.2.2.1 u q hu h2)
  ·simp only[Gh.tok,hu,if_true]at h2;simp only[Gh.tok,ad ht]at h1;cases h2;exact absurd hb ((hx q rfl).2.2.2.2.2.1 t r ht h1)
  ·simp only[Gh.tok,ad ht]at h1;simp only[Gh.tok,ad hu]at h2;exact hI.apart t u r q h1 h2 hb
 ·intro t r h;rw[g5];by_cases ht:t=k
  ·subst ht;simp only[Gh.tok,if_true]at h;cases h;exact⟨(hx r rfl).2.2.2.2.2.2.1,(hx r rfl).2.2.2.2.2.2.2.1⟩
  ·simp only[Gh.tok,ad ht]at h;exact hI.priv t r h
 ·intro s cs h;rw[g6]at h;obtain⟨b,e,vs,hb,hh,hR⟩:=hI.objs s cs h;exact⟨b,e,vs,hb,hh,hR.le hle (hI.npo s cs h)⟩
def cu.tok{st1:St}{w1:World}{G G1:Gh}{w:World}(hI1:bz P B G1 st1 w1)(h:cu G w G1 w1){k:Nat}{x:mi}(hm:∀ x0,G1.tk k=some x0->x0.cnt<=x.cnt/\(x0.cnt=x.cnt->x0=x))
  (hx:∀ r,x= .room r->(∃ u q,G.tk u=some (.room q)/\q.b=r.b)\/w.heap.size<=r.b):cu G w (G1.tok k x) w1 where
 le:=h.le.trans (Le.tok hI1 hm).w
 size:=h.size
 kept:=h.kept
 nearO:=h.nearO
 nearT t r hr:=by
  by_cases ht:t=k
  ·simp only[Gh.tok,ht,if_true]at hr;cases hr;exact hx r rfl
  ·simp only[Gh.tok,ad ht]at hr;exact h.nearT t r hr
 nearC:=h.nearC
 nearS:=h.nearS
 nearP:=h.nearP
 nearM:=h.nearM
 eff:=h.eff
def Gh.more(G:Gh)(b n:Nat)(us:List Value):Gh:={G with com:=fun b' o=>if b'=b/\n<=o then us[o-n]? else G.com b' o}
def bz.more{G:Gh}{st st':St}{w:World}(hI:bz P B G st w){u:Nat}(hu:u<st.nx){r:oR}(hr:G.tk u=some (.room r)){cur:Array Value}(hcur:w.heap[r.b]? =some (.cells cur r.e (0,0)))
  (us:List Value) (m:Nat) (hm0:0<m) (hul:us.length=m*r.sz) (hfit:r.m+m<=r.cap) (hcs:cur.size=r.cap*r.sz) (hg:xn st st' u (r.m+m)):
  bz P B ((G.more r.b (r.m*r.sz) us).tok u (.room {r with m:=r.m+m})) st'
   (w.setRow r.b (cur.toList.take (r.m*r.sz)++us++cur.toList.drop (r.m*r.sz+us.length)).toArray)/\Le G ((G.more r.b (r.m*r.sz) us).tok u (.room {r with m:=r.m+m}))/\
  cu G w ((G.more r.b (r.m*r.sz) us).tok u (.room {r with m:=r.m+m})) (w.setRow r.b (cur.toList.take (r.m*r.sz)++us++cur.toList.drop (r.m*r.sz+us.length)).toArray):=by
 obtain⟨hsh,hcm,hn,hsz,hno,hxr⟩:=hI.room u r hr;obtain⟨g1,g2,g3,g4,g5,g6,g7⟩:=hg;have hnx:=hI.nx;have hfitc:r.m*r.sz+us.length<=r.cap*r.sz:=by rw[hul,<-gr];exact eU _ hfit
 generalize hq:r.m*r.sz=q at*;have hle:Le G ((G.more r.b q us).tok u (.room {r with m:=r.m+m})):=by
  refine⟨fun b o v h=>?_,fun _ _ h=>h,fun t x' ht h=>?_,iS _ _,fun _ _ _ _ _ h=>h,rfl⟩
  ·show(if b=r.b/\q<=o then us[o-q]? else G.com b o)=some v;by_cases hb:b=r.b/\q<=o
   ·rw[hb.1,hno o hb.2]at h;cases h
   ·rw[ad hb];exact h
  ·by_cases htu:t=u
   ·subst htu;simp only[Gh.tok,if_true]at h;cases h;exact⟨_,hr,by simp only[mi.cnt];omega,fun hc=>by simp only[mi.cnt]at hc;omega⟩
   ·simp only[Gh.tok,ad htu]at h;exact⟨x',h,aE _,fun _=>rfl⟩
 have hob:∀ s b,G.ob s=some b->b≠r.b:=by
  intro s b hb e;have:=(hI.obs s b hb).2.2;rw[e,hsh]at this;cases this
 have hother:∀ b,b≠r.b->(w.setRow r.b (cur.toList.take q++us++cur.toList.drop (q+us.length)).toArray).heap[b]? =w.heap[b]? :=fun b hb=>setRow_other w r.b b _ hb;have hnew:=setRow_heap w r.b cur (cur.toList.take q++us++cur.toList.drop (q+us.length)).toArray r.e (0,0) hcur;have hlen:(cur.toList.take q).length=q:=by rw[aG];simp;omega
 have hcomAt:∀ b o,((G.more r.b q us).tok u (.room {r with m:=r.m+m})).com b o=if b=r.b/\q<=o then us[o-q]? else G.com b o:=fun _ _=>rfl;have hcom:∀ b o v,(if b=r.b/\q<=o then us[o-q]? else G.com b o)=some v->(w.setRow r.b (cur.toList.take q++us++cur.toList.drop (q+us.length)).toArray).cell? ⟨b,o,none⟩=some v:=by
  intro b o v h;by_cases hb:b=r.b
  ·subst hb;rw[cell_setRow_same w r.b o cur _ r.e (0,0) hcur];by_cases ho:q<=o
   ·simp only[ho,kx,if_true]at h;have hlt:=(br.1 h).1;simp only[jA];rw[bl,cp (by omega),hlen,bL hlt];exact h
   ·rw[ad (by omega)]at h;have hc:=hI.com _ _ _ h;simp only[World.cell?,hcur]at hc;simp only[jA];rw[bl,bL (by omega),cY (by omega)];simpa using hc
  ·rw[ad (fun h=>hb h.1)]at h;rw[cell_setRow_other w r.b _ _ hb];exact hI.com b o v h
 have hroom:∀ t (y:oR),((G.more r.b q us).tok u (.room {r with m:=r.m+m})).tk t=some (.room y)->(t=u/\y={r with m:=r.m+m})\/(t≠u/\G.tk t=some (.room y)/\y.b≠r.b):=by
  intro t y h;by_cases ht:t=u
  ·subst ht;simp only[Gh.tok,if_true]at h;cases h;exact .inl ⟨rfl,rfl⟩
  ·simp only[Gh.tok,ad ht]at h;exact .inr ⟨ht,h,fun e=>ht (hI.apart t u y r h hr e)⟩
 have hmap:∀ {b':Nat} {vs:Array MapEntry} {clk:Nat},w.heap[b']? =some (.map vs clk)->b'≠r.b:=by
  rintro b' us clk h rfl;rw[hcur]at h;cases h
 refine⟨⟨fun b o v h=>hcom b o v h,?_,?_,?_,?_,?_,?_,?_,?_,?_,hI.obj,by rw[g6];exact hI.nob,by rw[g6];exact hI.npo,fun b k h=>by rw[gR];exact hI.pvl b k h,fun b h=>by rw[gR];exact hI.xpl b h,fun b o v h=>?_,?_,?_,?_,hI.mbi,by rw[g7];exact hI.nomb,hI.obx,fun t m h=>by
  by_cases ht:t=u
  ·subst ht;simp only[Gh.tok,if_true]at h;cases h
  ·simp only[Gh.tok,ad ht]at h;exact hI.ful t m h⟩,hle,⟨hle.w,by rw[gR];exact aE _,fun b _ _ ht _=>hother b (fun e=>ht u r hr e.symm),fun s b h=> .inl ⟨s,h⟩,?_,?_,fun b x h=> .inl h,fun _ k h=> .inl ⟨k,h⟩,fun s b h=> .inl ⟨s,h⟩,⟨rfl,rfl⟩⟩⟩
 rotate_left 9
 ·obtain⟨h1,h2⟩:=hI.base b o v h;exact⟨hle.com b o v h1,h2⟩
 ·intro s' b' e' sz h1 h2;obtain⟨h3,cur',h4⟩:=hI.oes s' b' e' sz h1 h2;exact⟨h3,cur',by rw[hother b' (hob s' b' h1)];exact h4⟩
 ·intro s es h;rw[g7]at h;obtain⟨b',us',clk,h1,h2,h3,h4⟩:=hI.mobj s es h;exact⟨b',us',clk,h1,by rw[hother b' (hmap h2)];exact h2,h3.le hle h4,h4⟩
 ·intro s' b' h;obtain⟨us',clk,h2⟩:=hI.mbs s' b' h;exact⟨us',clk,by rw[hother b' (hmap h2)];exact h2⟩
 rotate_left 2
 ·intro b e k h;by_cases hb:b=r.b
  ·subst hb;have h':G.sh r.b=some (e,k):=h;rw[hsh]at h';cases h';refine⟨_,hnew,?_⟩;simp only[jH,af,aG,aU,ep];omega
  ·obtain⟨c,h1,h2⟩:=hI.sh b e k h;exact⟨c,by rw[hother b hb];exact h1,h2⟩
 ·show max G.nx (u+1)=st'.nx;omega
 ·intro t y h;by_cases ht:t=u
  ·subst ht;simp only[Gh.tok,if_true]at h;cases h;exact⟨by omega,g4⟩
  ·simp only[Gh.tok,ad ht]at h;obtain⟨h1,h2⟩:=hI.cnt t y h;exact⟨by omega,by rw[g3 t h1 ht];exact h2⟩
 ·intro t ht;by_cases h:t=u
  ·exact⟨.room {r with m:=r.m+m},by simp only[Gh.tok,h,if_true]⟩
  ·obtain⟨y,hy⟩:=hI.live t (by omega);exact⟨y,by simp only[Gh.tok,ad h];exact hy⟩
 ·intro t y h;rcases hroom t y h with⟨rfl,rfl⟩|⟨hne,h,hb⟩
  ·refine⟨hsh,hcm,hfit,hsz,fun o ho=>?_,hxr⟩;simp only at ho;rw[gr]at ho;rw[hcomAt,ak ⟨rfl,by omega⟩];exact bB (by omega)
  ·obtain⟨h1,h2,h3,h4,h5,h6⟩:=hI.room t y h;refine⟨h1,h2,h3,h4,fun o ho=>?_,h6⟩;rw[hcomAt,ad (fun h=>hb h.1)];exact h5 o ho
 ·intro t v y z h1 h2 hb;rcases hroom t y h1 with⟨rfl,rfl⟩|⟨hne,h1,hb1⟩<;>rcases hroom v z h2 with⟨rfl,rfl⟩|⟨hne',h2,hb2⟩
  ·rfl
  ·exact absurd hb.symm hb2
  ·exact absurd hb hb1
  ·exact hI.apart t v y z h1 h2 hb
 ·intro t y h;rw[g5];rcases hroom t y h with⟨rfl,rfl⟩|⟨hne,h,hb⟩
  ·exact hI.priv t r hr
  ·exact hI.priv t y h
 ·intro s cs h;rw[g6]at h;obtain⟨b,e,vs,hb,hh,hR⟩:=hI.objs s cs h;exact⟨b,e,vs,hb,by rw[hother b (hob s b hb)];exact hh,hR.le hle (hI.npo s cs h)⟩
 ·intro s b h;obtain⟨h1,h2,h3⟩:=hI.obs s b h;refine⟨by rw[gR];exact h1,fun o=>?_,h3⟩;rw[hcomAt,ad (fun h'=>hob s b h h'.1)];exact h2 o
 ·intro t y h;rcases hroom t y h with⟨rfl,rfl⟩|⟨hne,h,hb⟩
  ·exact .inl ⟨t,r,hr,rfl⟩
  ·exact .inl ⟨t,y,h,rfl⟩
 ·intro b o v h;rw[hcomAt]at h;by_cases hb:b=r.b/\q<=o
  ·exact .inr (.inl ⟨u,r,hr,hb.1.symm⟩)
  ·rw[ad hb]at h;exact .inl h
def vE(P:Program)(B:Nat->Nat->Option Value)(G:Gh)(w:World)(x:Sem Next)(d:Option Nat)(mk:Bool)(p:PV)(st':St):Prop:=
 ∃ y v w' G',x.run P w= .ok y w'/\(y= .value v\/(y= .skip/\v=undef))/\R G' p v/\bz P B G' st' w'/\Le G G'/\cu G w G' w'/\∀ s,(mk=true/\d=some s)\/G'.bx s=G.bx s
def oo{p:PV}(ht:cz p=true){cs:List PV}(h:cellsOf p=some cs):aI cs=true:=by
 unfold cellsOf at h;split at h
 ·cases h;simpa [cz,gx,np,off,aI]using ht
 ·split at h
  ·rename_i hp;cases h;cases p<;>simp[vW,Al]at hp<;>simpa [cz,gx,np,aI,dh]using ht
  ·cases h
def wO:∀ (vs us:List Value) (off:Nat),off+vs.length<=us.length->us.take off++vs++us.drop (off+vs.length)=bD us off vs
 | [],us,off,_=>by simp[bD]
 |v::vs,us,off,h=>by
  simp only[bD];rw[<-wO vs (us.set off v) (off+1) (by simp at h ⊢;omega)];simp only[au]at h ⊢;have e1:(us.set off v).take (off+1)=us.take off++[v]:=by
   rw[List.take_set];apply fR;intro j;by_cases hj:j<off
   ·rw[jP (by omega),cY (by omega),bL (by rw[aG];omega),cY hj]
   ·by_cases hj':j=off
    ·subst hj';rw[lF (by rw[aG];omega),cp (by rw[aG];omega)];simp[aG,fB (show j<=us.length by omega)]
    ·rw[jP (by omega),iq (by omega),cp (by rw[aG];omega)];rw[aG,fB (by omega)];exact(bB (by simp;omega)).symm
  have e2:(us.set off v).drop (off+1+vs.length)=us.drop (off+(vs.length+1)):=by
   rw[List.drop_set_of_lt (by omega)];congr 1;omega
  rw[e1,e2];simp
section
variable {G:Gh} {nt:Nat} {fr:Fr} {st st':St} {w:World} {a:Act} {o:Oper} {d:Option Nat} {cf:aA} {p:PV}
def eB(hF:eT G nt fr a){x:Operand}{c:CX}(h:bC x=some c):cz (c.ev fr)=true:=by
 cases x with
 |tmp t=>simp[bC]at h;subst h;exact hF.2.2 t
 |const v=>
  simp only[bC,am]at h;obtain⟨p,hp,rfl⟩:=h;have:=hp;unfold gW at this;split at this<;>first|(cases this;rfl)|cases this
 |global g=>simp[bC]at h
 |func f=>simp[bC]at h;subst h;rfl
def A0(hI:bz P B G st w)(hF:eT G nt fr a){t:Nat}{x y:Operand}(hop:o.op= .store t x y){cx cy:CX}(hx:bC x=some cx)(hy:bC y=some cy){sz:Nat}(hs:fK P t=some sz)
  (h:aw cf fr st d (.store sz cx cy)=some (p,st')):vE P B G w (execOp a.eval o) d false p st':=by
 have hR:=cE hF hx;have hRy:=cE hF hy;have hty:=eB hF hy;simp only[aw]at h;simp only[execOp,hop];generalize a.eval x=xv at hR;generalize a.eval y=yv at hRy;split at h
 ·rename_i s off vs e1 e2;rw[e1]at hR;cases hR with
  |ptr _ _ b hb=>
   split at h
   ·rename_i cs hcs;split at h
    ·rename_i hb2;cases h;obtain⟨e,us,hh,hRs,_⟩:=hI.box hcs hb;have hRv:=rN hRy e2;have hn:=oo hty e2;have hlen:yv.cells.size=sz:=by have:=hRv.1;simp at this;omega
     have hfit:off+yv.cells.toList.length<=us.length:=by have:=hRs.1;simp;omega
     have hput:=wO yv.cells.toList us off hfit;have hnew:Rs G (bD cs off vs) (bD us off yv.cells.toList):=hRs.put off hRv;have hnn:aI (bD cs off vs)=true:=by
      have key:∀ (vs cs:List PV) (off:Nat),aI vs=true->aI cs=true->aI (bD cs off vs)=true:=by
       intro vs
       induction vs with
       |nil=>intro cs off _ h;exact h
       |cons v vs ih=>
        intro cs off h1 h2;simp only[aI,dh,ae]at h1;refine ih _ _ h1.2 ?_;have:∀ (cs:List PV) (k:Nat),aI cs=true->aI (cs.set k v)=true:=by
         intro cs
         induction cs with
         |nil=>intro k h;simpa using h
         |cons c cs ihc=>
          intro k h;simp only[aI,dh,ae]at h;cases k with
          |zero=>simp only[List.set_cons_zero,aI,dh,ae];exact⟨h1.1,h.2⟩
          |succ k=>simp only[List.set_cons_succ,aI,dh,ae];exact⟨h.1,ihc k h.2⟩
        exact this cs off h2
      exact key vs cs off hn (hI.npo s cs hcs)
     obtain⟨hI',hS⟩:=hI.setBox hcs hb hh hnew hnn;refine⟨.skip,undef,_,G,?_,.inr ⟨rfl,rfl⟩,.hole,hI',Le.refl G,hS,fun _=> .inr rfl⟩;have hst:=run_storeCells_at P b off e yv.cells.toList 0 us.toArray w hh (by simpa using hfit) hRv.2.2;simp only[bi]at hst;have hput':(us.toArray.toList.take off++yv.cells.toList++us.toArray.toList.drop (off+yv.cells.toList.length))=bD us off yv.cells.toList:=by simpa using hput
     rw[hput']at hst;simp only[Instr.storeAt,Instr.sureAddr,storeVar,Sem.run_bind,Sem.run_pure,dd,gV w hs,hlen,du,not_true_eq_false,if_false,hst]
    ·cases h
   ·cases h
 ·cases h
def HO(hI:bz P B G st w){t:Nat}(hop:o.op= .alloc t){zs:List PV}(hz:gb P t=some zs)(h:aw cf fr st d (.alloc zs)=some (p,st')):vE P B G w (execOp a.eval o) d true p st':=by
 simp only[aw]at h;simp only[execOp,hop];split at h
 ·rename_i s;cases h;unfold gb at hz;split at hz
  ·rename_i it hit;split at hz
   ·rename_i z hzz;have hRs:=od G hz;have hn:aI zs=true:=by
     have:∀ (vs:List Value) (ps:List PV),iw vs=some ps->aI ps=true:=by
      intro vs
      induction vs with
      |nil=>intro ps h;simp[iw]at h;subst h;rfl
      |cons v vs ih=>
       intro ps h;unfold iw at h;split at h
       ·rename_i q qs hq hqs;cases h;simp only[aI,dh,ae];refine⟨?_,ih _ hqs⟩;unfold gW at hq;split at hq<;>first|(cases hq;rfl)|cases hq
       ·cases h
     exact this _ _ hz
    obtain⟨hI',hL,hS⟩:=hI.newBox s t none (by simp) hRs hn;refine⟨_,_,_,_,?_,.inl rfl,.ptr s 0 w.heap.size (by simp[Gh.newBox]),hI',hL,hS,fun k=>?_⟩
    ·simp[Instr.alloc,zeroValue,typeInfo,hit,hzz,newVar,newRow]
    ·by_cases hk:k=s
     ·exact .inl ⟨rfl,by rw[hk]⟩
     ·exact .inr (wC hk)
   ·cases hz
  ·cases hz
 ·cases h
def LD(hI:bz P B G st w)(hF:eT G nt fr a){t:Nat}{x:Operand}(hop:o.op= .box t x){cx:CX}(hx:bC x=some cx){sz:Nat}(h:aw cf fr st d (.box sz cx)=some (p,st')):vE P B G w (execOp a.eval o) d true p st':=by
 have hR:=cE hF hx;have ht:=eB hF hx;simp only[aw]at h;simp only[execOp,hop];split at h
 ·rename_i s cs hcs;split at h
  ·cases h;obtain⟨hI',hL,hS⟩:=hI.newBox s t none (by simp) (rN hR hcs) (oo ht hcs);refine⟨_,_,_,_,?_,.inl rfl,.ptr s 0 w.heap.size (by simp[Gh.newBox]),hI',hL,hS,fun k=>?_⟩
   ·simp[Instr.box,newVar,newRow]
   ·by_cases hk:k=s
    ·exact .inl ⟨rfl,by rw[hk]⟩
    ·exact .inr (wC hk)
  ·cases h
 ·cases h
end
def qW{α:Type}(zs:List α):∀ (n:Nat),(List.replicate n zs).flatten.length=n*zs.length
 |0=>by simp
 |n+1=>by rw[kG,List.flatten_cons,af,qW zs n,gr];omega
def C4{α:Type}(zs:List α)(h0:0<zs.length):∀ (n j:Nat),j<n*zs.length->(List.replicate n zs).flatten[j]? =zs[j % zs.length]?
 |0,j,h=>by omega
 |n+1,j,h=>by
  rw[kG,List.flatten_cons];by_cases hj:j<zs.length
  ·rw[bL hj,Nat.mod_eq_of_lt hj]
  ·have hge:zs.length<=j:=by omega
   rw[cp hge,C4 zs h0 n (j-zs.length) (by rw[gr]at h;omega),Nat.mod_eq_sub_mod hge]
def EZ{G:Gh}{zs:List PV}{z:Array Value}(hR:Rs G zs z.toList)(h0:0<zs.length)(n:Nat):Rs G (List.replicate n zs).flatten (madeCells z (n*zs.length)).toList:=by
 have hz:z.size=zs.length:=by have:=hR.1;simp at this;omega
 have hget:∀ j,j<n*zs.length->(madeCells z (n*zs.length)).toList[j]? =z.toList[j % zs.length]? :=by
  intro j hj;have hm:j % zs.length<z.size:=by rw[hz];exact Nat.mod_lt _ h0
  simp[madeCells,hj,hz];rw[getElem!_pos z (j % zs.length) hm,gB hm]
 refine⟨by rw[qW];simp[size_madeCells],fun j p u hp hu=>?_,fun u hu=>?_⟩
 ·have hj:j<n*zs.length:=by
   have:=(br.1 hp).1;rwa [qW]at this
  rw[C4 zs h0 n j hj]at hp;rw[hget j hj]at hu;exact hR.2.1 _ _ _ hp hu
 ·obtain⟨j,hj,rfl⟩:=em hu;have hj':j<n*zs.length:=by simpa [size_madeCells]using hj
  have:=hget j hj';rw[ax hj]at this;exact hR.2.2 _ (bQ this.symm)
def uI{zs:List PV}(h:aI zs=true):∀ (n:Nat),aI (List.replicate n zs).flatten=true
 |0=>rfl
 |n+1=>by
  rw[kG,List.flatten_cons];have key:∀ (xs ys:List PV),aI xs=true->aI ys=true->aI (xs++ys)=true:=by
   intro xs
   induction xs with
   |nil=>intro ys _ h;exact h
   |cons x xs ih=>
    intro ys h1 h2;simp only[aI,dh,ae]at h1;simp only[a8,aI,dh,ae];exact⟨h1.1,ih ys h1.2 h2⟩
  exact key _ _ h (uI h n)
def mj{G:Gh}{t:Nat}{zs:List PV}(hz:gb P t=some zs):∃ i z,P.info? t=some i/\i.zero=some z/\Rs G zs z.cells.toList/\aI zs=true:=by
 unfold gb at hz;split at hz
 ·rename_i it hit;split at hz
  ·rename_i z hzz;refine⟨it,z,hit,hzz,od G hz,?_⟩;have:∀ (vs:List Value) (ps:List PV),iw vs=some ps->aI ps=true:=by
    intro vs
    induction vs with
    |nil=>intro ps h;simp[iw]at h;subst h;rfl
    |cons v vs ih=>
     intro ps h;unfold iw at h;split at h
     ·rename_i q qs hq hqs;cases h;simp only[aI,dh,ae];refine⟨?_,ih _ hqs⟩;unfold gW at hq;split at hq<;>first|(cases hq;rfl)|cases hq
     ·cases h
   exact this _ _ hz
  ·cases hz
 ·cases hz
section
variable {G:Gh} {nt:Nat} {fr:Fr} {st st':St} {w:World} {a:Act} {o:Oper} {d:Option Nat} {cf:aA} {p:PV}
def LA(hI:bz P B G st w)(hF:eT G nt fr a){t e:Nat}{x y:Operand}(hop:o.op= .makeSlice t x y)(hu:P.underlying t=some (.slice e)){cx cy:CX}(hx:bC x=some cx)(hy:bC y=some cy){i:TypeInfo}(hi:P.info? e=some i)
  {zs:List PV} (hz:gb P e=some zs) (h:aw cf fr st d (.mks e i.size i.bytes zs cx cy)=some (p,st')):vE P B G w (execOp a.eval o) d true p st':=by
 have hR:=cE hF hx;have hRy:=cE hF hy;simp only[aw]at h;simp only[execOp,hop];generalize a.eval x=xv at hR;generalize a.eval y=yv at hRy;split at h
 ·rename_i s na nb e1 e2;rw[e1]at hR;rw[e2]at hRy;split at h
  ·rename_i hb;obtain⟨rfl,hn0,hbytes,hmax,hzl,hsz⟩:=hb;cases h;cases hR;cases hRy;obtain⟨i',z,hi',hzz,hRs,hnp⟩:=mj (P:=P) (G:=G) hz;rw[hi]at hi';cases hi';have hrun:=run_make (P:=P) w t e i z hu hi hzz .i64 .i64 na na hn0 (Int.le_refl _) (by
    have h1:((i.bytes*na.toNat:Nat):Int)<=140737488355328:=by unfold dB at hbytes;omega
    have h2:((i.bytes*na.toNat:Nat):Int)=(i.bytes:Int) *na:=by rw[Int.natCast_mul,eo hn0]
    omega) (by omega)
   have hmade:=EZ hRs (by omega:0<zs.length) na.toNat;rw[hzl]at hmade;obtain⟨hI',hL,hS⟩:=hI.newBox s e (some (e,i.size)) (by rintro _ _ ⟨rfl,rfl⟩;exact⟨rfl,by simp[fK,hi]⟩) hmade (uI hnp na.toNat);refine⟨_,_,_,_,?_,.inl rfl,.osl e i.size s na.toNat w.heap.size (by simp[Gh.newBox]) (by simp[Gh.newBox]),hI',hL,hS,fun k=>?_⟩
   ·simp[hrun]
   ·by_cases hk:k=s
    ·exact .inl ⟨rfl,by rw[hk]⟩
    ·exact .inr (wC hk)
  ·cases h
 ·cases h
def LC(hI:bz P B G st w)(hF:eT G nt fr a){t e n:Nat}{ps:Array (Nat×Operand)}(hop:o.op= .buildSlice t n ps)(hu:P.underlying t=some (.slice e)){sz:Nat}(hs:fK P e=some sz){zs:List PV}(hz:gb P e=some zs)
  {cps:List (Nat×Nat×CX)} (hps:ie (fun i=>some (i*sz,sz)) ps.toList=some cps) (h24:n*sz<=16777216) (h:aw cf fr st d (.bsl e sz zs n cps)=some (p,st')):vE P B G w (execOp a.eval o) d false p st':=by
 simp only[aw]at h;simp only[execOp,hop];split at h
 ·rename_i cs hcs;split at h
  ·rename_i hb;obtain⟨hzl,hsz⟩:=hb;cases h;obtain⟨i,z,hi,hzz,hRs,hnp⟩:=mj (P:=P) (G:=G) hz;have hmade:=EZ hRs (by omega:0<zs.length) n;rw[hzl]at hmade;obtain⟨cells',hfill,hRs'⟩:=C6 hF (fun i=>some (i*sz,sz)) hps hmade hcs;have hlen:cs.length=n*sz:=by
    have key:∀ (ps:List (Nat×Nat×CX)) (zs cs:List PV),kD zs fr ps=some cs->cs.length=zs.length:=by
     intro ps
     induction ps with
     |nil=>intro zs cs h;cases h;rfl
     |cons q qs ih=>
      intro zs cs h;obtain⟨o1,s1,x1⟩:=q;unfold kD at h;split at h
      ·split at h
       ·rw[ih _ _ h,pC]
       ·cases h
      ·cases h
    rw[key _ _ _ hcs,qW,hzl]
   have hus:cells'.toList.length=n*sz:=by rw[<-hRs'.1,hlen]
   obtain⟨hI',hL,hS⟩:=hI.lay e cells'.toList [] none (w.alloc (.cells cells' e (0,0))) (by simp) ⟨rfl,rfl⟩;rw[aD]at hI' hL hS;have hnps:aI cs=true:=by
    have key:∀ (vs cs:List PV) (off:Nat),aI vs=true->aI cs=true->aI (bD cs off vs)=true:=by
     intro vs
     induction vs with
     |nil=>intro cs off _ h;exact h
     |cons v vs ih=>
      intro cs off h1 h2;simp only[aI,dh,ae]at h1;refine ih _ _ h1.2 ?_;have:∀ (cs:List PV) (k:Nat),aI cs=true->aI (cs.set k v)=true:=by
       intro cs
       induction cs with
       |nil=>intro k h;simpa using h
       |cons c cs ihc=>
        intro k h;simp only[aI,dh,ae]at h;cases k with
        |zero=>simp only[List.set_cons_zero,aI,dh,ae];exact⟨h1.1,h.2⟩
        |succ k=>simp only[List.set_cons_succ,aI,dh,ae];exact⟨h.1,ihc k h.2⟩
      exact this cs off h2
    have key2:∀ (qs:List (Nat×Operand)) (ps:List (Nat×Nat×CX)) (zs cs:List PV),ie (fun i=>some (i*sz,sz)) qs=some ps->aI zs=true->kD zs fr ps=some cs->aI cs=true:=by
     intro qs
     induction qs with
     |nil=>intro ps zs cs hc hz h;simp[ie]at hc;subst hc;cases h;exact hz
     |cons q qs ih=>
      intro ps zs cs hc hz h;obtain⟨i1,x1⟩:=q;unfold ie at hc;split at hc
      ·rename_i o1 s1 c1 cs1 _ hx1 hr1;cases hc;unfold kD at h;split at h
       ·rename_i ds hds;split at h
        ·exact ih _ _ _ hr1 (key _ _ _ (oo (eB hF hx1) hds) hz) h
        ·cases h
       ·cases h
      ·cases hc
    exact key2 _ _ _ _ hps (uI hnp n) hcs
   have hRs2:=hRs'.le hL hnps;refine⟨_,.slice (some ⟨w.heap.size,0,none⟩) n n,_,_,?_,.inl rfl,.list n cs (.full e) w.heap.size 0 n cells'.toList (aE _) hRs2.1 ?_ hRs2.2.1 hRs2.2.2 ?_ (fun k _ h=>by simp[Gh.lay]at h) (fun _ _=>hI.fresh_xp),hI',hL,hS,fun _=> .inr rfl⟩
   ·have hnot:¬ (n*sz>2 ^ 24):=by omega
    have hmap:(ps.map fun(x:Nat×Operand)=>(x.1,a.eval x.2)).toList=ps.toList.map fun x=>(x.1,a.eval x.2):=Array.toList_map ..;by_cases h0:n*sz=0
    ·have hm0:madeCells z.cells (n*sz)= #[]:=by rw[h0];simp[madeCells,Array.range_zero']
     rw[hm0]at hfill;have hr0:Array.range 0= #[]:=by simp[Array.range_zero']
     simp[Instr.buildSlice,bm w hu,gV w hs,h0,hr0,hfill,newRow]
    ·simp only[madeCells]at hfill;simp[Instr.buildSlice,bm w hu,gV w hs,hnot,h0,zeroValue,typeInfo,hi,hzz,hfill,newRow]
   ·intro j u hj;simp only[Gh.lay,if_true,aq];exact hj
   ·refine⟨rfl,rfl,cells'.toList.length,by simp[Gh.lay],rfl⟩
  ·cases h
 ·cases h
def LB(hI:bz P B G st w)(hF:eT G nt fr a){t e:Nat}{x y:Operand}(hop:o.op= .makeSlice t x y)(hu:P.underlying t=some (.slice e)){cx cy:CX}(hx:bC x=some cx)(hy:bC y=some cy){i:TypeInfo}(hi:P.info? e=some i)
  {zs:List PV} (hz:gb P e=some zs) (hzl:zs.length=i.size) (h:aw cf fr st d (.mk0 e i.size i.bytes cx cy)=some (p,st')):vE P B G w (execOp a.eval o) d false p st':=by
 have hR:=cE hF hx;have hRy:=cE hF hy;simp only[aw]at h;simp only[execOp,hop];generalize a.eval x=xv at hR;generalize a.eval y=yv at hRy;split at h
 ·rename_i nb e1 e2;rw[e1]at hR;rw[e2]at hRy;split at h
  ·rename_i hb;obtain⟨hn0,hbytes,hmax,hsz⟩:=hb;cases h;cases hR;cases hRy;obtain⟨i',z,hi',hzz,hRs,hnp⟩:=mj (P:=P) (G:=G) hz;rw[hi]at hi';cases hi';have hnx:=hI.nx;have hzs:z.cells.size=i.size:=by have:=hRs.1;simp at this;omega
   have hrun:=run_make (P:=P) w t e i z hu hi hzz .i64 .i64 0 nb (Int.le_refl _) hn0 (by
    have h1:((i.bytes*nb.toNat:Nat):Int)<=140737488355328:=by unfold dB at hbytes;omega
    have h2:((i.bytes*nb.toNat:Nat):Int)=(i.bytes:Int) *nb:=by rw[Int.natCast_mul,eo hn0]
    omega) (by omega)
   obtain⟨hI1,hL1,hS1⟩:=hI.lay e [] (madeCells z.cells (nb.toNat*i.size)).toList (some st.nx) (w.alloc (.cells (madeCells z.cells (nb.toNat*i.size)) e)) (by simp) ⟨rfl,rfl⟩;have hml:dB<=maxLen:=by decide
   have hsz':fK P e=some i.size:=by simp[fK,hi]
   have hcap:nb.toNat<=maxLen:=by unfold dB at hml;omega
   have hL2:=hL1.trans (Le.tok (x:= .room {b:=w.heap.size,cap:=nb.toNat,sz:=i.size,e:=e,m:=0}) (k:=st.nx) hI1 (fun x0 h0=>by
    have:=(hI1.cnt _ _ h0).1;omega))
   have hI2:=hI1.tok (x:= .room {b:=w.heap.size,cap:=nb.toNat,sz:=i.size,e:=e,m:=0}) (k:=st.nx) St.grown_more (fun x0 h0=>by
    have:=(hI1.cnt _ _ h0).1;omega) (fun r hr=>by
    cases hr;refine⟨by simp[Gh.lay,size_madeCells],hcap,aM _,hsz',fun o _=>by simp[Gh.lay],fun t' q _ hq e'=>?_,fun _=>by simp[Gh.lay],fun j hj=>by simpa [Gh.lay,eq_comm]using hj,hI.fresh_xp⟩;have:=(hI.room t' q hq).1;rw[e',hI.fresh_sh]at this;cases this) (fun m h=>by cases h)
   have hS2:=cu.tok (x:= .room {b:=w.heap.size,cap:=nb.toNat,sz:=i.size,e:=e,m:=0}) (k:=st.nx) hI1 hS1 (fun x0 h0=>by
    have:=(hI1.cnt _ _ h0).1;omega) (fun r hr=>by cases hr;exact .inr (aE _))
   refine⟨_,.slice (some ⟨w.heap.size,0,none⟩) 0 nb.toNat,_,_,?_,.inl rfl,.list 0 [] _ w.heap.size 0 nb.toNat [] (aM _) rfl (by simp) (by simp) (by simp) ?_ (fun k h=>absurd rfl h) (fun h=>absurd rfl h),hI2,hL2,hS2,fun _=> .inr rfl⟩
   ·simp at hrun;simp[hrun]
   ·refine⟨by simp[Gh.tok];omega,fun y hy=>?_⟩;simp only[Gh.tok,if_true]at hy;cases hy;exact⟨aE _,fun _=>⟨rfl,rfl,rfl,rfl,by simp⟩⟩
  ·cases h
 ·cases h
end
def sf{w:World}{t ty e n cap:Nat}{base:Option Addr}{i:TypeInfo}(hu:P.underlying t=some (.slice e))(hi:P.info? e=some i)(hn:n<=cap){y:Value}
  (hy:y= .slice none 0 0\/∃ a c,y= .slice (some a) 0 c):(Builtin.append_ #[t,t] ty #[.slice base n cap,y]).run P w= .ok (.slice base n cap) w:=by
 rcases hy with rfl|⟨a,c,rfl⟩
 ·cases base<;>simp[Builtin.append_,bm w hu,sizeOf,typeInfo,hi,Builtin.lenOf,Builtin.firstCells,hn,storeCells]
 ·cases base<;>simp[Builtin.append_,bm w hu,sizeOf,typeInfo,hi,Builtin.lenOf,Builtin.firstCells,hn,storeCells,loadCells,loadCellsFrom]
section
variable {G:Gh} {nt:Nat} {fr:Fr} {st st':St} {w:World} {a:Act} {o:Oper} {d:Option Nat} {cf:aA} {p:PV}
def gk(st:St):aB->Nat
 | .own k _=>k
 |_=>st.nx
def jv(st:St)(n:Nat):aB->St
 | .own k _=>st.count k n
 |_=>st.more [n]
def HS(e:Nat):aB->Prop
 | .own _ e'=>e'=e
 | .full e'=>e'=e
 |_=>True
def Bq{t:aB}{n:Nat}(hc:hH st n t=true)(m:Nat):xn st (jv st m t) (gk st t) m:=by
 cases t with
 |no=>simp[hH]at hc
 |sub k=>simp[hH]at hc
 |el k e n=>simp[hH]at hc
 |nil=>exact St.grown_more
 |full e=>exact St.grown_more
 |own k e=>
  simp only[hH,ae,decide_eq_true_eq]at hc;exact St.grown_count hc.1
def At{t:aB}{n:Nat}(hI:bz P B G st w)(hc:hH st n t=true):((t= .nil\/∃ e,t= .full e)/\gk st t=st.nx/\G.tk (gk st t)=none)\/∃ k e x,t= .own k e/\gk st t=k/\G.tk k=some x/\x.cnt=n:=by
 have hnew:G.tk st.nx=none:=by
  cases h:G.tk st.nx with
  |none=>rfl
  |some x=>have:=(hI.cnt _ _ h).1;omega
 cases t with
 |no=>simp[hH]at hc
 |sub k=>simp[hH]at hc
 |el k e n=>simp[hH]at hc
 |nil=>exact .inl ⟨.inl rfl,rfl,hnew⟩
 |full e=>exact .inl ⟨.inr ⟨e,rfl⟩,rfl,hnew⟩
 |own k e=>
  simp only[hH,ae,decide_eq_true_eq,jh]at hc;obtain⟨x,hx⟩:=hI.live k hc.1;exact .inr ⟨k,e,x,rfl,rfl,hx,by rw[<-(hI.cnt k x hx).2,hc.2]⟩
def KM(hI:bz P B G st w){e n:Nat}{cs:List PV}{t:aB}{v:Value}(hR:R G (.list n cs t) v)(hc:hH st n t=true)(he:HS e t)(hfu:∀ e',t= .full e'->n=0):
  ∃ G',R G' (.list n cs (.own (gk st t) e)) v/\bz P B G' (jv st n t) w/\Le G G'/\cu G w G' w/\G'.bx=G.bx:=by
 have hg:=Bq hc n;have hnx:=hI.nx;rcases At hI hc with⟨ht0,hf,hnone⟩|⟨k,e',x,rfl,hk,hx,hxn⟩
 ·have hm:∀ x0,G.tk (gk st t)=some x0->x0.cnt<=n/\(x0.cnt=n->x0= .full n):=fun x0 h=>by rw[hnone]at h;cases h
  have hI':=hI.tok (x:= .full n) hg hm (fun r hr=>by cases hr) (fun m hm=>by
   cases hm;rcases ht0 with rfl|⟨e',rfl⟩
   ·simpa [hH]using hc
   ·exact hfu e' rfl)
  have hL':=Le.tok (x:= .full n) hI hm;have hS':=cu.tok (x:= .full n) hI (cu.refl G w) hm (fun r hr=>by cases hr);refine⟨_,?_,hI',hL',hS',rfl⟩;have hlt:gk st t<(G.tok (gk st t) (.full n)).nx:=by simp[Gh.tok];omega
  have htne:t.of=none:=by rcases ht0 with rfl|⟨_,rfl⟩<;>rfl
  cases hR with
  |listE a=>simp[hH]at hc
  |listN _ ht=>
   refine .listN _ ⟨hlt,fun y hy _=>?_⟩;simp only[Gh.tok,if_true]at hy;cases hy;rfl
  |list _ _ _ b o' cap us hn hl hcm hr h1 ht hp hx'=>
   have htf:tQ G n cap us.length b o' (.full e):=by
    rcases ht0 with rfl|⟨_,rfl⟩
    ·cases ht
    ·cases he;exact ht
   refine .list n cs _ b o' cap us hn hl hcm (fun j p u hp hu=>(hr j p u hp hu).mono hL' (fun _=>rfl)) h1 ⟨hlt,fun y hy=>?_⟩ (fun k hne hk=>by
    have:=hp k hne hk;rw[htne]at this;cases this) (fun hne _=>hx' hne (by rintro rfl;rcases ht0 with h|⟨_,h⟩<;>cases h))
   simp only[Gh.tok,if_true]at hy;cases hy;exact⟨aE _,fun _=>htf⟩
 ·have hm:∀ x0,G.tk k=some x0->x0.cnt<=x.cnt/\(x0.cnt=x.cnt->x0=x):=fun x0 h=>by rw[hx]at h;cases h;exact⟨aE _,fun _=>rfl⟩
  rw[<-hxn]at hg;rw[hk]at hg;have hok:∀ r,x= .room r->DP P G st.fl k r:=fun r hr=>by
   subst hr;obtain⟨h1,h2,h3,h4,h5,h6⟩:=hI.room k r hx;exact⟨h1,h2,h3,h4,h5,fun t q hne hq e=>hne (hI.apart t k q r hq hx e),(hI.priv k r hx).1,(hI.priv k r hx).2,h6⟩
  have hI':=hI.tok hg hm hok (fun m hm=>by subst hm;exact hI.ful k m hx);have hL':=Le.tok hI hm;have hS':=cu.tok hI (cu.refl G w) hm (fun r hr=> .inl ⟨k,r,by rw[hx,hr],rfl⟩);rw[hxn]at hI';cases he;exact⟨_,hR.mono hL' (fun _=>rfl),hI',hL',hS',rfl⟩
def FH(hI:bz P B G st w){t:aB}{n0:Nat}(hc:hH st n0 t=true){e n sz cap:Nat}{cs:List PV}(us rest:List Value){w':World}(hw:w'.heap=(w.alloc (.cells (us++rest).toArray e (0,0))).heap)(he:w'.os=w.os/\w'.output=w.output)
  (hR:Rs G cs us) (hl:us.length=n*sz) (hsz:fK P e=some sz) (hlr:(us++rest).length=cap*sz) (hcap:cap<=maxLen) (hn:n<=cap) (hlt:n0<n):
  ∃ G',R G' (.list n cs (.own (gk st t) e)) (.slice (some ⟨w.heap.size,0,none⟩) n cap)/\bz P B G' (jv st n t) w'/\Le G G'/\cu G w G' w'/\G'.bx=G.bx:=by
 have hg:=Bq hc n;obtain⟨hI1,hL1,hS1⟩:=hI.lay e us rest (some (gk st t)) w' hw he;have hsh:=hI.fresh_sh;have hold:∀ x0,G.tk (gk st t)=some x0->x0.cnt<n:=fun x0 h=>by
  rcases At hI hc with⟨_,_,hnone⟩|⟨k,_,x,_,hk,hx,hxn⟩
  ·rw[hnone]at h;cases h
  ·rw[hk,hx]at h;cases h;omega
 have hm:∀ x0,(G.lay w.heap.size e (us++rest).length us (some (gk st t))).tk (gk st t)=some x0->x0.cnt<=n/\(x0.cnt=n->x0= .room {b:=w.heap.size,cap:=cap,sz:=sz,e:=e,m:=n}):=
  fun x0 h=>by have:=hold x0 h;exact⟨by omega,fun h=>by omega⟩
 have hok:DP P (G.lay w.heap.size e (us++rest).length us (some (gk st t))) st.fl (gk st t) {b:=w.heap.size,cap:=cap,sz:=sz,e:=e,m:=n}:=by
  refine⟨by simp[Gh.lay,<-hlr],hcap,hn,hsz,fun o ho=>?_,fun t' q _ hq=>?_,fun _=>by simp[Gh.lay],fun j hj=>by simpa [Gh.lay,eq_comm]using hj,hI.fresh_xp⟩
  ·simp only[Gh.lay,if_true];simp only at ho;exact bB (by omega)
  ·intro e';have:=(hI.room t' q hq).1;rw[e',hsh]at this;cases this
 have hI2:=hI1.tok (x:= .room {b:=w.heap.size,cap:=cap,sz:=sz,e:=e,m:=n}) hg hm (fun r hr=>by cases hr;exact hok) (fun m h=>by cases h);have hL2:=hL1.trans (Le.tok (x:= .room {b:=w.heap.size,cap:=cap,sz:=sz,e:=e,m:=n}) hI1 hm);have hS2:=cu.tok (x:= .room {b:=w.heap.size,cap:=cap,sz:=sz,e:=e,m:=n}) hI1 hS1 hm (fun r hr=>by cases hr;exact .inr (aE _));refine⟨_,.list n cs _ w.heap.size 0 cap us hn hR.1 ?_ ?_ hR.2.2 ?_ (fun k _ hk=>?_) (fun _ _=>?_),hI2,hL2,hS2,rfl⟩
 ·intro j u hj;show(G.lay w.heap.size e (us++rest).length us (some (gk st t))).com w.heap.size (0+j)=some u;simp only[Gh.lay,if_true,aq];exact hj
 ·exact fun j p u hp hu=>(hR.2.1 j p u hp hu).mono hL2 (fun _=>rfl)
 ·refine⟨by simp[Gh.tok];omega,fun y hy=>?_⟩;simp only[Gh.tok,if_true]at hy;cases hy;exact⟨aE _,fun _=>⟨rfl,rfl,rfl,rfl,hl⟩⟩
 ·simpa [Gh.tok,Gh.lay,aB.of]using hk
 ·exact hI.fresh_xp
end
def Rs.append{G:Gh}{cs ds:List PV}{us vs:List Value}(h:Rs G cs us)(k:Rs G ds vs):Rs G (cs++ds) (us++vs):=by
 obtain⟨h1,h2,h3⟩:=h;obtain⟨k1,k2,k3⟩:=k;refine⟨by simp[h1,k1],fun j p u hp hu=>?_,fun u hu=>?_⟩
 ·by_cases hj:j<cs.length
  ·rw[bL hj]at hp;rw[bL (by omega)]at hu;exact h2 j p u hp hu
  ·rw[cp (by omega)]at hp;rw[cp (by omega),<-h1]at hu;exact k2 _ p u hp hu
 ·rcases ay.1 hu with h|h
  ·exact h3 u h
  ·exact k3 u h
section
variable {G:Gh} {nt:Nat} {fr:Fr} {st st':St} {w:World} {a:Act} {o:Oper} {d:Option Nat} {cf:aA} {p:PV}
def tm(w:World)(o:Obj):(w.drew.alloc o).heap=(w.alloc o).heap:=rfl
def rR(hI:bz P B G st w){t ty e:Nat}{i:TypeInfo}{zs:List PV}(hu:P.underlying t=some (.slice e))(hi:P.info? e=some i)(hz:gb P e=some zs)(hzl:zs.length=i.size)
  {n m:Nat} {cs ds:List PV} {tk ty':aB} {x y:Value} (hx:R G (.list n cs tk) x) (hy:R G (.list m ds ty') y)
  (hc:hH st n tk=true) (hex:HS e tk) (hcs:cs.length=n*i.size) (hds:ds.length=m*i.size) (hby:(n+m) *i.bytes<=dB) (hnm:n+m<=dB) (h0:0<i.size) (hfu:∀ e',tk= .full e'->0<m\/n=0):
  ∃ v w' G',(Builtin.append_ #[t,t] ty #[x,y]).run P w= .ok v w'/\R G' (.list (n+m) (cs++ds) (.own (gk st tk) e)) v/\
   bz P B G' (jv st (n+m) tk) w'/\Le G G'/\cu G w G' w'/\G'.bx=G.bx:=by
 obtain⟨i',z,hi',hzz,hRz,_⟩:=mj (P:=P) (G:=G) hz;rw[hi]at hi';cases hi';have hzs:z.cells.size=i.size:=by have:=hRz.1;simp at this;omega
 have hbb:dB=140737488355328:=rfl;have hml:dB<=maxLen:=by decide
 have hsz:fK P e=some i.size:=by simp[fK,hi]
 have none_:m=0->(y= .slice none 0 0\/∃ a c,y= .slice (some a) 0 c)->ds=[]->∃ v w' G',(Builtin.append_ #[t,t] ty #[x,y]).run P w= .ok v w'/\R G' (.list (n+m) (cs++ds) (.own (gk st tk) e)) v/\
   bz P B G' (jv st (n+m) tk) w'/\Le G G'/\cu G w G' w'/\G'.bx=G.bx:=by
  intro hm0 hy0 hd0;subst hm0;subst hd0;obtain⟨G',hq,hI',hL,hS,hob⟩:=KM hI hx hc hex (fun e' he'=>by rcases hfu e' he' with h|h<;>omega)
  have hrun:(Builtin.append_ #[t,t] ty #[x,y]).run P w= .ok x w:=by
   cases hx with
   |listN=>exact sf hu hi (aE 0) hy0
   |listE a=>exact sf hu hi (aE 0) hy0
   |list _ _ _ b o' cap us hn=>exact sf hu hi hn hy0
  refine⟨x,w,G',hrun,?_,?_,hL,hS,hob⟩
  ·simpa using hq
  ·simpa using hI'
 cases hy with
 |listN=>exact none_ rfl (.inl rfl) rfl
 |listE a=>exact none_ rfl (.inr ⟨a,0,rfl⟩) rfl
 |list _ _ _ yb yo ycap vs hm hyl hyc hyr hy1 _ _ _=>
 by_cases hm0:m=0
 ·subst hm0;exact none_ rfl (.inr ⟨_,_,rfl⟩) (bF (by simpa using hds))
 have hRy:Rs G ds vs:=⟨hyl,hyr,hy1⟩;have hvl:vs.length=m*i.size:=by omega
 have hnews:∀ (j:Nat) (v:Value),vs[j]? =some v->w.cell? ((⟨yb,yo,none⟩:Addr).add j)=some v:=fun j v hj=>by
  rw[oP];exact hI.com _ _ _ (hyc j v hj)
 cases hx with
 |listE a=>simp[hH]at hc
 |listN _ ht=>
  have hby':m*i.bytes<=140737488355328:=by simpa [hbb]using hby
  have hr:=run_append_nil (P:=P) w t ty e i z hu hi hzz ⟨yb,yo,none⟩ m ycap vs hvl hnews (by omega) (by omega) (by omega);have hge:=grownCap_ge w m 0 e;have hcm:grownCap w m 0 e<=maxLen:=grownCap_le_maxLen w m 0 e (by omega);obtain⟨G',hR',hI',hL',hS',hob⟩:=FH (sz:=i.size) (cap:=grownCap w m 0 e) (n:=m) (e:=e) hI hc vs (Builtin.zeroCells z.cells (grownCap w m 0 e-m)).toList (w':=w.drew.alloc (.cells (vs.toArray++Builtin.zeroCells z.cells (grownCap w m 0 e-m)) e)) (by
    rw[tm];congr 3;apply Array.ext';simp) ⟨rfl,rfl⟩ hRy hvl hsz (by
    simp only[af,ep,size_zeroCells,hzs,hvl,<-gr];congr 1;omega) hcm hge (by omega)
  refine⟨_,_,G',hr,?_,?_,hL',hS',hob⟩
  ·simpa using hR'
  ·simpa using hI'
 |list _ _ _ xb xo xcap us hn hxl hxc hxr hx1 ht hp hx'=>
  have hRx:Rs G cs us:=⟨hxl,hxr,hx1⟩;have hul:us.length=n*i.size:=by omega
  have hlen:(us++vs).length=(n+m) *i.size:=by rw[af,hul,hvl,gr]
  by_cases hroom:n+m<=xcap
  ·
   have hown:∃ u r,tk= .own u e/\u<st.nx/\st.cnt u=n/\G.tk u=some (.room r)/\r.m=n/\r.b=xb/\xo=0/\r.cap=xcap/\r.e=e:=by
    rcases At hI hc with⟨rfl|⟨_,rfl⟩,_,_⟩|⟨k,e',q,rfl,_,hq,hqn⟩
    ·cases ht
    ·have:=ht.1;omega
    ·cases hex;have hk:=hI.cnt k q hq;obtain⟨_,hqt⟩:=ht.2 q hq;have hqt:=hqt hqn.symm;cases q with
     |full=>have:=hqt.1;omega
     |room r=>exact⟨k,r,rfl,hk.1,by rw[hk.2,hqn],hq,hqn,hqt.1,hqt.2.1,hqt.2.2.1,hqt.2.2.2.1⟩
   obtain⟨u,r,rfl,hult,hucnt,hr,hrm,hrb,rfl,hrc,hre⟩:=hown;obtain⟨hsh,hrcm,hrfit,hrs,hrno,hrx⟩:=hI.room u r hr;obtain⟨cur,hcur,hcs'⟩:=hI.sh _ _ _ hsh;have hszr:r.sz=i.size:=by rw[hre,hsz]at hrs;exact(Option.some.inj hrs).symm
   subst hrb;have hfit:n*i.size+vs.length<=cur.size:=by rw[hcs',hvl,<-gr,hszr,hrc];exact eU _ hroom
   have hrun:=run_append_room (P:=P) w t ty e i hu hi r.b n xcap cur (by rw[<-hre];exact hcur) ⟨yb,yo,none⟩ m ycap vs hvl hnews hy1 hroom hfit;have hg:xn st (st.count u (n+m)) u (r.m+m):=by rw[hrm];exact St.grown_count hult
   obtain⟨hI',hL',hS'⟩:=hI.more hult hr hcur vs m (by omega) (by rw[hvl,hszr]) (by omega) hcs' hg;have hrn':r.m*r.sz=n*i.size:=by rw[hrm,hszr]
   rw[hrn']at hI' hL' hS';refine⟨_,_,_,hrun,?_,hI',hL',hS',rfl⟩;have hRR:=(hRx.append hRy);refine .list (n+m) (cs++ds) _ r.b 0 xcap (us++vs) hroom hRR.1 (fun j v hj=>?_) (fun j q v hq hv=>(hRR.2.1 j q v hq hv).mono hL' (fun _=>rfl)) hRR.2.2 ⟨?_,fun q hq=>?_⟩ (fun k _ hk=>?_) (fun _ _=>hrx)
   ·show(G.more r.b (n*i.size) vs).com r.b (0+j)=some v;simp only[Gh.more,aq];by_cases hj':n*i.size<=j
    ·rw[ak ⟨trivial,hj'⟩];rw[cp (by omega),hul]at hj;exact hj
    ·rw[ad (by simp;omega)];rw[bL (by omega)]at hj;have:=hxc j v hj;simpa using this
   ·have:=hI.nx
    show u<max _ _;omega
   ·have hq':(if gk st (.own u e)=u then some (mi.room {r with m:=r.m+m})else(G.more r.b (n*i.size) vs).tk (gk st (.own u e)))=some q:=hq;rw[ak (show gk st (.own u e)=u from rfl)]at hq';cases hq';refine⟨by simp only[mi.cnt];omega,fun _=>⟨rfl,rfl,hrc,hre,?_⟩⟩;rw[hlen,hszr]
   ·by_cases hus:us=[]
    ·rw[(hI.priv u r hr).2 k hk];rfl
    ·exact hp k hus hk
  ·have holds:∀ (j:Nat) (v:Value),us[j]? =some v->w.cell? ((⟨xb,xo,none⟩:Addr).add j)=some v:=fun j v hj=>by
    rw[oP];exact hI.com _ _ _ (hxc j v hj)
   have hr:=run_append_grow (P:=P) w t ty e i z hu hi hzz ⟨xb,xo,none⟩ n xcap us hul holds ⟨yb,yo,none⟩ m ycap vs hvl hnews (by omega) (by omega) (growslice_fits (by omega) (by rw[<-hbb];exact hby));have hge:=grownCap_ge w (n+m) xcap e;have hcm:grownCap w (n+m) xcap e<=maxLen:=grownCap_le_maxLen w (n+m) xcap e (by omega);obtain⟨G',hR',hI',hL',hS',hob⟩:=FH (sz:=i.size) (cap:=grownCap w (n+m) xcap e) (n:=n+m) (e:=e) hI hc (us++vs) (Builtin.zeroCells z.cells (grownCap w (n+m) xcap e- (n+m))).toList
    (w':=w.drew.alloc (.cells (us.toArray++vs.toArray++Builtin.zeroCells z.cells (grownCap w (n+m) xcap e- (n+m))) e)) (by
     rw[tm];congr 3;apply Array.ext';simp) ⟨rfl,rfl⟩ (hRx.append hRy) hlen hsz (by
     rw[af,hlen];simp only[ep,size_zeroCells,hzs,<-gr];congr 1;omega) hcm hge (by omega)
   exact⟨_,_,G',hr,hR',hI',hL',hS',hob⟩
end
end Go.PM
namespace Go.PM
open Go.MapKept (bytes_beq run_getObj_map run_setObj_map)
variable {P:Program} {B:Nat->Nat->Option Value}
def tW(w:World)(src e:TypeId)(hs:P.underlying src=some (.slice e))(he:P.underlying e=some (.int .u8))(a:Addr):
  ∀ dst,P.underlying dst=some .string->(convert src dst (.slice (some a) 0 0)).run P w= .ok (.string (strOfNums [])) w:=by
 intro dst hd;have hl:(loadCells a 0).run P w= .ok (([]:List Int).map (Value.int .u8)).toArray w:=by
  have:=run_loadCells_list (P:=P) w a [] (fun j v hj=>by simp at hj);simpa using this
 rw[run_convert_bytes_string w src dst e _ 0 0 hs he hd,run_bytesToString w _ 0 0 [] hl,foldl_push_bytes];simp[strOfNums,ByteArray.empty,ByteArray.emptyWithCapacity];rfl
def xQ:∀ {cs:List PV} {bs:List UInt8},sH cs=some bs->∃ xs:List Int,cs=xs.map (PV.int .u8)/\bs=xs.map fun n=>UInt8.ofNat n.toNat
 | [],bs,h=>by cases h;exact⟨[],rfl,rfl⟩
 |p::cs,bs,h=>by
  unfold sH at h;split at h
  ·rename_i e;cases e
  ·rename_i n ps e;cases e;split at h
   ·rename_i bs' hb;cases h;obtain⟨xs,rfl,rfl⟩:=xQ hb;exact⟨n::xs,rfl,rfl⟩
   ·cases h
  ·cases h
section
variable {G:Gh} {nt:Nat} {fr:Fr} {st st':St} {w:World} {a:Act} {o:Oper} {d:Option Nat} {cf:aA} {p:PV}
def Jt(hI:bz P B G st w)(hF:eT G nt fr a){s t e:Nat}{x:Operand}(hop:o.op= .convert s t x){cx:CX}(hx:bC x=some cx)(hs:P.underlying s=some (.slice e))(he:P.underlying e=some (.int .u8))(ht:P.underlying t=some .string)
  (h:aw cf fr st d (.b2s cx)=some (p,st')):st'=st/\jp P G w (execOp a.eval o) p:=by
 have hR:=cE hF hx;simp only[aw]at h;simp only[execOp,hop];generalize a.eval x=xv at hR;split at h
 ·rename_i n cs tk e1;rw[e1]at hR;split at h
  ·rename_i bs hbs;split at h
   ·rename_i hlen;cases h;obtain⟨xs,hxs,rfl⟩:=xQ hbs;refine⟨rfl,?_⟩;cases hR with
    |listE a=>
     have hx0:xs=[]:=bF (by simpa using hlen);subst hx0;clear hxs;exact⟨.string (strOfNums []),by simp[tW (P:=P) w s e hs he a t ht],.str _⟩
    |listN=>
     have hx0:xs=[]:=bF (by simpa using hlen);subst hx0;clear hxs;exact⟨.string ByteArray.empty,by simp[run_convert_bytes_nil (P:=P) w s e hs he 0 0 t ht],.str _⟩
    |list _ _ _ b o' cap us hn hl hc hr h1 htk hp hx'=>
     subst hxs;have hxl:xs.length=n:=by simpa using hlen
     have hul:us.length=n:=by rw[<-hl];simpa using hlen
     have hcell:∀ i,i<n->w.cell? ⟨b,o'+i,none⟩=some (.int .u8 (xs.getD i 0)):=by
      intro i hi;have hui:us[i]? =some us[i]:=ax (by omega);have hci:(xs.map (PV.int .u8))[i]? =some (.int .u8 (xs.getD i 0)):=by
       simp[de,gh,ax (show i<xs.length by omega)]
      have:=hr i _ _ hci hui;rw[hI.com _ _ _ (hc i _ hui)];generalize us[i]=u at this;cases this;rfl
     exact⟨.string (strOfNums xs),by simp[run_convert_bytes_arg (P:=P) w s e hs he b o' n cap xs hxl hcell t ht],.str _⟩
   ·cases h
  ·cases h
 ·cases h
def Hp{f:Nat}{xs:List Operand}(hop:o.op= .makeFunc (.func f) #[] ⟨xs⟩){cs:List CX}(hR:∀ (j:Nat) p v,(cs.map (·.ev fr))[j]? =some p->(xs.map a.eval)[j]? =some v->R G p v)
  (hl:cs.length=xs.length) (h:aw cf fr st d (.mkfn f cs)=some (p,st')):st'=st/\jp P G w (execOp a.eval o) p:=by
 simp only[aw]at h;simp only[execOp,hop];split at h
 ·cases h;refine⟨rfl,.func (.func f) #[] (xs.map a.eval).toArray,?_,.fn f _ _ (by simpa using hl) hR⟩;simp[Instr.makeFunc]
 ·cases h
end
def oh:Nat->TypeDesc->Bool
 |0,.int _=>true
 |1,.string=>true
 |2,.bool=>true
 |_,_=>false
def uN{t kk e:Nat}(h:rI P t=some (kk,e)):∃ k dsc,P.underlying t=some (.map k e)/\P.underlying k=some dsc/\oh kk dsc=true:=by
 unfold rI at h;split at h
 ·rename_i k v hu;split at h<;>first
   |(rename_i hk;cases h;exact⟨k,_,hu,hk,rfl⟩)
   |cases h
 ·cases h
def xL{p:PV}{kk:Nat}{dsc:TypeDesc}(h:lW p=kk)(hk:oh kk dsc=true):∃ v,fN p=some v:=by
 subst h;cases p<;>first
  |exact⟨_,rfl⟩
  |(cases dsc<;>simp[lW,oh]at hk)
def xu{p q:PV}{v u:Value}{b:Bool}{kk:Nat}{dsc:TypeDesc}(hk:lW p=kk)(hd:oh kk dsc=true)(h:B4 p q=some b)(hp:fN p=some v)(hq:fN q=some u):Instr.sameNow dsc v u=some b/\(b=true->v=u):=by
 subst hk;cases p<;>cases q<;>simp[B4]at h<;>simp[fN]at hp hq<;>subst hp<;>subst hq<;>cases dsc<;>simp[lW,oh]at hd
 ·obtain⟨h1,h2⟩:=h;subst h1;simp[Instr.sameNow,h2];intro hb;subst hb;simpa using h2
 ·simp[Instr.sameNow,h];intro hb;subst hb;simpa using h
 ·simp[Instr.sameNow,h];intro hb;subst hb;exact(bytes_beq _ _).1 h
def oj{G:Gh}{p:PV}{v:Value}{kk:Nat}{dsc:TypeDesc}(hk:lW p=kk)(hd:oh kk dsc=true)(hp:fN p=some v):∀ {es:List (PV×PV)} {vs:List MapEntry} {i:Nat} {r},Rm G es vs->nK p es i=some r->
  match r with
  |none=>Instr.findNow dsc v vs i=some none
  |some (j,q)=>∃ x:MapEntry,Instr.findNow dsc v vs i=some (some (j,x.val))/\i<=j/\vs[j-i]? =some x/\(∃ e,es[j-i]? =some e/\e.2=q)/\x.key=v/\R G q x.val
 | [],[],i,r,hR,h=>by simp only[nK]at h;cases h;rfl
 | [],_::_,i,r,hR,h=>by have:=hR.1;simp at this
 |_::_,[],i,r,hR,h=>by have:=hR.1;simp at this
 |e::es,x::vs,i,r,hR,h=>by
  obtain⟨hkx,hvx⟩:=hR.2 0 e x rfl rfl;have hR':Rm G es vs:=⟨by simpa using hR.1,fun j q y hq hy=>hR.2 (j+1) q y (by simpa using hq) (by simpa using hy)⟩;simp only[nK]at h;split at h
  ·rename_i he;cases h;obtain⟨h1,h2⟩:=xu hk hd he hp hkx;exact⟨x,by simp[Instr.findNow,h1],aE _,by simp,⟨e,by simp,rfl⟩,(h2 rfl).symm,hvx⟩
  ·rename_i he;obtain⟨h1,_⟩:=xu hk hd he hp hkx;have ih:=oj hk hd hp hR' h;cases r with
   |none=>simp only at ih ⊢;simp[Instr.findNow,h1,ih]
   |some jq=>
    obtain⟨j,q⟩:=jq;simp only at ih ⊢;obtain⟨y,h2,h3,h4,⟨e',h5,h6⟩,h7,h8⟩:=ih;have e1:j-i=(j- (i+1))+1:=by omega
    exact⟨y,by simp[Instr.findNow,h1,h2],by omega,by rw[e1];simpa using h4,⟨e',by rw[e1];simpa using h5,h6⟩,h7,h8⟩
  ·cases h
def qO{w:World}{k:Nat}{dsc:TypeDesc}(hu:P.underlying k=some dsc){v:Value}{vs:List MapEntry}{r:Option (Nat×Value)}(h:Instr.findNow dsc v vs 0=some r):(Instr.findKey k v vs).run P w= .ok r w:=by
 simp[Instr.findKey,bm w hu,h]
def D7{kk:Nat}{dsc:TypeDesc}(hd:oh kk dsc=true):(∃ k,dsc= .int k)\/dsc= .string\/dsc= .bool:=by
 unfold oh at hd;split at hd
 ·exact .inl ⟨_,rfl⟩
 ·exact .inr (.inl rfl)
 ·exact .inr (.inr rfl)
 ·cases hd
def BT{w:World}{k kk:Nat}{dsc:TypeDesc}(hu:P.underlying k=some dsc)(hd:oh kk dsc=true)(e:Bool)(v:Value)(n:Nat):(Instr.checkKey e (n+1) k v).run P w= .ok () w:=by
 unfold Instr.checkKey;rw[Sem.run_bind,bm w hu,dd];rcases D7 hd with⟨k,rfl⟩|rfl|rfl<;>rfl
def pz{w:World}{k kk:Nat}{dsc:TypeDesc}(hu:P.underlying k=some dsc)(hd:oh kk dsc=true)(e:Bool)(v:Value):(Instr.checkKey e 10000 k v).run P w= .ok () w:=
 BT hu hd e v 9999
def Gh.newMap(G:Gh)(s b:Nat):Gh:={G with mb:=fun k=>if k=s then some b else G.mb k}
def bz.newMap{G:Gh}{st:St}{w:World}(hI:bz P B G st w)(s:Nat):bz P B (G.newMap s w.heap.size) {st with maps:=fun k=>if k=s then some []else st.maps k} (w.alloc (.map #[] 0))/\Le G (G.newMap s w.heap.size)/\cu G w (G.newMap s w.heap.size) (w.alloc (.map #[] 0)):=by
 have hle:Le G (G.newMap s w.heap.size):=⟨fun _ _ _ h=>h,fun _ _ h=>h,fun _ x' _ h=>⟨x',h,aE _,fun _=>rfl⟩,aE _,fun _ _ _ _ _ h=>h,rfl⟩;refine⟨⟨?_,?_,hI.nx,hI.cnt,hI.live,hI.room,hI.apart,hI.priv,?_,?_,hI.obj,hI.nob,hI.npo,fun b k h=>by rw[jN];have:=hI.pvl b k h;omega,fun b h=>by rw[jN];have:=hI.xpl b h;omega,hI.base,?_,?_,?_,?_,?_,hI.obx,hI.ful⟩,hle,⟨hle.w,by rw[jN];omega,fun b hb _ _ _=>heap_alloc_old w _ b hb,fun s b h=> .inl ⟨s,h⟩,fun t r h=> .inl ⟨t,r,h,rfl⟩,fun _ _ _ h=> .inl h,fun _ _ h=> .inl h,fun _ k h=> .inl ⟨k,h⟩,?_,⟨rfl,rfl⟩⟩⟩
 ·intro b o v h;have:=hI.com b o v h;rw[uf (World.block_lt_of_cell? w _ this)];exact this
 ·intro b e' k h;obtain⟨cur,hc,hk⟩:=hI.sh b e' k h;exact⟨cur,by rw[heap_alloc_old w _ b (aP.1 hc).1];exact hc,hk⟩
 ·intro s' cs' h;obtain⟨b,e',vs',hb,hh,hR'⟩:=hI.objs s' cs' h;exact⟨b,e',vs',hb,by rw[heap_alloc_old w _ b (aP.1 hh).1];exact hh,hR'.le hle (hI.npo s' cs' h)⟩
 ·intro s' b h;rw[jN];obtain⟨h1,h2,h3⟩:=hI.obs s' b h;exact⟨by omega,h2,h3⟩
 ·intro s' b' e' sz h1 h2;obtain⟨h3,cur,h4⟩:=hI.oes s' b' e' sz h1 h2;exact⟨h3,cur,by rw[heap_alloc_old w _ b' (aP.1 h4).1];exact h4⟩
 ·intro s' es h;by_cases hk:s'=s
  ·subst hk;simp only[if_true]at h;cases h;exact⟨w.heap.size,[],0,by simp[Gh.newMap],heap_alloc_new w _,⟨rfl,fun i q x hq=>by simp at hq⟩,by simp⟩
  ·simp only[ad hk]at h;obtain⟨b',us,clk,h1,h2,h3,h4⟩:=hI.mobj s' es h;exact⟨b',us,clk,by simp[Gh.newMap,hk,h1],by rw[heap_alloc_old w _ b' (aP.1 h2).1];exact h2,h3.le hle h4,h4⟩
 ·intro s' b' h;by_cases hk:s'=s
  ·simp only[Gh.newMap,hk,if_true]at h;cases h;exact⟨#[],0,heap_alloc_new w _⟩
  ·simp only[Gh.newMap,ad hk]at h;obtain⟨us,clk,h2⟩:=hI.mbs s' b' h;exact⟨us,clk,by rw[heap_alloc_old w _ b' (aP.1 h2).1];exact h2⟩
 ·have hlt:∀ {u b},G.mb u=some b->b<w.heap.size:=fun h=>by
   obtain⟨us,clk,h2⟩:=hI.mbs _ _ h;exact(aP.1 h2).1
  intro s' u b h1 h2;by_cases hk:s'=s<;>by_cases hu:u=s
  ·rw[hk,hu]
  ·simp only[Gh.newMap,hk,if_true,ad hu]at h1 h2;cases h1;have:=hlt h2;omega
  ·simp only[Gh.newMap,hu,if_true,ad hk]at h1 h2;cases h2;have:=hlt h1;omega
  ·simp only[Gh.newMap,ad hk,ad hu]at h1 h2;exact hI.mbi s' u b h1 h2
 ·intro s' h;by_cases hk:s'=s
  ·simp[hk]at h
  ·simp only[ad hk]at h;simp only[Gh.newMap,ad hk];exact hI.nomb s' h
 ·intro s' b h;by_cases hk:s'=s
  ·simp only[Gh.newMap,hk,if_true]at h;cases h;exact .inr (aE _)
  ·simp only[Gh.newMap,ad hk]at h;exact .inl ⟨s',h⟩
def bz.setMap{G:Gh}{st:St}{w:World}(hI:bz P B G st w){s b clk clk':Nat}{vs:List MapEntry}{es':List (PV×PV)}{vs':List MapEntry}(hs:(st.maps s).isSome=true)(hb:G.mb s=some b)(hh:w.heap[b]? =some (.map vs.toArray clk))
  (hR:Rm G es' vs') (hn:∀ q∈es',np q.2=true):
  bz P B G {st with maps:=fun k=>if k=s then some es' else st.maps k} {w with heap:=w.heap.setIfInBounds b (.map vs'.toArray clk')}/\cu G w G {w with heap:=w.heap.setIfInBounds b (.map vs'.toArray clk')}:=by
 have hlt:=(aP.1 hh).1;have hsz:(w.heap.setIfInBounds b (.map vs'.toArray clk')).size=w.heap.size:=by simp
 have hother:∀ k,k≠b->(w.heap.setIfInBounds b (.map vs'.toArray clk'))[k]? =w.heap[k]? :=fun k hk=>iD (Ne.symm hk);have hrow:∀ {b':Nat} {c:Array Value} {e:TypeId} {f:Nat×Nat},w.heap[b']? =some (.cells c e f)->b'≠b:=by
  rintro b' c e f h rfl;rw[hh]at h;cases h
 have hcell:∀ {b' o:Nat} {v:Value},w.cell? ⟨b',o,none⟩=some v->b'≠b:=by
  rintro b' o v h rfl;simp[World.cell?,hh]at h
 refine⟨⟨?_,?_,hI.nx,hI.cnt,hI.live,hI.room,hI.apart,hI.priv,?_,?_,hI.obj,hI.nob,hI.npo,fun b k h=>by rw[hsz];exact hI.pvl b k h,fun b h=>by rw[hsz];exact hI.xpl b h,hI.base,?_,?_,?_,hI.mbi,?_,hI.obx,hI.ful⟩,⟨rD.refl G,by rw[hsz];exact aE _,?_,fun s' b' h=> .inl ⟨s',h⟩,fun t r h=> .inl ⟨t,r,h,rfl⟩,fun _ _ _ h=> .inl h,fun _ _ h=> .inl h,fun _ k h=> .inl ⟨k,h⟩,fun s b h=> .inl ⟨s,h⟩,⟨rfl,rfl⟩⟩⟩
 ·intro b' o v h;have:=hI.com b' o v h;rw[World.cell?_of_block (w:=w) (a:=⟨b',o,none⟩) (hother b' (hcell this))];exact this
 ·intro b' e' k h;obtain⟨cur,hc,hk⟩:=hI.sh b' e' k h;exact⟨cur,by rw[hother b' (hrow hc)];exact hc,hk⟩
 ·intro s' cs' h;obtain⟨b',e',us,hb',hh',hR'⟩:=hI.objs s' cs' h;exact⟨b',e',us,hb',by rw[hother b' (hrow hh')];exact hh',hR'⟩
 ·intro s' b' h;rw[hsz];exact hI.obs s' b' h
 ·intro s' b' e' sz h1 h2;obtain⟨h3,cur,h4⟩:=hI.oes s' b' e' sz h1 h2;exact⟨h3,cur,by rw[hother b' (hrow h4)];exact h4⟩
 ·intro s' es h;by_cases hk:s'=s
  ·subst hk;simp only[if_true]at h;cases h;exact⟨b,vs',clk',hb,by simp[hlt],hR,hn⟩
  ·simp only[ad hk]at h;obtain⟨b',us,clk,h1,h2,h3,h4⟩:=hI.mobj s' es h;have hne:b'≠b:=by rintro rfl;exact hk (hI.mbi s' s _ h1 hb)
   exact⟨b',us,clk,h1,by rw[hother b' hne];exact h2,h3,h4⟩
 ·intro s' b' h;by_cases hk:b'=b
  ·subst hk;exact⟨vs'.toArray,clk',by simp[hlt]⟩
  ·obtain⟨us,clk,h2⟩:=hI.mbs s' b' h;exact⟨us,clk,by rw[hother b' hk];exact h2⟩
 ·intro s' h;by_cases hk:s'=s
  ·simp[hk]at h
  ·simp only[ad hk]at h;exact hI.nomb s' h
 ·intro b' hb' _ _ hm;exact hother b' (by rintro rfl;exact hm s hb)
section
variable {G:Gh} {nt:Nat} {fr:Fr} {st st':St} {w:World} {a:Act} {o:Oper} {d:Option Nat} {cf:aA} {p:PV}
def HN(hI:bz P B G st w){t:Nat}(hop:o.op= .makeMap t none)(h:aw cf fr st d .mkmap=some (p,st')):vE P B G w (execOp a.eval o) d true p st':=by
 simp only[aw]at h;simp only[execOp,hop];split at h
 ·rename_i s;cases h;obtain⟨hI',hL,hS⟩:=hI.newMap s;refine⟨_,_,_,_,?_,.inl rfl,.mp s w.heap.size (by simp[Gh.newMap]),hI',hL,hS,fun k=>?_⟩
  ·simp[Instr.makeMap]
  ·by_cases hk:k=s
   ·exact .inl ⟨rfl,by rw[hk]⟩
   ·exact .inr (by simp[Gh.bx,Gh.newMap,hk])
 ·cases h
def zf{v:Value}{p:PV}(hq:gW v=some p):np p=true:=by
 unfold gW at hq;split at hq<;>first|(cases hq;rfl)|cases hq
def v7:∀ {vs:List Value} {ps:List PV},iw vs=some ps->aI ps=true
 | [],ps,h=>by simp[iw]at h;subst h;rfl
 |v::vs,ps,h=>by
  unfold iw at h;split at h
  ·rename_i q qs hq hqs;cases h;simp only[aI,dh,ae];exact⟨zf hq,v7 hqs⟩
  ·cases h
def FK{t:Nat}{z:PV}(hz:yQ P t=some z):∃ v,(zeroValue t).run P w= .ok v w/\R G z v/\np z=true:=by
 unfold yQ at hz;split at hz
 ·rename_i i hi;split at hz
  ·rename_i cs hv;simp only[am]at hz;obtain⟨zs,hzs,rfl⟩:=hz;have hR:=od G hzs;exact⟨.agg cs,by simp[zeroValue,typeInfo,hi,hv],by simpa using R.agg (G:=G) zs cs.toList hR.1 hR.2.1 hR.2.2,by simpa [np,off,aI]using v7 hzs⟩
  ·rename_i v _ hv;exact⟨v,by simp[zeroValue,typeInfo,hi,hv],v8 G hz,zf hz⟩
  ·cases hz
 ·cases hz
def HM(hI:bz P B G st w)(hF:eT G nt fr a){t kk e:Nat}{m k v:Operand}(hop:o.op= .mapUpdate t m k v)(hm:rI P t=some (kk,e)){cm ck cv:CX}(h1:bC m=some cm)(h2:bC k=some ck)(h3:bC v=some cv)
  (h:aw cf fr st d (.mpset kk cm ck cv)=some (p,st')):vE P B G w (execOp a.eval o) d false p st':=by
 have hRm:=cE hF h1;have hRk:=cE hF h2;have hRv:=cE hF h3;obtain⟨kt,dsc,hu,huk,hkd⟩:=uN hm;simp only[aw]at h;simp only[execOp,hop];generalize a.eval m=mv at hRm;generalize a.eval k=kv at hRk;generalize a.eval v=vv at hRv;split at h
 ·rename_i s e1;rw[e1]at hRm;cases hRm with
  |mp _ b hb=>
  split at h
  ·rename_i es hes;split at h
   ·rename_i hc;obtain⟨hkk,hnp⟩:=hc;obtain⟨b',vs,clk,hb',hh,hR,hns⟩:=hI.mobj s es hes;rw[hb]at hb';cases hb';obtain⟨kv',hkv⟩:=xL hkk hkd;have hkeq:=tU hRk hkv;subst hkeq;split at h
    ·rename_i i q hf;cases h;obtain⟨x,hfn,_,hx,⟨e',he',_⟩,hxk,_⟩:=oj hkk hkd hkv hR hf;simp only[Nat.sub_zero]at hx he';have hil:i<vs.length:=(br.1 hx).1;have hR':Rm G (es.set i (ck.ev fr,cv.ev fr)) (vs.set i {x with key:=kv,val:=vv}):=by
      refine⟨by simp[hR.1],fun j q y hq hy=>?_⟩;by_cases hj:j=i
      ·subst hj;rw[lF (by rw[hR.1];exact hil)]at hq;rw[lF hil]at hy;cases hq;cases hy;exact⟨hkv,hRv⟩
      ·rw[jP (Ne.symm hj)]at hq hy;exact hR.2 j q y hq hy
     have hmod:vs.toArray.modify i (fun e=>{e with key:=kv,val:=vv})=(vs.set i {x with key:=kv,val:=vv}).toArray:=by
      apply Array.ext';simp only[Array.toList_modify];apply fR;intro j;by_cases hj:j=i
      ·subst hj;rw[lF hil];simp[hx]
      ·rw[jP (Ne.symm hj)];simp[Ne.symm hj]
     obtain⟨hI',hS⟩:=hI.setMap (clk':=clk) (by rw[hes];rfl) hb hh hR' (by
      intro q hq;rcases fH hq with hq|rfl
      ·exact hns q hq
      ·exact hnp)
     refine⟨.skip,undef,_,G,?_,.inr ⟨rfl,rfl⟩,.hole,hI',Le.refl G,hS,fun _=> .inr rfl⟩;have hkeep:(Instr.keyThatStays (((vs.toArray[i]?).map (·.key)).getD kv) kv).run P w= .ok kv w:=by
      have:((vs.toArray[i]?).map (·.key)).getD kv=kv:=by simp[hx,hxk]
      rw[this];have hsb:Instr.sameBits 10000 kv kv=true:=by
       rcases pt hkv with⟨k',n',rfl⟩|⟨b',rfl⟩|⟨s',rfl⟩
       ·simp[Instr.sameBits]
       ·simp[Instr.sameBits]
       ·exact(bytes_beq _ _).2 rfl
      simp[Instr.keyThatStays,hsb]
     have hrun:(Instr.mapUpdate t (.map (some b)) kv vv).run P w= .ok () {w with heap:=w.heap.setIfInBounds b (.map (vs.set i {x with key:=kv,val:=vv}).toArray clk)}:=by
      simp only[Instr.mapUpdate,Sem.run_bind,bm w hu,dd,run_getObj_map hh,pz huk hkd,qO huk hfn,hkeep,run_setObj_map _ hh,hmod]
     simp[hrun]
    ·rename_i hf;cases h;have hfn:=oj hkk hkd hkv hR hf;simp only at hfn;have hR':Rm G (es++[(ck.ev fr,cv.ev fr)]) (vs++[({key:=kv,val:=vv,born:=clk}:MapEntry)]):=by
      refine⟨by simp[hR.1],fun j q y hq hy=>?_⟩;by_cases hj:j<es.length
      ·rw[bL hj]at hq;rw[bL (by rw[<-hR.1];exact hj)]at hy;exact hR.2 j q y hq hy
      ·rw[cp (by omega)]at hq;rw[cp (by rw[<-hR.1];omega),<-hR.1]at hy;cases hjj:j-es.length with
       |zero=>rw[hjj]at hq hy;simp at hq hy;subst hq;subst hy;exact⟨hkv,hRv⟩
       |succ n=>rw[hjj]at hq;simp at hq
     obtain⟨hI',hS⟩:=hI.setMap (clk':=clk+1) (by rw[hes];rfl) hb hh hR' (by
      intro q hq;rcases ay.1 hq with hq|hq
      ·exact hns q hq
      ·simp at hq;subst hq;exact hnp)
     refine⟨.skip,undef,_,G,?_,.inr ⟨rfl,rfl⟩,.hole,hI',Le.refl G,hS,fun _=> .inr rfl⟩;have hrun:(Instr.mapUpdate t (.map (some b)) kv vv).run P w= .ok () {w with heap:=w.heap.setIfInBounds b (.map (vs++[({key:=kv,val:=vv,born:=clk}:MapEntry)]).toArray (clk+1))}:=by
      simp only[Instr.mapUpdate,Sem.run_bind,bm w hu,dd,run_getObj_map hh,pz huk hkd,qO huk hfn,run_setObj_map _ hh];simp
     simp[hrun]
    ·cases h
   ·cases h
  ·cases h
 ·cases h
def FT(hI:bz P B G st w)(hF:eT G nt fr a){t kk e:Nat}{ok:Bool}{m k:Operand}(hop:o.op= .lookup t m k ok)(hm:rI P t=some (kk,e)){z:PV}(hz:yQ P e=some z){cm ck:CX}(h1:bC m=some cm)(h2:bC k=some ck)
  (h:aw cf fr st d (.mpget ok z kk cm ck)=some (p,st')):(st'=st/\jp P G w (execOp a.eval o) p)/\np p=true:=by
 have hRm:=cE hF h1;have hRk:=cE hF h2;obtain⟨kt,dsc,hu,huk,hkd⟩:=uN hm;simp only[aw]at h;simp only[execOp,hop];generalize a.eval m=mv at hRm;generalize a.eval k=kv at hRk;split at h
 ·rename_i s e1;rw[e1]at hRm;cases hRm with
  |mp _ b hb=>
  split at h
  ·rename_i es hes;split at h
   ·rename_i hkk;obtain⟨b',vs,clk,hb',hh,hR,hns⟩:=hI.mobj s es hes;rw[hb]at hb';cases hb';obtain⟨kv',hkv⟩:=xL hkk hkd;have hkeq:=tU hRk hkv;subst hkeq;have hsome:∀ {i:Nat} {u:Value},Instr.findNow dsc kv vs 0=some (some (i,u))->(Instr.lookup t (.map (some b)) kv ok).run P w= .ok (if ok then .tuple #[u,.bool true]else u) w:=by
     intro i u hr;simp only[Instr.lookup,Sem.run_bind,bm w hu,dd,run_getObj_map hh,Sem.run_pure,pz huk hkd,qO huk hr]
    have hnone:∀ {zv:Value},Instr.findNow dsc kv vs 0=some none->(zeroValue e).run P w= .ok zv w->(Instr.lookup t (.map (some b)) kv ok).run P w= .ok (if ok then .tuple #[zv,.bool false]else zv) w:=by
     intro zv hr hz';simp only[Instr.lookup,Sem.run_bind,bm w hu,dd,run_getObj_map hh,Sem.run_pure,pz huk hkd,qO huk hr,hz']
    split at h
    ·rename_i i q hf;cases h;obtain⟨x,hfn,_,hx,⟨e',he',heq⟩,hxk,hRq⟩:=oj hkk hkd hkv hR hf;have hnq:np q=true:=by rw[<-heq];exact hns e' (bQ he')
     have hrun:=hsome hfn;cases ok with
     |false=>exact⟨⟨rfl,jJ (v:=x.val) (by rw[hrun];simp) hRq⟩,hnq⟩
     |true=>
      refine⟨⟨rfl,jJ (v:= .tuple #[x.val,.bool true]) (by rw[hrun];simp) (.tup _ [x.val,.bool true] rfl fun j q' u hq' hu=>?_)⟩,by simpa [np,off,dh]using hnq⟩;cases j with
      |zero=>simp at hq' hu;subst hq';subst hu;exact hRq
      |succ j=>cases j with
       |zero=>simp at hq' hu;subst hq';subst hu;exact .bool _
       |succ j=>simp at hq'
    ·rename_i hf;cases h;have hfn:=oj hkk hkd hkv hR hf;simp only at hfn;obtain⟨zv,hzr,hzR,hzn⟩:=FK (P:=P) (w:=w) (G:=G) hz;have hrun:=hnone hfn hzr;cases ok with
     |false=>exact⟨⟨rfl,jJ (v:=zv) (by rw[hrun];simp) hzR⟩,hzn⟩
     |true=>
      refine⟨⟨rfl,jJ (v:= .tuple #[zv,.bool false]) (by rw[hrun];simp) (.tup _ [zv,.bool false] rfl fun j q' u hq' hu=>?_)⟩,by simpa [np,off,dh]using hzn⟩;cases j with
      |zero=>simp at hq' hu;subst hq';subst hu;exact hzR
      |succ j=>cases j with
       |zero=>simp at hq' hu;subst hq';subst hu;exact .bool _
       |succ j=>simp at hq'
    ·cases h
   ·cases h
  ·cases h
 ·cases h
def FS(hI:bz P B G st w)(hF:eT G nt fr a){t kk e:Nat}{x:Operand}(hop:o.op= .call {callee:= .builtin .len,args:= #[x],argTypes:= #[t]}){cx:CX}(hx:bC x=some cx)
  (hm:rI P t=some (kk,e)) (h:aw cf fr st d (.mplen cx)=some (p,st')):st'=st/\jp P G w (execOp a.eval o) p:=by
 have hR:=cE hF hx;obtain⟨kt,dsc,hu,huk,hkd⟩:=uN hm;simp only[aw]at h;simp only[execOp,hop,resolve,invoke,builtin];generalize hxe:a.eval x=xv at hR;split at h
 ·rename_i s e;rw[e]at hR;cases hR with
  |mp _ b hb=>
  split at h
  ·rename_i es hes;cases h;obtain⟨b',vs,clk,hb',hh,hRm,hns⟩:=hI.mobj s es hes;rw[hb]at hb';cases hb';exact⟨rfl,goInt vs.length,by simp[hxe,Builtin.len_,bm w hu,run_getObj_map hh],by rw[hRm.1];exact .int _ _⟩
  ·cases h
 ·cases h
end
end Go.PM
namespace Go.PM
variable {P:Program} {B:Nat->Nat->Option Value}
def fy{p:PV}(h:np p=true):cz p=true:=by
 unfold cz;split
 ·rename_i f cs;have:dh (fun _=>true) cs=true:=by simpa [np,off]using h
  have key:∀ (l:List PV),dh (fun _=>true) l=true->l.all (fun c=>gx c||np c)=true:=by
   intro l
   induction l with
   |nil=>intro _;rfl
   |cons c l ih=>
    intro h;simp only[dh,ae]at h;simp only[cN,ae,cF];exact⟨.inr h.1,ih h.2⟩
  exact key cs this
 ·simp[h]
def fm{cs:List PV}{p:PV}(h:aI cs=true)(hp:p∈cs):np p=true:=by
 obtain⟨j,hj,rfl⟩:=em hp;exact ju h (ax hj)
def lS{cs:List PV}(h:∀ p∈cs,np p=true):aI cs=true:=by
 induction cs with
 |nil=>rfl
 |cons c cs ih=>
  simp only[aI,dh,ae];exact⟨h c (by simp),ih fun p hp=>h p (by simp[hp])⟩
def io{cs ds:List PV}(h:aI cs=true)(k:aI ds=true):aI (cs++ds)=true:=
 lS fun p hp=>by
  rcases ay.1 hp with h'|h'
  ·exact fm h h'
  ·exact fm k h'
def sn{cs:List PV}{off sz:Nat}{ag:Bool}{p:PV}(h:aI cs=true)(hp:bI cs off sz ag=some p):np p=true:=by
 unfold bI at hp;split at hp
 ·split at hp
  ·cases hp;have:aI ((cs.drop off).take sz)=true:=lS fun q hq=>fm h (cW (eV hq));simpa [np,PM.off,aI]using this
  ·split at hp
   ·exact ju h hp
   ·cases hp
 ·cases hp
def vS{α:Type}:∀ (vs cs:List α) (off:Nat) (x:α),x∈bD cs off vs->x∈cs\/x∈vs
 | [],cs,off,x,h=> .inl h
 |v::vs,cs,off,x,h=>by
  rcases vS vs _ _ x h with h|h
  ·rcases fH h with h|h
   ·exact .inl h
   ·exact .inr (by simp[h])
  ·exact .inr (by simp[h])
section
variable {G:Gh} {nt:Nat} {fr:Fr} {st st':St} {w:World} {a:Act} {o:Oper} {d:Option Nat} {cf:aA} {p:PV}
def As(hF:eT G nt fr a){place:Nat->Option (Nat×Nat)}:∀ {qs:List (Nat×Operand)} {ps:List (Nat×Nat×CX)} {zs cs:List PV},ie place qs=some ps->aI zs=true->kD zs fr ps=some cs->aI cs=true
 | [],ps,zs,cs,hc,hz,h=>by simp[ie]at hc;subst hc;cases h;exact hz
 |q::qs,ps,zs,cs,hc,hz,h=>by
  obtain⟨i1,x1⟩:=q;unfold ie at hc;split at hc
  ·rename_i o1 s1 c1 cs1 _ hx1 hr1;cases hc;unfold kD at h;split at h
   ·rename_i ds hds;split at h
    ·refine As hF hr1 (lS fun p hp=>?_) h;rcases vS _ _ _ _ hp with h'|h'
     ·exact fm hz h'
     ·exact fm (oo (eB hF hx1) hds) h'
    ·cases h
   ·cases h
  ·cases hc
def ex{mk:Bool}(hI:bz P B G st w)(h:st'=st/\jp P G w (execOp a.eval o) p):vE P B G w (execOp a.eval o) d mk p st':=by
 obtain⟨rfl,v,hv,hR⟩:=h;exact⟨_,v,w,G,hv,.inl rfl,hR,hI,Le.refl G,cu.refl G w,fun _=> .inr rfl⟩
def LE(hI:bz P B G st w)(hF:eT G nt fr a){t e:Nat}{x y:Operand}(hop:o.op= .call {callee:= .builtin .append,args:= #[x,y],argTypes:= #[t,t]})(hu:P.underlying t=some (.slice e))
  {cx cy:CX} (hx:bC x=some cx) (hy:bC y=some cy) {i:TypeInfo} (hi:P.info? e=some i) {zs:List PV} (hz:gb P e=some zs) (hzl:zs.length=i.size)
  (h:aw cf fr st d (.app e i.size i.bytes cx cy)=some (p,st')):vE P B G w (execOp a.eval o) d false p st'/\cz p=true:=by
 have hR:=cE hF hx;have hRy:=cE hF hy;have htx:=eB hF hx;have hty:=eB hF hy;simp only[aw]at h;simp only[execOp,hop,resolve,invoke,builtin];generalize hxe:a.eval x=xv at hR;generalize hye:a.eval y=yv at hRy;split at h
 ·rename_i n cs tk m ds ty' e1 e2;rw[e1]at hR htx;rw[e2]at hRy hty;split at h
  ·rename_i hb;obtain⟨hc,hcs,hds,hby,hnm,h0⟩:=hb;have hres:p= .list (n+m) (cs++ds) (.own (gk st tk) e)/\st'=jv st (n+m) tk/\HS e tk/\∀ e',tk= .full e'->0<m\/n=0:=by
    cases tk with
    |no=>simp[hH]at hc
    |sub k=>simp[hH]at hc
    |el k e n=>simp[hH]at hc
    |nil=>cases h;exact⟨rfl,rfl,trivial,fun _ h=>by cases h⟩
    |full e'=>
     simp only at h;split at h
     ·rename_i he;cases h;exact⟨rfl,rfl,he.1,fun _ _=>he.2⟩
     ·cases h
    |own k e'=>
     simp only at h;split at h
     ·rename_i he;cases h;exact⟨rfl,rfl,he,fun _ h=>by cases h⟩
     ·cases h
   obtain⟨rfl,rfl,hex,hfu⟩:=hres;obtain⟨v,w',G',hrun,hR',hI',hL',hS',hob⟩:=rR (ty:=o.type) hI hu hi hz hzl hR hRy hc hex hcs hds hby hnm h0 hfu;refine⟨⟨.value v,v,w',G',?_,.inl rfl,hR',hI',hL',hS',fun s=> .inr (by rw[hob])⟩,fy ?_⟩
   ·simp[hxe,hye,hrun]
   ·have h1:aI cs=true:=by simpa [cz,gx,np,off,aI]using htx
    have h2:aI ds=true:=by simpa [cz,gx,np,off,aI]using hty
    have:=io h1 h2;simpa [np,off,aI]using this
  ·cases h
 ·cases h
end
def CF{v:Value}{p:PV}(h:ib v=some p):np p=true:=by
 unfold ib at h;split at h<;>first|(cases h;rfl)|cases h
def FE{op:BinOp}{x y p:PV}(h:dS op x y=some p):np p=true:=by
 unfold dS at h;split at h
 ·simp only[bK]at h;obtain⟨v,_,hv⟩:=h;exact CF hv
 ·cases h
def G9{op:UnOp}{x p:PV}(h:vr op x=some p):np p=true:=by
 unfold vr at h;split at h
 ·simp only[bK]at h;obtain⟨v,_,hv⟩:=h;exact CF hv
 ·cases h
section
variable {G:Gh} {nt:Nat} {fr:Fr} {st st':St} {w:World} {a:Act} {o:Oper} {d:Option Nat} {cf:aA} {p:PV}
def AL{n:Nat}{cs:List PV}{t:aB}(h:cz (.list n cs t)=true):aI cs=true:=by simpa [cz,gx,np,off,aI]using h
def sM{cs:List PV}{n:Nat}{t:aB}(h:cz (.iptr cs n t)=true):aI cs=true:=by simpa [cz,gx,np,off,aI]using h
def Ja{cs:List PV}(h:cz (.agg cs)=true):aI cs=true:=by simpa [cz,gx,np,off,aI]using h
def I9{cs:List PV}(h:cz (.tup cs)=true):aI cs=true:=by simpa [cz,gx,np,off,aI]using h
def A8{n:Nat}{cs:List PV}{t:aB}(h:aI cs=true):cz (.list n cs t)=true:=fy (by simpa [np,off,aI]using h)
def Be{cs:List PV}{n:Nat}{t:aB}(h:aI cs=true):cz (.iptr cs n t)=true:=fy (by simpa [np,off,aI]using h)
def KP{cs:List PV}(h:aI cs=true):cz (.agg cs)=true:=fy (by simpa [np,off,aI]using h)
def im{c:ew}(h:aw cf fr st d c=some (p,st'))(hx:∀ x,c= .mv x\/(∃ a b,c= .pick a x b)\/(∃ a b,c= .pick a b x)\/(∃ sz ag,c= .load sz ag x)\/c= .nck x\/(∃ i,c= .ext x i)\/(∃ n,c= .fad n x)\/(∃ n sz ag,c= .fld n sz ag x)\/
  (∃ sz i,c= .iad sz x i)\/(∃ sz lo hi,c= .slc sz x lo hi)->cz (x.ev fr)=true)
  (ho:∀ s cs,st.objs s=some cs->aI cs=true) (hb:∀ zs ps,c= .build zs ps->∀ cs,kD zs fr ps=some cs->aI cs=true)
  (hl:∀ e sz zs n ps,c= .bsl e sz zs n ps->∀ cs,kD (List.replicate n zs).flatten fr ps=some cs->aI cs=true)
  (ha:∀ e sz b x y,c≠ .app e sz b x y) (hc1:∀ f as mv,c≠ .call f as mv) (hc2:∀ f as,c≠ .cval f as) (hc3:∀ ok z kk m k,c≠ .mpget ok z kk m k) (hc4:∀ f as,c≠ .callU f as:=by simp) (hc5:∀ e sz b x y,c≠ .apc e sz b x y:=by simp):cz p=true:=by
 cases c with
 |mv x=>simp only[aw]at h;cases h;exact hx x (.inl rfl)
 |pick c x y=>
  simp only[aw]at h;split at h
  ·cases h;exact hx _ (.inr (.inl ⟨_,_,rfl⟩))
  ·cases h;exact hx _ (.inr (.inr (.inl ⟨_,_,rfl⟩)))
  ·cases h
 |alloc zs=>simp only[aw]at h;split at h<;>first|(cases h;rfl)|cases h
 |box sz x=>
  simp only[aw]at h;split at h
  ·split at h<;>first|(cases h;rfl)|cases h
  ·cases h
 |build zs ps=>
  simp only[aw]at h;split at h
  ·rename_i cs hcs;cases h;exact KP (hb _ _ rfl cs hcs)
  ·cases h
 |bsl e sz zs n ps=>
  simp only[aw]at h;split at h
  ·rename_i cs hcs;split at h
   ·cases h;exact A8 (hl _ _ _ _ _ rfl cs hcs)
   ·cases h
  ·cases h
 |load sz ag x=>
  have ht:=hx x (.inr (.inr (.inr (.inl ⟨_,_,rfl⟩))));simp only[aw]at h;split at h
  ·split at h
   ·rename_i cs hcs;simp only[am]at h;obtain⟨q,hq,hqe⟩:=h;cases hqe;exact fy (sn (ho _ _ hcs) hq)
   ·cases h
  ·rename_i cs off tk e;rw[e]at ht;simp only[am]at h;obtain⟨q,hq,hqe⟩:=h;cases hqe;exact fy (sn (sM ht) hq)
  ·cases h
 |store sz x y=>
  simp only[aw]at h;split at h
  ·split at h
   ·split at h<;>first|(cases h;rfl)|cases h
   ·cases h
  ·cases h
 |stx sz x y=>
  simp only[aw]at h;split at h
  ·split at h
   ·split at h<;>first|(cases h;rfl)|cases h
   ·cases h
  ·split at h<;>first|(cases h;rfl)|cases h
  ·cases h
 |callU f as=>exact absurd rfl (hc4 _ _)
 |nck x=>
  have ht:=hx x (.inr (.inr (.inr (.inr (.inl rfl)))));simp only[aw]at h;split at h<;>first|(rename_i e;cases h;rw[<-e];exact ht)|cases h
 |bin op x y=>
  simp only[aw,am]at h;obtain⟨q,hq,hqe⟩:=h;cases hqe;exact fy (FE hq)
 |isnil neg x=>simp only[aw]at h;split at h<;>first|(cases h;rfl)|cases h
 |beq neg x y=>simp only[aw]at h;split at h<;>first|(cases h;rfl)|cases h
 |un op x=>
  simp only[aw,am]at h;obtain⟨q,hq,hqe⟩:=h;cases hqe;exact fy (G9 hq)
 |toInt k x=>simp only[aw]at h;split at h<;>first|(cases h;rfl)|cases h
 |s2s x=>simp only[aw]at h;split at h<;>first|(cases h;rfl)|cases h
 |ext x i=>
  have ht:=hx x (.inr (.inr (.inr (.inr (.inr (.inl ⟨_,rfl⟩))))));simp only[aw]at h;split at h
  ·rename_i vs e;rw[e]at ht;simp only[am]at h;obtain⟨q,hq,hqe⟩:=h;cases hqe;exact fy (ju (I9 ht) hq)
  ·cases h
 |fad n x=>
  have ht:=hx x (.inr (.inr (.inr (.inr (.inr (.inr (.inl ⟨_,rfl⟩)))))));simp only[aw]at h;split at h
  ·cases h;rfl
  ·rename_i cs off tk e;rw[e]at ht;cases h;exact Be (sM ht)
  ·cases h
 |fld n sz ag x=>
  have ht:=hx x (.inr (.inr (.inr (.inr (.inr (.inr (.inr (.inl ⟨_,_,_,rfl⟩))))))));simp only[aw]at h;split at h
  ·rename_i cs e;rw[e]at ht;simp only[am]at h;obtain⟨q,hq,hqe⟩:=h;cases hqe;exact fy (sn (Ja ht) hq)
  ·cases h
 |iad sz x i=>
  have ht:=hx x (.inr (.inr (.inr (.inr (.inr (.inr (.inr (.inr (.inl ⟨_,_,rfl⟩)))))))));simp only[aw]at h;split at h
  ·rename_i e _;rw[e]at ht;split at h
   ·cases h;exact Be (AL ht)
   ·cases h
  ·split at h<;>first|(cases h;rfl)|cases h
  ·cases h
 |sidx x i=>
  simp only[aw]at h;split at h
  ·split at h<;>first|(cases h;rfl)|cases h
  ·cases h
 |ssl x lo hi=>
  simp only[aw]at h;split at h
  ·split at h<;>first|(cases h;rfl)|cases h
  ·cases h
 |slc sz x lo hi=>
  have ht:=hx x (.inr (.inr (.inr (.inr (.inr (.inr (.inr (.inr (.inr ⟨_,_,_,rfl⟩)))))))));simp only[aw]at h;split at h
  ·rename_i e;rw[e]at ht;split at h
   ·split at h
    ·cases h;exact A8 (lS fun q hq=>fm (AL ht) (cW (eV hq)))
    ·cases h
   ·cases h
  ·cases h
 |mks e sz by' zs n c=>
  simp only[aw]at h;split at h
  ·split at h<;>first|(cases h;rfl)|cases h
  ·cases h
 |mk0 e sz by' n c=>
  simp only[aw]at h;split at h
  ·split at h<;>first|(cases h;rfl)|cases h
  ·cases h
 |slen x=>simp only[aw]at h;split at h<;>first|(cases h;rfl)|cases h
 |len x=>simp only[aw]at h;split at h<;>first|(cases h;rfl)|cases h
 |app e sz by' x y=>exact absurd rfl (ha _ _ _ _ _)
 |apc e sz by' x y=>exact absurd rfl (hc5 _ _ _ _ _)
 |b2s x=>
  simp only[aw]at h;split at h
  ·split at h
   ·split at h<;>first|(cases h;rfl)|cases h
   ·cases h
  ·cases h
 |mkfn f as=>
  simp only[aw]at h;split at h
  ·rename_i hb;cases h;exact hb
  ·cases h
 |mkmap=>simp only[aw]at h;split at h<;>first|(cases h;rfl)|cases h
 |mpset kk m k v=>
  simp only[aw]at h;split at h
  ·split at h
   ·split at h
    ·split at h<;>first|(cases h;rfl)|cases h
    ·cases h
   ·cases h
  ·cases h
 |mpget ok z kk m k=>exact absurd rfl (hc3 _ _ _ _ _)
 |mplen m=>
  simp only[aw]at h;split at h
  ·split at h<;>first|(cases h;rfl)|cases h
  ·cases h
 |call f as mv=>exact absurd rfl (hc1 _ _ _)
 |cval f as=>exact absurd rfl (hc2 _ _)
end
end Go.PM
