/- A part of the proof: texts PmA, PmB, PmC, PmD, PmE, PmF, PmG, PmH, PmI, PmJ, PmK, PmL, PmM, PmMa, PmN, PmO, joined. Conditions: none. -/
import Derived.Laws.AppendOwn
import Derived.Calls
import Derived.Tactics
import Derived.Laws.Cells
import Derived.Laws.Tables
import Derived.Laws.CopyRow
import Derived.Laws.MakeOwn
import Derived.Laws.OwnMore
import Derived.Laws.BytesArg
import Derived.MapKept
set_option linter.all false
namespace Go.PM
def aa:=@List.getElem?_cons_succ
def ad:=@List.getElem?_cons_zero
def ae:=@List.length_append
def ai:=@if_neg
def aj:=@Bool.and_eq_true
def al:=@ne_eq
def am:=@if_pos
def ar:=@Nat.zero_add
def av:=@Option.map_eq_some_iff
def ay:=@Bool.and_self
def aA:=@List.length_cons
def aD:=@List.append_nil
def aG:=@List.mem_append
def aI:=@Nat.add_zero
def aK:=@List.getElem?_eq_getElem
def aL:=@List.length_take
def aM:=@List.take_of_length_le
def aP:=@Nat.le_refl
def aU:=@List.nil_append
def aV:=@List.take_succ_eq_append_getElem
def aW:=@Nat.zero_le
def aZ:=@List.mem_cons
def a6:=@List.length_nil
def be:=@List.flatMap_cons
def bf:=@Array.getElem?_eq_some_iff
def bg:=@List.map_cons
def bj:=@List.drop_eq_getElem_cons
def bl:=@List.length_drop
def bn:=@List.append_assoc
def bo:=@List.cons_append
def bv:=@Bool.and_true
def bA:=@List.flatMap_append
def bB:=@Option.some.injEq
def bD:=@List.getElem?_eq_some_iff
def bI:=@List.pairwise_cons
def bJ:=@List.length_map
def bT:=@Array.getD_eq_getD_getElem?
def bU:=@Option.bind_eq_some_iff
def bW:=@List.getElem?_append_left
def bX:=@congrArg
def b8:=@List.mem_of_getElem?
def ce:=@List.mem_cons_of_mem
def cn:=@List.map_append
def cp:=@List.getElem_mem
def cq:=@List.eq_nil_of_length_eq_zero
def cu:=@Option.isSome_iff_exists
def cw:=@List.all_eq_true
def cz:=@Bool.false_eq_true
def cE:=@List.getElem?_eq_none
def cG:=@List.replicate_zero
def cH:=@Bool.true_and
def cJ:=@List.map_nil
def cL:=@Prod.mk.injEq
def cM:=@List.getElem?_append_right
def cT:=@List.all_cons
def cX:=@List.mem_map
def cY:=@Bool.or_eq_true
def da:=@List.flatten_nil
def dd:=@List.all_nil
def dk:=@List.mem_append_left
def du:=@Nat.mul_le_mul_right
def dv:=@List.mem_of_mem_drop
def dy:=@List.take_append_drop
def dA:=@Result.andThen_ok
def dB:=@List.getElem?_map
def dG:=@List.mem_append_right
def dJ:=@Nat.le_trans
def dK:=@List.mem_or_eq_of_mem_set
def dM:=@List.mem_singleton
def dO:=@Bool.false_and
def dQ:=@List.getElem?_take_of_lt
def d7:=@List.getElem_of_mem
def eh:=@Nat.mul_one
def ei:=@List.drop_of_length_le
def em:=@Option.bind_some
def eo:=@List.not_mem_nil
def ex:=@List.getElem?_drop
def eK:=@Int.toNat_of_nonneg
def eO:=@Option.map_some
def eQ:=@Int.toNat_natCast
def eU:=@List.mem_of_mem_take
def ff:=@List.contains_iff_mem
def fh:=@Array.length_toList
def fD:=@Option.map_eq_none_iff
def fM:=@Nat.succ_mul
def gD:=@Option.map_none
def gH:=@List.pairwise_singleton
def gI:=@List.length_eq_zero_iff
def gP:=@List.getD_eq_getElem?_getD
def gW:=@Nat.add_mul
def gX:=@List.drop_eq_nil_of_le
def hY:=@Nat.min_eq_left
def iH:=@List.ext_getElem?
def iM:=@List.mem_filter
def iN:=@List.length_set
def iU:=@List.getElem?_take_eq_none
def je:=@Nat.eq_zero_or_pos
def jf:=@List.drop_left
def jg:=@Array.getElem?_eq_getElem
def jh:=@List.eraseIdx_eq_take_drop_succ
def ji:=@Array.getElem?_setIfInBounds_ne
def ju:=@Nat.not_lt_zero
def jv:=@Nat.le_max_left
def jz:=@Array.getElem?_setIfInBounds_self_of_lt
def jG:=@List.flatMap_nil
def jH:=@List.drop_length
def jI:=@List.drop_drop
def jJ:=@IntKind.wrap_i64
def jO:=@beq_iff_eq
def jZ:=@Bool.true_or
def kf:=@List.singleton_append
def kg:=@List.getElem?_toArray
def kh:=@List.find?_cons
def ki:=@Array.getElem?_toList
def kj:=@Array.getElem?_modify
def kq:=@List.length_eraseIdx_of_lt
def kr:=@Bool.false_or
def ky:=@List.size_toArray
def kF:=@List.pairwise_iff_getElem
def kG:=@List.getElem?_set_ne
def kH:=@Bool.or_eq_false_iff
def kY:=@List.take_left
def lw:=@and_self
def lx:=@Nat.le_max_right
def ly:=@List.take_length
def lz:=@List.mem_of_mem_eraseIdx
def lA:=@Int.lt_trans
def lB:=@Bool.or_true
def lC:=@Array.getElem?_replicate
def lI:=@List.replicate_succ
def lN:=@List.length_eraseIdx_le
def lU:=@Nat.add_assoc
def mi:=@Option.isSome_none
def mj:=@List.foldl_cons
def ml:=@Bool.toNat_true
def my:=@List.getElem?_set_self
def mC:=@List.take_append_of_le_length
def mD:=@List.drop_append_of_le_length
def mK:=@Bool.not_eq_true'
def mX:=@List.mem_range
def nP:=@List.mem_flatMap
def nQ:=@List.getElem?_of_mem
def nY:=@Array.getElem?_append_left
def oj:=@List.take_succ_cons
def ou:=@List.nodup_cons
def ov:=@List.mem_of_find?_eq_some
def ox:=@List.getElem?_eq_none_iff
def oy:=@Bool.eq_iff_iff
def pc:=@Nat.add_sub_cancel
def pd:=@List.getElem?_take
def pe:=@List.filter_append
def pf:=@Array.ext_getElem?
def pE:=@List.nodup_nil
def pF:=@List.drop_zero
def pM:=@List.pairwise_map
def p5:=@Nat.one_mul
def qy:=@true_and
def qz:=@List.isEmpty_iff
def qA:=@List.flatMap_def
def lb{a b:Nat}(h:Nat.ble a b=true):a<=b:=Nat.le_of_ble_eq_true h
inductive aF where
 |no|nil|full (e:Nat)|own (t:Nat) (e:Nat)|sub (t:Nat)|el (t:Nat) (e:Nat) (n:Nat)
 deriving DecidableEq
def aF.of:aF->Option Nat
 | .own k _=>some k
 | .sub k=>some k
 | .el k _ _=>some k
 |_=>none
def aF.der:aF->aF
 | .own k _=> .sub k
 | .sub k=> .sub k
 | .el k _ _=> .sub k
 |_=> .no
def aF.elt(n:Nat):aF->aF
 | .own k e=> .el k e n
 | .sub k=> .sub k
 | .el k _ _=> .sub k
 |_=> .no
def aF.cut(lo:Bool)(n h:Nat)(t:aF):aF:=if lo then(if h=n then t else t.elt n)else t.der
def aF.isOwn(t:aF)(k:Nat):Bool:=match t with
 | .own j _=>j==k
 |_=>false
inductive PV where
 |any
 |hole
 |int (k:IntKind) (n:Int)
 |bool (b:Bool)
 |str (s:ByteArray)
 |nilp
 |nili
 |err
 |agg (cs:List PV)
 |tup (vs:List PV)
 |list (n:Nat) (cs:List PV) (t:aF)
 |ptr (s:Nat) (off:Nat)
 |osl (e:Nat) (sz:Nat) (s:Nat) (n:Nat)
 |mp (s:Nat)
 |iptr (cs:List PV) (off:Nat) (t:aF)
 |fn (f:Nat) (cap:List PV)
instance:Inhabited PV:=⟨.any⟩
abbrev Fr:=Nat->PV
def yY(f:Fr)(d:Nat)(v:PV):Fr:=fun t=>if t=d then v else f t
structure St where
 nx:Nat
 cnt:Nat->Nat
 fl:Nat
 objs:Nat->Option (List PV)
 maps:Nat->Option (List (PV×PV))
def iQ(st:St)(n:Nat):aF->Bool
 | .nil=>n==0
 | .full _=>true
 | .own k _=>decide (k<st.nx) && st.cnt k==n
 |_=>false
def St.count(st:St)(k n:Nat):St:={st with cnt:=fun t=>if t=k then n else st.cnt t}
def St.more(st:St):List Nat->St
 | []=>st
 |n::ns=>{st with nx:=st.nx+(n::ns).length,cnt:=fun t=>if t<st.nx then st.cnt t else(n::ns).getD (t-st.nx) 0}
def St.more_nx(st:St)(ns:List Nat):(st.more ns).nx=st.nx+ns.length:=by cases ns<;>rfl
def St.more_old(st:St)(ns:List Nat){t:Nat}(h:t<st.nx):(st.more ns).cnt t=st.cnt t:=by cases ns<;>simp[St.more,h]
def St.more_new(st:St)(ns:List Nat){t:Nat}(h:st.nx<=t)(h':t<st.nx+ns.length):(st.more ns).cnt t=ns.getD (t-st.nx) 0:=by
 cases ns with
 |nil=>simp at h';omega
 |cons n ns=>simp only[St.more];rw[ai (by omega)]
def St.more_fl(st:St)(ns:List Nat):(st.more ns).fl=st.fl:=by cases ns<;>rfl
def St.more_objs(st:St)(ns:List Nat):(st.more ns).objs=st.objs:=by cases ns<;>rfl
def St.more_maps(st:St)(ns:List Nat):(st.more ns).maps=st.maps:=by cases ns<;>rfl
def aF.ren(f:Nat->Option Nat)(s:Bool):aF->aF
 | .own k e=>(match f k with|some k'=> .own k' e|none=> .no)
 | .sub k=>(match f k with|some k'=> .sub k'|none=> .no)
 | .el k e n=>(match f k with|some k'=> .el k' e n|none=> .no)
 | .nil=>if s then .no else .nil
 | .full e=>if s then .no else .full e
 | .no=> .no
mutual
def ren(f:Nat->Option Nat)(s:Bool):PV->PV
 | .list n cs t=> .list n (bm f s cs) (t.ren f s)
 | .iptr cs off t=> .iptr (bm f s cs) off (t.ren f s)
 | .agg cs=> .agg (bm f s cs)
 | .tup cs=> .tup (bm f s cs)
 | .fn g cs=> .fn g (bm f s cs)
 |p=>p
def bm(f:Nat->Option Nat)(s:Bool):List PV->List PV
 | []=>[]
 |p::ps=>ren f s p::bm f s ps
end
def aO:PV->PV:=ren (fun _=>none) true
def aQ:List PV->List PV:=bm (fun _=>none) true
def aF.free(K:Nat->Bool)(t:aF):Bool:=match t.of with
 |some k=>!K k
 |none=>true
mutual
def tf(K:Nat->Bool):PV->Bool
 | .list _ cs t=>t.free K && dN K cs
 | .iptr cs _ t=>t.free K && dN K cs
 | .fn _ cs=>dN K cs
 | .agg cs=>dN K cs
 | .tup cs=>dN K cs
 |_=>true
def dN(K:Nat->Bool):List PV->Bool
 | []=>true
 |p::ps=>tf K p && dN K ps
end
def bi:List Nat->Nat->Option Nat
 | [],_=>none
 |x::xs,k=>if x=k then some 0 else(bi xs k).map (· +1)
def sG:List Nat->Bool
 | []=>true
 |x::xs=>!xs.contains x && sG xs
def bY(J:List Nat)(p:PV):PV:=if tf (J.contains ·) p then p else .any
structure kS where
 J:List Nat
 k:Nat
 n:Nat
 p:PV
mutual
def gn(u:kS):PV->PV
 | .list m cs t=>if t.isOwn u.k && m==u.n then u.p else if t.free (u.J.contains ·)then .list m (i7 u cs) t else .any
 | .iptr cs o t=>if t.free (u.J.contains ·)then .iptr (i7 u cs) o t else .any
 | .agg cs=> .agg (i7 u cs)
 | .tup cs=> .tup (i7 u cs)
 | .fn g cs=> .fn g (i7 u cs)
 |p=>p
def i7(u:kS):List PV->List PV
 | []=>[]
 |p::ps=>gn u p::i7 u ps
end
mutual
def aB:PV->List (Nat×Nat)
 | .list n cs t=>(match t with| .own k _=>[(k,n)]|_=>[])++aw cs
 | .iptr cs _ _=>aw cs
 | .agg cs=>aw cs
 | .tup cs=>aw cs
 | .fn _ cs=>aw cs
 |_=>[]
def aw:List PV->List (Nat×Nat)
 | []=>[]
 |p::ps=>aB p++aw ps
end
mutual
def fU:PV->Bool
 | .list _ cs t=>(cs.isEmpty||t.of.isSome) && fT cs
 | .iptr cs _ t=>(cs.isEmpty||t.of.isSome) && fT cs
 | .agg cs=>fT cs
 | .tup cs=>fT cs
 | .fn _ cs=>fT cs
 |_=>true
def fT:List PV->Bool
 | []=>true
 |p::ps=>fU p && fT ps
end
inductive CX where
 |sl (n:Nat)
 |k (p:PV)
def CX.ev(fr:Fr):CX->PV
 | .sl n=>fr n
 | .k p=>p
inductive eV where
 |mv (x:CX)
 |pick (c a b:CX)
 |alloc (zs:List PV)
 |box (sz:Nat) (x:CX)
 |build (zs:List PV) (ps:List (Nat×Nat×CX))
 |bsl (e sz:Nat) (zs:List PV) (n:Nat) (ps:List (Nat×Nat×CX))
 |load (sz:Nat) (ag:Bool) (a:CX)
 |store (sz:Nat) (a x:CX)
 |stx (sz:Nat) (a x:CX)
 |nck (x:CX)
 |bin (op:BinOp) (x y:CX)
 |isnil (neg:Bool) (x:CX)
 |beq (neg:Bool) (x y:CX)
 |un (op:UnOp) (x:CX)
 |toInt (k:IntKind) (x:CX)
 |s2s (x:CX)
 |ext (x:CX) (i:Nat)
 |fad (off:Nat) (x:CX)
 |fld (off sz:Nat) (ag:Bool) (x:CX)
 |iad (sz:Nat) (x i:CX)
 |sidx (x i:CX)
 |ssl (x:CX) (lo hi:Option CX)
 |slc (sz:Nat) (x:CX) (lo hi:Option CX)
 |mks (e sz bytes:Nat) (zs:List PV) (n c:CX)
 |mk0 (e sz bytes:Nat) (n c:CX)
 |slen (x:CX)
 |len (x:CX)
 |app (e sz bytes:Nat) (x y:CX)
 |apc (e sz bytes:Nat) (x y:CX)
 |b2s (x:CX)
 |mkfn (f:Nat) (as:List CX)
 |mkmap
 |mpset (kk:Nat) (m k v:CX)
 |mpget (ok:Bool) (zero:PV) (kk:Nat) (m k:CX)
 |mplen (m:CX)
 |call (f:Nat) (as:List CX) (mv:List Nat)
 |cval (f:CX) (as:List CX)
 |callU (f:Nat) (as:List CX)
structure cW where
 g:Option (Nat×Bool)
 d:Option Nat
 op:eV
def B0:PV->Bool
 | .agg _=>false
 | .tup _=>false
 | .any=>false
 | .hole=>false
 |_=>true
def xG:PV->Bool
 | .ptr .. =>false
 | .osl .. =>false
 | .mp .. =>false
 | .iptr .. =>false
 | .fn .. =>false
 |p=>B0 p
def cellsOf:PV->Option (List PV)
 | .agg cs=>some cs
 |p=>if xG p then some [p]else none
def bS{α:Type}(cs:List α)(off:Nat):List α->List α
 | []=>cs
 |v::vs=>bS (cs.set off v) (off+1) vs
def lF(zs:List PV)(fr:Fr):List (Nat×Nat×CX)->Option (List PV)
 | []=>some zs
 |(off,sz,x)::rest=>
  match cellsOf (x.ev fr)with
  |some cs=>if cs.length=sz/\off+sz<=zs.length then lF (bS zs off cs) fr rest else none
  |none=>none
def bL(cs:List PV)(off sz:Nat)(ag:Bool):Option PV:=
 if off+sz<=cs.length then
  if ag then some (.agg ((cs.drop off).take sz))else if sz=1 then cs[off]? else none
 else none
def gp:PV->Option Value
 | .int k n=>some (.int k n)
 | .bool b=>some (.bool b)
 | .str s=>some (.string s)
 |_=>none
def iJ:Value->Option PV
 | .int k n=>some (.int k n)
 | .bool b=>some (.bool b)
 | .string s=>some (.str s)
 |_=>none
def qK{α:Type}:Sem α->Option α
 | .pure v=>some v
 |_=>none
def eq(op:BinOp)(x y:PV):Option PV:=
 match gp x,gp y with
 |some a,some b=>(qK (Go.binOp op 0 a b)).bind iJ
 |_,_=>none
def w6(op:UnOp)(x:PV):Option PV:=
 match gp x with
 |some a=>(qK (Op.unary op a)).bind iJ
 |none=>none
def gQ:PV->Bool
 | .ptr .. =>true
 | .osl .. =>true
 | .mp .. =>true
 |_=>false
def kx(x:PV)(top:Nat):Option Nat:=
 match x with
 | .int _ i=>if 0<=i/\i<=(top:Int)then some i.toNat else none
 |_=>none
def rY(lo hi:Option CX)(fr:Fr)(len cap:Nat):Option (Nat×Nat):=
 match (match hi with|some x=>kx (x.ev fr) cap|none=>some len)with
 |none=>none
 |some h=>
  match (match lo with|some x=>kx (x.ev fr) h|none=>some 0)with
  |none=>none
  |some l=>some (l,h)
def dL:Nat:=140737488355328
abbrev aJ:=Nat->List PV->List Nat->List (List PV)->Option (PV×List Nat×List (List PV))
mutual
def off(K:Nat->Bool):PV->Bool
 | .ptr s _=>!K s
 | .osl _ _ s _=>!K s
 | .mp s=>!K s
 | .iptr cs _ _=>dS K cs
 | .fn _ cs=>dS K cs
 | .agg cs=>dS K cs
 | .tup cs=>dS K cs
 | .list _ cs _=>dS K cs
 |_=>true
def dS(K:Nat->Bool):List PV->Bool
 | []=>true
 |p::ps=>off K p && dS K ps
end
def np(p:PV):Bool:=off (fun _=>true) p
def aX(ps:List PV):Bool:=dS (fun _=>true) ps
def dw:List PV->Option (List Nat)
 | []=>some []
 | .ptr s off::ps=>
  match dw ps with
  |some ks=>if off=0/\ks.contains s=false then some (s::ks)else none
  |none=>none
 |p::ps=>if np p then dw ps else none
def fe(J mv:List Nat)(i n:Nat):List PV->List PV
 | []=>[]
 | .ptr _ _::ps=> .ptr n 0::fe J mv (i+1) (n+1) ps
 |p::ps=>(if mv.contains i then ren (bi J) false p else aO p)::fe J mv (i+1) n ps
def dz(st:St):List Nat->Option (List (List PV))
 | []=>some []
 |k::ks=>match st.objs k,dz st ks with
  |some c,some cs=>some (c::cs)
  |_,_=>none
def fx(objs:Nat->Option (List PV)):List Nat->List (List PV)->Nat->Option (List PV)
 |k::ks,c::cs=>fx (fun s=>if s=k then some c else objs s) ks cs
 |_,_=>objs
def gu(mv:List Nat)(i:Nat):List PV->List (Nat×Nat)
 | []=>[]
 |p::ps=>(if mv.contains i then aB p else [])++gu mv (i+1) ps
def iu(J mv:List Nat)(i:Nat):List PV->Bool
 | []=>true
 |p::ps=>(mv.contains i||tf (J.contains ·) p) && iu J mv (i+1) ps
def kc(mv:List Nat)(i:Nat):List PV->List Bool
 | []=>[]
 | .ptr _ _::ps=>mv.contains i::kc mv (i+1) ps
 |_::ps=>kc mv (i+1) ps
def tB:List Bool->List (List PV)->List (Nat×Nat)
 |b::bs,c::cs=>(if b then aw c else [])++tB bs cs
 |_,_=>[]
def nI(J:List Nat):List Bool->List (List PV)->Bool
 |b::bs,c::cs=>(b||dN (J.contains ·) c) && nI J bs cs
 |_,[]=>true
 | [],_=>false
def me(J:List Nat):List Bool->List (List PV)->List (List PV)
 |b::bs,c::cs=>(if b then bm (bi J) false c else aQ c)::me J bs cs
 |_,cs=>cs.map aQ
def uH(st:St)(q:Nat×Nat):Bool:=iQ st q.2 (.own q.1 0) && decide (st.fl<=q.1)
def d5(mv:List Nat)(as:List PV)(cs:List (List PV)):List (Nat×Nat):=gu mv 0 as++tB (kc mv 0 as) cs
def iZ(J:List Nat)(objs:Nat->Option (List PV)):Nat->Option (List PV):=fun s=>(objs s).map fun c=>c.map (bY J)
def lj(J:List Nat)(maps:Nat->Option (List (PV×PV))):Nat->Option (List (PV×PV)):=fun s=>(maps s).map fun c=>c.map fun q=>(q.1,bY J q.2)
def nU(f:Nat):Bool:=[41,42,85,186,187,188].contains f
def oo(f:Nat)(as:List PV)(cs:List (List PV)):Bool:=(nU f||!cs.isEmpty) && (as.all (tf fun _=>true) && cs.all (dN fun _=>true))
def az(cf:aJ)(f:Nat)(as:List PV)(mv:List Nat)(st:St):Option (PV×St):=
 match dw as with
 |none=>none
 |some ks=>
  match dz st ks with
  |none=>none
  |some cs=>
   match mv with
   | []=>
    match cf f (fe [] [] 0 0 as) [] (cs.map aQ)with
    |some (r,ns,cs')=>if cs'.length=cs.length then
      some (ren (fun k=>some (st.nx+k)) false r,{st.more ns with objs:=fx st.objs ks (cs'.map (bm (fun k=>some (st.nx+k)) false)),fl:=if(fU r && cs'.all fT)||oo f as cs then st.fl else st.nx})
     else none
    |none=>none
   |mv=>
    if sG ((d5 mv as cs).map (·.1)) && (d5 mv as cs).all (uH st) && iu ((d5 mv as cs).map (·.1)) mv 0 as && nI ((d5 mv as cs).map (·.1)) (kc mv 0 as) cs then
     match cf f (fe ((d5 mv as cs).map (·.1)) mv 0 0 as) ((d5 mv as cs).map (·.2)) (me ((d5 mv as cs).map (·.1)) (kc mv 0 as) cs)with
     |some (r,ns,cs')=>if cs'.length=cs.length then
       some (ren (fun k=>some (st.nx+k)) false r,{st.more ns with objs:=fx (iZ ((d5 mv as cs).map (·.1)) st.objs) ks (cs'.map (bm (fun k=>some (st.nx+k)) false)),maps:=lj ((d5 mv as cs).map (·.1)) st.maps,cnt:=(fun t=>if((d5 mv as cs).map (·.1)).contains t then 0 else(st.more ns).cnt t),fl:=if fU r && cs'.all fT then st.fl else st.nx})
      else none
     |none=>none
    else none
def dn(as:List PV)(mv:List Nat)(st:St):List Nat:=
 match mv with
 | []=>[]
 |mv=>match dw as with
  |some ks=>match dz st ks with
   |some cs=>(d5 mv as cs).map (·.1)
   |none=>[]
  |none=>[]
def ui:List PV->Option (List UInt8)
 | []=>some []
 | .int .u8 n::ps=>match ui ps with
  |some bs=>some (UInt8.ofNat n.toNat::bs)
  |none=>none
 |_=>none
def mS:PV->Nat
 | .int _ _=>0
 | .str _=>1
 | .bool _=>2
 |_=>3
def D2:PV->PV->Option Bool
 | .int k a,.int k' b=>if k=k' then some (a==b)else none
 | .str a,.str b=>some (a==b)
 | .bool a,.bool b=>some (a==b)
 |_,_=>none
def pt(k:PV):List (PV×PV)->Nat->Option (Option (Nat×PV))
 | [],_=>some none
 |e::es,i=>match D2 k e.1 with
  |some true=>some (some (i,e.2))
  |some false=>pt k es (i+1)
  |none=>none
def rD(u:kS)(objs:Nat->Option (List PV)):Nat->Option (List PV):=fun s=>(objs s).map fun c=>i7 u c
def sP(u:kS)(maps:Nat->Option (List (PV×PV))):Nat->Option (List (PV×PV)):=fun s=>(maps s).map fun c=>c.map fun q=>(q.1,gn u q.2)
def ir(cs:List PV)(off k e n:Nat)(vs:List PV):kS:=⟨[k],k,n,.list n (bS cs off vs) (.own k e)⟩
def mI(f:Nat):Nat:=f+1000000
def uP(cf:aJ)(f:Nat)(as:List PV)(st:St):Option (PV×PV×St):=
 match az cf (mI f) as [0] st with
 |some (.tup [r,p'],st')=>some (r,p',st')
 |_=>none
def rS:List PV->Bool
 | .list _ _ _::_=>true
 | .agg _::_=>true
 |_=>false
def jb(n:Nat)(p:PV):PV:=if n=0 then .list 0 [] .no else p
def sQ(l:List (Nat×Nat×PV))(m:Nat)(t:aF):Option PV:=match t with
 | .own k _=>(l.find? fun q=>q.1==k && q.2.1==m).map (·.2.2)
 |_=>none
mutual
def mU(J:List Nat)(l:List (Nat×Nat×PV)):PV->PV
 | .list m cs t=>match sQ l m t with
  |some p=>p
  |none=>if t.free (J.contains ·)then .list m (nJ J l cs) t else .any
 | .iptr cs o t=>if t.free (J.contains ·)then .iptr (nJ J l cs) o t else .any
 | .agg cs=> .agg (nJ J l cs)
 | .tup cs=> .tup (nJ J l cs)
 | .fn g cs=> .fn g (nJ J l cs)
 |p=>p
def nJ(J:List Nat)(l:List (Nat×Nat×PV)):List PV->List PV
 | []=>[]
 |p::ps=>mU J l p::nJ J l ps
end
def q6:List PV->List PV->List (Nat×Nat×PV)
 | .list n _ (.own k _)::cs,d::ds=>(k,n,jb n d)::q6 cs ds
 |_::cs,_::ds=>q6 cs ds
 |_,_=>[]
def Nq(p':PV)(as:List PV)(st st':St):St:=match as,p' with
 | .agg cs::rest,.agg ds=>if dw (.agg cs::rest)=some []then{st' with objs:=fun s=>(st.objs s).map fun c=>nJ (dn (.agg cs::rest) [0] st) (q6 cs ds) c}else st'
 |_,_=>st'
def FR(e sz bytes:Nat)(x y:PV)(st:St):Option (PV×St):=match x,y with
 | .list n cs t,.list m ds _=>
  if iQ st n t=true/\cs.length=n*sz/\ds.length=m*sz/\(n+m) *bytes<=dL/\n+m<=dL/\0<sz then
   match t with
   | .own k e'=>if e'=e then some (.list (n+m) (cs++ds) (.own k e),st.count k (n+m))else none
   | .full e'=>if e'=e/\(0<m\/n=0)then some (.list (n+m) (cs++ds) (.own st.nx e),st.more [n+m])else none
   |_=>some (.list (n+m) (cs++ds) (.own st.nx e),st.more [n+m])
  else none
 |_,_=>none
def fY(st:St)(k n:Nat):St:={st.more [n]with objs:=iZ [k] st.objs,maps:=lj [k] st.maps,cnt:=fun t=>if [k].contains t then 0 else(st.more [n]).cnt t}
def mT(x y:PV)(st:St):List Nat:=match x with
 | .list _ cs (.el k _ c)=>if 0<c/\k<st.nx/\st.cnt k=c/\st.fl<=k/\dN ([k].contains ·) cs=true/\tf ([k].contains ·) y=true then [k]else []
 |_=>[]
def Ar(e sz bytes:Nat)(x y:PV)(st:St):Option (PV×St):=match mT x y st,x with
 | [k],.list n cs (.el _ e' _)=>FR e sz bytes (.list n cs (.own st.nx e')) y (fY st k n)
 |_,_=>FR e sz bytes x y st
def aC(cf:aJ)(fr:Fr)(st:St)(d:Option Nat):eV->Option (PV×St)
 | .mv x=>some (x.ev fr,st)
 | .pick c a b=>match c.ev fr with
  | .bool true=>some (a.ev fr,st)
  | .bool false=>some (b.ev fr,st)
  |_=>none
 | .alloc zs=>match d with
  |some s=>some (.ptr s 0,{st with objs:=fun k=>if k=s then some zs else st.objs k})
  |none=>none
 | .box sz x=>match d,cellsOf (x.ev fr)with
  |some s,some cs=>if cs.length=sz then some (.ptr s 0,{st with objs:=fun k=>if k=s then some cs else st.objs k})else none
  |_,_=>none
 | .build zs ps=>match lF zs fr ps with
  |some cs=>some (.agg cs,st)
  |none=>none
 | .bsl e sz zs n ps=>match lF (List.replicate n zs).flatten fr ps with
  |some cs=>if zs.length=sz/\0<sz then some (.list n cs (.full e),st)else none
  |none=>none
 | .load sz ag a=>match a.ev fr with
  | .ptr s off=>match st.objs s with
   |some cs=>(bL cs off sz ag).map fun p=>(p,st)
   |none=>none
  | .iptr cs off _=>(bL cs off sz ag).map fun p=>(p,st)
  |_=>none
 | .store sz a x=>match a.ev fr,cellsOf (x.ev fr)with
  | .ptr s off,some vs=>match st.objs s with
   |some cs=>if vs.length=sz/\off+sz<=cs.length then some (.hole,{st with objs:=fun k=>if k=s then some (bS cs off vs)else st.objs k})else none
   |none=>none
  |_,_=>none
 | .stx sz a x=>match a.ev fr,cellsOf (x.ev fr)with
  | .ptr s off,some vs=>match st.objs s with
   |some cs=>if vs.length=sz/\off+sz<=cs.length then some (.hole,{st with objs:=fun k=>if k=s then some (bS cs off vs)else st.objs k})else none
   |none=>none
  | .iptr cs off (.el k e n),some vs=>
   if vs.length=sz/\off+sz<=cs.length/\0<n/\st.cnt k=n/\k<st.nx/\st.fl<=k/\dN ([k].contains ·) cs=true/\dN ([k].contains ·) vs=true then
    some (.hole,{st with objs:=rD (ir cs off k e n vs) st.objs,maps:=sP (ir cs off k e n vs) st.maps})
   else none
  |_,_=>none
 | .nck x=>match x.ev fr with
  | .ptr s off=>some (.ptr s off,st)
  | .iptr cs off t=>some (.iptr cs off t,st)
  | .fn f cs=>some (.fn f cs,st)
  |_=>none
 | .bin op x y=>(eq op (x.ev fr) (y.ev fr)).map fun p=>(p,st)
 | .isnil neg x=>match x.ev fr with
  | .err=>some (.bool neg,st)
  | .nili=>some (.bool (!neg),st)
  |_=>none
 | .beq neg x y=>match x.ev fr,y.ev fr with
  | .bool a,.bool b=>some (.bool (if neg then !(a==b)else a==b),st)
  |_,_=>none
 | .un op x=>(w6 op (x.ev fr)).map fun p=>(p,st)
 | .toInt k x=>match x.ev fr with
  | .int _ n=>some (.int k (k.wrap n),st)
  |_=>none
 | .s2s x=>match x.ev fr with
  | .str s=>some (.str s,st)
  |_=>none
 | .ext x i=>match x.ev fr with
  | .tup vs=>(vs[i]?).map fun p=>(p,st)
  |_=>none
 | .fad off x=>match x.ev fr with
  | .ptr s o=>some (.ptr s (o+off),st)
  | .iptr cs o t=>some (.iptr cs (o+off) t,st)
  |_=>none
 | .fld off sz ag x=>match x.ev fr with
  | .agg cs=>(bL cs off sz ag).map fun p=>(p,st)
  |_=>none
 | .iad sz x i=>match x.ev fr,i.ev fr with
  | .list n cs t,.int _ j=>if 0<=j/\j<(n:Int)/\cs.length=n*sz then some (.iptr cs (j.toNat*sz) (t.elt n),st)else none
  | .osl _ _ s n,.int _ j=>if 0<=j/\j<(n:Int)then some (.ptr s (j.toNat*sz),st)else none
  |_,_=>none
 | .sidx x i=>match x.ev fr,i.ev fr with
  | .str s,.int _ j=>if h:0<=j/\j.toNat<s.size then some (.int .u8 (s[j.toNat]'h.2).toNat,st)else none
  |_,_=>none
 | .ssl x lo hi=>match x.ev fr with
  | .str s=>match rY lo hi fr s.size s.size with
   |some (l,h)=>some (.str (s.extract l h),st)
   |none=>none
  |_=>none
 | .slc sz x lo hi=>match x.ev fr with
  | .list n cs t=>match rY lo hi fr n n with
   |some (l,h)=>if cs.length=n*sz then some (.list (h-l) ((cs.drop (l*sz)).take ((h-l) *sz)) (t.cut lo.isNone n h),st)else none
   |none=>none
  |_=>none
 | .mks e sz bytes zs n c=>match d,n.ev fr,c.ev fr with
  |some s,.int .i64 a,.int .i64 b=>if a=b/\0<=a/\bytes*a.toNat<=dL/\a<=140737488355328/\zs.length=sz/\0<sz then
    some (.osl e sz s a.toNat,{st with objs:=fun k=>if k=s then some (List.replicate a.toNat zs).flatten else st.objs k})
   else none
  |_,_,_=>none
 | .mk0 e sz bytes n c=>match n.ev fr,c.ev fr with
  | .int .i64 0,.int .i64 b=>if 0<=b/\bytes*b.toNat<=dL/\b<=140737488355328/\0<sz then
    some (.list 0 [] (.own st.nx e),st.more [0])
   else none
  |_,_=>none
 | .slen x=>match x.ev fr with
  | .str s=>some (.int .i64 s.size,st)
  |_=>none
 | .len x=>match x.ev fr with
  | .list n _ _=>some (.int .i64 n,st)
  | .osl _ _ _ n=>some (.int .i64 n,st)
  |_=>none
 | .app e sz bytes x y=>match x.ev fr,y.ev fr with
  | .list n cs t,.list m ds _=>
   if iQ st n t=true/\cs.length=n*sz/\ds.length=m*sz/\(n+m) *bytes<=dL/\n+m<=dL/\0<sz then
    match t with
    | .own k e'=>if e'=e then some (.list (n+m) (cs++ds) (.own k e),st.count k (n+m))else none
    | .full e'=>if e'=e/\(0<m\/n=0)then some (.list (n+m) (cs++ds) (.own st.nx e),st.more [n+m])else none
    |_=>some (.list (n+m) (cs++ds) (.own st.nx e),st.more [n+m])
   else none
  |_,_=>none
 | .apc e sz bytes x y=>Ar e sz bytes (x.ev fr) (y.ev fr) st
 | .b2s x=>match x.ev fr with
  | .list n cs _=>match ui cs with
   |some bs=>if bs.length=n then some (.str ⟨bs.toArray⟩,st)else none
   |none=>none
  |_=>none
 | .mkfn f as=>if(as.map (·.ev fr)).all (fun c=>gQ c||np c)then some (.fn f (as.map (·.ev fr)),st)else none
 | .mkmap=>match d with
  |some s=>some (.mp s,{st with maps:=fun k=>if k=s then some []else st.maps k})
  |none=>none
 | .mpset kk m k v=>match m.ev fr with
  | .mp s=>match st.maps s with
   |some es=>if mS (k.ev fr)=kk/\np (v.ev fr)=true then match pt (k.ev fr) es 0 with
    |some (some (i,_))=>some (.hole,{st with maps:=fun j=>if j=s then some (es.set i (k.ev fr,v.ev fr))else st.maps j})
    |some none=>some (.hole,{st with maps:=fun j=>if j=s then some (es++[(k.ev fr,v.ev fr)])else st.maps j})
    |none=>none
    else none
   |none=>none
  |_=>none
 | .mpget ok zero kk m k=>match m.ev fr with
  | .mp s=>match st.maps s with
   |some es=>if mS (k.ev fr)=kk then match pt (k.ev fr) es 0 with
    |some (some (_,v))=>some (if ok then .tup [v,.bool true]else v,st)
    |some none=>some (if ok then .tup [zero,.bool false]else zero,st)
    |none=>none
    else none
   |none=>none
  |_=>none
 | .mplen m=>match m.ev fr with
  | .mp s=>match st.maps s with
   |some es=>some (.int .i64 es.length,st)
   |none=>none
  |_=>none
 | .call f as mv=>az cf f (as.map (·.ev fr)) mv st
 | .cval f as=>match f.ev fr with
  | .fn g cap=>if g<1000000 then az cf g (as.map (·.ev fr)++cap) [] st else none
  |_=>none
 | .callU f as=>match uP cf f (as.map (·.ev fr)) st with
  |some (r,p',st')=>if rS (as.map (·.ev fr))=true then some (r,Nq p' (as.map (·.ev fr)) st st')else none
  |none=>none
def eZ(fr:Fr):Option (Nat×Bool)->Option Bool
 |none=>some true
 |some (s,b)=>match fr s with
  | .bool b'=>some (b==b')
  | .hole=>some false
  |_=>none
def put(fr:Fr)(d:Option Nat)(v:PV):Fr:=
 match d with
 |some d=>yY fr d v
 |none=>fr
def IK(s:Nat):PV->Bool
 | .ptr k _=>k=s
 | .osl _ _ k _=>k=s
 | .mp k=>k=s
 |_=>false
def dZ(s:Nat):PV->PV
 | .ptr k off=>if k=s then .any else .ptr k off
 | .osl e sz k n=>if k=s then .any else .osl e sz k n
 | .mp k=>if k=s then .any else .mp k
 | .fn f cs=>if cs.any (IK s)then .any else .fn f cs
 |p=>p
def kC:eV->Bool
 | .alloc _=>true
 | .box _ _=>true
 | .mks .. =>true
 | .mkmap=>true
 |_=>false
def Nv(fr:Fr)(st:St):eV->List Nat
 | .call _ as mv=>dn (as.map (·.ev fr)) mv st
 |_=>[]
def wq(a:PV)(vs:Option (List PV))(fr:Fr):Fr:=match a,vs with
 | .iptr cs off (.el k e n),some vs=>fun t=>gn (ir cs off k e n vs) (fr t)
 |_,_=>fr
def kU(o:Option (PV×PV×St))(as:List PV)(st:St):PV->PV:=match as,o with
 | .list n _ (.own k _)::_,some (_,p',_)=>gn ⟨dn as [0] st,k,n,jb n p'⟩
 | .agg cs::_,some (_,.agg ds,_)=>mU (dn as [0] st) (q6 cs ds)
 |_,_=>bY (dn as [0] st)
def IG(o:Option (PV×PV×St))(as:List PV)(st:St)(fr:Fr):Fr:=fun t=>kU o as st (fr t)
def de(cf:aJ)(op:eV)(d:Option Nat)(st:St)(fr:Fr):Fr:=
 match op,d with
 | .alloc _,some s=>fun t=>dZ s (fr t)
 | .box _ _,some s=>fun t=>dZ s (fr t)
 | .mks ..,some s=>fun t=>dZ s (fr t)
 | .mkmap,some s=>fun t=>dZ s (fr t)
 | .call _ _ [],_=>fr
 | .call f as mv,_=>fun t=>bY (Nv fr st (.call f as mv)) (fr t)
 | .stx _ a x,_=>wq (a.ev fr) (cellsOf (x.ev fr)) fr
 | .apc _ _ _ x y,_=>fun t=>bY (mT (x.ev fr) (y.ev fr) st) (fr t)
 | .callU f as,_=>IG (uP cf f (as.map (·.ev fr)) st) (as.map (·.ev fr)) st fr
 |_,_=>fr
def dF(cf:aJ)(o:cW)(x:Fr×St):Option (Fr×St):=
 match eZ x.1 o.g with
 |some true=>match aC cf x.1 x.2 o.d o.op with
  |some (v,st)=>some (put (de cf o.op o.d x.2 x.1) o.d v,st)
  |none=>none
 |some false=>some (put x.1 o.d .hole,x.2)
 |none=>none
def jl(cf:aJ):List cW->Fr×St->Option (Fr×St)
 | [],x=>some x
 |o::os,x=>match dF cf o x with
  |some y=>jl cf os y
  |none=>none
structure qv where
 b:Nat
 cap:Nat
 sz:Nat
 e:Nat
 m:Nat
inductive ot where
 |full (m:Nat)
 |room (r:qv)
def ot.cnt:ot->Nat
 | .full m=>m
 | .room r=>r.m
structure Gh where
 com:Nat->Nat->Option Value
 sh:Nat->Option (Nat×Nat)
 tk:Nat->Option ot
 ob:Nat->Option Nat
 nx:Nat
 pv:Nat->Option Nat
 xp:Nat->Bool
 oe:Nat->Option (Nat×Nat)
 mb:Nat->Option Nat
def Gh.bx(G:Gh)(s:Nat):Option Nat×Option (Nat×Nat)×Option Nat:=(G.ob s,G.oe s,G.mb s)
def mH{G G':Gh}{s:Nat}(h:G'.bx s=G.bx s):G'.ob s=G.ob s:=(Prod.mk.inj h).1
def Bz{G G':Gh}{s:Nat}(h:G'.bx s=G.bx s):G'.oe s=G.oe s:=(Prod.mk.inj (Prod.mk.inj h).2).1
def I9{G G':Gh}{s:Nat}(h:G'.bx s=G.bx s):G'.mb s=G.mb s:=(Prod.mk.inj (Prod.mk.inj h).2).2
def wT(G:Gh)(n cap len b o:Nat):aF->Prop
 | .no=>True
 | .sub _=>True
 | .el t e c=>t<G.nx/\∀ x,G.tk t=some x->c<=x.cnt/\(c=x.cnt->match x with
  | .full _=>True
  | .room r=>r.b=b/\o=0/\r.cap=cap/\r.e=e/\len=n*r.sz)
 | .nil=>False
 | .full e=>cap=n/\o=0/\∃ k,G.sh b=some (e,k)/\k=len
 | .own t e=>t<G.nx/\∀ x,G.tk t=some x->n<=x.cnt/\(n=x.cnt->match x with
  | .full _=>cap=n/\o=0/\∃ k,G.sh b=some (e,k)/\k=len
  | .room r=>r.b=b/\o=0/\r.cap=cap/\r.e=e/\len=n*r.sz)
def FV(G:Gh)(len b o:Nat):aF->Prop
 | .el t e n=>t<G.nx/\∀ x,G.tk t=some x->n<=x.cnt/\(n=x.cnt->match x with
  | .full _=>True
  | .room r=>r.b=b/\o=0/\r.e=e/\len=n*r.sz)
 |_=>True
def Au(G:Gh):aF->Prop
 | .own t _=>t<G.nx/\∀ x,G.tk t=some x->x.cnt=0->x= .full 0
 | .el _ _ c=>c=0
 |_=>True
inductive R (G:Gh):PV->Value->Prop
 |any (v:Value):R G .any v
 |hole:R G .hole undef
 |int (k:IntKind) (n:Int):R G (.int k n) (.int k n)
 |bool (b:Bool):R G (.bool b) (.bool b)
 |str (s:ByteArray):R G (.str s) (.string s)
 |nilp:R G .nilp (.pointer none)
 |nili:R G .nili .nilIface
 |err (t:TypeId) (v:Value):R G .err (.iface t v)
 |agg (cs:List PV) (vs:List Value) (hl:cs.length=vs.length) (hr:∀ (j:Nat) (p:PV) (u:Value),cs[j]? =some p->vs[j]? =some u->R G p u)
   (h1:∀ u∈vs,u.oneCell'=true):R G (.agg cs) (.agg vs.toArray)
 |tup (cs:List PV) (vs:List Value) (hl:cs.length=vs.length) (hr:∀ (j:Nat) (p:PV) (u:Value),cs[j]? =some p->vs[j]? =some u->R G p u):
   R G (.tup cs) (.tuple vs.toArray)
 |listN (t:aF) (ht:Au G t):R G (.list 0 [] t) (.slice none 0 0)
 |listE (a:Addr):R G (.list 0 [] .no) (.slice (some a) 0 0)
 |list (n:Nat) (cs:List PV) (t:aF) (b o cap:Nat) (us:List Value) (hn:n<=cap) (hl:cs.length=us.length)
   (hc:∀ (j:Nat) (u:Value),us[j]? =some u->G.com b (o+j)=some u) (hr:∀ (j:Nat) (p:PV) (u:Value),cs[j]? =some p->us[j]? =some u->R G p u)
   (h1:∀ u∈us,u.oneCell'=true) (ht:wT G n cap us.length b o t)
   (hp:∀ k,us≠ []->G.pv b=some k->t.of=some k) (hx:us≠ []->t≠ .no->G.xp b=false):R G (.list n cs t) (.slice (some ⟨b,o,none⟩) n cap)
 |ptr (s off b:Nat) (hb:G.ob s=some b):R G (.ptr s off) (.pointer (some ⟨b,off,none⟩))
 |osl (e sz s n b:Nat) (hb:G.ob s=some b) (he:G.oe s=some (e,sz)):R G (.osl e sz s n) (.slice (some ⟨b,0,none⟩) n n)
 |mp (s b:Nat) (hb:G.mb s=some b):R G (.mp s) (.map (some b))
 |iptr (cs:List PV) (off:Nat) (t:aF) (b o:Nat) (us:List Value) (hl:cs.length=us.length)
   (hc:∀ (j:Nat) (u:Value),us[j]? =some u->G.com b (o+j)=some u) (hr:∀ (j:Nat) (p:PV) (u:Value),cs[j]? =some p->us[j]? =some u->R G p u)
   (h1:∀ u∈us,u.oneCell'=true) (ht:FV G us.length b o t) (hp:∀ k,us≠ []->G.pv b=some k->t.of=some k) (hx:us≠ []->t≠ .no->G.xp b=false):R G (.iptr cs off t) (.pointer (some ⟨b,o+off,none⟩))
 |fn (f:Nat) (cs:List PV) (vs:List Value) (hl:cs.length=vs.length) (hr:∀ (j:Nat) (p:PV) (u:Value),cs[j]? =some p->vs[j]? =some u->R G p u):
   R G (.fn f cs) (.func (.func f) #[] vs.toArray)
def Rs(G:Gh)(cs:List PV)(vs:List Value):Prop:=
 cs.length=vs.length/\(∀ (j:Nat) (p:PV) (u:Value),cs[j]? =some p->vs[j]? =some u->R G p u)/\∀ u∈vs,u.oneCell'=true
structure Le (G G':Gh):Prop where
 com:∀ b o v,G.com b o=some v->G'.com b o=some v
 sh:∀ b x,G.sh b=some x->G'.sh b=some x
 tk:∀ t x',t<G.nx->G'.tk t=some x'->∃ x,G.tk t=some x/\x.cnt<=x'.cnt/\(x.cnt=x'.cnt->x=x')
 nx:G.nx<=G'.nx
 pv:∀ b k o v,G.com b o=some v->G'.pv b=some k->G.pv b=some k
 xp:G'.xp=G.xp
def Le.refl(G:Gh):Le G G:=⟨fun _ _ _ h=>h,fun _ _ h=>h,fun _ x' _ h=>⟨x',h,aP _,fun _=>rfl⟩,aP _,fun _ _ _ _ _ h=>h,rfl⟩
def Le.trans{G G' G'':Gh}(h:Le G G')(h':Le G' G''):Le G G'':=
 ⟨fun b o v x=>h'.com b o v (h.com b o v x),fun b x y=>h'.sh b x (h.sh b x y),
  fun t x' ht y=>by
   obtain⟨x1,e1,l1,q1⟩:=h'.tk t x' (Nat.lt_of_lt_of_le ht h.nx) y;obtain⟨x,e,l,q⟩:=h.tk t x1 ht e1;refine⟨x,e,dJ l l1,fun hc=>?_⟩;have c1:x.cnt=x1.cnt:=by omega
   have:=q c1;subst this;exact q1 hc,
  dJ h.nx h'.nx,fun b k o v hc hp=>h.pv b k o v hc (h'.pv b k o v (h.com b o v hc) hp),h'.xp.trans h.xp⟩
structure Rn (f:Nat->Option Nat) (K:Nat->Bool) (X:Bool) (G G':Gh):Prop where
 com:∀ b o v,G.com b o=some v->(∀ k,G.pv b=some k->K k=false)->G'.com b o=some v
 sh:∀ b x,G.sh b=some x->G'.sh b=some x
 tk:∀ k k',f k=some k'->K k=false->k<G.nx->k'<G'.nx/\∀ x',G'.tk k'=some x'->∃ x,G.tk k=some x/\x.cnt<=x'.cnt/\(x.cnt=x'.cnt->x=x')
 pv:∀ b k' o v,G.com b o=some v->(∀ k,G.pv b=some k->K k=false)->G'.pv b=some k'->(∃ k,G.pv b=some k/\f k=some k')\/(X=true/\G.xp b=true)
 xp:∀ b o v,G.com b o=some v->(∀ k,G.pv b=some k->K k=false)->G'.xp b=true->G.xp b=true\/∃ k,G.pv b=some k/\f k=none
def Le.rn{G G':Gh}(h:Le G G'):Rn some (fun _=>false) false G G':=
 ⟨fun b o v hc _=>h.com b o v hc,h.sh,fun k k' hk _ hlt=>by
  cases hk;exact⟨Nat.lt_of_lt_of_le hlt h.nx,fun x' hx=>h.tk k x' hlt hx⟩,fun b k' o v hc _ hp=> .inl ⟨k',h.pv b k' o v hc hp,rfl⟩,fun b o v _ _ hx=> .inl (by rw[<-h.xp];exact hx)⟩
def aF.der_of{t:aF}:t.der.of=t.of:=by cases t<;>rfl
def der_of{G:Gh}{b:Nat}{t:aF}{us:List Value}(hp:∀ k,us≠ []->G.pv b=some k->t.of=some k):∀ k,us≠ []->G.pv b=some k->t.der.of=some k:=
 fun k h1 h2=>by rw[aF.der_of];exact hp k h1 h2
def aF.ren_of{f:Nat->Option Nat}{s:Bool}{t:aF}{k k':Nat}(h:t.of=some k)(hf:f k=some k'):(t.ren f s).of=some k':=by
 cases t<;>simp[aF.of]at h<;>subst h<;>simp[aF.ren,hf,aF.of]
def wT.ren{f:Nat->Option Nat}{s:Bool}{K:Nat->Bool}{G G':Gh}{X:Bool}(h:Rn f K X G G'){n cap len b o:Nat}{t:aF}(ht:wT G n cap len b o t)(hk:t.free K=true):wT G' n cap len b o (t.ren f s):=by
 cases t with
 |no=>trivial
 |nil=>cases ht
 |full e=>cases s with
  |true=>trivial
  |false=>obtain⟨h1,h2,k,h3,h4⟩:=ht;exact⟨h1,h2,k,h.sh _ _ h3,h4⟩
 |sub k=>simp only[aF.ren];cases f k<;>trivial
 |el k e c=>
  obtain⟨hlt,ht⟩:=ht;simp only[aF.ren];cases hf:f k with
  |none=>trivial
  |some k'=>
   obtain⟨hlt',htk⟩:=h.tk k k' hf (by simpa [aF.free,aF.of]using hk) hlt;refine⟨hlt',fun x' hx'=>?_⟩;obtain⟨x,hx,hle,heq⟩:=htk x' hx';obtain⟨hn,hm⟩:=ht x hx;refine⟨dJ hn hle,fun hc=>?_⟩;have:=heq (by omega);subst this;exact hm hc
 |own k e=>
  obtain⟨hlt,ht⟩:=ht;simp only[aF.ren];cases hf:f k with
  |none=>trivial
  |some k'=>
   obtain⟨hlt',htk⟩:=h.tk k k' hf (by simpa [aF.free,aF.of]using hk) hlt;refine⟨hlt',fun x' hx'=>?_⟩;obtain⟨x,hx,hle,heq⟩:=htk x' hx';obtain⟨hn,hm⟩:=ht x hx;refine⟨dJ hn hle,fun hc=>?_⟩;have:=heq (by omega);subst this;have:=hm hc;cases x with
   |full m=>obtain⟨h1,h2,k,h3,h4⟩:=this;exact⟨h1,h2,k,h.sh _ _ h3,h4⟩
   |room r=>exact this
def FV.ren{f:Nat->Option Nat}{s:Bool}{K:Nat->Bool}{G G':Gh}{X:Bool}(h:Rn f K X G G'){len b o:Nat}{t:aF}(ht:FV G len b o t)(hk:t.free K=true):FV G' len b o (t.ren f s):=by
 cases t with
 |no=>trivial
 |nil=>cases s<;>trivial
 |full e=>cases s<;>trivial
 |sub k=>simp only[aF.ren];cases f k<;>trivial
 |own k e=>simp only[aF.ren];cases f k<;>trivial
 |el k e n=>
  obtain⟨hlt,ht⟩:=ht;simp only[aF.ren];cases hf:f k with
  |none=>trivial
  |some k'=>
   obtain⟨hlt',htk⟩:=h.tk k k' hf (by simpa [aF.free,aF.of]using hk) hlt;refine⟨hlt',fun x' hx'=>?_⟩;obtain⟨x,hx,hle,heq⟩:=htk x' hx';obtain⟨hn,hm⟩:=ht x hx;refine⟨dJ hn hle,fun hc=>?_⟩;have:=heq (by omega);subst this;exact hm hc
def aF.cut_of{lo:Bool}{n h:Nat}{t:aF}:(t.cut lo n h).of=t.of:=by
 unfold aF.cut;split
 ·split
  ·rfl
  ·cases t<;>rfl
 ·exact aF.der_of
def aF.cut_no{lo:Bool}{n h:Nat}{t:aF}(h:t.cut lo n h≠ .no):t≠ .no:=by
 rintro rfl;apply h;unfold aF.cut;split
 ·split<;>rfl
 ·rfl
def QH{G:Gh}{lo:Bool}{t:aF}(ht:Au G t):Au G (t.cut lo 0 0):=by
 unfold aF.cut;split
 ·rw[am rfl];exact ht
 ·cases t<;>trivial
def QG{G:Gh}{lo:Bool}{n h sz cap len len' b o:Nat}{t:aF}(ht:wT G n cap len b o t)(hlo:lo=true->h=n->len'=len)(hl:len=n*sz)(hl':lo=true->len'=h*sz)(hh:h<=n){cap' o':Nat}(hc:lo=true->cap'=cap/\o'=o){h':Nat}(he:lo=true->h'=h):wT G h' cap' len' b o' (t.cut lo n h):=by
 unfold aF.cut;cases lo with
 |false=>cases t<;>trivial
 |true=>
  obtain⟨rfl,rfl⟩:=hc rfl;cases he rfl;simp only[if_true];split
  ·rename_i e;subst e;rw[hlo rfl rfl];exact ht
  ·cases t with
   |own k e=>
    obtain⟨h1,h2⟩:=ht;refine⟨h1,fun x hx=>?_⟩;obtain⟨h3,h4⟩:=h2 x hx;refine⟨h3,fun hc=>?_⟩;have:=h4 hc;cases x with
    |full m=>trivial
    |room r=>
     obtain⟨e1,e2,e3,e4,e5⟩:=this;refine⟨e1,e2,e3,e4,?_⟩;rw[hl' rfl];have hz:n*sz=n*r.sz:=by omega
     rcases je n with h0|h0
     ·have:h=0:=by omega
      rw[this];simp
     ·rw[Nat.eq_of_mul_eq_mul_left h0 hz]
   |_=>trivial
def aF.elt_of{n:Nat}{t:aF}:(t.elt n).of=t.of:=by cases t<;>rfl
def aF.elt_no{n:Nat}{t:aF}(h:t.elt n≠ .no):t≠ .no:=by rintro rfl;exact h rfl
def elt_of{G:Gh}{n b:Nat}{t:aF}{us:List Value}(hp:∀ k,us≠ []->G.pv b=some k->t.of=some k):∀ k,us≠ []->G.pv b=some k->(t.elt n).of=some k:=
 fun k h1 h2=>by rw[aF.elt_of];exact hp k h1 h2
def QF{G:Gh}{n cap len b o:Nat}{t:aF}(h:wT G n cap len b o t):FV G len b o (t.elt n):=by
 cases t with
 |own k e=>
  obtain⟨h1,h2⟩:=h;refine⟨h1,fun x hx=>?_⟩;obtain⟨h3,h4⟩:=h2 x hx;refine⟨h3,fun hc=>?_⟩;have:=h4 hc;cases x with
  |full m=>trivial
  |room r=>exact⟨this.1,this.2.1,this.2.2.2.1,this.2.2.2.2⟩
 |_=>trivial
def Au.ren{f:Nat->Option Nat}{s:Bool}{K:Nat->Bool}{G G':Gh}{X:Bool}(h:Rn f K X G G'){t:aF}(ht:Au G t)(hk:t.free K=true):Au G' (t.ren f s):=by
 cases t with
 |no=>trivial
 |nil=>cases s<;>trivial
 |full e=>cases s<;>trivial
 |sub k=>simp only[aF.ren];cases f k<;>trivial
 |el k e n=>simp only[aF.ren];cases f k<;>first|trivial|exact ht
 |own k e=>
  simp only[aF.ren];cases hf:f k with
  |none=>trivial
  |some k'=>
   obtain⟨hlt',htk⟩:=h.tk k k' hf (by simpa [aF.free,aF.of]using hk) ht.1;refine⟨hlt',fun x' hx' h0=>?_⟩;obtain⟨x,hx,hle,heq⟩:=htk x' hx';have:=heq (by omega);subst this;exact ht.2 x hx h0
def lO{K:Nat->Bool}:∀ {cs:List PV} {j:Nat} {p:PV},dN K cs=true->cs[j]? =some p->tf K p=true
 | [],_,_,_,h=>by simp at h
 |c::cs,j,p,ho,h=>by
  simp only[dN,aj]at ho;cases j with
  |zero=>simp at h;subst h;exact ho.1
  |succ j=>exact lO ho.2 (by simpa using h)
def qi{K:Nat->Bool}:∀ {cs:List PV} {j:Nat} {p:PV},dS K cs=true->cs[j]? =some p->off K p=true
 | [],_,_,_,h=>by simp at h
 |c::cs,j,p,ho,h=>by
  simp only[dS,aj]at ho;cases j with
  |zero=>simp at h;subst h;exact ho.1
  |succ j=>exact qi ho.2 (by simpa using h)
def mu:∀ {cs:List PV} {j:Nat} {p:PV},fT cs=true->cs[j]? =some p->fU p=true
 | [],_,_,_,h=>by simp at h
 |c::cs,j,p,ho,h=>by
  simp only[fT,aj]at ho;cases j with
  |zero=>simp at h;subst h;exact ho.1
  |succ j=>exact mu ho.2 (by simpa using h)
def gB(f:Nat->Option Nat)(s:Bool):∀ (cs:List PV),(bm f s cs).length=cs.length
 | []=>rfl
 |c::cs=>by simp[bm,gB f s cs]
def v8(f:Nat->Option Nat)(s:Bool):∀ (cs:List PV) (j:Nat),(bm f s cs)[j]? =(cs[j]?).map (ren f s)
 | [],j=>by simp[bm]
 |c::cs,0=>by simp[bm]
 |c::cs,j+1=>by simp[bm,v8 f s cs j]
def gx(f:Nat->Option Nat)(s:Bool)(n:Nat)(cs:List PV)(t:aF):ren f s (.list n cs t)= .list n (bm f s cs) (t.ren f s):=by
 simp[ren]
def tM(f:Nat->Option Nat)(s:Bool)(cs:List PV)(off:Nat)(t:aF):ren f s (.iptr cs off t)= .iptr (bm f s cs) off (t.ren f s):=by
 simp[ren]
def R.ren{f:Nat->Option Nat}{KT:Nat->Bool}{G G':Gh}{X:Bool}(h:Rn f KT X G G')(K:Nat->Bool)(hob:∀ s,K s=false->G'.bx s=G.bx s){sw:Bool}{p:PV}{v:Value}(hr:R G p v)
  (hk:off K p=true) (ht:tf KT p=true) (hX:X=true->fU p=true):R G' (PM.ren f sw p) v:=by
 have get:∀ {cs:List PV} {j:Nat} {q:PV},(bm f sw cs)[j]? =some q->∃ q',cs[j]? =some q'/\PM.ren f sw q'=q:=by
  intro cs j q hq;rw[v8]at hq;cases hc:cs[j]? with
  |none=>rw[hc]at hq;simp at hq
  |some q'=>rw[hc]at hq;simp at hq;exact⟨q',rfl,hq⟩
 have first:∀ {us:List Value} {b o:Nat},us≠ []->(∀ (j:Nat) (u:Value),us[j]? =some u->G.com b (o+j)=some u)->∃ v,G.com b o=some v:=by
  intro us b o hne hc;cases us with
  |nil=>exact absurd rfl hne
  |cons u us=>exact⟨u,hc 0 u rfl⟩
 have frOk:∀ {us:List Value} {b:Nat} {t:aF},t.free KT=true->(∀ k,us≠ []->G.pv b=some k->t.of=some k)->us≠ []->∀ k,G.pv b=some k->KT k=false:=by
  intro us b t hf hp hne k hk';have:=hp k hne hk';simpa [aF.free,this]using hf
 have comOk:∀ {us:List Value} {b o:Nat} {t:aF},t.free KT=true->(∀ k,us≠ []->G.pv b=some k->t.of=some k)->(∀ (j:Nat) (u:Value),us[j]? =some u->G.com b (o+j)=some u)->∀ (j:Nat) (u:Value),us[j]? =some u->G'.com b (o+j)=some u:=by
  intro us b o t hf hp hc j u hu;have hne:us≠ []:=by intro e;subst e;simp at hu
  exact h.com _ _ _ (hc j u hu) (frOk hf hp hne)
 have xpOk:∀ {us:List Value} {b o:Nat} {t:aF},t.free KT=true->(∀ k,us≠ []->G.pv b=some k->t.of=some k)->(us≠ []->t≠ .no->G.xp b=false)->(∀ (j:Nat) (u:Value),us[j]? =some u->G.com b (o+j)=some u)->
   us≠ []->t.ren f sw≠ .no->G'.xp b=false:=by
  intro us b o t hf hp hx hc hne ht';cases hxb:G'.xp b with
  |false=>rfl
  |true=>
   obtain⟨v0,hv0⟩:=first hne hc
   have htn:t≠ .no:=by rintro rfl;exact ht' rfl
   rcases h.xp b _ v0 hv0 (frOk hf hp hne) hxb with h1|⟨k,h1,h2⟩
   ·rw[hx hne htn]at h1;cases h1
   ·have:=hp k hne h1;cases t<;>simp[aF.of]at this<;>subst this<;>exact absurd (by simp[aF.ren,h2]) ht'
 have pvOk:∀ {us:List Value} {b o:Nat} {t:aF},t.free KT=true->(X=true->us≠ []->t.of.isSome=true)->(∀ k,us≠ []->G.pv b=some k->t.of=some k)->(us≠ []->t≠ .no->G.xp b=false)->(∀ (j:Nat) (u:Value),us[j]? =some u->G.com b (o+j)=some u)->∀ k',us≠ []->G'.pv b=some k'->(t.ren f sw).of=some k':=by
  intro us b o t hf hcl hp hx hc k' hne hk';obtain⟨v0,hv0⟩:=first hne hc
  rcases h.pv b k' _ v0 hv0 (frOk hf hp hne) hk' with⟨k,hk1,hk2⟩|⟨hX',hxb⟩
  ·exact aF.ren_of (hp k hne hk1) hk2
  ·have h1:=hcl hX' hne;have htn:t≠ .no:=by rintro rfl;simp[aF.of]at h1
   rw[hx hne htn]at hxb;cases hxb
 have clOk:∀ {cs:List PV} {us:List Value} {t:aF},cs.length=us.length->(X=true->(cs.isEmpty||t.of.isSome)=true)->X=true->us≠ []->t.of.isSome=true:=by
  intro cs us t hl h1 h2 hne;have:=h1 h2;cases cs with
  |nil=>exact absurd (cq hl.symm) hne
  |cons c cs=>simpa using this
 induction hr with
 |any v=>exact .any v
 |hole=>exact .hole
 |int k n=>exact .int k n
 |bool b=>exact .bool b
 |str s=>exact .str s
 |nilp=>exact .nilp
 |nili=>exact .nili
 |err t v=>exact .err t v
 |agg cs vs hl _ h1 ih=>
  refine .agg _ vs (by rw[gB];exact hl) (fun j q u hq hu=>?_) h1;obtain⟨q',hq',rfl⟩:=get hq;exact ih j q' u hq' hu (qi (by simpa [off]using hk) hq') (lO (by simpa [tf]using ht) hq') (fun hx=>mu (by simpa [fU]using hX hx) hq')
 |tup cs vs hl _ ih=>
  refine .tup _ vs (by rw[gB];exact hl) (fun j q u hq hu=>?_);obtain⟨q',hq',rfl⟩:=get hq;exact ih j q' u hq' hu (qi (by simpa [off]using hk) hq') (lO (by simpa [tf]using ht) hq') (fun hx=>mu (by simpa [fU]using hX hx) hq')
 |listN t htn=>
  rw[gx];exact .listN _ (htn.ren h (by simpa [tf,dN]using ht))
 |listE a=>
  rw[gx];exact .listE a
 |list n cs t b o cap us hn hl hc _ h1 htr hp hx ih=>
  rw[gx];simp only[tf,aj]at ht;simp only[fU,aj]at hX;refine .list n _ _ b o cap us hn (by rw[gB];exact hl) (comOk ht.1 hp hc) (fun j q u hq hu=>?_) h1 (htr.ren h ht.1) (pvOk ht.1 (clOk hl fun h=>(hX h).1) hp hx hc) (xpOk ht.1 hp hx hc);obtain⟨q',hq',rfl⟩:=get hq;exact ih j q' u hq' hu (qi (by simpa [off]using hk) hq') (lO ht.2 hq') (fun hx=>mu (hX hx).2 hq')
 |ptr s off b hb=>exact .ptr s off b (by rw[mH (hob s (by simpa [PM.off]using hk))];exact hb)
 |osl e sz s n b hb he=>
  have:=hob s (by simpa [PM.off]using hk);exact .osl e sz s n b (by rw[mH this];exact hb) (by rw[Bz this];exact he)
 |mp s b hb=>exact .mp s b (by rw[I9 (hob s (by simpa [PM.off]using hk))];exact hb)
 |iptr cs off t b o us hl hc _ h1 htp hp hx ih=>
  rw[tM];simp only[tf,aj]at ht;simp only[fU,aj]at hX;refine .iptr _ off _ b o us (by rw[gB];exact hl) (comOk ht.1 hp hc) (fun j q u hq hu=>?_) h1 (htp.ren h ht.1) (pvOk ht.1 (clOk hl fun h=>(hX h).1) hp hx hc) (xpOk ht.1 hp hx hc);obtain⟨q',hq',rfl⟩:=get hq;exact ih j q' u hq' hu (qi (by simpa [PM.off]using hk) hq') (lO ht.2 hq') (fun hx=>mu (hX hx).2 hq')
 |fn g cs vs hl _ ih=>
  refine .fn g _ vs (by rw[gB];exact hl) (fun j q u hq hu=>?_);obtain⟨q',hq',rfl⟩:=get hq;exact ih j q' u hq' hu (qi (by simpa [off]using hk) hq') (lO (by simpa [tf]using ht) hq') (fun hx=>mu (by simpa [fU]using hX hx) hq')
def aF.ren_some(t:aF):t.ren some false=t:=by cases t<;>rfl
mutual
theorem ren_some:∀ (p:PV),ren some false p=p
 | .list n cs t=>by rw[gx,qI cs,aF.ren_some]
 | .iptr cs o t=>by rw[tM,qI cs,aF.ren_some]
 | .agg cs=>by simp[ren,qI cs]
 | .tup cs=>by simp[ren,qI cs]
 | .fn g cs=>by simp[ren,qI cs]
 | .ptr _ _=>rfl
 | .osl _ _ _ _=>rfl
 | .mp _=>rfl
 | .any=>rfl
 | .hole=>rfl
 | .int _ _=>rfl
 | .bool _=>rfl
 | .str _=>rfl
 | .nilp=>rfl
 | .nili=>rfl
 | .err=>rfl
theorem qI:∀ (ps:List PV),bm some false ps=ps
 | []=>rfl
 |p::ps=>by simp[bm,ren_some p,qI ps]
end
def aF.free_none(t:aF):t.free (fun _=>false)=true:=by
 unfold aF.free;cases t.of<;>rfl
mutual
theorem oa:∀ (p:PV),tf (fun _=>false) p=true
 | .list _ cs t=>by simp[tf,aF.free_none,k9 cs]
 | .iptr cs _ t=>by simp[tf,aF.free_none,k9 cs]
 | .agg cs=>by simp[tf,k9 cs]
 | .tup cs=>by simp[tf,k9 cs]
 | .fn _ cs=>by simp[tf,k9 cs]
 | .ptr _ _=>rfl
 | .osl _ _ _ _=>rfl
 | .mp _=>rfl
 | .any=>rfl
 | .hole=>rfl
 | .int _ _=>rfl
 | .bool _=>rfl
 | .str _=>rfl
 | .nilp=>rfl
 | .nili=>rfl
 | .err=>rfl
theorem k9:∀ (ps:List PV),dN (fun _=>false) ps=true
 | []=>rfl
 |p::ps=>by simp[dN,oa p,k9 ps]
end
def R.le{G G':Gh}(h:Le G G')(K:Nat->Bool)(hob:∀ s,K s=false->G'.bx s=G.bx s){p:PV}{v:Value}(hr:R G p v)(hk:off K p=true):R G' p v:=by
 have:=hr.ren (sw:=false) h.rn K hob hk (oa p) (by simp);rwa [ren_some]at this
mutual
theorem tX:∀ (p:PV),off (fun _=>false) p=true
 | .ptr _ _=>rfl
 | .osl _ _ _ _=>rfl
 | .mp _=>rfl
 | .iptr cs _ _=>by simpa [off]using qM cs
 | .fn _ cs=>by simpa [off]using qM cs
 | .agg cs=>by simpa [off]using qM cs
 | .tup cs=>by simpa [off]using qM cs
 | .list _ cs _=>by simpa [off]using qM cs
 | .any=>rfl
 | .hole=>rfl
 | .int _ _=>rfl
 | .bool _=>rfl
 | .str _=>rfl
 | .nilp=>rfl
 | .nili=>rfl
 | .err=>rfl
theorem qM:∀ (ps:List PV),dS (fun _=>false) ps=true
 | []=>rfl
 |p::ps=>by simp[dS,tX p,qM ps]
end
mutual
theorem EM(K:Nat->Bool):∀ (p:PV),off (fun _=>true) p=true->off K p=true
 | .ptr _ _,h=>by simp[off]at h
 | .osl _ _ _ _,h=>by simp[off]at h
 | .mp _,h=>by simp[off]at h
 | .iptr cs _ _,h=>by simpa [off]using rR K cs (by simpa [off]using h)
 | .fn _ cs,h=>by simpa [off]using rR K cs (by simpa [off]using h)
 | .agg cs,h=>by simpa [off]using rR K cs (by simpa [off]using h)
 | .tup cs,h=>by simpa [off]using rR K cs (by simpa [off]using h)
 | .list _ cs _,h=>by simpa [off]using rR K cs (by simpa [off]using h)
 | .any,_=>rfl
 | .hole,_=>rfl
 | .int _ _,_=>rfl
 | .bool _,_=>rfl
 | .str _,_=>rfl
 | .nilp,_=>rfl
 | .nili,_=>rfl
 | .err,_=>rfl
theorem rR(K:Nat->Bool):∀ (ps:List PV),dS (fun _=>true) ps=true->dS K ps=true
 | [],_=>rfl
 |p::ps,h=>by
  simp only[dS,aj]at h;simp[dS,EM K p h.1,rR K ps h.2]
end
def j7{cs:List PV}{j:Nat}{p:PV}(h:aX cs=true)(hp:cs[j]? =some p):np p=true:=qi h hp
def cO:PV->Bool
 | .fn _ cs=>cs.all fun c=>gQ c||np c
 |p=>gQ p||np p
def EU(s:Nat)(p:PV)(h:cO p=true):off (fun k=>decide (k=s)) (dZ s p)=true:=by
 cases p with
 |ptr k o=>simp only[dZ];split<;>simp_all [off]
 |osl e sz k n=>simp only[dZ];split<;>simp_all [off]
 |mp k=>simp only[dZ];split<;>simp_all [off]
 |fn f cs=>
  simp only[dZ];split
  ·rfl
  ·rename_i hk;simp only[cO,cw]at h;simp only[off];have:∀ (l:List PV),(∀ c∈l,(gQ c||np c)=true)->l.any (IK s)=false->dS (fun k=>decide (k=s)) l=true:=by
    intro l
    induction l with
    |nil=>intros;rfl
    |cons c l ih=>
     intro h1 h2;simp only[List.any_cons,kH]at h2;have hc:=h1 c (by simp);simp only[dS,aj];refine⟨?_,ih (fun x hx=>h1 x (by simp[hx])) h2.2⟩;cases c<;>first
      |(exact EM _ _ (by simpa [gQ,np]using hc))
      |(simp[IK]at h2;simp[off,h2.1])
   exact this cs h (by simpa using hk)
 |_=>simp only[dZ];exact EM (fun k=>decide (k=s)) _ (by simpa [cO,gQ,np]using h)
def R.mono{G G':Gh}(h:Le G G')(hob:∀ s,G'.bx s=G.bx s){p:PV}{v:Value}(hr:R G p v):R G' p v:=
 hr.le h (fun _=>false) (fun s _=>hob s) (tX p)
def mw(u:kS):∀ cs:List PV,(i7 u cs).length=cs.length
 | []=>rfl
 |c::cs=>by simp[i7,mw u cs]
def wN(u:kS):∀ (cs:List PV) (j:Nat),(i7 u cs)[j]? =(cs[j]?).map (gn u)
 | [],j=>by simp[i7]
 |c::cs,0=>by simp[i7]
 |c::cs,j+1=>by simp only[i7,aa];exact wN u cs j
def R.bk{u:kS}{G G':Gh}(h:Rn some (u.J.contains ·) false G G')(hbx:∀ s,G'.bx s=G.bx s)(hp:∀ cs t v,t.isOwn u.k=true->R G (.list u.n cs t) v->R G' u.p v){q:PV}{v:Value}(hr:R G q v):R G' (gn u q) v:=by
 have get:∀ {cs:List PV} {j:Nat} {q:PV},(i7 u cs)[j]? =some q->∃ q',cs[j]? =some q'/\gn u q'=q:=by
  intro cs j q hq;rw[wN]at hq;cases hc:cs[j]? with
  |none=>rw[hc]at hq;simp at hq
  |some q'=>rw[hc]at hq;simp at hq;exact⟨q',rfl,hq⟩
 have first:∀ {us:List Value} {b o:Nat},us≠ []->(∀ (j:Nat) (u:Value),us[j]? =some u->G.com b (o+j)=some u)->∃ v,G.com b o=some v:=by
  intro us b o hne hc;cases us with
  |nil=>exact absurd rfl hne
  |cons u us=>exact⟨u,hc 0 u rfl⟩
 have frOk:∀ {us:List Value} {b:Nat} {t:aF},t.free (u.J.contains ·)=true->(∀ k,us≠ []->G.pv b=some k->t.of=some k)->us≠ []->∀ k,G.pv b=some k->u.J.contains k=false:=by
  intro us b t hf hp hne k hk';have:=hp k hne hk';simpa [aF.free,this]using hf
 have comOk:∀ {us:List Value} {b o:Nat} {t:aF},t.free (u.J.contains ·)=true->(∀ k,us≠ []->G.pv b=some k->t.of=some k)->(∀ (j:Nat) (u:Value),us[j]? =some u->G.com b (o+j)=some u)->∀ (j:Nat) (u:Value),us[j]? =some u->G'.com b (o+j)=some u:=by
  intro us b o t hf hp hc j w hu;have hne:us≠ []:=by intro e;subst e;simp at hu
  exact h.com _ _ _ (hc j w hu) (frOk hf hp hne)
 have xpOk:∀ {us:List Value} {b o:Nat} {t:aF},t.free (u.J.contains ·)=true->(∀ k,us≠ []->G.pv b=some k->t.of=some k)->(us≠ []->t≠ .no->G.xp b=false)->(∀ (j:Nat) (u:Value),us[j]? =some u->G.com b (o+j)=some u)->
   us≠ []->t≠ .no->G'.xp b=false:=by
  intro us b o t hf hp hx hc hne ht';cases hxb:G'.xp b with
  |false=>rfl
  |true=>
   obtain⟨v0,hv0⟩:=first hne hc
   rcases h.xp b _ v0 hv0 (frOk hf hp hne) hxb with h1|⟨k,h1,h2⟩
   ·rw[hx hne ht']at h1;cases h1
   ·cases h2
 have pvOk:∀ {us:List Value} {b o:Nat} {t:aF},t.free (u.J.contains ·)=true->(∀ k,us≠ []->G.pv b=some k->t.of=some k)->(∀ (j:Nat) (u:Value),us[j]? =some u->G.com b (o+j)=some u)->∀ k',us≠ []->G'.pv b=some k'->t.of=some k':=by
  intro us b o t hf hp hc k' hne hk';obtain⟨v0,hv0⟩:=first hne hc
  rcases h.pv b k' _ v0 hv0 (frOk hf hp hne) hk' with⟨k,hk1,hk2⟩|⟨hX',_⟩
  ·have:=Option.some.inj hk2;subst this;exact hp _ hne hk1
  ·cases hX'
 induction hr with
 |any v=>exact .any v
 |hole=>exact .hole
 |int k n=>exact .int k n
 |bool b=>exact .bool b
 |str s=>exact .str s
 |nilp=>exact .nilp
 |nili=>exact .nili
 |err t v=>exact .err t v
 |agg cs vs hl _ h1 ih=>
  simp only[gn];refine .agg _ vs (by rw[mw];exact hl) (fun j q w hq hu=>?_) h1;obtain⟨q',hq',rfl⟩:=get hq;exact ih j q' w hq' hu
 |tup cs vs hl _ ih=>
  simp only[gn];refine .tup _ vs (by rw[mw];exact hl) (fun j q w hq hu=>?_);obtain⟨q',hq',rfl⟩:=get hq;exact ih j q' w hq' hu
 |listN t htn=>
  simp only[gn];split
  ·rename_i hc;simp only[aj,jO]at hc;refine hp [] t _ hc.1 ?_;rw[<-hc.2];exact .listN t htn
  ·split
   ·rename_i hf;have:=htn.ren (s:=false) h hf;rw[aF.ren_some]at this;exact .listN t this
   ·exact .any _
 |listE a=>
  simp only[gn];split
  ·rename_i hc;simp[aF.isOwn]at hc
  ·split
   ·exact .listE a
   ·exact .any _
 |list n cs t b o cap us hn hl hc hr0 h1 htr hpp hx ih=>
  simp only[gn];split
  ·rename_i hcc;simp only[aj,jO]at hcc;refine hp cs t _ hcc.1 ?_;rw[<-hcc.2];exact .list n cs t b o cap us hn hl hc hr0 h1 htr hpp hx
  ·split
   ·rename_i hf;have htr':=htr.ren (s:=false) h hf;rw[aF.ren_some]at htr';refine .list n _ t b o cap us hn (by rw[mw];exact hl) (comOk hf hpp hc) (fun j q w hq hu=>?_) h1 htr' (pvOk hf hpp hc) (xpOk hf hpp hx hc);obtain⟨q',hq',rfl⟩:=get hq;exact ih j q' w hq' hu
   ·exact .any _
 |ptr s off b hb=>exact .ptr s off b (by rw[mH (hbx s)];exact hb)
 |osl e sz s n b hb he=>exact .osl e sz s n b (by rw[mH (hbx s)];exact hb) (by rw[Bz (hbx s)];exact he)
 |mp s b hb=>exact .mp s b (by rw[I9 (hbx s)];exact hb)
 |iptr cs off t b o us hl hc _ h1 htp hpp hx ih=>
  simp only[gn];split
  ·rename_i hf;have htp':=htp.ren (s:=false) h hf;rw[aF.ren_some]at htp';refine .iptr _ off t b o us (by rw[mw];exact hl) (comOk hf hpp hc) (fun j q w hq hu=>?_) h1 htp' (pvOk hf hpp hc) (xpOk hf hpp hx hc);obtain⟨q',hq',rfl⟩:=get hq;exact ih j q' w hq' hu
  ·exact .any _
 |fn g cs vs hl _ ih=>
  simp only[gn];refine .fn g _ vs (by rw[mw];exact hl) (fun j q w hq hu=>?_);obtain⟨q',hq',rfl⟩:=get hq;exact ih j q' w hq' hu
mutual
theorem K7(u:kS)(K:Nat->Bool)(hp:off K u.p=true):∀ p:PV,off K p=true->off K (gn u p)=true
 | .list m cs t,h=>by
  have ih:=r6 u K hp cs (by simpa [off]using h);simp only[gn];split
  ·exact hp
  ·split
   ·simpa [off]using ih
   ·rfl
 | .iptr cs o t,h=>by
  have ih:=r6 u K hp cs (by simpa [off]using h);simp only[gn];split
  ·simpa [off]using ih
  ·rfl
 | .agg cs,h=>by have ih:=r6 u K hp cs (by simpa [off]using h);simpa [gn,off]using ih
 | .tup cs,h=>by have ih:=r6 u K hp cs (by simpa [off]using h);simpa [gn,off]using ih
 | .fn g cs,h=>by have ih:=r6 u K hp cs (by simpa [off]using h);simpa [gn,off]using ih
 | .any,h| .hole,h| .int _ _,h| .bool _,h| .str _,h| .nilp,h| .nili,h| .err,h| .ptr _ _,h| .osl _ _ _ _,h| .mp _,h=>h
theorem r6(u:kS)(K:Nat->Bool)(hp:off K u.p=true):∀ ps:List PV,dS K ps=true->dS K (i7 u ps)=true
 | [],_=>rfl
 |p::ps,h=>by
  simp only[dS,aj]at h;simp only[i7,dS,K7 u K hp p h.1,r6 u K hp ps h.2,ay]
end
def yT{u:kS}(hp:np u.p=true){p:PV}(h:np p=true):np (gn u p)=true:=K7 u _ hp p h
def PX{u:kS}(hp:np u.p=true){ps:List PV}(h:aX ps=true):aX (i7 u ps)=true:=r6 u _ hp ps h
def HW{u:kS}(hp:np u.p=true){p:PV}(h:cO p=true):cO (gn u p)=true:=by
 have plain:∀ q:PV,np q=true->cO q=true:=by
  intro q hq;cases q with
  |fn g cs=>
   simp only[cO,cw,cY];intro c hc;obtain⟨j,hj⟩:=nQ hc;exact .inr (j7 (by simpa [np,off,aX]using hq) hj)
  |_=>simp only[cO,hq,lB]
 cases p with
 |fn g cs=>
  simp only[cO,cw,cY]at h;simp only[gn,cO,cw,cY];intro c hc;obtain⟨j,hj⟩:=nQ hc;rw[wN,av]at hj;obtain⟨d,hd,rfl⟩:=hj;rcases h d (b8 hd)with h1|h1
  ·left;cases d<;>simp[gQ]at h1<;>rfl
  ·exact .inr (yT hp h1)
 |list m cs t=>exact plain _ (yT hp (by simpa [cO,gQ]using h))
 |iptr cs o t=>exact plain _ (yT hp (by simpa [cO,gQ]using h))
 |agg cs=>exact plain _ (yT hp (by simpa [cO,gQ]using h))
 |tup cs=>exact plain _ (yT hp (by simpa [cO,gQ]using h))
 |_=>exact h
def gO(P:Program)(t:Nat):Option Nat:=(P.info? t).map (·.size)
def Rm(G:Gh)(es:List (PV×PV))(vs:List MapEntry):Prop:=
 es.length=vs.length/\∀ (i:Nat) (q:PV×PV) (x:MapEntry),es[i]? =some q->vs[i]? =some x->gp q.1=some x.key/\R G q.2 x.val
def Whole(B:Nat->Nat->Option Value)(b:Nat)(s:Option (Nat×Nat)):Prop:=∃ x,s=some x/\∀ o,o<x.2->B b o≠none
structure bM (P:Program) (B:Nat->Nat->Option Value) (G:Gh) (st:St) (w:World):Prop where
 com:∀ b o v,G.com b o=some v->w.cell? ⟨b,o,none⟩=some v
 sh:∀ b e k,G.sh b=some (e,k)->∃ cur:Array Value,w.heap[b]? =some (.cells cur e (0,0))/\cur.size=k
 nx:G.nx=st.nx
 cnt:∀ t x,G.tk t=some x->t<st.nx/\st.cnt t=x.cnt
 live:∀ t,t<st.nx->∃ x,G.tk t=some x
 room:∀ t r,G.tk t=some (.room r)->G.sh r.b=some (r.e,r.cap*r.sz)/\r.cap<=maxLen/\r.m<=r.cap/\gO P r.e=some r.sz/\(∀ o,r.m*r.sz<=o->G.com r.b o=none)/\G.xp r.b=false
 apart:∀ t u r q,G.tk t=some (.room r)->G.tk u=some (.room q)->r.b=q.b->t=u
 priv:∀ t r,G.tk t=some (.room r)->(st.fl<=t->G.pv r.b=some t)/\∀ j,G.pv r.b=some j->j=t
 objs:∀ s cs,st.objs s=some cs->∃ b e vs,G.ob s=some b/\w.heap[b]? =some (.cells (List.toArray vs) e (0,0))/\Rs G cs vs
 obs:∀ s b,G.ob s=some b->b<w.heap.size/\(∀ o,G.com b o=none)/\G.sh b=none
 obj:∀ s u b,G.ob s=some b->G.ob u=some b->s=u
 nob:∀ s,st.objs s=none->G.ob s=none
 npo:∀ s cs,st.objs s=some cs->aX cs=true
 pvl:∀ b k,G.pv b=some k->b<w.heap.size
 xpl:∀ b,G.xp b=true->b<w.heap.size
 base:∀ b o v,B b o=some v->G.com b o=some v/\G.pv b=none/\Whole B b (G.sh b)
 oes:∀ s b e sz,G.ob s=some b->G.oe s=some (e,sz)->gO P e=some sz/\∃ cur,w.heap[b]? =some (.cells cur e (0,0))
 mobj:∀ s es,st.maps s=some es->∃ b vs clk,G.mb s=some b/\w.heap[b]? =some (.map (List.toArray vs) clk)/\Rm G es vs/\∀ q∈es,np q.2=true
 mbs:∀ s b,G.mb s=some b->∃ vs clk,w.heap[b]? =some (.map vs clk)
 mbi:∀ s u b,G.mb s=some b->G.mb u=some b->s=u
 nomb:∀ s,st.maps s=none->G.mb s=none
 obx:∀ s b,G.ob s=some b->G.pv b=none/\G.xp b=false
 ful:∀ t m,G.tk t=some (.full m)->m=0
structure sZ (G G':Gh):Prop where
 com:∀ b o v,G.com b o=some v->G.pv b=none->G'.com b o=some v/\G'.pv b=none
 sh:∀ b x,G.sh b=some x->G'.sh b=some x
 xp:G'.xp=G.xp
def Le.w{G G':Gh}(h:Le G G'):sZ G G':=
 ⟨fun b o v hc hp=>⟨h.com b o v hc,by
  cases hk:G'.pv b with
  |none=>rfl
  |some k=>rw[h.pv b k o v hc hk]at hp;cases hp⟩,h.sh,h.xp⟩
def sZ.refl(G:Gh):sZ G G:=(Le.refl G).w
def sZ.trans{G G' G'':Gh}(h:sZ G G')(k:sZ G' G''):sZ G G'':=
 ⟨fun b o v hc hp=>have⟨h1,h2⟩:=h.com b o v hc hp;k.com b o v h1 h2,fun b x hx=>k.sh b x (h.sh b x hx),k.xp.trans h.xp⟩
structure cQ (G:Gh) (w:World) (G':Gh) (w':World):Prop where
 le:sZ G G'
 size:w.heap.size<=w'.heap.size
 kept:∀ b,b<w.heap.size->(∀ s,G.ob s≠some b)->(∀ t r,G.tk t=some (.room r)->r.b≠b)->(∀ s,G.mb s≠some b)->w'.heap[b]? =w.heap[b]?
 nearO:∀ s b,G'.ob s=some b->(∃ u,G.ob u=some b)\/w.heap.size<=b
 nearT:∀ t r,G'.tk t=some (.room r)->(∃ u q,G.tk u=some (.room q)/\q.b=r.b)\/w.heap.size<=r.b
 nearC:∀ b o v,G'.com b o=some v->G.com b o=some v\/(∃ t r,G.tk t=some (.room r)/\r.b=b)\/w.heap.size<=b
 nearS:∀ b x,G'.sh b=some x->G.sh b=some x\/w.heap.size<=b
 nearP:∀ b k,G'.pv b=some k->(∃ k',G.pv b=some k')\/w.heap.size<=b
 nearM:∀ s b,G'.mb s=some b->(∃ u,G.mb u=some b)\/w.heap.size<=b
 eff:w'.os=w.os/\w'.output=w.output
def cQ.refl(G:Gh)(w:World):cQ G w G w:=
 ⟨sZ.refl G,aP _,fun _ _ _ _ _=>rfl,fun s b h=> .inl ⟨s,h⟩,fun t r h=> .inl ⟨t,r,h,rfl⟩,fun _ _ _ h=> .inl h,fun _ _ h=> .inl h,fun _ k h=> .inl ⟨k,h⟩,fun s b h=> .inl ⟨s,h⟩,⟨rfl,rfl⟩⟩
def cQ.trans{G G' G'':Gh}{w w' w'':World}(h:cQ G w G' w')(k:cQ G' w' G'' w''):cQ G w G'' w'' where
 le:=h.le.trans k.le
 eff:=⟨k.eff.1.trans h.eff.1,k.eff.2.trans h.eff.2⟩
 size:=dJ h.size k.size
 kept b hb ho ht hm:=by
  rw[k.kept b (Nat.lt_of_lt_of_le hb h.size) ?_ ?_ ?_,h.kept b hb ho ht hm]
  ·intro s hs;rcases h.nearO s b hs with⟨u,hu⟩|hle
   ·exact ho u hu
   ·omega
  ·intro t r hr e;rcases h.nearT t r hr with⟨u,q,hu,hq⟩|hle
   ·exact ht u q hu (hq.trans e)
   ·omega
  ·intro s hs;rcases h.nearM s b hs with⟨u,hu⟩|hle
   ·exact hm u hu
   ·omega
 nearO s b hs:=by
  rcases k.nearO s b hs with⟨u,hu⟩|hle
  ·exact h.nearO u b hu
  ·exact .inr (dJ h.size hle)
 nearT t r hr:=by
  rcases k.nearT t r hr with⟨u,q,hu,hq⟩|hle
  ·rcases h.nearT u q hu with⟨u',q',hu',hq'⟩|hle
   ·exact .inl ⟨u',q',hu',hq'.trans hq⟩
   ·exact .inr (hq▸hle)
  ·exact .inr (dJ h.size hle)
 nearC b o v hc:=by
  rcases k.nearC b o v hc with hc|⟨t,r,hr,rfl⟩|hle
  ·exact h.nearC b o v hc
  ·rcases h.nearT t r hr with⟨u,q,hu,hq⟩|hle
   ·exact .inr (.inl ⟨u,q,hu,hq⟩)
   ·exact .inr (.inr hle)
  ·exact .inr (.inr (dJ h.size hle))
 nearS b x hs:=by
  rcases k.nearS b x hs with hs|hle
  ·exact h.nearS b x hs
  ·exact .inr (dJ h.size hle)
 nearP b t hp:=by
  rcases k.nearP b t hp with⟨t',hp⟩|hle
  ·exact h.nearP b t' hp
  ·exact .inr (dJ h.size hle)
 nearM s b hs:=by
  rcases k.nearM s b hs with⟨u,hu⟩|hle
  ·exact h.nearM u b hu
  ·exact .inr (dJ h.size hle)
def ix:Value->Option PV
 | .int k n=>some (.int k n)
 | .bool b=>some (.bool b)
 | .string s=>some (.str s)
 | .pointer none=>some .nilp
 | .nilIface=>some .nili
 | .slice none 0 0=>some (.list 0 [] .nil)
 |_=>none
def iY:List Value->Option (List PV)
 | []=>some []
 |v::vs=>match ix v,iY vs with
  |some p,some ps=>some (p::ps)
  |_,_=>none
def bP:Operand->Option CX
 | .tmp t=>some (.sl t)
 | .const v=>(ix v).map .k
 | .global _=>none
 | .func f=>some (.k (.fn f []))
def ry:List Operand->Option (List CX)
 | []=>some []
 |x::xs=>match bP x,ry xs with
  |some c,some cs=>some (c::cs)
  |_,_=>none
variable (P:Program)
def tn(t:Nat):Option Bool:=match P.underlying t with
 |some (.struct _)=>some true
 |some (.array _ _)=>some true
 |some _=>some false
 |none=>none
def gw(t:Nat):Option (List PV):=match P.info? t with
 |some i=>match i.zero with
  |some v=>iY v.cells.toList
  |none=>none
 |none=>none
def Bd(t:Nat):Bool:=match P.underlying t with
 |some .string=>true
 |_=>false
def oM(t:Nat):Option Nat:=match P.underlying t with
 |some (.slice e)=>some e
 |_=>none
def Az(t:Nat):Option PV:=match P.info? t with
 |some i=>match i.zero with
  |some (.agg cs)=>(iY cs.toList).map .agg
  |some v=>ix v
  |none=>none
 |none=>none
def tc(t:Nat):Option (Nat×Nat):=match P.underlying t with
 |some (.map k v)=>match P.underlying k with
  |some (.int _)=>some (0,v)
  |some .string=>some (1,v)
  |some .bool=>some (2,v)
  |_=>none
 |_=>none
def Me(t:Nat):Bool:=match P.underlying t with
 |some (.int .u8)=>true
 |_=>false
def B4(t:Nat):Bool:=match P.underlying t with
 |some (.interface _)=>true
 |_=>false
def E0(t:Nat):Bool:=match P.underlying t with
 |some .bool=>true
 |_=>false
def lT:Option Operand->Option (Option CX)
 |none=>some none
 |some x=>(bP x).map some
def pn:Operand->Bool
 | .const .nilIface=>true
 |_=>false
def iK(place:Nat->Option (Nat×Nat)):List (Nat×Operand)->Option (List (Nat×Nat×CX))
 | []=>some []
 |(i,x)::r=>match place i,bP x,iK place r with
  |some (off,sz),some c,some cs=>some ((off,sz,c)::cs)
  |_,_,_=>none
def zK(t:Nat):Option (List (Nat×Nat)):=match P.underlying t with
 |some (.struct fs)=>fs.toList.mapM (fun f=>(P.info? f.type).map fun i=>(f.offset,i.size))
 |_=>none
def lr:Op->Option eV
 | .move x=>(bP x).map .mv
 | .assign x=>(bP x).map .mv
 | .pick c a b=>match bP c,bP a,bP b with
  |some c,some a,some b=>some (.pick c a b)
  |_,_,_=>none
 | .build t ps=>match gw P t,zK P t with
  |some zs,some pl=>match iK (pl.toArray[·]?) ps.toList with
   |some cs=>some (.build zs cs)
   |none=>none
  |_,_=>none
 | .load t a=>match gO P t,tn P t,bP a with
  |some sz,some ag,some a=>some (.load sz ag a)
  |_,_,_=>none
 | .nilCheck x=>(bP x).map .nck
 | .binOp op t x y _=>match bP x,bP y with
  |some cx,some cy=>match pn y,B4 P t,E0 P t,op with
   |true,true,_,.eql=>some (.isnil false cx)
   |true,true,_,.neq=>some (.isnil true cx)
   |false,_,true,.eql=>some (.beq false cx cy)
   |false,_,true,.neq=>some (.beq true cx cy)
   |false,_,_,op=>some (.bin op cx cy)
   |_,_,_,_=>none
  |_,_=>none
 | .unOp op _ x=>(bP x).map (.un op)
 | .convert s d x=>match P.underlying s,P.underlying d,bP x with
  |some (.int _),some (.int k),some x=>some (.toInt k x)
  |some .string,some .string,some x=>some (.s2s x)
  |some (.slice e),some .string,some x=>if Me P e && gO P e==some 1 then some (.b2s x)else none
  |_,_,_=>none
 | .makeFunc (.func f) ⟨[]⟩ ⟨caps⟩=>(ry caps).map (.mkfn f)
 | .makeMap t none=>match tc P t with
  |some _=>some .mkmap
  |none=>none
 | .mapUpdate t m k v=>match tc P t,bP m,bP k,bP v with
  |some (kk,_),some m,some k,some v=>some (.mpset kk m k v)
  |_,_,_,_=>none
 | .lookup t m k ok=>match tc P t,bP m,bP k with
  |some (kk,e),some m,some k=>match Az P e with
   |some z=>some (.mpget ok z kk m k)
   |none=>none
  |_,_,_=>none
 | .extract x i=>(bP x).map (.ext · i)
 | .fieldAddr s x f=>match P.underlying s,bP x with
  |some (.struct fs),some x=>match fs[f]? with
   |some fd=>match gO P fd.type with
    |some (_+1)=>some (.fad fd.offset x)
    |_=>none
   |none=>none
  |_,_=>none
 | .field s x f=>match P.underlying s,bP x with
  |some (.struct fs),some x=>match fs[f]? with
   |some fd=>match gO P fd.type,tn P fd.type with
    |some sz,some ag=>some (.fld fd.offset sz ag x)
    |_,_=>none
   |none=>none
  |_,_=>none
 | .indexAddr t x i=>match oM P t,bP x,bP i with
  |some e,some x,some i=>match gO P e with
   |some sz=>some (.iad sz x i)
   |none=>none
  |_,_,_=>none
 | .index t x i=>match Bd P t,bP x,bP i with
  |true,some x,some i=>some (.sidx x i)
  |_,_,_=>none
 | .slice t x lo hi none=>match bP x,lT lo,lT hi with
  |some x,some lo,some hi=>if Bd P t then some (.ssl x lo hi)else match oM P t with
   |some e=>match gO P e with
    |some sz=>some (.slc sz x lo hi)
    |none=>none
   |none=>none
  |_,_,_=>none
 | .alloc e=>(gw P e).map .alloc
 | .box e x=>match gO P e,bP x with
  |some sz,some x=>some (.box sz x)
  |_,_=>none
 | .store t a x=>match gO P t,bP a,bP x with
  |some sz,some a,some x=>some (.store sz a x)
  |_,_,_=>none
 | .buildSlice t n ps=>match oM P t with
  |some e=>match gO P e,gw P e with
   |some sz,some zs=>match iK (fun i=>some (i*sz,sz)) ps.toList with
    |some cs=>if n*sz<=16777216 then some (.bsl e sz zs n cs)else none
    |none=>none
   |_,_=>none
  |none=>none
 | .makeSlice t l c=>match oM P t with
  |some e=>match P.info? e,gw P e,bP l,bP c with
   |some i,some zs,some l,some c=>match l with
    | .k (.int .i64 0)=>if zs.length=i.size then some (.mk0 e i.size i.bytes l c)else none
    |_=>some (.mks e i.size i.bytes zs l c)
   |_,_,_,_=>none
  |none=>none
 | .call {callee:= .builtin .append,args:=⟨[x,y]⟩,argTypes:=⟨[t,t']⟩}=>match oM P t with
  |some e=>match P.info? e,gw P e,bP x,bP y with
   |some i,some zs,some x,some y=>if t=t'/\zs.length=i.size then some (.app e i.size i.bytes x y)else none
   |_,_,_,_=>none
  |none=>none
 | .call {callee:= .builtin .len,args:=⟨[x]⟩,argTypes:=⟨[t]⟩}=>match bP x with
  |some x=>if Bd P t then some (.slen x)else if(oM P t).isSome then some (.len x)else if(tc P t).isSome then some (.mplen x)else none
  |none=>none
 |_=>none
def fu(G:Gh)(nt:Nat)(fr:Fr)(a:Act):Prop:=nt<=a.tmps.size/\(∀ t,R G (fr t) (a.tmps.getD t undef))/\∀ t,cO (fr t)=true
def xL(G:Gh):∀ {v:Value} {p:PV},ix v=some p->R G p v:=by
 intro v p h;cases v with
 |int k n=>simp[ix]at h;subst h;exact .int k n
 |bool b=>simp[ix]at h;subst h;exact .bool b
 |string s=>simp[ix]at h;subst h;exact .str s
 |pointer a=>cases a with
  |none=>simp[ix]at h;subst h;exact .nilp
  |some a=>simp[ix]at h
 |nilIface=>simp[ix]at h;subst h;exact .nili
 |slice a n c=>
  unfold ix at h;split at h
  all_goals first
   |(rename_i e;cases e;done)
   |(rename_i e;cases e;cases h;exact .listN _ trivial)
   |(cases h;done)
 |_=>simp[ix]at h
def cR{G:Gh}{nt:Nat}{fr:Fr}{a:Act}(hF:fu G nt fr a){x:Operand}{c:CX}(h:bP x=some c):R G (c.ev fr) (a.eval x):=by
 cases x with
 |tmp t=>simp[bP]at h;subst h;exact hF.2.1 t
 |const v=>
  simp only[bP,av]at h;obtain⟨p,hp,rfl⟩:=h;exact xL G hp
 |global g=>simp[bP]at h
 |func f=>simp[bP]at h;subst h;exact .fn f [] [] rfl (fun j p u hp=>by simp at hp)
end Go.PM
namespace Go.PM
variable {P:Program} {B:Nat->Nat->Option Value}
def bz{t:Nat}{d:TypeDesc}(w:World)(h:P.underlying t=some d):(underlying t).run P w= .ok d w:=by
 simp[underlying,h]
def iw{t n:Nat}(w:World)(h:gO P t=some n):(sizeOf t).run P w= .ok n w:=by
 simp only[gO,av]at h;obtain⟨i,hi,rfl⟩:=h;simp[sizeOf,typeInfo,hi]
def uz{t:Nat}{b:Bool}(w:World)(h:tn P t=some b):(isAgg t).run P w= .ok b w:=by
 unfold tn at h;cases hu:P.underlying t with
 |none=>rw[hu]at h;simp at h
 |some d=>
  rw[hu]at h;simp only[isAgg,Sem.run_bind,bz w hu,dA];cases d<;>simp at h<;>subst h<;>rfl
def qt(b o n:Nat):(⟨b,o,none⟩:Addr).add n=⟨b,o+n,none⟩:=by
 unfold Addr.add;split
 ·rename_i h;subst h;rfl
 ·rfl
def sf{G:Gh}{w:World}{t sz:Nat}{ag:Bool}(hs:gO P t=some sz)(hg:tn P t=some ag){b o off:Nat}{cs:List PV}{us:List Value}
  (hl:cs.length=us.length) (hr:∀ (j:Nat) (p:PV) (u:Value),cs[j]? =some p->us[j]? =some u->R G p u) (h1:∀ u∈us,u.oneCell'=true)
  (hc:∀ (j:Nat) (u:Value),us[j]? =some u->w.cell? ⟨b,o+j,none⟩=some u) {p:PV} (hp:bL cs off sz ag=some p):
  ∃ v,(loadVar t ⟨b,o+off,none⟩).run P w= .ok v w/\R G p v:=by
 unfold bL at hp;by_cases hle:off+sz<=cs.length
 case neg=>rw[ai hle]at hp;cases hp
 rw[am hle]at hp;cases ag with
 |true=>
  rw[am rfl]at hp;cases hp;have hlen:((us.drop off).take sz).length=sz:=by rw[aL,bl];omega
  have hload:=run_loadCells_list (P:=P) w ⟨b,o+off,none⟩ ((us.drop off).take sz) (fun j v hj=>by
   rw[qt];have hj':j<sz:=by
    have:=bD.1 hj;obtain⟨h,_⟩:=this;omega
   rw[dQ hj',ex]at hj;rw[lU];exact hc _ _ hj)
  rw[hlen]at hload;refine⟨.agg ((us.drop off).take sz).toArray,?_,.agg _ _ ?_ ?_ ?_⟩
  ·simp[loadVar,uz w hg,iw w hs,hload]
  ·rw[hlen,aL,bl];omega
  ·intro j p u hp hu;by_cases hj:j<sz
   ·rw[dQ hj,ex]at hp hu;exact hr _ _ _ hp hu
   ·rw[iU (by omega)]at hp;cases hp
  ·intro u hu;exact h1 u (dv (eU hu))
 |false=>
  rw[ai (by simp)]at hp;by_cases h1s:sz=1
  case neg=>rw[ai h1s]at hp;cases hp
  rw[am h1s]at hp;have hlt:off<us.length:=by
   have:=bD.1 hp;obtain⟨h,_⟩:=this;omega
  have hu:us[off]? =some us[off]:=aK hlt;exact⟨us[off],by simp[loadVar,uz w hg,hc _ _ hu],hr _ _ _ hp hu⟩
def rf{α:Type}:∀ (vs cs:List α) (off:Nat),(bS cs off vs).length=cs.length
 | [],_,_=>rfl
 |v::vs,cs,off=>by simp[bS,rf vs]
def bM.box{G:Gh}{st:St}{w:World}(hI:bM P B G st w){s b:Nat}{cs:List PV}(h:st.objs s=some cs)(hb:G.ob s=some b):
  ∃ e vs,w.heap[b]? =some (.cells (List.toArray vs) e (0,0))/\Rs G cs vs/\∀ (j:Nat) (u:Value),vs[j]? =some u->w.cell? ⟨b,0+j,none⟩=some u:=by
 obtain⟨b',e,vs,hb',hh,hR⟩:=hI.objs s cs h;rw[hb]at hb';cases hb';refine⟨e,vs,hh,hR,fun j u hu=>?_⟩;simp[World.cell?,hh,hu]
def jY(P:Program)(G:Gh)(w:World)(x:Sem Next)(p:PV):Prop:=∃ v,x.run P w= .ok (.value v) w/\R G p v
def kA{G:Gh}{w:World}{s:Sem Value}{p:PV}{v:Value}(h:s.run P w= .ok v w)(hR:R G p v):
  jY P G w (do pure (.value (<-s))) p:=⟨v,by simp[h],hR⟩
def vy{G:Gh}{p:PV}{v u:Value}(h:R G p v)(hu:gp p=some u):v=u:=by
 cases h<;>simp[gp]at hu<;>exact hu
def Hd{G:Gh}{v:Value}{p:PV}(h:iJ v=some p):R G p v:=by
 cases v<;>simp[iJ]at h<;>subst h
 ·exact .bool _
 ·exact .int _ _
 ·exact .str _
def Gk{α:Type}{s:Sem α}{v:α}(h:qK s=some v)(w:World):s.run P w= .ok v w:=by
 cases s<;>simp[qK]at h
 subst h;rfl
def qY{p:PV}{u:Value}(h:gp p=some u):(∃ k n,u= .int k n)\/(∃ b,u= .bool b)\/∃ s,u= .string s:=by
 cases p<;>simp[gp]at h<;>subst h
 ·exact .inl ⟨_,_,rfl⟩
 ·exact .inr (.inl ⟨_,rfl⟩)
 ·exact .inr (.inr ⟨_,rfl⟩)
def Jd{op:BinOp}{a b v:Value}(ha:(∃ k n,a= .int k n)\/(∃ b,a= .bool b)\/∃ s,a= .string s)(hb:(∃ k n,b= .int k n)\/(∃ b',b= .bool b')\/∃ s,b= .string s)
  (h:qK (binOp op 0 a b)=some v) (t:Nat):binOp op t a b= .pure v:=by
 have hp:∀ (s:Sem Value),qK s=some v->s= .pure v:=by
  intro s hs;cases s<;>simp[qK]at hs;subst hs;rfl
 have h':=hp _ h;rcases ha with⟨k,n,rfl⟩|⟨x,rfl⟩|⟨x,rfl⟩<;>rcases hb with⟨k',n',rfl⟩|⟨y,rfl⟩|⟨y,rfl⟩
 all_goals first
  |(rw[<-h'];cases op<;>rfl)
  |(exfalso;cases op<;>cases h')
section
variable {G:Gh} {nt:Nat} {fr:Fr} {st st':St} {w:World} {a:Act} {o:Oper} {co:eV} {d:Option Nat} {cf:aJ} {p:PV}
def B8{op:BinOp}{t:Nat}{x y:Operand}{u v:Value}(hu:(∃ k n,u= .int k n)\/(∃ b,u= .bool b)\/∃ s,u= .string s):eqGuard op t x y u v=pure ():=by
 unfold eqGuard;rcases hu with⟨k,n,rfl⟩|⟨b,rfl⟩|⟨s,rfl⟩<;>(cases op<;>rfl)
def LE(hF:fu G nt fr a){op:BinOp}{t yt:Nat}{x y:Operand}(hop:o.op= .binOp op t x y yt){cx cy:CX}(hx:bP x=some cx)(hy:bP y=some cy)
  (h:eq op (cx.ev fr) (cy.ev fr)=some p):jY P G w (execOp a.eval o) p:=by
 have hRx:=cR hF hx;have hRy:=cR hF hy;simp only[execOp,hop];unfold eq at h;split at h
 ·rename_i u v hu hv;have e1:=vy hRx hu;have e2:=vy hRy hv;simp only[bU]at h;obtain⟨r,hr,hp⟩:=h;have hb:=Jd (qY hu) (qY hv) hr t;refine kA (v:=r) ?_ (Hd hp);rw[e1,e2,B8 (qY hu)];simp[hb]
 ·cases h
def uA{t:Nat}{ms:Array (String×TypeId)}(hu:P.underlying t=some (.interface ms))(u:TypeId)(v:Value):(Op.equal t (.iface u v) .nilIface).run P w= .ok false w:=by
 unfold Op.equal Op.maxDepth;rw[Op.equalIn,Sem.run_bind,bz w hu];rfl
def w7{t:Nat}{ms:Array (String×TypeId)}(hu:P.underlying t=some (.interface ms)):(Op.equal t .nilIface .nilIface).run P w= .ok true w:=by
 unfold Op.equal Op.maxDepth;rw[Op.equalIn,Sem.run_bind,bz w hu];rfl
def vA{t:Nat}(hu:P.underlying t=some .bool)(x y:Bool):(Op.equal t (.bool x) (.bool y)).run P w= .ok (x==y) w:=by
 unfold Op.equal Op.maxDepth;rw[Op.equalIn,Sem.run_bind,bz w hu];rfl
def Eu(t:Nat)(x y:Value){b:Bool}(hb:binOp .eql t x y=(do pure (.bool (<-Op.equal t x y))))(h:(Op.equal t x y).run P w= .ok b w):(binOp .eql t x y).run P w= .ok (.bool b) w:=by
 rw[hb,Sem.run_bind,h];rfl
def Et(t:Nat)(x y:Value){b:Bool}(hb:binOp .neq t x y=(do pure (.bool (!(<-Op.equal t x y)))))(h:(Op.equal t x y).run P w= .ok b w):(binOp .neq t x y).run P w= .ok (.bool !b) w:=by
 rw[hb,Sem.run_bind,h];rfl
def AF(hF:fu G nt fr a){op:BinOp}{t yt:Nat}{x y:Operand}(hop:o.op= .binOp op t x y yt){cx:CX}(hx:bP x=some cx)(hy:pn y=true)
  (hi:B4 P t=true) {neg:Bool} (hn:(op= .eql/\neg=false)\/(op= .neq/\neg=true))
  (h:aC cf fr st d (.isnil neg cx)=some (p,st')):st'=st/\jY P G w (execOp a.eval o) p:=by
 have hRx:=cR hF hx;have hyv:a.eval y= .nilIface:=by
  cases y with
  |const v=>cases v<;>simp[pn]at hy;rfl
  |_=>simp[pn]at hy
 have hyc:(y matches .const _)=true:=by
  cases y with
  |const v=>rfl
  |_=>simp[pn]at hy
 obtain⟨ms,hu⟩:∃ ms,P.underlying t=some (.interface ms):=by
  unfold B4 at hi;split at hi
  ·exact⟨_,by assumption⟩
  ·cases hi
 have hrun:∀ w:World,(underlying t).run P w= .ok (.interface ms) w:=fun w=>bz w hu;simp only[aC]at h;simp only[execOp,hop,hyv];generalize a.eval x=xv at hRx;split at h
 ·rename_i e;rw[e]at hRx;cases h;cases hRx with
  |err u v=>
   refine⟨rfl,kA (v:= .bool neg) ?_ (.bool _)⟩;rcases hn with⟨rfl,rfl⟩|⟨rfl,rfl⟩
   ·exact Eu t _ _ rfl (uA hu u v)
   ·exact Et t _ _ rfl (uA hu u v)
 ·rename_i e;rw[e]at hRx;cases h;cases hRx with
  |nili=>
   refine⟨rfl,kA (v:= .bool (!neg)) ?_ (.bool _)⟩;have hyc':∃ v,y= .const v:=by
    cases y with
    |const v=>exact⟨v,rfl⟩
    |_=>simp[pn]at hy
   obtain⟨v,rfl⟩:=hyc';rcases hn with⟨rfl,rfl⟩|⟨rfl,rfl⟩
   ·have hg:eqGuard .eql t x (.const v) .nilIface .nilIface=pure ():=by simp[eqGuard]
    rw[hg];exact Eu t _ _ rfl (w7 hu)
   ·have hg:eqGuard .neq t x (.const v) .nilIface .nilIface=pure ():=by simp[eqGuard]
    rw[hg];exact Et t _ _ rfl (w7 hu)
 ·cases h
def Eo(hF:fu G nt fr a){op:BinOp}{t yt:Nat}{x y:Operand}(hop:o.op= .binOp op t x y yt){cx cy:CX}(hx:bP x=some cx)(hy:bP y=some cy)
  (hi:E0 P t=true) {neg:Bool} (hn:(op= .eql/\neg=false)\/(op= .neq/\neg=true))
  (h:aC cf fr st d (.beq neg cx cy)=some (p,st')):st'=st/\jY P G w (execOp a.eval o) p:=by
 have hRx:=cR hF hx;have hRy:=cR hF hy;have hu:P.underlying t=some .bool:=by
  unfold E0 at hi;split at hi
  ·assumption
  ·cases hi
 have hrun:∀ w:World,(underlying t).run P w= .ok .bool w:=fun w=>bz w hu;simp only[aC]at h;simp only[execOp,hop];generalize a.eval x=xv at hRx;generalize a.eval y=yv at hRy;split at h
 ·rename_i e1 e2;rw[e1]at hRx;rw[e2]at hRy;cases h;cases hRx;cases hRy;refine⟨rfl,kA (v:= .bool _) ?_ (.bool _)⟩;rcases hn with⟨rfl,rfl⟩|⟨rfl,rfl⟩
  ·exact Eu t _ _ rfl (vA hu _ _)
  ·exact Et t _ _ rfl (vA hu _ _)
 ·cases h
def NF(hF:fu G nt fr a){op:UnOp}{t:Nat}{x:Operand}(hop:o.op= .unOp op t x){cx:CX}(hx:bP x=some cx)
  (h:w6 op (cx.ev fr)=some p):jY P G w (execOp a.eval o) p:=by
 have hRx:=cR hF hx;simp only[execOp,hop];unfold w6 at h;split at h
 ·rename_i u hu;have e1:=vy hRx hu;simp only[bU]at h;obtain⟨r,hr,hp⟩:=h;refine kA (v:=r) ?_ (Hd hp);rw[e1];exact Gk hr w
 ·cases h
end
section
variable {G:Gh} {nt:Nat} {fr:Fr} {st st':St} {w:World} {a:Act} {o:Oper} {co:eV} {d:Option Nat} {cf:aJ} {p:PV}
def GT(hF:fu G nt fr a){x:Operand}(hop:o.op= .move x\/o.op= .assign x){cx:CX}(hx:bP x=some cx)
  (h:aC cf fr st d (.mv cx)=some (p,st')):st'=st/\jY P G w (execOp a.eval o) p:=by
 cases h;refine⟨rfl,a.eval x,?_,cR hF hx⟩;rcases hop with hop|hop<;>simp only[execOp,hop]<;>rfl
def JE(hF:fu G nt fr a){c x y:Operand}(hop:o.op= .pick c x y){cc cx cy:CX}(hc:bP c=some cc)(hx:bP x=some cx)(hy:bP y=some cy)
  (h:aC cf fr st d (.pick cc cx cy)=some (p,st')):st'=st/\jY P G w (execOp a.eval o) p:=by
 have hRc:=cR hF hc;simp only[aC]at h;simp only[execOp,hop];generalize a.eval c=cv at hRc;split at h
 ·rename_i e;rw[e]at hRc;cases hRc;cases h;exact⟨rfl,a.eval x,by simp[asBool],cR hF hx⟩
 ·rename_i e;rw[e]at hRc;cases hRc;cases h;exact⟨rfl,a.eval y,by simp[asBool],cR hF hy⟩
 ·cases h
def JG(hI:bM P B G st w)(hF:fu G nt fr a){t:Nat}{x:Operand}(hop:o.op= .load t x){cx:CX}(hx:bP x=some cx){sz:Nat}{ag:Bool}(hs:gO P t=some sz)(hg:tn P t=some ag)
  (h:aC cf fr st d (.load sz ag cx)=some (p,st')):st'=st/\jY P G w (execOp a.eval o) p:=by
 have hR:=cR hF hx;simp only[aC]at h;simp only[execOp,hop];generalize a.eval x=xv at hR;split at h
 ·rename_i s off e;rw[e]at hR;cases hR with
  |ptr _ _ b hb=>
   split at h
   ·rename_i cs hcs;simp only[av]at h;obtain⟨q,hq,hqe⟩:=h;cases hqe;obtain⟨e',vs,hh,hRs,hcell⟩:=hI.box hcs hb;obtain⟨v,hv,hRv⟩:=sf (P:=P) (o:=0) (off:=off) hs hg hRs.1 hRs.2.1 hRs.2.2 hcell hq;rw[ar]at hv;exact⟨rfl,v,by simp[Instr.loadAt,Instr.sureAddr,hv],hRv⟩
   ·cases h
 ·rename_i cs off tk e;rw[e]at hR;cases hR with
  |iptr _ _ _ b o' us hl hc hr h1 _ _ _=>
   simp only[av]at h;obtain⟨q,hq,hqe⟩:=h;cases hqe;obtain⟨v,hv,hRv⟩:=sf (P:=P) (w:=w) hs hg hl hr h1 (fun j u hu=>hI.com _ _ _ (hc j u hu)) hq;exact⟨rfl,v,by simp[Instr.loadAt,Instr.sureAddr,hv],hRv⟩
 ·cases h
def Ly(hF:fu G nt fr a){x:Operand}(hop:o.op= .nilCheck x){cx:CX}(hx:bP x=some cx)
  (h:aC cf fr st d (.nck cx)=some (p,st')):st'=st/\jY P G w (execOp a.eval o) p:=by
 have hR:=cR hF hx;simp only[aC]at h;simp only[execOp,hop];generalize a.eval x=xv at hR;split at h
 all_goals first
  |(cases h;done)
  |(rename_i e
    rw[e]at hR;cases h;refine⟨rfl,xv,?_,hR⟩;cases hR<;>rfl)
def Ii(hF:fu G nt fr a){s t:Nat}{x:Operand}(hop:o.op= .convert s t x){cx:CX}(hx:bP x=some cx){k0 k:IntKind}(hs:P.underlying s=some (.int k0))(ht:P.underlying t=some (.int k))
  (h:aC cf fr st d (.toInt k cx)=some (p,st')):st'=st/\jY P G w (execOp a.eval o) p:=by
 have hR:=cR hF hx;simp only[aC]at h;simp only[execOp,hop];generalize a.eval x=xv at hR;split at h
 ·rename_i e;rw[e]at hR;cases hR;cases h;exact⟨rfl,_,by simp[convert,bz w hs,bz w ht,Conv.intToInt],.int _ _⟩
 ·cases h
def Gj(hF:fu G nt fr a){s t:Nat}{x:Operand}(hop:o.op= .convert s t x){cx:CX}(hx:bP x=some cx)(hs:P.underlying s=some .string)(ht:P.underlying t=some .string)
  (h:aC cf fr st d (.s2s cx)=some (p,st')):st'=st/\jY P G w (execOp a.eval o) p:=by
 have hR:=cR hF hx;simp only[aC]at h;simp only[execOp,hop];generalize a.eval x=xv at hR;split at h
 ·rename_i e;rw[e]at hR;cases hR;cases h;exact⟨rfl,_,by simp[convert,bz w hs,bz w ht],.str _⟩
 ·cases h
def LD(hF:fu G nt fr a){x:Operand}{i:Nat}(hop:o.op= .extract x i){cx:CX}(hx:bP x=some cx)
  (h:aC cf fr st d (.ext cx i)=some (p,st')):st'=st/\jY P G w (execOp a.eval o) p:=by
 have hR:=cR hF hx;simp only[aC]at h;simp only[execOp,hop];generalize a.eval x=xv at hR;split at h
 ·rename_i vs e;rw[e]at hR;cases hR with
  |tup _ us hl hr=>
   simp only[av]at h;obtain⟨q,hq,hqe⟩:=h;cases hqe;have hlt:i<us.length:=by
    have:=bD.1 hq;obtain⟨h,_⟩:=this;omega
   exact⟨rfl,us[i],by simp[Instr.extract,hlt],hr i _ _ hq (aK hlt)⟩
 ·cases h
def LC(hF:fu G nt fr a){s:Nat}{x:Operand}{f:Nat}(hop:o.op= .fieldAddr s x f){cx:CX}(hx:bP x=some cx){fs:Array Field}{fd:Field}{n:Nat}(hu:P.underlying s=some (.struct fs))
  (hf:fs[f]? =some fd) (hs:gO P fd.type=some (n+1)) (h:aC cf fr st d (.fad fd.offset cx)=some (p,st')):st'=st/\jY P G w (execOp a.eval o) p:=by
 have hR:=cR hF hx;simp only[aC]at h;simp only[execOp,hop];generalize a.eval x=xv at hR;have hrun:∀ (b o':Nat),(Instr.fieldAt s (.pointer (some ⟨b,o',none⟩)) f).run P w= .ok (.pointer (some ⟨b,o'+fd.offset,none⟩)) w:=by
  intro b o';simp only[Instr.fieldAt,Sem.run_bind,bz w hu,dA,hf,Instr.sureAddr,fieldPlace,Sem.run_pure,iw w hs];simp[qt]
 split at h
 ·rename_i k off e;rw[e]at hR;cases h;cases hR with
  |ptr _ _ b hb=>exact⟨rfl,_,by simp[hrun],.ptr _ _ _ hb⟩
 ·rename_i cs off tk e;rw[e]at hR;cases h;cases hR with
  |iptr _ _ _ b o' us hl hc hr h1 htp hp hx'=>exact⟨rfl,.pointer (some ⟨b,o'+(off+fd.offset),none⟩),by simp[hrun,lU],.iptr _ _ _ _ _ us hl hc hr h1 htp hp hx'⟩
 ·cases h
def LG{cs:List PV}{us:List Value}{t sz off:Nat}{ag:Bool}(hs:gO P t=some sz)(hg:tn P t=some ag)(hl:cs.length=us.length)
  (hr:∀ (j:Nat) (p:PV) (u:Value),cs[j]? =some p->us[j]? =some u->R G p u) (h1:∀ u∈us,u.oneCell'=true) (hp:bL cs off sz ag=some p):
  ∃ v,(part t us.toArray off).run P w= .ok v w/\R G p v:=by
 unfold bL at hp;by_cases hle:off+sz<=cs.length
 case neg=>rw[ai hle]at hp;cases hp
 rw[am hle]at hp;cases ag with
 |true=>
  rw[am rfl]at hp;cases hp;have hlen:((us.drop off).take sz).length=sz:=by rw[aL,bl];omega
  refine⟨.agg ((us.drop off).take sz).toArray,?_,.agg _ _ ?_ ?_ ?_⟩
  ·simp[part,uz w hg,iw w hs]
  ·rw[hlen,aL,bl];omega
  ·intro j p u hp hu;by_cases hj:j<sz
   ·rw[dQ hj,ex]at hp hu;exact hr _ _ _ hp hu
   ·rw[iU (by omega)]at hp;cases hp
  ·intro u hu;exact h1 u (dv (eU hu))
 |false=>
  rw[ai (by simp)]at hp;by_cases h1s:sz=1
  case neg=>rw[ai h1s]at hp;cases hp
  rw[am h1s]at hp;have hlt:off<us.length:=by
   have:=bD.1 hp;obtain⟨h,_⟩:=this;omega
  exact⟨us[off],by simp[part,uz w hg,hlt],hr _ _ _ hp (aK hlt)⟩
def LB(hF:fu G nt fr a){s:Nat}{x:Operand}{f:Nat}(hop:o.op= .field s x f){cx:CX}(hx:bP x=some cx){fs:Array Field}{fd:Field}{sz:Nat}{ag:Bool}(hu:P.underlying s=some (.struct fs))
  (hf:fs[f]? =some fd) (hs:gO P fd.type=some sz) (hg:tn P fd.type=some ag) (h:aC cf fr st d (.fld fd.offset sz ag cx)=some (p,st')):st'=st/\jY P G w (execOp a.eval o) p:=by
 have hR:=cR hF hx;simp only[aC]at h;simp only[execOp,hop];generalize a.eval x=xv at hR;split at h
 ·rename_i cs e;rw[e]at hR;simp only[av]at h;obtain⟨q,hq,hqe⟩:=h;cases hqe;cases hR with
  |agg _ us hl hr h1=>
   obtain⟨v,hv,hRv⟩:=LG (P:=P) (w:=w) hs hg hl hr h1 hq;exact⟨rfl,v,by simp[Instr.field,bz w hu,hf,asAgg,hv],hRv⟩
 ·cases h
def LA(hF:fu G nt fr a){t e0:Nat}{x i:Operand}(hop:o.op= .indexAddr t x i){cx ci:CX}(hx:bP x=some cx)(hi:bP i=some ci){sz:Nat}(hu:P.underlying t=some (.slice e0))(hs:gO P e0=some sz)
  (h:aC cf fr st d (.iad sz cx ci)=some (p,st')):st'=st/\jY P G w (execOp a.eval o) p:=by
 have hR:=cR hF hx;have hRi:=cR hF hi;simp only[aC]at h;simp only[execOp,hop];generalize a.eval x=xv at hR;generalize a.eval i=iv at hRi;split at h
 ·rename_i n cs tk k j e1 e2;rw[e1]at hR;rw[e2]at hRi;split at h
  ·rename_i hb;cases h;cases hRi;cases hR with
   |listN=>omega
   |listE=>omega
   |list _ _ _ b o' cap us hn hl hc hr h1 ht hp hx'=>
    refine⟨rfl,.pointer (some ⟨b,o'+j.toNat*sz,none⟩),?_,.iptr _ _ _ _ _ us hl hc hr h1 (QF ht) (elt_of hp) (fun h1 h2=>hx' h1 (aF.elt_no h2))⟩;simp only[Instr.indexAt,asIntOf,Sem.run_bind,Sem.run_pure,dA,bz w hu];simp[hb.1,hb.2.1,qt,iw w hs]
  ·cases h
 ·rename_i ee esz s n k j e1 e2;rw[e1]at hR;rw[e2]at hRi;split at h
  ·rename_i hb;cases h;cases hRi;cases hR with
   |osl _ _ _ _ b hbb hee=>
    refine⟨rfl,.pointer (some ⟨b,0+j.toNat*sz,none⟩),?_,?_⟩
    ·simp only[Instr.indexAt,asIntOf,Sem.run_bind,Sem.run_pure,dA,bz w hu];simp[hb.1,hb.2,qt,iw w hs]
    ·rw[ar];exact .ptr _ _ _ hbb
  ·cases h
 ·cases h
def JD(hF:fu G nt fr a){t:Nat}{x i:Operand}(hop:o.op= .index t x i){cx ci:CX}(hx:bP x=some cx)(hi:bP i=some ci)(hu:P.underlying t=some .string)
  (h:aC cf fr st d (.sidx cx ci)=some (p,st')):st'=st/\jY P G w (execOp a.eval o) p:=by
 have hR:=cR hF hx;have hRi:=cR hF hi;simp only[aC]at h;simp only[execOp,hop];generalize a.eval x=xv at hR;generalize a.eval i=iv at hRi;split at h
 ·rename_i s k j e1 e2;rw[e1]at hR;rw[e2]at hRi;split at h
  ·rename_i hb;cases h;cases hRi;cases hR;refine⟨rfl,_,?_,.int _ _⟩;simp only[Instr.index,asIntOf,Sem.run_bind,Sem.run_pure,dA,bz w hu];simp[hb.1,hb.2]
  ·cases h
 ·cases h
def JC(hF:fu G nt fr a){t:Nat}{x:Operand}(hop:o.op= .call {callee:= .builtin .len,args:= #[x],argTypes:= #[t]}){cx:CX}(hx:bP x=some cx)
  (hu:P.underlying t=some .string) (h:aC cf fr st d (.slen cx)=some (p,st')):st'=st/\jY P G w (execOp a.eval o) p:=by
 have hR:=cR hF hx;simp only[aC]at h;simp only[execOp,hop,resolve,invoke,builtin];generalize hxe:a.eval x=xv at hR;split at h
 ·rename_i s e;rw[e]at hR;cases hR;cases h;exact⟨rfl,goInt s.size,by simp[hxe,Builtin.len_,bz w hu],.int _ _⟩
 ·cases h
def Lz(hF:fu G nt fr a){t e0:Nat}{x:Operand}(hop:o.op= .call {callee:= .builtin .len,args:= #[x],argTypes:= #[t]}){cx:CX}(hx:bP x=some cx)
  (hu:P.underlying t=some (.slice e0)) (h:aC cf fr st d (.len cx)=some (p,st')):st'=st/\jY P G w (execOp a.eval o) p:=by
 have hR:=cR hF hx;simp only[aC]at h;simp only[execOp,hop,resolve,invoke,builtin];generalize hxe:a.eval x=xv at hR;split at h
 ·rename_i n cs k e;rw[e]at hR;cases h;refine⟨rfl,goInt n,?_,.int _ _⟩;cases hR<;>simp[hxe,Builtin.len_,bz w hu]
 ·rename_i e' sz' s n e;rw[e]at hR;cases h;refine⟨rfl,goInt n,?_,.int _ _⟩;cases hR<;>simp[hxe,Builtin.len_,bz w hu]
 ·cases h
end
def Gm:∀ {v:Value} {p:PV},ix v=some p->v.oneCell'=true:=by
 intro v p h;cases v<;>simp[ix]at h<;>rfl
def pP(G:Gh):∀ {vs:List Value} {ps:List PV},iY vs=some ps->Rs G ps vs
 | [],ps,h=>by
  simp[iY]at h;subst h;exact⟨rfl,fun j p u hp=>by simp at hp,fun u hu=>by simp at hu⟩
 |v::vs,ps,h=>by
  unfold iY at h;split at h
  ·rename_i p ps' hp hps;cases h;obtain⟨hl,hr,h1⟩:=pP G hps;refine⟨by simp[hl],fun j q u hq hu=>?_,fun u hu=>?_⟩
   ·cases j with
    |zero=>simp at hq hu;subst hq;subst hu;exact xL G hp
    |succ j=>exact hr j q u (by simpa using hq) (by simpa using hu)
   ·rcases aZ.1 hu with rfl|hu
    ·exact Gm hp
    ·exact h1 u hu
  ·cases h
def Rs.set{G:Gh}{cs:List PV}{us:List Value}(h:Rs G cs us)(off:Nat){p:PV}{u:Value}(hR:R G p u)(h1:u.oneCell'=true):Rs G (cs.set off p) (us.set off u):=by
 obtain⟨hl,hr,ho⟩:=h;refine⟨by simp[hl],fun j q v hq hv=>?_,fun v hv=>?_⟩
 ·by_cases hj:off=j
  ·subst hj;rw[List.getElem?_set]at hq hv;simp only[if_true]at hq hv;split at hq
   ·cases hq;split at hv
    ·cases hv;exact hR
    ·cases hv
   ·cases hq
  ·rw[kG hj]at hq hv;exact hr j q v hq hv
 ·rcases dK hv with hv|rfl
  ·exact ho v hv
  ·exact h1
def Rs.put{G:Gh}:∀ {ds:List PV} {vs:List Value} {cs:List PV} {us:List Value} (off:Nat),Rs G cs us->Rs G ds vs->Rs G (bS cs off ds) (bS us off vs)
 | [],[],_,_,_,h,_=>h
 | [],_::_,_,_,_,_,h=>by have:=h.1;simp at this
 |_::_,[],_,_,_,_,h=>by have:=h.1;simp at this
 |d::ds,v::vs,cs,us,off,h,h'=>by
  obtain⟨hl,hr,h1⟩:=h';exact Rs.put (off+1) (h.set off (hr 0 d v rfl rfl) (h1 v (by simp))) ⟨by simpa using hl,fun j p u hp hu=>hr (j+1) p u (by simpa using hp) (by simpa using hu),fun u hu=>h1 u (by simp[hu])⟩
def E9:∀ (vs:List Value) (k off:Nat) (cells:Array Value),((vs.zipIdx k).foldl (fun cs (x:Value×Nat)=>cs.setIfInBounds (off+x.2) x.1) cells).toList=bS cells.toList (off+k) vs
 | [],_,_,_=>rfl
 |v::vs,k,off,cells=>by
  simp only[List.zipIdx_cons,mj,bS];rw[E9 vs (k+1) off (cells.setIfInBounds (off+k) v)];simp[lU]
def Kq(v:Value)(off:Nat)(cells:Array Value):(v.cells.zipIdx.foldl (fun cs (x:Value×Nat)=>cs.setIfInBounds (off+x.2) x.1) cells).toList=bS cells.toList off v.cells.toList:=by
 rw[<-Array.foldl_toList,Array.toList_zipIdx];exact E9 v.cells.toList 0 off cells
def tl{G:Gh}{p:PV}{v:Value}(hR:R G p v){cs:List PV}(h:cellsOf p=some cs):Rs G cs v.cells.toList:=by
 unfold cellsOf at h;split at h
 ·cases h;cases hR with
  |agg _ vs hl hr h1=>exact⟨by simpa [Value.cells]using hl,by simpa [Value.cells]using hr,by simpa [Value.cells]using h1⟩
 ·rename_i hne;split at h
  ·rename_i hp;cases h;have h1:v.oneCell'=true/\v.cells= #[v]:=by
    cases hR<;>simp[xG,B0]at hp<;>exact⟨rfl,rfl⟩
   rw[h1.2];refine⟨rfl,fun j q u hq hu=>?_,fun u hu=>?_⟩
   ·cases j with
    |zero=>simp at hq hu;subst hq;subst hu;exact hR
    |succ j=>simp at hq
   ·simp at hu;subst hu;exact h1.1
  ·cases h
def Fc{G:Gh}{nt:Nat}{fr:Fr}{a:Act}(hF:fu G nt fr a)(place:Nat->Option (Nat×Nat)):∀ {parts:List (Nat×Operand)} {ps:List (Nat×Nat×CX)} {zs cs:List PV} {cells:Array Value},
  iK place parts=some ps->Rs G zs cells.toList->lF zs fr ps=some cs->∃ cells',Instr.fill place cells (parts.map fun x=>(x.1,a.eval x.2))=some cells'/\Rs G cs cells'.toList
 | [],ps,zs,cs,cells,hc,hz,hf=>by
  simp[iK]at hc;subst hc;cases hf;exact⟨cells,rfl,hz⟩
 |(i,x)::r,ps,zs,cs,cells,hc,hz,hf=>by
  unfold iK at hc;split at hc
  ·rename_i off sz c cs' hpl hx hr;cases hc;unfold lF at hf;split at hf
   ·rename_i ds hds;split at hf
    ·rename_i hlen;have hRs:=tl (cR hF hx) hds;have hsz:(a.eval x).cells.size=sz:=by have:=hRs.1;simp at this;omega
     have hle:¬ (off+(a.eval x).cells.size>cells.size):=by have:=hz.1;simp at this;omega
     obtain⟨cells',hfill,hRs'⟩:=Fc hF place (cells:=(a.eval x).cells.zipIdx.foldl (fun cs (x:Value×Nat)=>cs.setIfInBounds (off+x.2) x.1) cells) hr (by rw[Kq];exact hz.put off hRs) hf;refine⟨cells',?_,hRs'⟩;simp only[bg,Instr.fill,hpl];rw[ai (by simp[hsz]at hle ⊢;omega)];exact hfill
    ·cases hf
   ·cases hf
  ·cases hc
section
variable {G:Gh} {nt:Nat} {fr:Fr} {st st':St} {w:World} {a:Act} {o:Oper} {d:Option Nat} {cf:aJ} {p:PV}
def Il(hF:fu G nt fr a){t:Nat}{ps:Array (Nat×Operand)}(hop:o.op= .build t ps){zs:List PV}{pl:List (Nat×Nat)}{cps:List (Nat×Nat×CX)}(hz:gw P t=some zs)(hpl:zK P t=some pl)
  (hps:iK (pl.toArray[·]?) ps.toList=some cps) (h:aC cf fr st d (.build zs cps)=some (p,st')):st'=st/\jY P G w (execOp a.eval o) p:=by
 simp only[aC]at h;simp only[execOp,hop];split at h
 ·rename_i cs hcs;cases h;unfold gw at hz;split at hz
  ·rename_i it hit;split at hz
   ·rename_i z hzz;obtain⟨cells',hfill,hRs⟩:=Fc hF (pl.toArray[·]?) hps (pP G hz) hcs;have hb:P.built t ((ps.map fun(x:Nat×Operand)=>(x.1,a.eval x.2)).toList)=some cells':=by
     unfold zK at hpl;split at hpl
     ·rename_i fs hu;unfold Program.built;rw[hit,hu];simp only[hzz,hpl];rw[Array.toList_map];exact hfill
     ·cases hpl
    refine⟨rfl,.agg cells',?_,?_⟩
    ·simp[run_build w t _ cells' hb]
    ·have:=R.agg (G:=G) cs cells'.toList hRs.1 hRs.2.1 hRs.2.2;simpa using this
   ·cases hz
  ·cases hz
 ·cases h
def DH{p:PV}{v:Value}(hR:R G p v){top n:Nat}(h:kx p top=some n)(code:BoundsCode):(Instr.sliceBound v top code).run P w= .ok n w/\n<=top:=by
 unfold kx at h;split at h
 ·split at h
  ·rename_i hb;cases h;cases hR;refine⟨?_,by omega⟩;simp[Instr.sliceBound,asIntOf,hb.1,hb.2]
  ·cases h
 ·cases h
def vL(hF:fu G nt fr a){lo hi:Option Operand}{clo chi:Option CX}(hlo:lT lo=some clo)(hhi:lT hi=some chi){len cap l h:Nat}(hc:rY clo chi fr len cap=some (l,h))(sK:Bool)(hle:len<=cap):
  (Instr.sliceBounds sK len cap (lo.map a.eval) (hi.map a.eval) none).run P w= .ok (l,h,cap) w/\l<=h/\h<=cap:=by
 unfold rY at hc;have hlo':∀ x,lo=some x->∃ c,bP x=some c/\clo=some c:=by
  intro x hx;subst hx;simp only[lT,av]at hlo;obtain⟨c,h1,h2⟩:=hlo;exact⟨c,h1,h2.symm⟩
 have hhi':∀ x,hi=some x->∃ c,bP x=some c/\chi=some c:=by
  intro x hx;subst hx;simp only[lT,av]at hhi;obtain⟨c,h1,h2⟩:=hhi;exact⟨c,h1,h2.symm⟩
 split at hc
 ·cases hc
 ·rename_i h0 hh;split at hc
  ·cases hc
  ·rename_i l0 hl;cases hc;have H1:(match hi.map a.eval with|some v=>Instr.sliceBound v cap (if sK then .sliceAcap else .sliceAlen)|none=>pure len).run P w= .ok h w/\h<=cap:=by
    cases hi with
    |none=>
     simp only[lT]at hhi;cases hhi;simp only at hh;cases hh;exact⟨rfl,hle⟩
    |some x=>
     obtain⟨c,hx,rfl⟩:=hhi' x rfl;exact DH (cR hF hx) hh _
   have H2:(match lo.map a.eval with|some v=>Instr.sliceBound v h (if(none:Option Value).isSome then .slice3C else .sliceB)|none=>pure 0).run P w= .ok l w/\l<=h:=by
    cases lo with
    |none=>
     simp only[lT]at hlo;cases hlo;simp only at hl;cases hl;exact⟨rfl,aW _⟩
    |some x=>
     obtain⟨c,hx,rfl⟩:=hlo' x rfl;exact DH (cR hF hx) hl _
   refine⟨?_,H2.2,H1.2⟩;cases hi with
   |none=>
    simp only[gD]at H1;cases lo with
    |none=>
     simp only[gD]at H2;simp only[Instr.sliceBounds,gD,Sem.run_bind,Sem.run_pure,dA];rw[Sem.run_pure]at H1 H2;have e1:=H1.1;have e2:=H2.1;cases e1;cases e2;rfl
    |some y=>
     simp only[eO]at H2;simp only[Instr.sliceBounds,gD,eO,Sem.run_bind,Sem.run_pure,dA];rw[Sem.run_pure]at H1;have e1:=H1.1;cases e1;rw[H2.1];rfl
   |some x=>
    simp only[eO]at H1;cases lo with
    |none=>
     simp only[gD]at H2;simp only[Instr.sliceBounds,gD,eO,Sem.run_bind,Sem.run_pure,dA];rw[H1.1];rw[Sem.run_pure]at H2;have e2:=H2.1;cases e2;rfl
    |some y=>
     simp only[eO]at H2;simp only[Instr.sliceBounds,eO,Sem.run_bind,Sem.run_pure,dA];rw[H1.1];simp only[dA];rw[H2.1];rfl
def Ja{x:PV}{t t' n:Nat}(h:kx x t=some n)(hle:t<=t'):kx x t'=some n:=by
 unfold kx at h ⊢;split at h
 ·split at h
  ·rename_i hb;rw[am ⟨hb.1,by omega⟩];exact h
  ·cases h
 ·cases h
def Mr{lo hi:Option CX}{fr:Fr}{len cap cap' l h:Nat}(hc:rY lo hi fr len cap=some (l,h))(hle:cap<=cap'):rY lo hi fr len cap'=some (l,h):=by
 unfold rY at hc ⊢;cases hi with
 |none=>exact hc
 |some x=>
  simp only at hc ⊢;split at hc
  ·cases hc
  ·rename_i h0 hh;rw[Ja hh hle];exact hc
def Lw(hF:fu G nt fr a){t:Nat}{x:Operand}{lo hi:Option Operand}(hop:o.op= .slice t x lo hi none){cx:CX}(hx:bP x=some cx){clo chi:Option CX}(hlo:lT lo=some clo)(hhi:lT hi=some chi)
  (hu:P.underlying t=some .string) (h:aC cf fr st d (.ssl cx clo chi)=some (p,st')):st'=st/\jY P G w (execOp a.eval o) p:=by
 have hR:=cR hF hx;simp only[aC]at h;simp only[execOp,hop];generalize a.eval x=xv at hR;split at h
 ·rename_i s e;rw[e]at hR;cases hR;split at h
  ·rename_i l hh hc;cases h;have:=(vL (P:=P) (w:=w) hF hlo hhi hc false (aP _)).1;refine⟨rfl,_,?_,.str _⟩;simp[Instr.sliceAt,Instr.slice,bz w hu,this]
  ·cases h
 ·cases h
def Lx(hF:fu G nt fr a){t e0:Nat}{x:Operand}{lo hi:Option Operand}(hop:o.op= .slice t x lo hi none){cx:CX}(hx:bP x=some cx){clo chi:Option CX}(hlo:lT lo=some clo)(hhi:lT hi=some chi)
  (hu:P.underlying t=some (.slice e0)) {sz:Nat} (hs:gO P e0=some sz) (h:aC cf fr st d (.slc sz cx clo chi)=some (p,st')):st'=st/\jY P G w (execOp a.eval o) p:=by
 have hR:=cR hF hx;simp only[aC]at h;simp only[execOp,hop];generalize a.eval x=xv at hR;split at h
 ·rename_i n cs k e1;rw[e1]at hR;split at h
  ·rename_i l hh hc;split at h
   ·rename_i hlen;cases h;refine⟨rfl,?_⟩;cases hR with
    |listE a=>
     obtain⟨hrun,hle1,hle2⟩:=vL (P:=P) (w:=w) hF hlo hhi hc true (aP _);have e1:hh=0:=by omega
     have e2:l=0:=by omega
     subst e1 e2;refine⟨.slice (some a) 0 0,?_,?_⟩
     ·simp[Instr.sliceAt,Instr.slice,bz w hu,hrun,iw w hs]
     ·have ht:(aF.no).cut clo.isNone 0 0= .no:=by cases clo<;>rfl
      simpa [ht]using R.listE (G:=G) a
    |listN _ ht=>
     obtain⟨hrun,hle1,hle2⟩:=vL (P:=P) (w:=w) hF hlo hhi hc true (aP _);have e1:hh=0:=by omega
     have e2:l=0:=by omega
     subst e1 e2;refine⟨.slice none 0 0,?_,?_⟩
     ·simp[Instr.sliceAt,Instr.slice,bz w hu,hrun,iw w hs]
     ·have ht':Au G (k.cut clo.isNone 0 0):=QH ht;simpa using R.listN (G:=G) _ ht'
    |list _ _ _ b o' cap us hn hl hcm hr h1 ht hp hx'=>
     have hle2:=(vL (P:=P) (w:=w) hF hlo hhi hc true (aP _)).2.2;obtain⟨hrun,hle1,_⟩:=vL (P:=P) (w:=w) hF hlo hhi (Mr hc hn) true hn;have hmul:(h0:hh<=n)->hh*sz<=us.length:=fun h0=>by rw[<-hl,hlen];exact du _ h0
     have hmul':=hmul hle2;have hsub:(hh-l) *sz=hh*sz-l*sz:=Nat.sub_mul _ _ _;have hlm:l*sz<=hh*sz:=du _ hle1;refine⟨.slice (some ⟨b,o'+(if cap=l then 0 else l*sz),none⟩) (hh-l) (cap-l),?_,?_⟩
     ·by_cases hcl:cap=l
      ·subst hcl;simp[Instr.sliceAt,Instr.slice,bz w hu,hrun,iw w hs]
      ·simp[Instr.sliceAt,Instr.slice,bz w hu,hrun,iw w hs,hcl,qt]
     ·have hb0:((us.drop (l*sz)).take ((hh-l) *sz)).length=(hh-l) *sz:=by rw[aL,bl];omega
      refine .list _ _ _ _ _ _ ((us.drop (l*sz)).take ((hh-l) *sz)) (by omega) ?_ ?_ ?_ ?_ ?_ ?_ ?_
      ·rw[hb0,aL,bl];omega
      ·intro j u hj;by_cases hlt:j<(hh-l) *sz
       ·rw[dQ hlt,ex]at hj;have:=hcm _ _ hj;split
        ·rename_i e0;have e5:hh=l:=by omega
         subst e5;simp at hlt
        ·rwa [lU]
       ·rw[iU (by omega)]at hj;cases hj
      ·intro j q u hq hj;by_cases hlt:j<(hh-l) *sz
       ·rw[dQ hlt,ex]at hj hq;exact hr _ _ _ hq hj
       ·rw[iU (by omega)]at hj;cases hj
      ·intro u hu;exact h1 u (dv (eU hu))
      ·have hl0:clo.isNone=true->l=0:=fun h0=>by
        cases clo with
        |none=>
         simp only[rY]at hc;split at hc
         ·cases hc
         ·simp only[bB,cL]at hc;exact hc.1.symm
        |some c=>cases h0
       have hlu:us.length=n*sz:=by rw[<-hl];exact hlen
       rw[hb0];refine QG (sz:=sz) ht (fun h0 h1=>?_) hlu (fun h0=>?_) hle2 (fun h0=>?_) (fun h0=>?_)
       ·rw[hl0 h0,h1,hlu];simp
       ·rw[hl0 h0];simp
       ·rw[hl0 h0];simp
       ·rw[hl0 h0];simp
      ·intro q hne hq;rw[aF.cut_of];exact hp q (fun e0=>hne (by rw[e0];simp)) hq
      ·intro hne hd;exact hx' (fun e0=>hne (by rw[e0];simp)) (aF.cut_no hd)
   ·cases h
  ·cases h
 ·cases h
end
def ip(w:World)(g:Nat)(cs:Array Value):(w.setRow g cs).heap.size=w.heap.size:=by simp[World.setRow]
def kE(w:World)(o:Obj):(w.alloc o).heap.size=w.heap.size+1:=Array.size_push ..
def vN{w:World}{o:Obj}{b k:Nat}(h:b<w.heap.size):(w.alloc o).cell? ⟨b,k,none⟩=w.cell? ⟨b,k,none⟩:=
 World.cell?_of_block (heap_alloc_old w o b h)
def Rs.le{G G':Gh}(h:Le G G'){cs:List PV}{vs:List Value}(hR:Rs G cs vs)(hn:aX cs=true):Rs G' cs vs:=by
 obtain⟨hl,hr,h1⟩:=hR;refine⟨hl,fun j p u hp hu=>?_,h1⟩;exact(hr j p u hp hu).le h (fun _=>true) (fun s hs=>by cases hs) (j7 hn hp)
def bM.setBox{G:Gh}{st:St}{w:World}(hI:bM P B G st w){s b e:Nat}{cs cs':List PV}{vs vs':List Value}(hs:st.objs s=some cs)(hb:G.ob s=some b)(hh:w.heap[b]? =some (.cells vs.toArray e (0,0)))
  (hR:Rs G cs' vs') (hn:aX cs'=true):
  bM P B G {st with objs:=fun k=>if k=s then some cs' else st.objs k} (w.setRow b vs'.toArray)/\cQ G w G (w.setRow b vs'.toArray):=by
 have hbo:=hI.obs s b hb;have hother:∀ k,k≠b->(w.setRow b vs'.toArray).heap[k]? =w.heap[k]? :=fun k hk=>setRow_other w b k _ hk;have hmap:∀ {b':Nat} {vs:Array MapEntry} {clk:Nat},w.heap[b']? =some (.map vs clk)->b'≠b:=by
  rintro b' us clk h rfl;rw[hh]at h;cases h
 refine⟨⟨?_,?_,hI.nx,hI.cnt,hI.live,hI.room,hI.apart,hI.priv,?_,?_,hI.obj,?_,?_,fun b k h=>by rw[ip];exact hI.pvl b k h,fun b h=>by rw[ip];exact hI.xpl b h,hI.base,?_,?_,?_,hI.mbi,hI.nomb,hI.obx,hI.ful⟩,⟨sZ.refl G,by rw[ip];exact aP _,?_,fun s' b' h=> .inl ⟨s',h⟩,fun t r h=> .inl ⟨t,r,h,rfl⟩,fun _ _ _ h=> .inl h,fun _ _ h=> .inl h,fun _ k h=> .inl ⟨k,h⟩,fun s b h=> .inl ⟨s,h⟩,⟨rfl,rfl⟩⟩⟩;rotate_left 6
 ·intro s' b' e' sz h1 h2;obtain⟨h3,cur,h4⟩:=hI.oes s' b' e' sz h1 h2;refine⟨h3,?_⟩;by_cases hbb:b'=b
  ·subst hbb;have h5:=h4;rw[hh]at h5;cases h5;exact⟨_,setRow_heap w b' _ _ _ _ hh⟩
  ·exact⟨cur,by rw[hother b' hbb];exact h4⟩
 ·intro s' es h;obtain⟨b',us,clk,h1,h2,h3⟩:=hI.mobj s' es h;exact⟨b',us,clk,h1,by rw[hother b' (hmap h2)];exact h2,h3⟩
 ·intro s' b' h;obtain⟨us,clk,h2⟩:=hI.mbs s' b' h;exact⟨us,clk,by rw[hother b' (hmap h2)];exact h2⟩
 rotate_left 1
 ·intro b' o v hc;have hne:b'≠b:=by rintro rfl;rw[hbo.2.1]at hc;cases hc
  rw[cell_setRow_other w b _ _ hne];exact hI.com b' o v hc
 ·intro b' e' k hsh;have hne:b'≠b:=by rintro rfl;rw[hbo.2.2]at hsh;cases hsh
  rw[hother b' hne];exact hI.sh b' e' k hsh
 ·intro s' cs'' h;by_cases hk:s'=s
  ·subst hk;simp only[if_true]at h;cases h;exact⟨b,e,vs',hb,setRow_heap w b _ _ e _ hh,hR⟩
  ·simp only[ai hk]at h;obtain⟨b2,e2,vs2,hb2,hh2,hR2⟩:=hI.objs s' cs'' h;have hne:b2≠b:=by rintro rfl;exact hk (hI.obj s' s _ hb2 hb)
   exact⟨b2,e2,vs2,hb2,by rw[hother b2 hne];exact hh2,hR2⟩
 ·intro s' b' h;rw[ip];exact hI.obs s' b' h
 ·intro s' h;by_cases hk:s'=s
  ·simp[hk]at h
  ·simp only[ai hk]at h;exact hI.nob s' h
 ·intro s' cs'' h;by_cases hk:s'=s
  ·simp only[hk,if_true]at h;cases h;exact hn
  ·simp only[ai hk]at h;exact hI.npo s' cs'' h
 ·intro b' hb' ho _ _;exact hother b' (by rintro rfl;exact ho s hb)
def Gh.newBox(G:Gh)(s B:Nat)(x:Option (Nat×Nat)):Gh:={G with ob:=fun k=>if k=s then some B else G.ob k,oe:=fun k=>if k=s then x else G.oe k}
def yi{G:Gh}{s B:Nat}{x:Option (Nat×Nat)}{k:Nat}(h:k≠s):(G.newBox s B x).bx k=G.bx k:=by simp[Gh.bx,Gh.newBox,h]
def Rm.le{G G':Gh}(h:Le G G'){es:List (PV×PV)}{vs:List MapEntry}(hR:Rm G es vs)(hn:∀ q∈es,np q.2=true):Rm G' es vs:=
 ⟨hR.1,fun i q x hq hx=>⟨(hR.2 i q x hq hx).1,(hR.2 i q x hq hx).2.le h (fun _=>true) (fun s hs=>by cases hs) (hn q (b8 hq))⟩⟩
def bM.newBox{G:Gh}{st:St}{w:World}(hI:bM P B G st w)(s e:Nat)(xe:Option (Nat×Nat))(hxe:∀ e' sz,xe=some (e',sz)->e'=e/\gO P e=some sz){cs:List PV}{vs:List Value}(hR:Rs G cs vs)(hn:aX cs=true):
  bM P B (G.newBox s w.heap.size xe) {st with objs:=fun k=>if k=s then some cs else st.objs k} (w.alloc (.cells vs.toArray e (0,0)))/\Le G (G.newBox s w.heap.size xe)/\cQ G w (G.newBox s w.heap.size xe) (w.alloc (.cells vs.toArray e (0,0))):=by
 have hle:Le G (G.newBox s w.heap.size xe):=⟨fun _ _ _ h=>h,fun _ _ h=>h,fun _ x' _ h=>⟨x',h,aP _,fun _=>rfl⟩,aP _,fun _ _ _ _ _ h=>h,rfl⟩;have hcomN:∀ o,G.com w.heap.size o=none:=by
  intro o;cases h:G.com w.heap.size o with
  |none=>rfl
  |some v=>
   have:=World.block_lt_of_cell? w _ (hI.com _ _ _ h);simp at this
 have hshN:G.sh w.heap.size=none:=by
  cases h:G.sh w.heap.size with
  |none=>rfl
  |some x=>
   obtain⟨cur,hc,_⟩:=hI.sh _ x.1 x.2 h;have:=(bf.1 hc).1;omega
 refine⟨⟨?_,?_,hI.nx,hI.cnt,hI.live,hI.room,hI.apart,hI.priv,?_,?_,?_,?_,?_,fun b k h=>by rw[kE];have:=hI.pvl b k h;omega,fun b h=>by rw[kE];have:=hI.xpl b h;omega,hI.base,?_,?_,?_,hI.mbi,hI.nomb,fun s' b h=>?_,hI.ful⟩,hle,⟨hle.w,by rw[kE];omega,?_,?_,fun t r h=> .inl ⟨t,r,h,rfl⟩,fun _ _ _ h=> .inl h,fun _ _ h=> .inl h,fun _ k h=> .inl ⟨k,h⟩,fun s b h=> .inl ⟨s,h⟩,⟨rfl,rfl⟩⟩⟩;rotate_left 7
 ·intro s' b' e' sz h1 h2;by_cases hk:s'=s
  ·simp only[Gh.newBox,hk,if_true]at h1 h2;cases h1;obtain⟨rfl,h3⟩:=hxe e' sz h2;exact⟨h3,_,heap_alloc_new w _⟩
  ·simp only[Gh.newBox,ai hk]at h1 h2;obtain⟨h3,cur,h4⟩:=hI.oes s' b' e' sz h1 h2;exact⟨h3,cur,by rw[heap_alloc_old w _ b' (bf.1 h4).1];exact h4⟩
 ·intro s' es h;obtain⟨b',us,clk,h1,h2,h3,h4⟩:=hI.mobj s' es h;exact⟨b',us,clk,h1,by rw[heap_alloc_old w _ b' (bf.1 h2).1];exact h2,h3.le hle h4,h4⟩
 ·intro s' b' h;obtain⟨us,clk,h2⟩:=hI.mbs s' b' h;exact⟨us,clk,by rw[heap_alloc_old w _ b' (bf.1 h2).1];exact h2⟩
 ·by_cases hk:s'=s
  ·simp only[Gh.newBox,hk,if_true]at h;cases h;refine⟨?_,?_⟩
   ·cases hp:G.pv w.heap.size with
    |none=>exact hp
    |some k=>have:=hI.pvl _ k hp;omega
   ·cases hp:G.xp w.heap.size with
    |false=>exact hp
    |true=>have:=hI.xpl _ hp;omega
  ·simp only[Gh.newBox,ai hk]at h;exact hI.obx s' b h
 rotate_left 2
 ·intro b o v h;have:=hI.com b o v h;rw[vN (World.block_lt_of_cell? w _ this)];exact this
 ·intro b e' k h;obtain⟨cur,hc,hk⟩:=hI.sh b e' k h;exact⟨cur,by rw[heap_alloc_old w _ b (bf.1 hc).1];exact hc,hk⟩
 ·intro s' cs' h;by_cases hk:s'=s
  ·subst hk;simp only[if_true]at h;cases h;exact⟨w.heap.size,e,vs,by simp[Gh.newBox],heap_alloc_new w _,hR.le hle hn⟩
  ·simp only[ai hk]at h;obtain⟨b,e',vs',hb,hh,hR'⟩:=hI.objs s' cs' h;exact⟨b,e',vs',by simp[Gh.newBox,hk,hb],by rw[heap_alloc_old w _ b (bf.1 hh).1];exact hh,hR'.le hle (hI.npo s' cs' h)⟩
 ·intro s' b h;rw[kE];by_cases hk:s'=s
  ·simp only[Gh.newBox,hk,if_true]at h;cases h;exact⟨by omega,hcomN,hshN⟩
  ·simp only[Gh.newBox,ai hk]at h;obtain⟨h1,h2,h3⟩:=hI.obs s' b h;exact⟨by omega,h2,h3⟩
 ·intro s' u b h1 h2;by_cases hk:s'=s<;>by_cases hu:u=s
  ·rw[hk,hu]
  ·simp only[Gh.newBox,hk,if_true,ai hu]at h1 h2;cases h1;have:=(hI.obs u _ h2).1;omega
  ·simp only[Gh.newBox,hu,if_true,ai hk]at h1 h2;cases h2;have:=(hI.obs s' _ h1).1;omega
  ·simp only[Gh.newBox,ai hk,ai hu]at h1 h2;exact hI.obj s' u b h1 h2
 ·intro s' h;by_cases hk:s'=s
  ·simp[hk]at h
  ·simp only[ai hk]at h;simp only[Gh.newBox,ai hk];exact hI.nob s' h
 ·intro s' cs' h;by_cases hk:s'=s
  ·simp only[hk,if_true]at h;cases h;exact hn
  ·simp only[ai hk]at h;exact hI.npo s' cs' h
 ·intro b hb _ _ _;exact heap_alloc_old w _ b hb
 ·intro s' b h;by_cases hk:s'=s
  ·simp only[Gh.newBox,hk,if_true]at h;cases h;exact .inr (aP _)
  ·simp only[Gh.newBox,ai hk]at h;exact .inl ⟨s',h⟩
def Gh.lay(G:Gh)(B e k:Nat)(us:List Value)(ow:Option Nat):Gh:=
 {G with com:=fun b o=>if b=B then us[o]? else G.com b o,sh:=fun b=>if b=B then some (e,k)else G.sh b,pv:=fun b=>if b=B then ow else G.pv b}
def bM.fresh_com{G:Gh}{st:St}{w:World}(hI:bM P B G st w)(o:Nat):G.com w.heap.size o=none:=by
 cases h:G.com w.heap.size o with
 |none=>rfl
 |some v=>
  have:=World.block_lt_of_cell? w _ (hI.com _ _ _ h);simp at this
def bM.fresh_xp{G:Gh}{st:St}{w:World}(hI:bM P B G st w):G.xp w.heap.size=false:=by
 cases h:G.xp w.heap.size with
 |false=>rfl
 |true=>have:=hI.xpl _ h;omega
def bM.fresh_sh{G:Gh}{st:St}{w:World}(hI:bM P B G st w):G.sh w.heap.size=none:=by
 cases h:G.sh w.heap.size with
 |none=>rfl
 |some x=>
  obtain⟨cur,hc,_⟩:=hI.sh _ x.1 x.2 h;have:=(bf.1 hc).1;omega
def bM.lay{G:Gh}{st:St}{w:World}(hI:bM P B G st w)(e:Nat)(us rest:List Value)(ow:Option Nat)(w':World)(hw:w'.heap=(w.alloc (.cells (us++rest).toArray e (0,0))).heap)(he:w'.os=w.os/\w'.output=w.output):
  bM P B (G.lay w.heap.size e (us++rest).length us ow) st w'/\Le G (G.lay w.heap.size e (us++rest).length us ow)/\cQ G w (G.lay w.heap.size e (us++rest).length us ow) w':=by
 have hle:Le G (G.lay w.heap.size e (us++rest).length us ow):=by
  refine⟨fun b o v h=>?_,fun b x h=>?_,fun _ x' _ h=>⟨x',h,aP _,fun _=>rfl⟩,aP _,fun b k o v hc hp=>?_,rfl⟩;rotate_left 2
  ·by_cases hb:b=w.heap.size
   ·subst hb;rw[hI.fresh_com]at hc;cases hc
   ·simp only[Gh.lay,ai hb]at hp;exact hp
  ·by_cases hb:b=w.heap.size
   ·subst hb;rw[hI.fresh_com]at h;cases h
   ·simp only[Gh.lay,ai hb];exact h
  ·by_cases hb:b=w.heap.size
   ·subst hb;rw[hI.fresh_sh]at h;cases h
   ·simp only[Gh.lay,ai hb];exact h
 have hold:∀ b,b<w.heap.size->w'.heap[b]? =w.heap[b]? :=fun b hb=>by rw[hw];exact heap_alloc_old w _ b hb
 have hnew:w'.heap[w.heap.size]? =some (.cells (us++rest).toArray e (0,0)):=by rw[hw];exact heap_alloc_new w _
 have hsz:w'.heap.size=w.heap.size+1:=by rw[hw];exact kE w _
 refine⟨⟨?_,?_,hI.nx,hI.cnt,hI.live,?_,hI.apart,?_,?_,?_,hI.obj,hI.nob,hI.npo,?_,fun b h=>by have:=hI.xpl b h;omega,?_,?_,?_,?_,hI.mbi,hI.nomb,fun s b h=>?_,hI.ful⟩,hle,⟨hle.w,by omega,fun b hb _ _ _=>hold b hb,fun s b h=> .inl ⟨s,h⟩,fun t r h=> .inl ⟨t,r,h,rfl⟩,fun b o v h=>?_,fun b x h=>?_,fun b k h=>?_,fun s b h=> .inl ⟨s,h⟩,he⟩⟩;rotate_left 7
 ·intro b o v h;obtain⟨h1,h2⟩:=hI.base b o v h;have hne:b≠w.heap.size:=by rintro rfl;rw[hI.fresh_com]at h1;cases h1
  simp only[Gh.lay,ai hne];exact⟨h1,h2⟩
 ·intro s' b' e' sz h1 h2;obtain⟨h3,cur,h4⟩:=hI.oes s' b' e' sz h1 h2;exact⟨h3,cur,by rw[hold b' (bf.1 h4).1];exact h4⟩
 ·intro s' es h;obtain⟨b',us',clk,h1,h2,h3,h4⟩:=hI.mobj s' es h;exact⟨b',us',clk,h1,by rw[hold b' (bf.1 h2).1];exact h2,h3.le hle h4,h4⟩
 ·intro s' b' h;obtain⟨us',clk,h2⟩:=hI.mbs s' b' h;exact⟨us',clk,by rw[hold b' (bf.1 h2).1];exact h2⟩
 ·have hne:b≠w.heap.size:=by have:=(hI.obs s b h).1;omega
  simp only[Gh.lay,ai hne];exact hI.obx s b h
 rotate_left 3
 ·intro b o v h;by_cases hb:b=w.heap.size
  ·subst hb;simp only[Gh.lay,if_true]at h;simp only[World.cell?,hnew];have hlt:=(bD.1 h).1;simp[bW hlt,h]
  ·simp only[Gh.lay,ai hb]at h;have:=hI.com b o v h;have hlt:=World.block_lt_of_cell? w _ this;rw[World.cell?_of_block (w:=w) (w':=w') (a:=⟨b,o,none⟩) (hold b hlt)];exact this
 ·intro b e' k h;by_cases hb:b=w.heap.size
  ·subst hb;simp only[Gh.lay,if_true]at h;cases h;exact⟨_,hnew,by simp⟩
  ·simp only[Gh.lay,ai hb]at h;obtain⟨cur,hc,hk⟩:=hI.sh b e' k h;exact⟨cur,by rw[hold b (bf.1 hc).1];exact hc,hk⟩
 ·intro t r h;obtain⟨h1,h2,h3,h5,h4,h6⟩:=hI.room t r h;have hne:r.b≠w.heap.size:=by intro e;rw[e,hI.fresh_sh]at h1;cases h1
  refine⟨by simp only[Gh.lay,ai hne];exact h1,h2,h3,h5,fun o ho=>by simp only[Gh.lay,ai hne];exact h4 o ho,h6⟩
 ·intro t r h;have h1:=(hI.room t r h).1;have hne:r.b≠w.heap.size:=by intro e;rw[e,hI.fresh_sh]at h1;cases h1
  simp only[Gh.lay,ai hne];exact hI.priv t r h
 ·intro s cs h;obtain⟨b,e',vs,hb,hh,hR⟩:=hI.objs s cs h;exact⟨b,e',vs,hb,by rw[hold b (hI.obs s b hb).1];exact hh,hR.le hle (hI.npo s cs h)⟩
 ·intro s b h;obtain⟨h1,h2,h3⟩:=hI.obs s b h;have hne:b≠w.heap.size:=by omega
  refine⟨by omega,fun o=>by simp only[Gh.lay,ai hne];exact h2 o,by simp only[Gh.lay,ai hne];exact h3⟩
 ·intro b k h;by_cases hb:b=w.heap.size
  ·omega
  ·simp only[Gh.lay,ai hb]at h;have:=hI.pvl b k h;omega
 ·by_cases hb:b=w.heap.size
  ·exact .inr (.inr (by omega))
  ·simp only[Gh.lay,ai hb]at h;exact .inl h
 ·by_cases hb:b=w.heap.size
  ·exact .inr (by omega)
  ·simp only[Gh.lay,ai hb]at h;exact .inl h
 ·by_cases hb:b=w.heap.size
  ·exact .inr (by omega)
  ·simp only[Gh.lay,ai hb]at h;exact .inl ⟨k,h⟩
def Gh.tok(G:Gh)(k:Nat)(x:ot):Gh:={G with tk:=fun t=>if t=k then some x else G.tk t,nx:=max G.nx (k+1)}
def F5(P:Program)(G:Gh)(fl k:Nat)(r:qv):Prop:=
 G.sh r.b=some (r.e,r.cap*r.sz)/\r.cap<=maxLen/\r.m<=r.cap/\gO P r.e=some r.sz/\(∀ o,r.m*r.sz<=o->G.com r.b o=none)/\(∀ t q,t≠k->G.tk t=some (.room q)->q.b≠r.b)/\(fl<=k->G.pv r.b=some k)/\(∀ j,G.pv r.b=some j->j=k)/\G.xp r.b=false
structure yW (st st':St) (k n:Nat):Prop where
 nx:st'.nx=max st.nx (k+1)
 le:k<=st.nx
 cnt:∀ t,t<st.nx->t≠k->st'.cnt t=st.cnt t
 here:st'.cnt k=n
 fl:st'.fl=st.fl
 objs:st'.objs=st.objs
 maps:st'.maps=st.maps
def St.grown_count{st:St}{k n:Nat}(h:k<st.nx):yW st (st.count k n) k n:=
 ⟨by simp[St.count];omega,by omega,fun t _ hne=>by simp[St.count,hne],by simp[St.count],rfl,rfl,rfl⟩
def St.grown_more{st:St}{n:Nat}:yW st (st.more [n]) st.nx n:=
 ⟨by simp[St.more],by omega,fun t ht _=>by simp[St.more,ht],by simp[St.more],rfl,rfl,rfl⟩
def Le.tok{st:St}{w:World}{G:Gh}(hI:bM P B G st w){k:Nat}{x:ot}(hm:∀ x0,G.tk k=some x0->x0.cnt<=x.cnt/\(x0.cnt=x.cnt->x0=x)):Le G (G.tok k x):=by
 have hnx:=hI.nx;refine⟨fun _ _ _ h=>h,fun _ _ h=>h,fun t x' ht h=>?_,jv _ _,fun _ _ _ _ _ h=>h,rfl⟩;by_cases htk:t=k
 ·subst htk;simp only[Gh.tok,if_true]at h;cases h;obtain⟨x0,hx0⟩:=hI.live t (by omega);exact⟨x0,hx0,hm x0 hx0⟩
 ·simp only[Gh.tok,ai htk]at h;exact⟨x',h,aP _,fun _=>rfl⟩
def bM.tok{G:Gh}{st st':St}{w:World}(hI:bM P B G st w){k:Nat}{x:ot}(hg:yW st st' k x.cnt)(hm:∀ x0,G.tk k=some x0->x0.cnt<=x.cnt/\(x0.cnt=x.cnt->x0=x))
  (hx:∀ r,x= .room r->F5 P G st.fl k r) (hfu:∀ m,x= .full m->m=0):bM P B (G.tok k x) st' w:=by
 have hle:=Le.tok hI hm;have hnx:=hI.nx;obtain⟨g1,g2,g3,g4,g5,g6,g7⟩:=hg;refine⟨hI.com,hI.sh,by simp only[Gh.tok];omega,?_,?_,?_,?_,?_,?_,hI.obs,hI.obj,by rw[g6];exact hI.nob,by rw[g6];exact hI.npo,hI.pvl,hI.xpl,hI.base,hI.oes,?_,hI.mbs,hI.mbi,by rw[g7];exact hI.nomb,hI.obx,fun t m h=>by
  by_cases ht:t=k
  ·subst ht;simp only[Gh.tok,if_true,bB]at h;exact hfu m h
  ·simp only[Gh.tok,ai ht]at h;exact hI.ful t m h⟩
 rotate_left 6
 ·intro s es h;rw[g7]at h;obtain⟨b',us',clk,h1,h2,h3,h4⟩:=hI.mobj s es h;exact⟨b',us',clk,h1,h2,h3.le hle h4,h4⟩
 ·intro t y h;by_cases ht:t=k
  ·subst ht;simp only[Gh.tok,if_true]at h;cases h;exact⟨by omega,g4⟩
  ·simp only[Gh.tok,ai ht]at h;obtain⟨h1,h2⟩:=hI.cnt t y h;exact⟨by omega,by rw[g3 t h1 ht];exact h2⟩
 ·intro t ht;by_cases h:t=k
  ·exact⟨x,by simp[Gh.tok,h]⟩
  ·obtain⟨y,hy⟩:=hI.live t (by omega);exact⟨y,by simp[Gh.tok,h,hy]⟩
 ·intro t r h;by_cases ht:t=k
  ·subst ht;simp only[Gh.tok,if_true]at h;cases h;obtain⟨h1,h2,h3,h4,h5,_,_,_,h6⟩:=hx r rfl;exact⟨h1,h2,h3,h4,h5,h6⟩
  ·simp only[Gh.tok,ai ht]at h;exact hI.room t r h
 ·intro t u r q h1 h2 hb;by_cases ht:t=k<;>by_cases hu:u=k
  ·rw[ht,hu]
  ·simp only[Gh.tok,ht,if_true]at h1;simp only[Gh.tok,ai hu]at h2;cases h1;exact absurd hb.symm ((hx r rfl).2.2.2.2.2.1 u q hu h2)
  ·simp only[Gh.tok,hu,if_true]at h2;simp only[Gh.tok,ai ht]at h1;cases h2;exact absurd hb ((hx q rfl).2.2.2.2.2.1 t r ht h1)
  ·simp only[Gh.tok,ai ht]at h1;simp only[Gh.tok,ai hu]at h2;exact hI.apart t u r q h1 h2 hb
 ·intro t r h;rw[g5];by_cases ht:t=k
  ·subst ht;simp only[Gh.tok,if_true]at h;cases h;exact⟨(hx r rfl).2.2.2.2.2.2.1,(hx r rfl).2.2.2.2.2.2.2.1⟩
  ·simp only[Gh.tok,ai ht]at h;exact hI.priv t r h
 ·intro s cs h;rw[g6]at h;obtain⟨b,e,vs,hb,hh,hR⟩:=hI.objs s cs h;exact⟨b,e,vs,hb,hh,hR.le hle (hI.npo s cs h)⟩
def cQ.tok{st1:St}{w1:World}{G G1:Gh}{w:World}(hI1:bM P B G1 st1 w1)(h:cQ G w G1 w1){k:Nat}{x:ot}(hm:∀ x0,G1.tk k=some x0->x0.cnt<=x.cnt/\(x0.cnt=x.cnt->x0=x))
  (hx:∀ r,x= .room r->(∃ u q,G.tk u=some (.room q)/\q.b=r.b)\/w.heap.size<=r.b):cQ G w (G1.tok k x) w1 where
 le:=h.le.trans (Le.tok hI1 hm).w
 size:=h.size
 kept:=h.kept
 nearO:=h.nearO
 nearT t r hr:=by
  by_cases ht:t=k
  ·simp only[Gh.tok,ht,if_true]at hr;cases hr;exact hx r rfl
  ·simp only[Gh.tok,ai ht]at hr;exact h.nearT t r hr
 nearC:=h.nearC
 nearS:=h.nearS
 nearP:=h.nearP
 nearM:=h.nearM
 eff:=h.eff
def Gh.more(G:Gh)(b n:Nat)(us:List Value):Gh:={G with com:=fun b' o=>if b'=b/\n<=o then us[o-n]? else G.com b' o}
def bM.more{G:Gh}{st st':St}{w:World}(hI:bM P B G st w){u:Nat}(hu:u<st.nx){r:qv}(hr:G.tk u=some (.room r)){cur:Array Value}(hcur:w.heap[r.b]? =some (.cells cur r.e (0,0)))
  (us:List Value) (m:Nat) (hm0:0<m) (hul:us.length=m*r.sz) (hfit:r.m+m<=r.cap) (hcs:cur.size=r.cap*r.sz) (hg:yW st st' u (r.m+m)):
  bM P B ((G.more r.b (r.m*r.sz) us).tok u (.room {r with m:=r.m+m})) st'
   (w.setRow r.b (cur.toList.take (r.m*r.sz)++us++cur.toList.drop (r.m*r.sz+us.length)).toArray)/\Le G ((G.more r.b (r.m*r.sz) us).tok u (.room {r with m:=r.m+m}))/\
  cQ G w ((G.more r.b (r.m*r.sz) us).tok u (.room {r with m:=r.m+m})) (w.setRow r.b (cur.toList.take (r.m*r.sz)++us++cur.toList.drop (r.m*r.sz+us.length)).toArray):=by
 obtain⟨hsh,hcm,hn,hsz,hno,hxr⟩:=hI.room u r hr;obtain⟨g1,g2,g3,g4,g5,g6,g7⟩:=hg;have hnx:=hI.nx;have hfitc:r.m*r.sz+us.length<=r.cap*r.sz:=by rw[hul,<-gW];exact du _ hfit
 generalize hq:r.m*r.sz=q at*;have hle:Le G ((G.more r.b q us).tok u (.room {r with m:=r.m+m})):=by
  refine⟨fun b o v h=>?_,fun _ _ h=>h,fun t x' ht h=>?_,jv _ _,fun _ _ _ _ _ h=>h,rfl⟩
  ·show(if b=r.b/\q<=o then us[o-q]? else G.com b o)=some v;by_cases hb:b=r.b/\q<=o
   ·rw[hb.1,hno o hb.2]at h;cases h
   ·rw[ai hb];exact h
  ·by_cases htu:t=u
   ·subst htu;simp only[Gh.tok,if_true]at h;cases h;exact⟨_,hr,by simp only[ot.cnt];omega,fun hc=>by simp only[ot.cnt]at hc;omega⟩
   ·simp only[Gh.tok,ai htu]at h;exact⟨x',h,aP _,fun _=>rfl⟩
 have hob:∀ s b,G.ob s=some b->b≠r.b:=by
  intro s b hb e;have:=(hI.obs s b hb).2.2;rw[e,hsh]at this;cases this
 have hother:∀ b,b≠r.b->(w.setRow r.b (cur.toList.take q++us++cur.toList.drop (q+us.length)).toArray).heap[b]? =w.heap[b]? :=fun b hb=>setRow_other w r.b b _ hb;have hnew:=setRow_heap w r.b cur (cur.toList.take q++us++cur.toList.drop (q+us.length)).toArray r.e (0,0) hcur;have hlen:(cur.toList.take q).length=q:=by rw[aL];simp;omega
 have hcomAt:∀ b o,((G.more r.b q us).tok u (.room {r with m:=r.m+m})).com b o=if b=r.b/\q<=o then us[o-q]? else G.com b o:=fun _ _=>rfl;have hcom:∀ b o v,(if b=r.b/\q<=o then us[o-q]? else G.com b o)=some v->(w.setRow r.b (cur.toList.take q++us++cur.toList.drop (q+us.length)).toArray).cell? ⟨b,o,none⟩=some v:=by
  intro b o v h;by_cases hb:b=r.b
  ·subst hb;rw[cell_setRow_same w r.b o cur _ r.e (0,0) hcur];by_cases ho:q<=o
   ·simp only[ho,lw,if_true]at h;have hlt:=(bD.1 h).1;simp only[kg];rw[bn,cM (by omega),hlen,bW hlt];exact h
   ·rw[ai (by omega)]at h;have hc:=hI.com _ _ _ h;simp only[World.cell?,hcur]at hc;simp only[kg];rw[bn,bW (by omega),dQ (by omega)];simpa using hc
  ·rw[ai (fun h=>hb h.1)]at h;rw[cell_setRow_other w r.b _ _ hb];exact hI.com b o v h
 have hroom:∀ t (y:qv),((G.more r.b q us).tok u (.room {r with m:=r.m+m})).tk t=some (.room y)->(t=u/\y={r with m:=r.m+m})\/(t≠u/\G.tk t=some (.room y)/\y.b≠r.b):=by
  intro t y h;by_cases ht:t=u
  ·subst ht;simp only[Gh.tok,if_true]at h;cases h;exact .inl ⟨rfl,rfl⟩
  ·simp only[Gh.tok,ai ht]at h;exact .inr ⟨ht,h,fun e=>ht (hI.apart t u y r h hr e)⟩
 have hmap:∀ {b':Nat} {vs:Array MapEntry} {clk:Nat},w.heap[b']? =some (.map vs clk)->b'≠r.b:=by
  rintro b' us clk h rfl;rw[hcur]at h;cases h
 refine⟨⟨fun b o v h=>hcom b o v h,?_,?_,?_,?_,?_,?_,?_,?_,?_,hI.obj,by rw[g6];exact hI.nob,by rw[g6];exact hI.npo,fun b k h=>by rw[ip];exact hI.pvl b k h,fun b h=>by rw[ip];exact hI.xpl b h,fun b o v h=>?_,?_,?_,?_,hI.mbi,by rw[g7];exact hI.nomb,hI.obx,fun t m h=>by
  by_cases ht:t=u
  ·subst ht;simp only[Gh.tok,if_true]at h;cases h
  ·simp only[Gh.tok,ai ht]at h;exact hI.ful t m h⟩,hle,⟨hle.w,by rw[ip];exact aP _,fun b _ _ ht _=>hother b (fun e=>ht u r hr e.symm),fun s b h=> .inl ⟨s,h⟩,?_,?_,fun b x h=> .inl h,fun _ k h=> .inl ⟨k,h⟩,fun s b h=> .inl ⟨s,h⟩,⟨rfl,rfl⟩⟩⟩
 rotate_left 9
 ·obtain⟨h1,h2⟩:=hI.base b o v h;exact⟨hle.com b o v h1,h2⟩
 ·intro s' b' e' sz h1 h2;obtain⟨h3,cur',h4⟩:=hI.oes s' b' e' sz h1 h2;exact⟨h3,cur',by rw[hother b' (hob s' b' h1)];exact h4⟩
 ·intro s es h;rw[g7]at h;obtain⟨b',us',clk,h1,h2,h3,h4⟩:=hI.mobj s es h;exact⟨b',us',clk,h1,by rw[hother b' (hmap h2)];exact h2,h3.le hle h4,h4⟩
 ·intro s' b' h;obtain⟨us',clk,h2⟩:=hI.mbs s' b' h;exact⟨us',clk,by rw[hother b' (hmap h2)];exact h2⟩
 rotate_left 2
 ·intro b e k h;by_cases hb:b=r.b
  ·subst hb;have h':G.sh r.b=some (e,k):=h;rw[hsh]at h';cases h';refine⟨_,hnew,?_⟩;simp only[ky,ae,aL,bl,fh];omega
  ·obtain⟨c,h1,h2⟩:=hI.sh b e k h;exact⟨c,by rw[hother b hb];exact h1,h2⟩
 ·show max G.nx (u+1)=st'.nx;omega
 ·intro t y h;by_cases ht:t=u
  ·subst ht;simp only[Gh.tok,if_true]at h;cases h;exact⟨by omega,g4⟩
  ·simp only[Gh.tok,ai ht]at h;obtain⟨h1,h2⟩:=hI.cnt t y h;exact⟨by omega,by rw[g3 t h1 ht];exact h2⟩
 ·intro t ht;by_cases h:t=u
  ·exact⟨.room {r with m:=r.m+m},by simp only[Gh.tok,h,if_true]⟩
  ·obtain⟨y,hy⟩:=hI.live t (by omega);exact⟨y,by simp only[Gh.tok,ai h];exact hy⟩
 ·intro t y h;rcases hroom t y h with⟨rfl,rfl⟩|⟨hne,h,hb⟩
  ·refine⟨hsh,hcm,hfit,hsz,fun o ho=>?_,hxr⟩;simp only at ho;rw[gW]at ho;rw[hcomAt,am ⟨rfl,by omega⟩];exact cE (by omega)
  ·obtain⟨h1,h2,h3,h4,h5,h6⟩:=hI.room t y h;refine⟨h1,h2,h3,h4,fun o ho=>?_,h6⟩;rw[hcomAt,ai (fun h=>hb h.1)];exact h5 o ho
 ·intro t v y z h1 h2 hb;rcases hroom t y h1 with⟨rfl,rfl⟩|⟨hne,h1,hb1⟩<;>rcases hroom v z h2 with⟨rfl,rfl⟩|⟨hne',h2,hb2⟩
  ·rfl
  ·exact absurd hb.symm hb2
  ·exact absurd hb hb1
  ·exact hI.apart t v y z h1 h2 hb
 ·intro t y h;rw[g5];rcases hroom t y h with⟨rfl,rfl⟩|⟨hne,h,hb⟩
  ·exact hI.priv t r hr
  ·exact hI.priv t y h
 ·intro s cs h;rw[g6]at h;obtain⟨b,e,vs,hb,hh,hR⟩:=hI.objs s cs h;exact⟨b,e,vs,hb,by rw[hother b (hob s b hb)];exact hh,hR.le hle (hI.npo s cs h)⟩
 ·intro s b h;obtain⟨h1,h2,h3⟩:=hI.obs s b h;refine⟨by rw[ip];exact h1,fun o=>?_,h3⟩;rw[hcomAt,ai (fun h'=>hob s b h h'.1)];exact h2 o
 ·intro t y h;rcases hroom t y h with⟨rfl,rfl⟩|⟨hne,h,hb⟩
  ·exact .inl ⟨t,r,hr,rfl⟩
  ·exact .inl ⟨t,y,h,rfl⟩
 ·intro b o v h;rw[hcomAt]at h;by_cases hb:b=r.b/\q<=o
  ·exact .inr (.inl ⟨u,r,hr,hb.1.symm⟩)
  ·rw[ai hb]at h;exact .inl h
def xj(P:Program)(B:Nat->Nat->Option Value)(G:Gh)(w:World)(x:Sem Next)(d:Option Nat)(mk:Bool)(p:PV)(st':St):Prop:=
 ∃ y v w' G',x.run P w= .ok y w'/\(y= .value v\/(y= .skip/\v=undef))/\R G' p v/\bM P B G' st' w'/\Le G G'/\cQ G w G' w'/\∀ s,(mk=true/\d=some s)\/G'.bx s=G.bx s
def pZ{p:PV}(ht:cO p=true){cs:List PV}(h:cellsOf p=some cs):aX cs=true:=by
 unfold cellsOf at h;split at h
 ·cases h;simpa [cO,gQ,np,off,aX]using ht
 ·split at h
  ·rename_i hp;cases h;cases p<;>simp[xG,B0]at hp<;>simpa [cO,gQ,np,aX,dS]using ht
  ·cases h
def yB:∀ (vs us:List Value) (off:Nat),off+vs.length<=us.length->us.take off++vs++us.drop (off+vs.length)=bS us off vs
 | [],us,off,_=>by simp[bS]
 |v::vs,us,off,h=>by
  simp only[bS];rw[<-yB vs (us.set off v) (off+1) (by simp at h ⊢;omega)];simp only[aA]at h ⊢;have e1:(us.set off v).take (off+1)=us.take off++[v]:=by
   rw[List.take_set];apply iH;intro j;by_cases hj:j<off
   ·rw[kG (by omega),dQ (by omega),bW (by rw[aL];omega),dQ hj]
   ·by_cases hj':j=off
    ·subst hj';rw[my (by rw[aL];omega),cM (by rw[aL];omega)];simp[aL,hY (show j<=us.length by omega)]
    ·rw[kG (by omega),iU (by omega),cM (by rw[aL];omega)];rw[aL,hY (by omega)];exact(cE (by simp;omega)).symm
  have e2:(us.set off v).drop (off+1+vs.length)=us.drop (off+(vs.length+1)):=by
   rw[List.drop_set_of_lt (by omega)];congr 1;omega
  rw[e1,e2];simp
section
variable {G:Gh} {nt:Nat} {fr:Fr} {st st':St} {w:World} {a:Act} {o:Oper} {d:Option Nat} {cf:aJ} {p:PV}
def eT(hF:fu G nt fr a){x:Operand}{c:CX}(h:bP x=some c):cO (c.ev fr)=true:=by
 cases x with
 |tmp t=>simp[bP]at h;subst h;exact hF.2.2 t
 |const v=>
  simp only[bP,av]at h;obtain⟨p,hp,rfl⟩:=h;have:=hp;unfold ix at this;split at this<;>first|(cases this;rfl)|cases this
 |global g=>simp[bP]at h
 |func f=>simp[bP]at h;subst h;rfl
def C0(hI:bM P B G st w)(hF:fu G nt fr a){t:Nat}{x y:Operand}(hop:o.op= .store t x y){cx cy:CX}(hx:bP x=some cx)(hy:bP y=some cy){sz:Nat}(hs:gO P t=some sz)
  (h:aC cf fr st d (.store sz cx cy)=some (p,st')):xj P B G w (execOp a.eval o) d false p st':=by
 have hR:=cR hF hx;have hRy:=cR hF hy;have hty:=eT hF hy;simp only[aC]at h;simp only[execOp,hop];generalize a.eval x=xv at hR;generalize a.eval y=yv at hRy;split at h
 ·rename_i s off vs e1 e2;rw[e1]at hR;cases hR with
  |ptr _ _ b hb=>
   split at h
   ·rename_i cs hcs;split at h
    ·rename_i hb2;cases h;obtain⟨e,us,hh,hRs,_⟩:=hI.box hcs hb;have hRv:=tl hRy e2;have hn:=pZ hty e2;have hlen:yv.cells.size=sz:=by have:=hRv.1;simp at this;omega
     have hfit:off+yv.cells.toList.length<=us.length:=by have:=hRs.1;simp;omega
     have hput:=yB yv.cells.toList us off hfit;have hnew:Rs G (bS cs off vs) (bS us off yv.cells.toList):=hRs.put off hRv;have hnn:aX (bS cs off vs)=true:=by
      have key:∀ (vs cs:List PV) (off:Nat),aX vs=true->aX cs=true->aX (bS cs off vs)=true:=by
       intro vs
       induction vs with
       |nil=>intro cs off _ h;exact h
       |cons v vs ih=>
        intro cs off h1 h2;simp only[aX,dS,aj]at h1;refine ih _ _ h1.2 ?_;have:∀ (cs:List PV) (k:Nat),aX cs=true->aX (cs.set k v)=true:=by
         intro cs
         induction cs with
         |nil=>intro k h;simpa using h
         |cons c cs ihc=>
          intro k h;simp only[aX,dS,aj]at h;cases k with
          |zero=>simp only[List.set_cons_zero,aX,dS,aj];exact⟨h1.1,h.2⟩
          |succ k=>simp only[List.set_cons_succ,aX,dS,aj];exact⟨h.1,ihc k h.2⟩
        exact this cs off h2
      exact key vs cs off hn (hI.npo s cs hcs)
     obtain⟨hI',hS⟩:=hI.setBox hcs hb hh hnew hnn;refine⟨.skip,undef,_,G,?_,.inr ⟨rfl,rfl⟩,.hole,hI',Le.refl G,hS,fun _=> .inr rfl⟩;have hst:=run_storeCells_at P b off e yv.cells.toList 0 us.toArray w hh (by simpa using hfit) hRv.2.2;simp only[aI]at hst;have hput':(us.toArray.toList.take off++yv.cells.toList++us.toArray.toList.drop (off+yv.cells.toList.length))=bS us off yv.cells.toList:=by simpa using hput
     rw[hput']at hst;simp only[Instr.storeAt,Instr.sureAddr,storeVar,Sem.run_bind,Sem.run_pure,dA,iw w hs,hlen,al,not_true_eq_false,if_false,hst]
    ·cases h
   ·cases h
 ·cases h
def J3(hI:bM P B G st w){t:Nat}(hop:o.op= .alloc t){zs:List PV}(hz:gw P t=some zs)(h:aC cf fr st d (.alloc zs)=some (p,st')):xj P B G w (execOp a.eval o) d true p st':=by
 simp only[aC]at h;simp only[execOp,hop];split at h
 ·rename_i s;cases h;unfold gw at hz;split at hz
  ·rename_i it hit;split at hz
   ·rename_i z hzz;have hRs:=pP G hz;have hn:aX zs=true:=by
     have:∀ (vs:List Value) (ps:List PV),iY vs=some ps->aX ps=true:=by
      intro vs
      induction vs with
      |nil=>intro ps h;simp[iY]at h;subst h;rfl
      |cons v vs ih=>
       intro ps h;unfold iY at h;split at h
       ·rename_i q qs hq hqs;cases h;simp only[aX,dS,aj];refine⟨?_,ih _ hqs⟩;unfold ix at hq;split at hq<;>first|(cases hq;rfl)|cases hq
       ·cases h
     exact this _ _ hz
    obtain⟨hI',hL,hS⟩:=hI.newBox s t none (by simp) hRs hn;refine⟨_,_,_,_,?_,.inl rfl,.ptr s 0 w.heap.size (by simp[Gh.newBox]),hI',hL,hS,fun k=>?_⟩
    ·simp[Instr.alloc,zeroValue,typeInfo,hit,hzz,newVar,newRow]
    ·by_cases hk:k=s
     ·exact .inl ⟨rfl,by rw[hk]⟩
     ·exact .inr (yi hk)
   ·cases hz
  ·cases hz
 ·cases h
def NO(hI:bM P B G st w)(hF:fu G nt fr a){t:Nat}{x:Operand}(hop:o.op= .box t x){cx:CX}(hx:bP x=some cx){sz:Nat}(h:aC cf fr st d (.box sz cx)=some (p,st')):xj P B G w (execOp a.eval o) d true p st':=by
 have hR:=cR hF hx;have ht:=eT hF hx;simp only[aC]at h;simp only[execOp,hop];split at h
 ·rename_i s cs hcs;split at h
  ·cases h;obtain⟨hI',hL,hS⟩:=hI.newBox s t none (by simp) (tl hR hcs) (pZ ht hcs);refine⟨_,_,_,_,?_,.inl rfl,.ptr s 0 w.heap.size (by simp[Gh.newBox]),hI',hL,hS,fun k=>?_⟩
   ·simp[Instr.box,newVar,newRow]
   ·by_cases hk:k=s
    ·exact .inl ⟨rfl,by rw[hk]⟩
    ·exact .inr (yi hk)
  ·cases h
 ·cases h
end
def sr{α:Type}(zs:List α):∀ (n:Nat),(List.replicate n zs).flatten.length=n*zs.length
 |0=>by simp
 |n+1=>by rw[lI,List.flatten_cons,ae,sr zs n,gW];omega
def Fb{α:Type}(zs:List α)(h0:0<zs.length):∀ (n j:Nat),j<n*zs.length->(List.replicate n zs).flatten[j]? =zs[j % zs.length]?
 |0,j,h=>by omega
 |n+1,j,h=>by
  rw[lI,List.flatten_cons];by_cases hj:j<zs.length
  ·rw[bW hj,Nat.mod_eq_of_lt hj]
  ·have hge:zs.length<=j:=by omega
   rw[cM hge,Fb zs h0 n (j-zs.length) (by rw[gW]at h;omega),Nat.mod_eq_sub_mod hge]
def Ho{G:Gh}{zs:List PV}{z:Array Value}(hR:Rs G zs z.toList)(h0:0<zs.length)(n:Nat):Rs G (List.replicate n zs).flatten (madeCells z (n*zs.length)).toList:=by
 have hz:z.size=zs.length:=by have:=hR.1;simp at this;omega
 have hget:∀ j,j<n*zs.length->(madeCells z (n*zs.length)).toList[j]? =z.toList[j % zs.length]? :=by
  intro j hj;have hm:j % zs.length<z.size:=by rw[hz];exact Nat.mod_lt _ h0
  simp[madeCells,hj,hz];rw[getElem!_pos z (j % zs.length) hm,jg hm]
 refine⟨by rw[sr];simp[size_madeCells],fun j p u hp hu=>?_,fun u hu=>?_⟩
 ·have hj:j<n*zs.length:=by
   have:=(bD.1 hp).1;rwa [sr]at this
  rw[Fb zs h0 n j hj]at hp;rw[hget j hj]at hu;exact hR.2.1 _ _ _ hp hu
 ·obtain⟨j,hj,rfl⟩:=d7 hu;have hj':j<n*zs.length:=by simpa [size_madeCells]using hj
  have:=hget j hj';rw[aK hj]at this;exact hR.2.2 _ (b8 this.symm)
def wh{zs:List PV}(h:aX zs=true):∀ (n:Nat),aX (List.replicate n zs).flatten=true
 |0=>rfl
 |n+1=>by
  rw[lI,List.flatten_cons];have key:∀ (xs ys:List PV),aX xs=true->aX ys=true->aX (xs++ys)=true:=by
   intro xs
   induction xs with
   |nil=>intro ys _ h;exact h
   |cons x xs ih=>
    intro ys h1 h2;simp only[aX,dS,aj]at h1;simp only[bo,aX,dS,aj];exact⟨h1.1,ih ys h1.2 h2⟩
  exact key _ _ h (wh h n)
def qe{G:Gh}{t:Nat}{zs:List PV}(hz:gw P t=some zs):∃ i z,P.info? t=some i/\i.zero=some z/\Rs G zs z.cells.toList/\aX zs=true:=by
 unfold gw at hz;split at hz
 ·rename_i it hit;split at hz
  ·rename_i z hzz;refine⟨it,z,hit,hzz,pP G hz,?_⟩;have:∀ (vs:List Value) (ps:List PV),iY vs=some ps->aX ps=true:=by
    intro vs
    induction vs with
    |nil=>intro ps h;simp[iY]at h;subst h;rfl
    |cons v vs ih=>
     intro ps h;unfold iY at h;split at h
     ·rename_i q qs hq hqs;cases h;simp only[aX,dS,aj];refine⟨?_,ih _ hqs⟩;unfold ix at hq;split at hq<;>first|(cases hq;rfl)|cases hq
     ·cases h
   exact this _ _ hz
  ·cases hz
 ·cases hz
section
variable {G:Gh} {nt:Nat} {fr:Fr} {st st':St} {w:World} {a:Act} {o:Oper} {d:Option Nat} {cf:aJ} {p:PV}
def NL(hI:bM P B G st w)(hF:fu G nt fr a){t e:Nat}{x y:Operand}(hop:o.op= .makeSlice t x y)(hu:P.underlying t=some (.slice e)){cx cy:CX}(hx:bP x=some cx)(hy:bP y=some cy){i:TypeInfo}(hi:P.info? e=some i)
  {zs:List PV} (hz:gw P e=some zs) (h:aC cf fr st d (.mks e i.size i.bytes zs cx cy)=some (p,st')):xj P B G w (execOp a.eval o) d true p st':=by
 have hR:=cR hF hx;have hRy:=cR hF hy;simp only[aC]at h;simp only[execOp,hop];generalize a.eval x=xv at hR;generalize a.eval y=yv at hRy;split at h
 ·rename_i s na nb e1 e2;rw[e1]at hR;rw[e2]at hRy;split at h
  ·rename_i hb;obtain⟨rfl,hn0,hbytes,hmax,hzl,hsz⟩:=hb;cases h;cases hR;cases hRy;obtain⟨i',z,hi',hzz,hRs,hnp⟩:=qe (P:=P) (G:=G) hz;rw[hi]at hi';cases hi';have hrun:=run_make (P:=P) w t e i z hu hi hzz .i64 .i64 na na hn0 (Int.le_refl _) (by
    have h1:((i.bytes*na.toNat:Nat):Int)<=140737488355328:=by unfold dL at hbytes;omega
    have h2:((i.bytes*na.toNat:Nat):Int)=(i.bytes:Int) *na:=by rw[Int.natCast_mul,eK hn0]
    omega) (by omega)
   have hmade:=Ho hRs (by omega:0<zs.length) na.toNat;rw[hzl]at hmade;obtain⟨hI',hL,hS⟩:=hI.newBox s e (some (e,i.size)) (by rintro _ _ ⟨rfl,rfl⟩;exact⟨rfl,by simp[gO,hi]⟩) hmade (wh hnp na.toNat);refine⟨_,_,_,_,?_,.inl rfl,.osl e i.size s na.toNat w.heap.size (by simp[Gh.newBox]) (by simp[Gh.newBox]),hI',hL,hS,fun k=>?_⟩
   ·simp[hrun]
   ·by_cases hk:k=s
    ·exact .inl ⟨rfl,by rw[hk]⟩
    ·exact .inr (yi hk)
  ·cases h
 ·cases h
def NN(hI:bM P B G st w)(hF:fu G nt fr a){t e n:Nat}{ps:Array (Nat×Operand)}(hop:o.op= .buildSlice t n ps)(hu:P.underlying t=some (.slice e)){sz:Nat}(hs:gO P e=some sz){zs:List PV}(hz:gw P e=some zs)
  {cps:List (Nat×Nat×CX)} (hps:iK (fun i=>some (i*sz,sz)) ps.toList=some cps) (h24:n*sz<=16777216) (h:aC cf fr st d (.bsl e sz zs n cps)=some (p,st')):xj P B G w (execOp a.eval o) d false p st':=by
 simp only[aC]at h;simp only[execOp,hop];split at h
 ·rename_i cs hcs;split at h
  ·rename_i hb;obtain⟨hzl,hsz⟩:=hb;cases h;obtain⟨i,z,hi,hzz,hRs,hnp⟩:=qe (P:=P) (G:=G) hz;have hmade:=Ho hRs (by omega:0<zs.length) n;rw[hzl]at hmade;obtain⟨cells',hfill,hRs'⟩:=Fc hF (fun i=>some (i*sz,sz)) hps hmade hcs;have hlen:cs.length=n*sz:=by
    have key:∀ (ps:List (Nat×Nat×CX)) (zs cs:List PV),lF zs fr ps=some cs->cs.length=zs.length:=by
     intro ps
     induction ps with
     |nil=>intro zs cs h;cases h;rfl
     |cons q qs ih=>
      intro zs cs h;obtain⟨o1,s1,x1⟩:=q;unfold lF at h;split at h
      ·split at h
       ·rw[ih _ _ h,rf]
       ·cases h
      ·cases h
    rw[key _ _ _ hcs,sr,hzl]
   have hus:cells'.toList.length=n*sz:=by rw[<-hRs'.1,hlen]
   obtain⟨hI',hL,hS⟩:=hI.lay e cells'.toList [] none (w.alloc (.cells cells' e (0,0))) (by simp) ⟨rfl,rfl⟩;rw[aD]at hI' hL hS;have hnps:aX cs=true:=by
    have key:∀ (vs cs:List PV) (off:Nat),aX vs=true->aX cs=true->aX (bS cs off vs)=true:=by
     intro vs
     induction vs with
     |nil=>intro cs off _ h;exact h
     |cons v vs ih=>
      intro cs off h1 h2;simp only[aX,dS,aj]at h1;refine ih _ _ h1.2 ?_;have:∀ (cs:List PV) (k:Nat),aX cs=true->aX (cs.set k v)=true:=by
       intro cs
       induction cs with
       |nil=>intro k h;simpa using h
       |cons c cs ihc=>
        intro k h;simp only[aX,dS,aj]at h;cases k with
        |zero=>simp only[List.set_cons_zero,aX,dS,aj];exact⟨h1.1,h.2⟩
        |succ k=>simp only[List.set_cons_succ,aX,dS,aj];exact⟨h.1,ihc k h.2⟩
      exact this cs off h2
    have key2:∀ (qs:List (Nat×Operand)) (ps:List (Nat×Nat×CX)) (zs cs:List PV),iK (fun i=>some (i*sz,sz)) qs=some ps->aX zs=true->lF zs fr ps=some cs->aX cs=true:=by
     intro qs
     induction qs with
     |nil=>intro ps zs cs hc hz h;simp[iK]at hc;subst hc;cases h;exact hz
     |cons q qs ih=>
      intro ps zs cs hc hz h;obtain⟨i1,x1⟩:=q;unfold iK at hc;split at hc
      ·rename_i o1 s1 c1 cs1 _ hx1 hr1;cases hc;unfold lF at h;split at h
       ·rename_i ds hds;split at h
        ·exact ih _ _ _ hr1 (key _ _ _ (pZ (eT hF hx1) hds) hz) h
        ·cases h
       ·cases h
      ·cases hc
    exact key2 _ _ _ _ hps (wh hnp n) hcs
   have hRs2:=hRs'.le hL hnps;refine⟨_,.slice (some ⟨w.heap.size,0,none⟩) n n,_,_,?_,.inl rfl,.list n cs (.full e) w.heap.size 0 n cells'.toList (aP _) hRs2.1 ?_ hRs2.2.1 hRs2.2.2 ?_ (fun k _ h=>by simp[Gh.lay]at h) (fun _ _=>hI.fresh_xp),hI',hL,hS,fun _=> .inr rfl⟩
   ·have hnot:¬ (n*sz>2 ^ 24):=by omega
    have hmap:(ps.map fun(x:Nat×Operand)=>(x.1,a.eval x.2)).toList=ps.toList.map fun x=>(x.1,a.eval x.2):=Array.toList_map ..;by_cases h0:n*sz=0
    ·have hm0:madeCells z.cells (n*sz)= #[]:=by rw[h0];simp[madeCells,Array.range_zero']
     rw[hm0]at hfill;have hr0:Array.range 0= #[]:=by simp[Array.range_zero']
     simp[Instr.buildSlice,bz w hu,iw w hs,h0,hr0,hfill,newRow]
    ·simp only[madeCells]at hfill;simp[Instr.buildSlice,bz w hu,iw w hs,hnot,h0,zeroValue,typeInfo,hi,hzz,hfill,newRow]
   ·intro j u hj;simp only[Gh.lay,if_true,ar];exact hj
   ·refine⟨rfl,rfl,cells'.toList.length,by simp[Gh.lay],rfl⟩
  ·cases h
 ·cases h
def NM(hI:bM P B G st w)(hF:fu G nt fr a){t e:Nat}{x y:Operand}(hop:o.op= .makeSlice t x y)(hu:P.underlying t=some (.slice e)){cx cy:CX}(hx:bP x=some cx)(hy:bP y=some cy){i:TypeInfo}(hi:P.info? e=some i)
  {zs:List PV} (hz:gw P e=some zs) (hzl:zs.length=i.size) (h:aC cf fr st d (.mk0 e i.size i.bytes cx cy)=some (p,st')):xj P B G w (execOp a.eval o) d false p st':=by
 have hR:=cR hF hx;have hRy:=cR hF hy;simp only[aC]at h;simp only[execOp,hop];generalize a.eval x=xv at hR;generalize a.eval y=yv at hRy;split at h
 ·rename_i nb e1 e2;rw[e1]at hR;rw[e2]at hRy;split at h
  ·rename_i hb;obtain⟨hn0,hbytes,hmax,hsz⟩:=hb;cases h;cases hR;cases hRy;obtain⟨i',z,hi',hzz,hRs,hnp⟩:=qe (P:=P) (G:=G) hz;rw[hi]at hi';cases hi';have hnx:=hI.nx;have hzs:z.cells.size=i.size:=by have:=hRs.1;simp at this;omega
   have hrun:=run_make (P:=P) w t e i z hu hi hzz .i64 .i64 0 nb (Int.le_refl _) hn0 (by
    have h1:((i.bytes*nb.toNat:Nat):Int)<=140737488355328:=by unfold dL at hbytes;omega
    have h2:((i.bytes*nb.toNat:Nat):Int)=(i.bytes:Int) *nb:=by rw[Int.natCast_mul,eK hn0]
    omega) (by omega)
   obtain⟨hI1,hL1,hS1⟩:=hI.lay e [] (madeCells z.cells (nb.toNat*i.size)).toList (some st.nx) (w.alloc (.cells (madeCells z.cells (nb.toNat*i.size)) e)) (by simp) ⟨rfl,rfl⟩;have hml:dL<=maxLen:=by decide
   have hsz':gO P e=some i.size:=by simp[gO,hi]
   have hcap:nb.toNat<=maxLen:=by unfold dL at hml;omega
   have hL2:=hL1.trans (Le.tok (x:= .room {b:=w.heap.size,cap:=nb.toNat,sz:=i.size,e:=e,m:=0}) (k:=st.nx) hI1 (fun x0 h0=>by
    have:=(hI1.cnt _ _ h0).1;omega))
   have hI2:=hI1.tok (x:= .room {b:=w.heap.size,cap:=nb.toNat,sz:=i.size,e:=e,m:=0}) (k:=st.nx) St.grown_more (fun x0 h0=>by
    have:=(hI1.cnt _ _ h0).1;omega) (fun r hr=>by
    cases hr;refine⟨by simp[Gh.lay,size_madeCells],hcap,aW _,hsz',fun o _=>by simp[Gh.lay],fun t' q _ hq e'=>?_,fun _=>by simp[Gh.lay],fun j hj=>by simpa [Gh.lay,eq_comm]using hj,hI.fresh_xp⟩;have:=(hI.room t' q hq).1;rw[e',hI.fresh_sh]at this;cases this) (fun m h=>by cases h)
   have hS2:=cQ.tok (x:= .room {b:=w.heap.size,cap:=nb.toNat,sz:=i.size,e:=e,m:=0}) (k:=st.nx) hI1 hS1 (fun x0 h0=>by
    have:=(hI1.cnt _ _ h0).1;omega) (fun r hr=>by cases hr;exact .inr (aP _))
   refine⟨_,.slice (some ⟨w.heap.size,0,none⟩) 0 nb.toNat,_,_,?_,.inl rfl,.list 0 [] _ w.heap.size 0 nb.toNat [] (aW _) rfl (by simp) (by simp) (by simp) ?_ (fun k h=>absurd rfl h) (fun h=>absurd rfl h),hI2,hL2,hS2,fun _=> .inr rfl⟩
   ·simp at hrun;simp[hrun]
   ·refine⟨by simp[Gh.tok];omega,fun y hy=>?_⟩;simp only[Gh.tok,if_true]at hy;cases hy;exact⟨aP _,fun _=>⟨rfl,rfl,rfl,rfl,by simp⟩⟩
  ·cases h
 ·cases h
end
def tK{w:World}{t ty e n cap:Nat}{base:Option Addr}{i:TypeInfo}(hu:P.underlying t=some (.slice e))(hi:P.info? e=some i)(hn:n<=cap){y:Value}
  (hy:y= .slice none 0 0\/∃ a c,y= .slice (some a) 0 c):(Builtin.append_ #[t,t] ty #[.slice base n cap,y]).run P w= .ok (.slice base n cap) w:=by
 rcases hy with rfl|⟨a,c,rfl⟩
 ·cases base<;>simp[Builtin.append_,bz w hu,sizeOf,typeInfo,hi,Builtin.lenOf,Builtin.firstCells,hn,storeCells]
 ·cases base<;>simp[Builtin.append_,bz w hu,sizeOf,typeInfo,hi,Builtin.lenOf,Builtin.firstCells,hn,storeCells,loadCells,loadCellsFrom]
section
variable {G:Gh} {nt:Nat} {fr:Fr} {st st':St} {w:World} {a:Act} {o:Oper} {d:Option Nat} {cf:aJ} {p:PV}
def ii(st:St):aF->Nat
 | .own k _=>k
 |_=>st.nx
def lG(st:St)(n:Nat):aF->St
 | .own k _=>st.count k n
 |_=>st.more [n]
def J6(e:Nat):aF->Prop
 | .own _ e'=>e'=e
 | .full e'=>e'=e
 |_=>True
def Dp{t:aF}{n:Nat}(hc:iQ st n t=true)(m:Nat):yW st (lG st m t) (ii st t) m:=by
 cases t with
 |no=>simp[iQ]at hc
 |sub k=>simp[iQ]at hc
 |el k e n=>simp[iQ]at hc
 |nil=>exact St.grown_more
 |full e=>exact St.grown_more
 |own k e=>
  simp only[iQ,aj,decide_eq_true_eq]at hc;exact St.grown_count hc.1
def B7{t:aF}{n:Nat}(hI:bM P B G st w)(hc:iQ st n t=true):((t= .nil\/∃ e,t= .full e)/\ii st t=st.nx/\G.tk (ii st t)=none)\/∃ k e x,t= .own k e/\ii st t=k/\G.tk k=some x/\x.cnt=n:=by
 have hnew:G.tk st.nx=none:=by
  cases h:G.tk st.nx with
  |none=>rfl
  |some x=>have:=(hI.cnt _ _ h).1;omega
 cases t with
 |no=>simp[iQ]at hc
 |sub k=>simp[iQ]at hc
 |el k e n=>simp[iQ]at hc
 |nil=>exact .inl ⟨.inl rfl,rfl,hnew⟩
 |full e=>exact .inl ⟨.inr ⟨e,rfl⟩,rfl,hnew⟩
 |own k e=>
  simp only[iQ,aj,decide_eq_true_eq,jO]at hc;obtain⟨x,hx⟩:=hI.live k hc.1;exact .inr ⟨k,e,x,rfl,rfl,hx,by rw[<-(hI.cnt k x hx).2,hc.2]⟩
def MV(hI:bM P B G st w){e n:Nat}{cs:List PV}{t:aF}{v:Value}(hR:R G (.list n cs t) v)(hc:iQ st n t=true)(he:J6 e t)(hfu:∀ e',t= .full e'->n=0):
  ∃ G',R G' (.list n cs (.own (ii st t) e)) v/\bM P B G' (lG st n t) w/\Le G G'/\cQ G w G' w/\G'.bx=G.bx:=by
 have hg:=Dp hc n;have hnx:=hI.nx;rcases B7 hI hc with⟨ht0,hf,hnone⟩|⟨k,e',x,rfl,hk,hx,hxn⟩
 ·have hm:∀ x0,G.tk (ii st t)=some x0->x0.cnt<=n/\(x0.cnt=n->x0= .full n):=fun x0 h=>by rw[hnone]at h;cases h
  have hI':=hI.tok (x:= .full n) hg hm (fun r hr=>by cases hr) (fun m hm=>by
   cases hm;rcases ht0 with rfl|⟨e',rfl⟩
   ·simpa [iQ]using hc
   ·exact hfu e' rfl)
  have hL':=Le.tok (x:= .full n) hI hm;have hS':=cQ.tok (x:= .full n) hI (cQ.refl G w) hm (fun r hr=>by cases hr);refine⟨_,?_,hI',hL',hS',rfl⟩;have hlt:ii st t<(G.tok (ii st t) (.full n)).nx:=by simp[Gh.tok];omega
  have htne:t.of=none:=by rcases ht0 with rfl|⟨_,rfl⟩<;>rfl
  cases hR with
  |listE a=>simp[iQ]at hc
  |listN _ ht=>
   refine .listN _ ⟨hlt,fun y hy _=>?_⟩;simp only[Gh.tok,if_true]at hy;cases hy;rfl
  |list _ _ _ b o' cap us hn hl hcm hr h1 ht hp hx'=>
   have htf:wT G n cap us.length b o' (.full e):=by
    rcases ht0 with rfl|⟨_,rfl⟩
    ·cases ht
    ·cases he;exact ht
   refine .list n cs _ b o' cap us hn hl hcm (fun j p u hp hu=>(hr j p u hp hu).mono hL' (fun _=>rfl)) h1 ⟨hlt,fun y hy=>?_⟩ (fun k hne hk=>by
    have:=hp k hne hk;rw[htne]at this;cases this) (fun hne _=>hx' hne (by rintro rfl;rcases ht0 with h|⟨_,h⟩<;>cases h))
   simp only[Gh.tok,if_true]at hy;cases hy;exact⟨aP _,fun _=>htf⟩
 ·have hm:∀ x0,G.tk k=some x0->x0.cnt<=x.cnt/\(x0.cnt=x.cnt->x0=x):=fun x0 h=>by rw[hx]at h;cases h;exact⟨aP _,fun _=>rfl⟩
  rw[<-hxn]at hg;rw[hk]at hg;have hok:∀ r,x= .room r->F5 P G st.fl k r:=fun r hr=>by
   subst hr;obtain⟨h1,h2,h3,h4,h5,h6⟩:=hI.room k r hx;exact⟨h1,h2,h3,h4,h5,fun t q hne hq e=>hne (hI.apart t k q r hq hx e),(hI.priv k r hx).1,(hI.priv k r hx).2,h6⟩
  have hI':=hI.tok hg hm hok (fun m hm=>by subst hm;exact hI.ful k m hx);have hL':=Le.tok hI hm;have hS':=cQ.tok hI (cQ.refl G w) hm (fun r hr=> .inl ⟨k,r,by rw[hx,hr],rfl⟩);rw[hxn]at hI';cases he;exact⟨_,hR.mono hL' (fun _=>rfl),hI',hL',hS',rfl⟩
def H4(hI:bM P B G st w){t:aF}{n0:Nat}(hc:iQ st n0 t=true){e n sz cap:Nat}{cs:List PV}(us rest:List Value){w':World}(hw:w'.heap=(w.alloc (.cells (us++rest).toArray e (0,0))).heap)(he:w'.os=w.os/\w'.output=w.output)
  (hR:Rs G cs us) (hl:us.length=n*sz) (hsz:gO P e=some sz) (hlr:(us++rest).length=cap*sz) (hcap:cap<=maxLen) (hn:n<=cap) (hlt:n0<n):
  ∃ G',R G' (.list n cs (.own (ii st t) e)) (.slice (some ⟨w.heap.size,0,none⟩) n cap)/\bM P B G' (lG st n t) w'/\Le G G'/\cQ G w G' w'/\G'.bx=G.bx:=by
 have hg:=Dp hc n;obtain⟨hI1,hL1,hS1⟩:=hI.lay e us rest (some (ii st t)) w' hw he;have hsh:=hI.fresh_sh;have hold:∀ x0,G.tk (ii st t)=some x0->x0.cnt<n:=fun x0 h=>by
  rcases B7 hI hc with⟨_,_,hnone⟩|⟨k,_,x,_,hk,hx,hxn⟩
  ·rw[hnone]at h;cases h
  ·rw[hk,hx]at h;cases h;omega
 have hm:∀ x0,(G.lay w.heap.size e (us++rest).length us (some (ii st t))).tk (ii st t)=some x0->x0.cnt<=n/\(x0.cnt=n->x0= .room {b:=w.heap.size,cap:=cap,sz:=sz,e:=e,m:=n}):=
  fun x0 h=>by have:=hold x0 h;exact⟨by omega,fun h=>by omega⟩
 have hok:F5 P (G.lay w.heap.size e (us++rest).length us (some (ii st t))) st.fl (ii st t) {b:=w.heap.size,cap:=cap,sz:=sz,e:=e,m:=n}:=by
  refine⟨by simp[Gh.lay,<-hlr],hcap,hn,hsz,fun o ho=>?_,fun t' q _ hq=>?_,fun _=>by simp[Gh.lay],fun j hj=>by simpa [Gh.lay,eq_comm]using hj,hI.fresh_xp⟩
  ·simp only[Gh.lay,if_true];simp only at ho;exact cE (by omega)
  ·intro e';have:=(hI.room t' q hq).1;rw[e',hsh]at this;cases this
 have hI2:=hI1.tok (x:= .room {b:=w.heap.size,cap:=cap,sz:=sz,e:=e,m:=n}) hg hm (fun r hr=>by cases hr;exact hok) (fun m h=>by cases h);have hL2:=hL1.trans (Le.tok (x:= .room {b:=w.heap.size,cap:=cap,sz:=sz,e:=e,m:=n}) hI1 hm);have hS2:=cQ.tok (x:= .room {b:=w.heap.size,cap:=cap,sz:=sz,e:=e,m:=n}) hI1 hS1 hm (fun r hr=>by cases hr;exact .inr (aP _));refine⟨_,.list n cs _ w.heap.size 0 cap us hn hR.1 ?_ ?_ hR.2.2 ?_ (fun k _ hk=>?_) (fun _ _=>?_),hI2,hL2,hS2,rfl⟩
 ·intro j u hj;show(G.lay w.heap.size e (us++rest).length us (some (ii st t))).com w.heap.size (0+j)=some u;simp only[Gh.lay,if_true,ar];exact hj
 ·exact fun j p u hp hu=>(hR.2.1 j p u hp hu).mono hL2 (fun _=>rfl)
 ·refine⟨by simp[Gh.tok];omega,fun y hy=>?_⟩;simp only[Gh.tok,if_true]at hy;cases hy;exact⟨aP _,fun _=>⟨rfl,rfl,rfl,rfl,hl⟩⟩
 ·simpa [Gh.tok,Gh.lay,aF.of]using hk
 ·exact hI.fresh_xp
end
def Rs.append{G:Gh}{cs ds:List PV}{us vs:List Value}(h:Rs G cs us)(k:Rs G ds vs):Rs G (cs++ds) (us++vs):=by
 obtain⟨h1,h2,h3⟩:=h;obtain⟨k1,k2,k3⟩:=k;refine⟨by simp[h1,k1],fun j p u hp hu=>?_,fun u hu=>?_⟩
 ·by_cases hj:j<cs.length
  ·rw[bW hj]at hp;rw[bW (by omega)]at hu;exact h2 j p u hp hu
  ·rw[cM (by omega)]at hp;rw[cM (by omega),<-h1]at hu;exact k2 _ p u hp hu
 ·rcases aG.1 hu with h|h
  ·exact h3 u h
  ·exact k3 u h
section
variable {G:Gh} {nt:Nat} {fr:Fr} {st st':St} {w:World} {a:Act} {o:Oper} {d:Option Nat} {cf:aJ} {p:PV}
def uV(w:World)(o:Obj):(w.drew.alloc o).heap=(w.alloc o).heap:=rfl
def yA(hI:bM P B G st w){t ty e:Nat}{i:TypeInfo}{zs:List PV}(hu:P.underlying t=some (.slice e))(hi:P.info? e=some i)(hz:gw P e=some zs)(hzl:zs.length=i.size)
  {n m:Nat} {cs ds:List PV} {tk ty':aF} {x y:Value} (hx:R G (.list n cs tk) x) (hy:R G (.list m ds ty') y)
  (hc:iQ st n tk=true) (hex:J6 e tk) (hcs:cs.length=n*i.size) (hds:ds.length=m*i.size) (hby:(n+m) *i.bytes<=dL) (hnm:n+m<=dL) (h0:0<i.size) (hfu:∀ e',tk= .full e'->0<m\/n=0):
  ∃ v w' G',(Builtin.append_ #[t,t] ty #[x,y]).run P w= .ok v w'/\R G' (.list (n+m) (cs++ds) (.own (ii st tk) e)) v/\
   bM P B G' (lG st (n+m) tk) w'/\Le G G'/\cQ G w G' w'/\G'.bx=G.bx:=by
 obtain⟨i',z,hi',hzz,hRz,_⟩:=qe (P:=P) (G:=G) hz;rw[hi]at hi';cases hi';have hzs:z.cells.size=i.size:=by have:=hRz.1;simp at this;omega
 have hbb:dL=140737488355328:=rfl;have hml:dL<=maxLen:=by decide
 have hsz:gO P e=some i.size:=by simp[gO,hi]
 have none_:m=0->(y= .slice none 0 0\/∃ a c,y= .slice (some a) 0 c)->ds=[]->∃ v w' G',(Builtin.append_ #[t,t] ty #[x,y]).run P w= .ok v w'/\R G' (.list (n+m) (cs++ds) (.own (ii st tk) e)) v/\
   bM P B G' (lG st (n+m) tk) w'/\Le G G'/\cQ G w G' w'/\G'.bx=G.bx:=by
  intro hm0 hy0 hd0;subst hm0;subst hd0;obtain⟨G',hq,hI',hL,hS,hob⟩:=MV hI hx hc hex (fun e' he'=>by rcases hfu e' he' with h|h<;>omega)
  have hrun:(Builtin.append_ #[t,t] ty #[x,y]).run P w= .ok x w:=by
   cases hx with
   |listN=>exact tK hu hi (aP 0) hy0
   |listE a=>exact tK hu hi (aP 0) hy0
   |list _ _ _ b o' cap us hn=>exact tK hu hi hn hy0
  refine⟨x,w,G',hrun,?_,?_,hL,hS,hob⟩
  ·simpa using hq
  ·simpa using hI'
 cases hy with
 |listN=>exact none_ rfl (.inl rfl) rfl
 |listE a=>exact none_ rfl (.inr ⟨a,0,rfl⟩) rfl
 |list _ _ _ yb yo ycap vs hm hyl hyc hyr hy1 _ _ _=>
 by_cases hm0:m=0
 ·subst hm0;exact none_ rfl (.inr ⟨_,_,rfl⟩) (cq (by simpa using hds))
 have hRy:Rs G ds vs:=⟨hyl,hyr,hy1⟩;have hvl:vs.length=m*i.size:=by omega
 have hnews:∀ (j:Nat) (v:Value),vs[j]? =some v->w.cell? ((⟨yb,yo,none⟩:Addr).add j)=some v:=fun j v hj=>by
  rw[qt];exact hI.com _ _ _ (hyc j v hj)
 cases hx with
 |listE a=>simp[iQ]at hc
 |listN _ ht=>
  have hby':m*i.bytes<=140737488355328:=by simpa [hbb]using hby
  have hr:=run_append_nil (P:=P) w t ty e i z hu hi hzz ⟨yb,yo,none⟩ m ycap vs hvl hnews (by omega) (by omega) (by omega);have hge:=grownCap_ge w m 0 e;have hcm:grownCap w m 0 e<=maxLen:=grownCap_le_maxLen w m 0 e (by omega);obtain⟨G',hR',hI',hL',hS',hob⟩:=H4 (sz:=i.size) (cap:=grownCap w m 0 e) (n:=m) (e:=e) hI hc vs (Builtin.zeroCells z.cells (grownCap w m 0 e-m)).toList (w':=w.drew.alloc (.cells (vs.toArray++Builtin.zeroCells z.cells (grownCap w m 0 e-m)) e)) (by
    rw[uV];congr 3;apply Array.ext';simp) ⟨rfl,rfl⟩ hRy hvl hsz (by
    simp only[ae,fh,size_zeroCells,hzs,hvl,<-gW];congr 1;omega) hcm hge (by omega)
  refine⟨_,_,G',hr,?_,?_,hL',hS',hob⟩
  ·simpa using hR'
  ·simpa using hI'
 |list _ _ _ xb xo xcap us hn hxl hxc hxr hx1 ht hp hx'=>
  have hRx:Rs G cs us:=⟨hxl,hxr,hx1⟩;have hul:us.length=n*i.size:=by omega
  have hlen:(us++vs).length=(n+m) *i.size:=by rw[ae,hul,hvl,gW]
  by_cases hroom:n+m<=xcap
  ·
   have hown:∃ u r,tk= .own u e/\u<st.nx/\st.cnt u=n/\G.tk u=some (.room r)/\r.m=n/\r.b=xb/\xo=0/\r.cap=xcap/\r.e=e:=by
    rcases B7 hI hc with⟨rfl|⟨_,rfl⟩,_,_⟩|⟨k,e',q,rfl,_,hq,hqn⟩
    ·cases ht
    ·have:=ht.1;omega
    ·cases hex;have hk:=hI.cnt k q hq;obtain⟨_,hqt⟩:=ht.2 q hq;have hqt:=hqt hqn.symm;cases q with
     |full=>have:=hqt.1;omega
     |room r=>exact⟨k,r,rfl,hk.1,by rw[hk.2,hqn],hq,hqn,hqt.1,hqt.2.1,hqt.2.2.1,hqt.2.2.2.1⟩
   obtain⟨u,r,rfl,hult,hucnt,hr,hrm,hrb,rfl,hrc,hre⟩:=hown;obtain⟨hsh,hrcm,hrfit,hrs,hrno,hrx⟩:=hI.room u r hr;obtain⟨cur,hcur,hcs'⟩:=hI.sh _ _ _ hsh;have hszr:r.sz=i.size:=by rw[hre,hsz]at hrs;exact(Option.some.inj hrs).symm
   subst hrb;have hfit:n*i.size+vs.length<=cur.size:=by rw[hcs',hvl,<-gW,hszr,hrc];exact du _ hroom
   have hrun:=run_append_room (P:=P) w t ty e i hu hi r.b n xcap cur (by rw[<-hre];exact hcur) ⟨yb,yo,none⟩ m ycap vs hvl hnews hy1 hroom hfit;have hg:yW st (st.count u (n+m)) u (r.m+m):=by rw[hrm];exact St.grown_count hult
   obtain⟨hI',hL',hS'⟩:=hI.more hult hr hcur vs m (by omega) (by rw[hvl,hszr]) (by omega) hcs' hg;have hrn':r.m*r.sz=n*i.size:=by rw[hrm,hszr]
   rw[hrn']at hI' hL' hS';refine⟨_,_,_,hrun,?_,hI',hL',hS',rfl⟩;have hRR:=(hRx.append hRy);refine .list (n+m) (cs++ds) _ r.b 0 xcap (us++vs) hroom hRR.1 (fun j v hj=>?_) (fun j q v hq hv=>(hRR.2.1 j q v hq hv).mono hL' (fun _=>rfl)) hRR.2.2 ⟨?_,fun q hq=>?_⟩ (fun k _ hk=>?_) (fun _ _=>hrx)
   ·show(G.more r.b (n*i.size) vs).com r.b (0+j)=some v;simp only[Gh.more,ar];by_cases hj':n*i.size<=j
    ·rw[am ⟨trivial,hj'⟩];rw[cM (by omega),hul]at hj;exact hj
    ·rw[ai (by simp;omega)];rw[bW (by omega)]at hj;have:=hxc j v hj;simpa using this
   ·have:=hI.nx
    show u<max _ _;omega
   ·have hq':(if ii st (.own u e)=u then some (ot.room {r with m:=r.m+m})else(G.more r.b (n*i.size) vs).tk (ii st (.own u e)))=some q:=hq;rw[am (show ii st (.own u e)=u from rfl)]at hq';cases hq';refine⟨by simp only[ot.cnt];omega,fun _=>⟨rfl,rfl,hrc,hre,?_⟩⟩;rw[hlen,hszr]
   ·by_cases hus:us=[]
    ·rw[(hI.priv u r hr).2 k hk];rfl
    ·exact hp k hus hk
  ·have holds:∀ (j:Nat) (v:Value),us[j]? =some v->w.cell? ((⟨xb,xo,none⟩:Addr).add j)=some v:=fun j v hj=>by
    rw[qt];exact hI.com _ _ _ (hxc j v hj)
   have hr:=run_append_grow (P:=P) w t ty e i z hu hi hzz ⟨xb,xo,none⟩ n xcap us hul holds ⟨yb,yo,none⟩ m ycap vs hvl hnews (by omega) (by omega) (growslice_fits (by omega) (by rw[<-hbb];exact hby));have hge:=grownCap_ge w (n+m) xcap e;have hcm:grownCap w (n+m) xcap e<=maxLen:=grownCap_le_maxLen w (n+m) xcap e (by omega);obtain⟨G',hR',hI',hL',hS',hob⟩:=H4 (sz:=i.size) (cap:=grownCap w (n+m) xcap e) (n:=n+m) (e:=e) hI hc (us++vs) (Builtin.zeroCells z.cells (grownCap w (n+m) xcap e- (n+m))).toList
    (w':=w.drew.alloc (.cells (us.toArray++vs.toArray++Builtin.zeroCells z.cells (grownCap w (n+m) xcap e- (n+m))) e)) (by
     rw[uV];congr 3;apply Array.ext';simp) ⟨rfl,rfl⟩ (hRx.append hRy) hlen hsz (by
     rw[ae,hlen];simp only[fh,size_zeroCells,hzs,<-gW];congr 1;omega) hcm hge (by omega)
   exact⟨_,_,G',hr,hR',hI',hL',hS',hob⟩
end
end Go.PM
namespace Go.PM
open Go.MapKept (bytes_beq run_getObj_map run_setObj_map)
variable {P:Program} {B:Nat->Nat->Option Value}
def vB(w:World)(src e:TypeId)(hs:P.underlying src=some (.slice e))(he:P.underlying e=some (.int .u8))(a:Addr):
  ∀ dst,P.underlying dst=some .string->(convert src dst (.slice (some a) 0 0)).run P w= .ok (.string (strOfNums [])) w:=by
 intro dst hd;have hl:(loadCells a 0).run P w= .ok (([]:List Int).map (Value.int .u8)).toArray w:=by
  have:=run_loadCells_list (P:=P) w a [] (fun j v hj=>by simp at hj);simpa using this
 rw[run_convert_bytes_string w src dst e _ 0 0 hs he hd,run_bytesToString w _ 0 0 [] hl,foldl_push_bytes];simp[strOfNums,ByteArray.empty,ByteArray.emptyWithCapacity];rfl
def zz:∀ {cs:List PV} {bs:List UInt8},ui cs=some bs->∃ xs:List Int,cs=xs.map (PV.int .u8)/\bs=xs.map fun n=>UInt8.ofNat n.toNat
 | [],bs,h=>by cases h;exact⟨[],rfl,rfl⟩
 |p::cs,bs,h=>by
  unfold ui at h;split at h
  ·rename_i e;cases e
  ·rename_i n ps e;cases e;split at h
   ·rename_i bs' hb;cases h;obtain⟨xs,rfl,rfl⟩:=zz hb;exact⟨n::xs,rfl,rfl⟩
   ·cases h
  ·cases h
section
variable {G:Gh} {nt:Nat} {fr:Fr} {st st':St} {w:World} {a:Act} {o:Oper} {d:Option Nat} {cf:aJ} {p:PV}
def LF(hI:bM P B G st w)(hF:fu G nt fr a){s t e:Nat}{x:Operand}(hop:o.op= .convert s t x){cx:CX}(hx:bP x=some cx)(hs:P.underlying s=some (.slice e))(he:P.underlying e=some (.int .u8))(ht:P.underlying t=some .string)
  (h:aC cf fr st d (.b2s cx)=some (p,st')):st'=st/\jY P G w (execOp a.eval o) p:=by
 have hR:=cR hF hx;simp only[aC]at h;simp only[execOp,hop];generalize a.eval x=xv at hR;split at h
 ·rename_i n cs tk e1;rw[e1]at hR;split at h
  ·rename_i bs hbs;split at h
   ·rename_i hlen;cases h;obtain⟨xs,hxs,rfl⟩:=zz hbs;refine⟨rfl,?_⟩;cases hR with
    |listE a=>
     have hx0:xs=[]:=cq (by simpa using hlen);subst hx0;clear hxs;exact⟨.string (strOfNums []),by simp[vB (P:=P) w s e hs he a t ht],.str _⟩
    |listN=>
     have hx0:xs=[]:=cq (by simpa using hlen);subst hx0;clear hxs;exact⟨.string ByteArray.empty,by simp[run_convert_bytes_nil (P:=P) w s e hs he 0 0 t ht],.str _⟩
    |list _ _ _ b o' cap us hn hl hc hr h1 htk hp hx'=>
     subst hxs;have hxl:xs.length=n:=by simpa using hlen
     have hul:us.length=n:=by rw[<-hl];simpa using hlen
     have hcell:∀ i,i<n->w.cell? ⟨b,o'+i,none⟩=some (.int .u8 (xs.getD i 0)):=by
      intro i hi;have hui:us[i]? =some us[i]:=aK (by omega);have hci:(xs.map (PV.int .u8))[i]? =some (.int .u8 (xs.getD i 0)):=by
       simp[dB,gP,aK (show i<xs.length by omega)]
      have:=hr i _ _ hci hui;rw[hI.com _ _ _ (hc i _ hui)];generalize us[i]=u at this;cases this;rfl
     exact⟨.string (strOfNums xs),by simp[run_convert_bytes_arg (P:=P) w s e hs he b o' n cap xs hxl hcell t ht],.str _⟩
   ·cases h
  ·cases h
 ·cases h
def JF{f:Nat}{xs:List Operand}(hop:o.op= .makeFunc (.func f) #[] ⟨xs⟩){cs:List CX}(hR:∀ (j:Nat) p v,(cs.map (·.ev fr))[j]? =some p->(xs.map a.eval)[j]? =some v->R G p v)
  (hl:cs.length=xs.length) (h:aC cf fr st d (.mkfn f cs)=some (p,st')):st'=st/\jY P G w (execOp a.eval o) p:=by
 simp only[aC]at h;simp only[execOp,hop];split at h
 ·cases h;refine⟨rfl,.func (.func f) #[] (xs.map a.eval).toArray,?_,.fn f _ _ (by simpa using hl) hR⟩;simp[Instr.makeFunc]
 ·cases h
end
def pV:Nat->TypeDesc->Bool
 |0,.int _=>true
 |1,.string=>true
 |2,.bool=>true
 |_,_=>false
def wn{t kk e:Nat}(h:tc P t=some (kk,e)):∃ k dsc,P.underlying t=some (.map k e)/\P.underlying k=some dsc/\pV kk dsc=true:=by
 unfold tc at h;split at h
 ·rename_i k v hu;split at h<;>first
   |(rename_i hk;cases h;exact⟨k,_,hu,hk,rfl⟩)
   |cases h
 ·cases h
def zr{p:PV}{kk:Nat}{dsc:TypeDesc}(h:mS p=kk)(hk:pV kk dsc=true):∃ v,gp p=some v:=by
 subst h;cases p<;>first
  |exact⟨_,rfl⟩
  |(cases dsc<;>simp[mS,pV]at hk)
def y8{p q:PV}{v u:Value}{b:Bool}{kk:Nat}{dsc:TypeDesc}(hk:mS p=kk)(hd:pV kk dsc=true)(h:D2 p q=some b)(hp:gp p=some v)(hq:gp q=some u):Instr.sameNow dsc v u=some b/\(b=true->v=u):=by
 subst hk;cases p<;>cases q<;>simp[D2]at h<;>simp[gp]at hp hq<;>subst hp<;>subst hq<;>cases dsc<;>simp[mS,pV]at hd
 ·obtain⟨h1,h2⟩:=h;subst h1;simp[Instr.sameNow,h2];intro hb;subst hb;simpa using h2
 ·simp[Instr.sameNow,h];intro hb;subst hb;simpa using h
 ·simp[Instr.sameNow,h];intro hb;subst hb;exact(bytes_beq _ _).1 h
def pX{G:Gh}{p:PV}{v:Value}{kk:Nat}{dsc:TypeDesc}(hk:mS p=kk)(hd:pV kk dsc=true)(hp:gp p=some v):∀ {es:List (PV×PV)} {vs:List MapEntry} {i:Nat} {r},Rm G es vs->pt p es i=some r->
  match r with
  |none=>Instr.findNow dsc v vs i=some none
  |some (j,q)=>∃ x:MapEntry,Instr.findNow dsc v vs i=some (some (j,x.val))/\i<=j/\vs[j-i]? =some x/\(∃ e,es[j-i]? =some e/\e.2=q)/\x.key=v/\R G q x.val
 | [],[],i,r,hR,h=>by simp only[pt]at h;cases h;rfl
 | [],_::_,i,r,hR,h=>by have:=hR.1;simp at this
 |_::_,[],i,r,hR,h=>by have:=hR.1;simp at this
 |e::es,x::vs,i,r,hR,h=>by
  obtain⟨hkx,hvx⟩:=hR.2 0 e x rfl rfl;have hR':Rm G es vs:=⟨by simpa using hR.1,fun j q y hq hy=>hR.2 (j+1) q y (by simpa using hq) (by simpa using hy)⟩;simp only[pt]at h;split at h
  ·rename_i he;cases h;obtain⟨h1,h2⟩:=y8 hk hd he hp hkx;exact⟨x,by simp[Instr.findNow,h1],aP _,by simp,⟨e,by simp,rfl⟩,(h2 rfl).symm,hvx⟩
  ·rename_i he;obtain⟨h1,_⟩:=y8 hk hd he hp hkx;have ih:=pX hk hd hp hR' h;cases r with
   |none=>simp only at ih ⊢;simp[Instr.findNow,h1,ih]
   |some jq=>
    obtain⟨j,q⟩:=jq;simp only at ih ⊢;obtain⟨y,h2,h3,h4,⟨e',h5,h6⟩,h7,h8⟩:=ih;have e1:j-i=(j- (i+1))+1:=by omega
    exact⟨y,by simp[Instr.findNow,h1,h2],by omega,by rw[e1];simpa using h4,⟨e',by rw[e1];simpa using h5,h6⟩,h7,h8⟩
  ·cases h
def sg{w:World}{k:Nat}{dsc:TypeDesc}(hu:P.underlying k=some dsc){v:Value}{vs:List MapEntry}{r:Option (Nat×Value)}(h:Instr.findNow dsc v vs 0=some r):(Instr.findKey k v vs).run P w= .ok r w:=by
 simp[Instr.findKey,bz w hu,h]
def Gq{kk:Nat}{dsc:TypeDesc}(hd:pV kk dsc=true):(∃ k,dsc= .int k)\/dsc= .string\/dsc= .bool:=by
 unfold pV at hd;split at hd
 ·exact .inl ⟨_,rfl⟩
 ·exact .inr (.inl rfl)
 ·exact .inr (.inr rfl)
 ·cases hd
def DQ{w:World}{k kk:Nat}{dsc:TypeDesc}(hu:P.underlying k=some dsc)(hd:pV kk dsc=true)(e:Bool)(v:Value)(n:Nat):(Instr.checkKey e (n+1) k v).run P w= .ok () w:=by
 unfold Instr.checkKey;rw[Sem.run_bind,bz w hu,dA];rcases Gq hd with⟨k,rfl⟩|rfl|rfl<;>rfl
def q7{w:World}{k kk:Nat}{dsc:TypeDesc}(hu:P.underlying k=some dsc)(hd:pV kk dsc=true)(e:Bool)(v:Value):(Instr.checkKey e 10000 k v).run P w= .ok () w:=
 DQ hu hd e v 9999
def Gh.newMap(G:Gh)(s b:Nat):Gh:={G with mb:=fun k=>if k=s then some b else G.mb k}
def bM.newMap{G:Gh}{st:St}{w:World}(hI:bM P B G st w)(s:Nat):bM P B (G.newMap s w.heap.size) {st with maps:=fun k=>if k=s then some []else st.maps k} (w.alloc (.map #[] 0))/\Le G (G.newMap s w.heap.size)/\cQ G w (G.newMap s w.heap.size) (w.alloc (.map #[] 0)):=by
 have hle:Le G (G.newMap s w.heap.size):=⟨fun _ _ _ h=>h,fun _ _ h=>h,fun _ x' _ h=>⟨x',h,aP _,fun _=>rfl⟩,aP _,fun _ _ _ _ _ h=>h,rfl⟩;refine⟨⟨?_,?_,hI.nx,hI.cnt,hI.live,hI.room,hI.apart,hI.priv,?_,?_,hI.obj,hI.nob,hI.npo,fun b k h=>by rw[kE];have:=hI.pvl b k h;omega,fun b h=>by rw[kE];have:=hI.xpl b h;omega,hI.base,?_,?_,?_,?_,?_,hI.obx,hI.ful⟩,hle,⟨hle.w,by rw[kE];omega,fun b hb _ _ _=>heap_alloc_old w _ b hb,fun s b h=> .inl ⟨s,h⟩,fun t r h=> .inl ⟨t,r,h,rfl⟩,fun _ _ _ h=> .inl h,fun _ _ h=> .inl h,fun _ k h=> .inl ⟨k,h⟩,?_,⟨rfl,rfl⟩⟩⟩
 ·intro b o v h;have:=hI.com b o v h;rw[vN (World.block_lt_of_cell? w _ this)];exact this
 ·intro b e' k h;obtain⟨cur,hc,hk⟩:=hI.sh b e' k h;exact⟨cur,by rw[heap_alloc_old w _ b (bf.1 hc).1];exact hc,hk⟩
 ·intro s' cs' h;obtain⟨b,e',vs',hb,hh,hR'⟩:=hI.objs s' cs' h;exact⟨b,e',vs',hb,by rw[heap_alloc_old w _ b (bf.1 hh).1];exact hh,hR'.le hle (hI.npo s' cs' h)⟩
 ·intro s' b h;rw[kE];obtain⟨h1,h2,h3⟩:=hI.obs s' b h;exact⟨by omega,h2,h3⟩
 ·intro s' b' e' sz h1 h2;obtain⟨h3,cur,h4⟩:=hI.oes s' b' e' sz h1 h2;exact⟨h3,cur,by rw[heap_alloc_old w _ b' (bf.1 h4).1];exact h4⟩
 ·intro s' es h;by_cases hk:s'=s
  ·subst hk;simp only[if_true]at h;cases h;exact⟨w.heap.size,[],0,by simp[Gh.newMap],heap_alloc_new w _,⟨rfl,fun i q x hq=>by simp at hq⟩,by simp⟩
  ·simp only[ai hk]at h;obtain⟨b',us,clk,h1,h2,h3,h4⟩:=hI.mobj s' es h;exact⟨b',us,clk,by simp[Gh.newMap,hk,h1],by rw[heap_alloc_old w _ b' (bf.1 h2).1];exact h2,h3.le hle h4,h4⟩
 ·intro s' b' h;by_cases hk:s'=s
  ·simp only[Gh.newMap,hk,if_true]at h;cases h;exact⟨#[],0,heap_alloc_new w _⟩
  ·simp only[Gh.newMap,ai hk]at h;obtain⟨us,clk,h2⟩:=hI.mbs s' b' h;exact⟨us,clk,by rw[heap_alloc_old w _ b' (bf.1 h2).1];exact h2⟩
 ·have hlt:∀ {u b},G.mb u=some b->b<w.heap.size:=fun h=>by
   obtain⟨us,clk,h2⟩:=hI.mbs _ _ h;exact(bf.1 h2).1
  intro s' u b h1 h2;by_cases hk:s'=s<;>by_cases hu:u=s
  ·rw[hk,hu]
  ·simp only[Gh.newMap,hk,if_true,ai hu]at h1 h2;cases h1;have:=hlt h2;omega
  ·simp only[Gh.newMap,hu,if_true,ai hk]at h1 h2;cases h2;have:=hlt h1;omega
  ·simp only[Gh.newMap,ai hk,ai hu]at h1 h2;exact hI.mbi s' u b h1 h2
 ·intro s' h;by_cases hk:s'=s
  ·simp[hk]at h
  ·simp only[ai hk]at h;simp only[Gh.newMap,ai hk];exact hI.nomb s' h
 ·intro s' b h;by_cases hk:s'=s
  ·simp only[Gh.newMap,hk,if_true]at h;cases h;exact .inr (aP _)
  ·simp only[Gh.newMap,ai hk]at h;exact .inl ⟨s',h⟩
def bM.setMap{G:Gh}{st:St}{w:World}(hI:bM P B G st w){s b clk clk':Nat}{vs:List MapEntry}{es':List (PV×PV)}{vs':List MapEntry}(hs:(st.maps s).isSome=true)(hb:G.mb s=some b)(hh:w.heap[b]? =some (.map vs.toArray clk))
  (hR:Rm G es' vs') (hn:∀ q∈es',np q.2=true):
  bM P B G {st with maps:=fun k=>if k=s then some es' else st.maps k} {w with heap:=w.heap.setIfInBounds b (.map vs'.toArray clk')}/\cQ G w G {w with heap:=w.heap.setIfInBounds b (.map vs'.toArray clk')}:=by
 have hlt:=(bf.1 hh).1;have hsz:(w.heap.setIfInBounds b (.map vs'.toArray clk')).size=w.heap.size:=by simp
 have hother:∀ k,k≠b->(w.heap.setIfInBounds b (.map vs'.toArray clk'))[k]? =w.heap[k]? :=fun k hk=>ji (Ne.symm hk);have hrow:∀ {b':Nat} {c:Array Value} {e:TypeId} {f:Nat×Nat},w.heap[b']? =some (.cells c e f)->b'≠b:=by
  rintro b' c e f h rfl;rw[hh]at h;cases h
 have hcell:∀ {b' o:Nat} {v:Value},w.cell? ⟨b',o,none⟩=some v->b'≠b:=by
  rintro b' o v h rfl;simp[World.cell?,hh]at h
 refine⟨⟨?_,?_,hI.nx,hI.cnt,hI.live,hI.room,hI.apart,hI.priv,?_,?_,hI.obj,hI.nob,hI.npo,fun b k h=>by rw[hsz];exact hI.pvl b k h,fun b h=>by rw[hsz];exact hI.xpl b h,hI.base,?_,?_,?_,hI.mbi,?_,hI.obx,hI.ful⟩,⟨sZ.refl G,by rw[hsz];exact aP _,?_,fun s' b' h=> .inl ⟨s',h⟩,fun t r h=> .inl ⟨t,r,h,rfl⟩,fun _ _ _ h=> .inl h,fun _ _ h=> .inl h,fun _ k h=> .inl ⟨k,h⟩,fun s b h=> .inl ⟨s,h⟩,⟨rfl,rfl⟩⟩⟩
 ·intro b' o v h;have:=hI.com b' o v h;rw[World.cell?_of_block (w:=w) (a:=⟨b',o,none⟩) (hother b' (hcell this))];exact this
 ·intro b' e' k h;obtain⟨cur,hc,hk⟩:=hI.sh b' e' k h;exact⟨cur,by rw[hother b' (hrow hc)];exact hc,hk⟩
 ·intro s' cs' h;obtain⟨b',e',us,hb',hh',hR'⟩:=hI.objs s' cs' h;exact⟨b',e',us,hb',by rw[hother b' (hrow hh')];exact hh',hR'⟩
 ·intro s' b' h;rw[hsz];exact hI.obs s' b' h
 ·intro s' b' e' sz h1 h2;obtain⟨h3,cur,h4⟩:=hI.oes s' b' e' sz h1 h2;exact⟨h3,cur,by rw[hother b' (hrow h4)];exact h4⟩
 ·intro s' es h;by_cases hk:s'=s
  ·subst hk;simp only[if_true]at h;cases h;exact⟨b,vs',clk',hb,by simp[hlt],hR,hn⟩
  ·simp only[ai hk]at h;obtain⟨b',us,clk,h1,h2,h3,h4⟩:=hI.mobj s' es h;have hne:b'≠b:=by rintro rfl;exact hk (hI.mbi s' s _ h1 hb)
   exact⟨b',us,clk,h1,by rw[hother b' hne];exact h2,h3,h4⟩
 ·intro s' b' h;by_cases hk:b'=b
  ·subst hk;exact⟨vs'.toArray,clk',by simp[hlt]⟩
  ·obtain⟨us,clk,h2⟩:=hI.mbs s' b' h;exact⟨us,clk,by rw[hother b' hk];exact h2⟩
 ·intro s' h;by_cases hk:s'=s
  ·simp[hk]at h
  ·simp only[ai hk]at h;exact hI.nomb s' h
 ·intro b' hb' _ _ hm;exact hother b' (by rintro rfl;exact hm s hb)
section
variable {G:Gh} {nt:Nat} {fr:Fr} {st st':St} {w:World} {a:Act} {o:Oper} {d:Option Nat} {cf:aJ} {p:PV}
def J2(hI:bM P B G st w){t:Nat}(hop:o.op= .makeMap t none)(h:aC cf fr st d .mkmap=some (p,st')):xj P B G w (execOp a.eval o) d true p st':=by
 simp only[aC]at h;simp only[execOp,hop];split at h
 ·rename_i s;cases h;obtain⟨hI',hL,hS⟩:=hI.newMap s;refine⟨_,_,_,_,?_,.inl rfl,.mp s w.heap.size (by simp[Gh.newMap]),hI',hL,hS,fun k=>?_⟩
  ·simp[Instr.makeMap]
  ·by_cases hk:k=s
   ·exact .inl ⟨rfl,by rw[hk]⟩
   ·exact .inr (by simp[Gh.bx,Gh.newMap,hk])
 ·cases h
def AQ{v:Value}{p:PV}(hq:ix v=some p):np p=true:=by
 unfold ix at hq;split at hq<;>first|(cases hq;rfl)|cases hq
def xK:∀ {vs:List Value} {ps:List PV},iY vs=some ps->aX ps=true
 | [],ps,h=>by simp[iY]at h;subst h;rfl
 |v::vs,ps,h=>by
  unfold iY at h;split at h
  ·rename_i q qs hq hqs;cases h;simp only[aX,dS,aj];exact⟨AQ hq,xK hqs⟩
  ·cases h
def H9{t:Nat}{z:PV}(hz:Az P t=some z):∃ v,(zeroValue t).run P w= .ok v w/\R G z v/\np z=true:=by
 unfold Az at hz;split at hz
 ·rename_i i hi;split at hz
  ·rename_i cs hv;simp only[av]at hz;obtain⟨zs,hzs,rfl⟩:=hz;have hR:=pP G hzs;exact⟨.agg cs,by simp[zeroValue,typeInfo,hi,hv],by simpa using R.agg (G:=G) zs cs.toList hR.1 hR.2.1 hR.2.2,by simpa [np,off,aX]using xK hzs⟩
  ·rename_i v _ hv;exact⟨v,by simp[zeroValue,typeInfo,hi,hv],xL G hz,AQ hz⟩
  ·cases hz
 ·cases hz
def J1(hI:bM P B G st w)(hF:fu G nt fr a){t kk e:Nat}{m k v:Operand}(hop:o.op= .mapUpdate t m k v)(hm:tc P t=some (kk,e)){cm ck cv:CX}(h1:bP m=some cm)(h2:bP k=some ck)(h3:bP v=some cv)
  (h:aC cf fr st d (.mpset kk cm ck cv)=some (p,st')):xj P B G w (execOp a.eval o) d false p st':=by
 have hRm:=cR hF h1;have hRk:=cR hF h2;have hRv:=cR hF h3;obtain⟨kt,dsc,hu,huk,hkd⟩:=wn hm;simp only[aC]at h;simp only[execOp,hop];generalize a.eval m=mv at hRm;generalize a.eval k=kv at hRk;generalize a.eval v=vv at hRv;split at h
 ·rename_i s e1;rw[e1]at hRm;cases hRm with
  |mp _ b hb=>
  split at h
  ·rename_i es hes;split at h
   ·rename_i hc;obtain⟨hkk,hnp⟩:=hc;obtain⟨b',vs,clk,hb',hh,hR,hns⟩:=hI.mobj s es hes;rw[hb]at hb';cases hb';obtain⟨kv',hkv⟩:=zr hkk hkd;have hkeq:=vy hRk hkv;subst hkeq;split at h
    ·rename_i i q hf;cases h;obtain⟨x,hfn,_,hx,⟨e',he',_⟩,hxk,_⟩:=pX hkk hkd hkv hR hf;simp only[Nat.sub_zero]at hx he';have hil:i<vs.length:=(bD.1 hx).1;have hR':Rm G (es.set i (ck.ev fr,cv.ev fr)) (vs.set i {x with key:=kv,val:=vv}):=by
      refine⟨by simp[hR.1],fun j q y hq hy=>?_⟩;by_cases hj:j=i
      ·subst hj;rw[my (by rw[hR.1];exact hil)]at hq;rw[my hil]at hy;cases hq;cases hy;exact⟨hkv,hRv⟩
      ·rw[kG (Ne.symm hj)]at hq hy;exact hR.2 j q y hq hy
     have hmod:vs.toArray.modify i (fun e=>{e with key:=kv,val:=vv})=(vs.set i {x with key:=kv,val:=vv}).toArray:=by
      apply Array.ext';simp only[Array.toList_modify];apply iH;intro j;by_cases hj:j=i
      ·subst hj;rw[my hil];simp[hx]
      ·rw[kG (Ne.symm hj)];simp[Ne.symm hj]
     obtain⟨hI',hS⟩:=hI.setMap (clk':=clk) (by rw[hes];rfl) hb hh hR' (by
      intro q hq;rcases dK hq with hq|rfl
      ·exact hns q hq
      ·exact hnp)
     refine⟨.skip,undef,_,G,?_,.inr ⟨rfl,rfl⟩,.hole,hI',Le.refl G,hS,fun _=> .inr rfl⟩;have hkeep:(Instr.keyThatStays (((vs.toArray[i]?).map (·.key)).getD kv) kv).run P w= .ok kv w:=by
      have:((vs.toArray[i]?).map (·.key)).getD kv=kv:=by simp[hx,hxk]
      rw[this];have hsb:Instr.sameBits 10000 kv kv=true:=by
       rcases qY hkv with⟨k',n',rfl⟩|⟨b',rfl⟩|⟨s',rfl⟩
       ·simp[Instr.sameBits]
       ·simp[Instr.sameBits]
       ·exact(bytes_beq _ _).2 rfl
      simp[Instr.keyThatStays,hsb]
     have hrun:(Instr.mapUpdate t (.map (some b)) kv vv).run P w= .ok () {w with heap:=w.heap.setIfInBounds b (.map (vs.set i {x with key:=kv,val:=vv}).toArray clk)}:=by
      simp only[Instr.mapUpdate,Sem.run_bind,bz w hu,dA,run_getObj_map hh,q7 huk hkd,sg huk hfn,hkeep,run_setObj_map _ hh,hmod]
     simp[hrun]
    ·rename_i hf;cases h;have hfn:=pX hkk hkd hkv hR hf;simp only at hfn;have hR':Rm G (es++[(ck.ev fr,cv.ev fr)]) (vs++[({key:=kv,val:=vv,born:=clk}:MapEntry)]):=by
      refine⟨by simp[hR.1],fun j q y hq hy=>?_⟩;by_cases hj:j<es.length
      ·rw[bW hj]at hq;rw[bW (by rw[<-hR.1];exact hj)]at hy;exact hR.2 j q y hq hy
      ·rw[cM (by omega)]at hq;rw[cM (by rw[<-hR.1];omega),<-hR.1]at hy;cases hjj:j-es.length with
       |zero=>rw[hjj]at hq hy;simp at hq hy;subst hq;subst hy;exact⟨hkv,hRv⟩
       |succ n=>rw[hjj]at hq;simp at hq
     obtain⟨hI',hS⟩:=hI.setMap (clk':=clk+1) (by rw[hes];rfl) hb hh hR' (by
      intro q hq;rcases aG.1 hq with hq|hq
      ·exact hns q hq
      ·simp at hq;subst hq;exact hnp)
     refine⟨.skip,undef,_,G,?_,.inr ⟨rfl,rfl⟩,.hole,hI',Le.refl G,hS,fun _=> .inr rfl⟩;have hrun:(Instr.mapUpdate t (.map (some b)) kv vv).run P w= .ok () {w with heap:=w.heap.setIfInBounds b (.map (vs++[({key:=kv,val:=vv,born:=clk}:MapEntry)]).toArray (clk+1))}:=by
      simp only[Instr.mapUpdate,Sem.run_bind,bz w hu,dA,run_getObj_map hh,q7 huk hkd,sg huk hfn,run_setObj_map _ hh];simp
     simp[hrun]
    ·cases h
   ·cases h
  ·cases h
 ·cases h
def Ik(hI:bM P B G st w)(hF:fu G nt fr a){t kk e:Nat}{ok:Bool}{m k:Operand}(hop:o.op= .lookup t m k ok)(hm:tc P t=some (kk,e)){z:PV}(hz:Az P e=some z){cm ck:CX}(h1:bP m=some cm)(h2:bP k=some ck)
  (h:aC cf fr st d (.mpget ok z kk cm ck)=some (p,st')):(st'=st/\jY P G w (execOp a.eval o) p)/\np p=true:=by
 have hRm:=cR hF h1;have hRk:=cR hF h2;obtain⟨kt,dsc,hu,huk,hkd⟩:=wn hm;simp only[aC]at h;simp only[execOp,hop];generalize a.eval m=mv at hRm;generalize a.eval k=kv at hRk;split at h
 ·rename_i s e1;rw[e1]at hRm;cases hRm with
  |mp _ b hb=>
  split at h
  ·rename_i es hes;split at h
   ·rename_i hkk;obtain⟨b',vs,clk,hb',hh,hR,hns⟩:=hI.mobj s es hes;rw[hb]at hb';cases hb';obtain⟨kv',hkv⟩:=zr hkk hkd;have hkeq:=vy hRk hkv;subst hkeq;have hsome:∀ {i:Nat} {u:Value},Instr.findNow dsc kv vs 0=some (some (i,u))->(Instr.lookup t (.map (some b)) kv ok).run P w= .ok (if ok then .tuple #[u,.bool true]else u) w:=by
     intro i u hr;simp only[Instr.lookup,Sem.run_bind,bz w hu,dA,run_getObj_map hh,Sem.run_pure,q7 huk hkd,sg huk hr]
    have hnone:∀ {zv:Value},Instr.findNow dsc kv vs 0=some none->(zeroValue e).run P w= .ok zv w->(Instr.lookup t (.map (some b)) kv ok).run P w= .ok (if ok then .tuple #[zv,.bool false]else zv) w:=by
     intro zv hr hz';simp only[Instr.lookup,Sem.run_bind,bz w hu,dA,run_getObj_map hh,Sem.run_pure,q7 huk hkd,sg huk hr,hz']
    split at h
    ·rename_i i q hf;cases h;obtain⟨x,hfn,_,hx,⟨e',he',heq⟩,hxk,hRq⟩:=pX hkk hkd hkv hR hf;have hnq:np q=true:=by rw[<-heq];exact hns e' (b8 he')
     have hrun:=hsome hfn;cases ok with
     |false=>exact⟨⟨rfl,kA (v:=x.val) (by rw[hrun];simp) hRq⟩,hnq⟩
     |true=>
      refine⟨⟨rfl,kA (v:= .tuple #[x.val,.bool true]) (by rw[hrun];simp) (.tup _ [x.val,.bool true] rfl fun j q' u hq' hu=>?_)⟩,by simpa [np,off,dS]using hnq⟩;cases j with
      |zero=>simp at hq' hu;subst hq';subst hu;exact hRq
      |succ j=>cases j with
       |zero=>simp at hq' hu;subst hq';subst hu;exact .bool _
       |succ j=>simp at hq'
    ·rename_i hf;cases h;have hfn:=pX hkk hkd hkv hR hf;simp only at hfn;obtain⟨zv,hzr,hzR,hzn⟩:=H9 (P:=P) (w:=w) (G:=G) hz;have hrun:=hnone hfn hzr;cases ok with
     |false=>exact⟨⟨rfl,kA (v:=zv) (by rw[hrun];simp) hzR⟩,hzn⟩
     |true=>
      refine⟨⟨rfl,kA (v:= .tuple #[zv,.bool false]) (by rw[hrun];simp) (.tup _ [zv,.bool false] rfl fun j q' u hq' hu=>?_)⟩,by simpa [np,off,dS]using hzn⟩;cases j with
      |zero=>simp at hq' hu;subst hq';subst hu;exact hzR
      |succ j=>cases j with
       |zero=>simp at hq' hu;subst hq';subst hu;exact .bool _
       |succ j=>simp at hq'
    ·cases h
   ·cases h
  ·cases h
 ·cases h
def Ij(hI:bM P B G st w)(hF:fu G nt fr a){t kk e:Nat}{x:Operand}(hop:o.op= .call {callee:= .builtin .len,args:= #[x],argTypes:= #[t]}){cx:CX}(hx:bP x=some cx)
  (hm:tc P t=some (kk,e)) (h:aC cf fr st d (.mplen cx)=some (p,st')):st'=st/\jY P G w (execOp a.eval o) p:=by
 have hR:=cR hF hx;obtain⟨kt,dsc,hu,huk,hkd⟩:=wn hm;simp only[aC]at h;simp only[execOp,hop,resolve,invoke,builtin];generalize hxe:a.eval x=xv at hR;split at h
 ·rename_i s e;rw[e]at hR;cases hR with
  |mp _ b hb=>
  split at h
  ·rename_i es hes;cases h;obtain⟨b',vs,clk,hb',hh,hRm,hns⟩:=hI.mobj s es hes;rw[hb]at hb';cases hb';exact⟨rfl,goInt vs.length,by simp[hxe,Builtin.len_,bz w hu,run_getObj_map hh],by rw[hRm.1];exact .int _ _⟩
  ·cases h
 ·cases h
end
end Go.PM
namespace Go.PM
variable {P:Program} {B:Nat->Nat->Option Value}
def ga{p:PV}(h:np p=true):cO p=true:=by
 unfold cO;split
 ·rename_i f cs;have:dS (fun _=>true) cs=true:=by simpa [np,off]using h
  have key:∀ (l:List PV),dS (fun _=>true) l=true->l.all (fun c=>gQ c||np c)=true:=by
   intro l
   induction l with
   |nil=>intro _;rfl
   |cons c l ih=>
    intro h;simp only[dS,aj]at h;simp only[cT,aj,cY];exact⟨.inr h.1,ih h.2⟩
  exact key cs this
 ·simp[h]
def gm{cs:List PV}{p:PV}(h:aX cs=true)(hp:p∈cs):np p=true:=by
 obtain⟨j,hj,rfl⟩:=d7 hp;exact j7 h (aK hj)
def mP{cs:List PV}(h:∀ p∈cs,np p=true):aX cs=true:=by
 induction cs with
 |nil=>rfl
 |cons c cs ih=>
  simp only[aX,dS,aj];exact⟨h c (by simp),ih fun p hp=>h p (by simp[hp])⟩
def iz{cs ds:List PV}(h:aX cs=true)(k:aX ds=true):aX (cs++ds)=true:=
 mP fun p hp=>by
  rcases aG.1 hp with h'|h'
  ·exact gm h h'
  ·exact gm k h'
def tQ{cs:List PV}{off sz:Nat}{ag:Bool}{p:PV}(h:aX cs=true)(hp:bL cs off sz ag=some p):np p=true:=by
 unfold bL at hp;split at hp
 ·split at hp
  ·cases hp;have:aX ((cs.drop off).take sz)=true:=mP fun q hq=>gm h (dv (eU hq));simpa [np,PM.off,aX]using this
  ·split at hp
   ·exact j7 h hp
   ·cases hp
 ·cases hp
def xC{α:Type}:∀ (vs cs:List α) (off:Nat) (x:α),x∈bS cs off vs->x∈cs\/x∈vs
 | [],cs,off,x,h=> .inl h
 |v::vs,cs,off,x,h=>by
  rcases xC vs _ _ x h with h|h
  ·rcases dK h with h|h
   ·exact .inl h
   ·exact .inr (by simp[h])
  ·exact .inr (by simp[h])
section
variable {G:Gh} {nt:Nat} {fr:Fr} {st st':St} {w:World} {a:Act} {o:Oper} {d:Option Nat} {cf:aJ} {p:PV}
def B6(hF:fu G nt fr a){place:Nat->Option (Nat×Nat)}:∀ {qs:List (Nat×Operand)} {ps:List (Nat×Nat×CX)} {zs cs:List PV},iK place qs=some ps->aX zs=true->lF zs fr ps=some cs->aX cs=true
 | [],ps,zs,cs,hc,hz,h=>by simp[iK]at hc;subst hc;cases h;exact hz
 |q::qs,ps,zs,cs,hc,hz,h=>by
  obtain⟨i1,x1⟩:=q;unfold iK at hc;split at hc
  ·rename_i o1 s1 c1 cs1 _ hx1 hr1;cases hc;unfold lF at h;split at h
   ·rename_i ds hds;split at h
    ·refine B6 hF hr1 (mP fun p hp=>?_) h;rcases xC _ _ _ _ hp with h'|h'
     ·exact gm hz h'
     ·exact gm (pZ (eT hF hx1) hds) h'
    ·cases h
   ·cases h
  ·cases hc
def eP{mk:Bool}(hI:bM P B G st w)(h:st'=st/\jY P G w (execOp a.eval o) p):xj P B G w (execOp a.eval o) d mk p st':=by
 obtain⟨rfl,v,hv,hR⟩:=h;exact⟨_,v,w,G,hv,.inl rfl,hR,hI,Le.refl G,cQ.refl G w,fun _=> .inr rfl⟩
def NP(hI:bM P B G st w)(hF:fu G nt fr a){t e:Nat}{x y:Operand}(hop:o.op= .call {callee:= .builtin .append,args:= #[x,y],argTypes:= #[t,t]})(hu:P.underlying t=some (.slice e))
  {cx cy:CX} (hx:bP x=some cx) (hy:bP y=some cy) {i:TypeInfo} (hi:P.info? e=some i) {zs:List PV} (hz:gw P e=some zs) (hzl:zs.length=i.size)
  (h:aC cf fr st d (.app e i.size i.bytes cx cy)=some (p,st')):xj P B G w (execOp a.eval o) d false p st'/\cO p=true:=by
 have hR:=cR hF hx;have hRy:=cR hF hy;have htx:=eT hF hx;have hty:=eT hF hy;simp only[aC]at h;simp only[execOp,hop,resolve,invoke,builtin];generalize hxe:a.eval x=xv at hR;generalize hye:a.eval y=yv at hRy;split at h
 ·rename_i n cs tk m ds ty' e1 e2;rw[e1]at hR htx;rw[e2]at hRy hty;split at h
  ·rename_i hb;obtain⟨hc,hcs,hds,hby,hnm,h0⟩:=hb;have hres:p= .list (n+m) (cs++ds) (.own (ii st tk) e)/\st'=lG st (n+m) tk/\J6 e tk/\∀ e',tk= .full e'->0<m\/n=0:=by
    cases tk with
    |no=>simp[iQ]at hc
    |sub k=>simp[iQ]at hc
    |el k e n=>simp[iQ]at hc
    |nil=>cases h;exact⟨rfl,rfl,trivial,fun _ h=>by cases h⟩
    |full e'=>
     simp only at h;split at h
     ·rename_i he;cases h;exact⟨rfl,rfl,he.1,fun _ _=>he.2⟩
     ·cases h
    |own k e'=>
     simp only at h;split at h
     ·rename_i he;cases h;exact⟨rfl,rfl,he,fun _ h=>by cases h⟩
     ·cases h
   obtain⟨rfl,rfl,hex,hfu⟩:=hres;obtain⟨v,w',G',hrun,hR',hI',hL',hS',hob⟩:=yA (ty:=o.type) hI hu hi hz hzl hR hRy hc hex hcs hds hby hnm h0 hfu;refine⟨⟨.value v,v,w',G',?_,.inl rfl,hR',hI',hL',hS',fun s=> .inr (by rw[hob])⟩,ga ?_⟩
   ·simp[hxe,hye,hrun]
   ·have h1:aX cs=true:=by simpa [cO,gQ,np,off,aX]using htx
    have h2:aX ds=true:=by simpa [cO,gQ,np,off,aX]using hty
    have:=iz h1 h2;simpa [np,off,aX]using this
  ·cases h
 ·cases h
end
def EJ{v:Value}{p:PV}(h:iJ v=some p):np p=true:=by
 unfold iJ at h;split at h<;>first|(cases h;rfl)|cases h
def HZ{op:BinOp}{x y p:PV}(h:eq op x y=some p):np p=true:=by
 unfold eq at h;split at h
 ·simp only[bU]at h;obtain⟨v,_,hv⟩:=h;exact EJ hv
 ·cases h
def Jp{op:UnOp}{x p:PV}(h:w6 op x=some p):np p=true:=by
 unfold w6 at h;split at h
 ·simp only[bU]at h;obtain⟨v,_,hv⟩:=h;exact EJ hv
 ·cases h
section
variable {G:Gh} {nt:Nat} {fr:Fr} {st st':St} {w:World} {a:Act} {o:Oper} {d:Option Nat} {cf:aJ} {p:PV}
def CF{n:Nat}{cs:List PV}{t:aF}(h:cO (.list n cs t)=true):aX cs=true:=by simpa [cO,gQ,np,off,aX]using h
def ur{cs:List PV}{n:Nat}{t:aF}(h:cO (.iptr cs n t)=true):aX cs=true:=by simpa [cO,gQ,np,off,aX]using h
def Lm{cs:List PV}(h:cO (.agg cs)=true):aX cs=true:=by simpa [cO,gQ,np,off,aX]using h
def Ll{cs:List PV}(h:cO (.tup cs)=true):aX cs=true:=by simpa [cO,gQ,np,off,aX]using h
def C7{n:Nat}{cs:List PV}{t:aF}(h:aX cs=true):cO (.list n cs t)=true:=ga (by simpa [np,off,aX]using h)
def De{cs:List PV}{n:Nat}{t:aF}(h:aX cs=true):cO (.iptr cs n t)=true:=ga (by simpa [np,off,aX]using h)
def MY{cs:List PV}(h:aX cs=true):cO (.agg cs)=true:=ga (by simpa [np,off,aX]using h)
def iS{c:eV}(h:aC cf fr st d c=some (p,st'))(hx:∀ x,c= .mv x\/(∃ a b,c= .pick a x b)\/(∃ a b,c= .pick a b x)\/(∃ sz ag,c= .load sz ag x)\/c= .nck x\/(∃ i,c= .ext x i)\/(∃ n,c= .fad n x)\/(∃ n sz ag,c= .fld n sz ag x)\/
  (∃ sz i,c= .iad sz x i)\/(∃ sz lo hi,c= .slc sz x lo hi)->cO (x.ev fr)=true)
  (ho:∀ s cs,st.objs s=some cs->aX cs=true) (hb:∀ zs ps,c= .build zs ps->∀ cs,lF zs fr ps=some cs->aX cs=true)
  (hl:∀ e sz zs n ps,c= .bsl e sz zs n ps->∀ cs,lF (List.replicate n zs).flatten fr ps=some cs->aX cs=true)
  (ha:∀ e sz b x y,c≠ .app e sz b x y) (hc1:∀ f as mv,c≠ .call f as mv) (hc2:∀ f as,c≠ .cval f as) (hc3:∀ ok z kk m k,c≠ .mpget ok z kk m k) (hc4:∀ f as,c≠ .callU f as:=by simp) (hc5:∀ e sz b x y,c≠ .apc e sz b x y:=by simp):cO p=true:=by
 cases c with
 |mv x=>simp only[aC]at h;cases h;exact hx x (.inl rfl)
 |pick c x y=>
  simp only[aC]at h;split at h
  ·cases h;exact hx _ (.inr (.inl ⟨_,_,rfl⟩))
  ·cases h;exact hx _ (.inr (.inr (.inl ⟨_,_,rfl⟩)))
  ·cases h
 |alloc zs=>simp only[aC]at h;split at h<;>first|(cases h;rfl)|cases h
 |box sz x=>
  simp only[aC]at h;split at h
  ·split at h<;>first|(cases h;rfl)|cases h
  ·cases h
 |build zs ps=>
  simp only[aC]at h;split at h
  ·rename_i cs hcs;cases h;exact MY (hb _ _ rfl cs hcs)
  ·cases h
 |bsl e sz zs n ps=>
  simp only[aC]at h;split at h
  ·rename_i cs hcs;split at h
   ·cases h;exact C7 (hl _ _ _ _ _ rfl cs hcs)
   ·cases h
  ·cases h
 |load sz ag x=>
  have ht:=hx x (.inr (.inr (.inr (.inl ⟨_,_,rfl⟩))));simp only[aC]at h;split at h
  ·split at h
   ·rename_i cs hcs;simp only[av]at h;obtain⟨q,hq,hqe⟩:=h;cases hqe;exact ga (tQ (ho _ _ hcs) hq)
   ·cases h
  ·rename_i cs off tk e;rw[e]at ht;simp only[av]at h;obtain⟨q,hq,hqe⟩:=h;cases hqe;exact ga (tQ (ur ht) hq)
  ·cases h
 |store sz x y=>
  simp only[aC]at h;split at h
  ·split at h
   ·split at h<;>first|(cases h;rfl)|cases h
   ·cases h
  ·cases h
 |stx sz x y=>
  simp only[aC]at h;split at h
  ·split at h
   ·split at h<;>first|(cases h;rfl)|cases h
   ·cases h
  ·split at h<;>first|(cases h;rfl)|cases h
  ·cases h
 |callU f as=>exact absurd rfl (hc4 _ _)
 |nck x=>
  have ht:=hx x (.inr (.inr (.inr (.inr (.inl rfl)))));simp only[aC]at h;split at h<;>first|(rename_i e;cases h;rw[<-e];exact ht)|cases h
 |bin op x y=>
  simp only[aC,av]at h;obtain⟨q,hq,hqe⟩:=h;cases hqe;exact ga (HZ hq)
 |isnil neg x=>simp only[aC]at h;split at h<;>first|(cases h;rfl)|cases h
 |beq neg x y=>simp only[aC]at h;split at h<;>first|(cases h;rfl)|cases h
 |un op x=>
  simp only[aC,av]at h;obtain⟨q,hq,hqe⟩:=h;cases hqe;exact ga (Jp hq)
 |toInt k x=>simp only[aC]at h;split at h<;>first|(cases h;rfl)|cases h
 |s2s x=>simp only[aC]at h;split at h<;>first|(cases h;rfl)|cases h
 |ext x i=>
  have ht:=hx x (.inr (.inr (.inr (.inr (.inr (.inl ⟨_,rfl⟩))))));simp only[aC]at h;split at h
  ·rename_i vs e;rw[e]at ht;simp only[av]at h;obtain⟨q,hq,hqe⟩:=h;cases hqe;exact ga (j7 (Ll ht) hq)
  ·cases h
 |fad n x=>
  have ht:=hx x (.inr (.inr (.inr (.inr (.inr (.inr (.inl ⟨_,rfl⟩)))))));simp only[aC]at h;split at h
  ·cases h;rfl
  ·rename_i cs off tk e;rw[e]at ht;cases h;exact De (ur ht)
  ·cases h
 |fld n sz ag x=>
  have ht:=hx x (.inr (.inr (.inr (.inr (.inr (.inr (.inr (.inl ⟨_,_,_,rfl⟩))))))));simp only[aC]at h;split at h
  ·rename_i cs e;rw[e]at ht;simp only[av]at h;obtain⟨q,hq,hqe⟩:=h;cases hqe;exact ga (tQ (Lm ht) hq)
  ·cases h
 |iad sz x i=>
  have ht:=hx x (.inr (.inr (.inr (.inr (.inr (.inr (.inr (.inr (.inl ⟨_,_,rfl⟩)))))))));simp only[aC]at h;split at h
  ·rename_i e _;rw[e]at ht;split at h
   ·cases h;exact De (CF ht)
   ·cases h
  ·split at h<;>first|(cases h;rfl)|cases h
  ·cases h
 |sidx x i=>
  simp only[aC]at h;split at h
  ·split at h<;>first|(cases h;rfl)|cases h
  ·cases h
 |ssl x lo hi=>
  simp only[aC]at h;split at h
  ·split at h<;>first|(cases h;rfl)|cases h
  ·cases h
 |slc sz x lo hi=>
  have ht:=hx x (.inr (.inr (.inr (.inr (.inr (.inr (.inr (.inr (.inr ⟨_,_,_,rfl⟩)))))))));simp only[aC]at h;split at h
  ·rename_i e;rw[e]at ht;split at h
   ·split at h
    ·cases h;exact C7 (mP fun q hq=>gm (CF ht) (dv (eU hq)))
    ·cases h
   ·cases h
  ·cases h
 |mks e sz by' zs n c=>
  simp only[aC]at h;split at h
  ·split at h<;>first|(cases h;rfl)|cases h
  ·cases h
 |mk0 e sz by' n c=>
  simp only[aC]at h;split at h
  ·split at h<;>first|(cases h;rfl)|cases h
  ·cases h
 |slen x=>simp only[aC]at h;split at h<;>first|(cases h;rfl)|cases h
 |len x=>simp only[aC]at h;split at h<;>first|(cases h;rfl)|cases h
 |app e sz by' x y=>exact absurd rfl (ha _ _ _ _ _)
 |apc e sz by' x y=>exact absurd rfl (hc5 _ _ _ _ _)
 |b2s x=>
  simp only[aC]at h;split at h
  ·split at h
   ·split at h<;>first|(cases h;rfl)|cases h
   ·cases h
  ·cases h
 |mkfn f as=>
  simp only[aC]at h;split at h
  ·rename_i hb;cases h;exact hb
  ·cases h
 |mkmap=>simp only[aC]at h;split at h<;>first|(cases h;rfl)|cases h
 |mpset kk m k v=>
  simp only[aC]at h;split at h
  ·split at h
   ·split at h
    ·split at h<;>first|(cases h;rfl)|cases h
    ·cases h
   ·cases h
  ·cases h
 |mpget ok z kk m k=>exact absurd rfl (hc3 _ _ _ _ _)
 |mplen m=>
  simp only[aC]at h;split at h
  ·split at h<;>first|(cases h;rfl)|cases h
  ·cases h
 |call f as mv=>exact absurd rfl (hc1 _ _ _)
 |cval f as=>exact absurd rfl (hc2 _ _)
end
end Go.PM
