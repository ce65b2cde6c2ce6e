/- A part of the proof. Conditions: none. -/
import Derived.Test.YtdpamjikmlbmhaaGreatDoorPG
import Derived.Laws.IdiomCopy
import Derived.Laws.Externs
import Derived.Lib.AppendZerosOnto
import Derived.Test.YtdpamjikmlbmhaaGreatDoorProg
import Derived.WalkKit
import Derived.OwnWalk
import Derived.Lib.AppendZeros
import Derived.RegionTactic
import Derived.Deep.RegionLaw
import Derived.Laws.NewBlocks
import Derived.Shelf.LaysM
import Derived.Shelf.Strconv.Itoa4
import Derived.Shelf.LaysC
import Derived.Shelf.Strconv.ErrVarParseInt
import Derived.Lib.LaidTab
import Derived.KernelRfl
import Derived.Deep.Slices
import Derived.ChangeSame
import Derived.Lib.SmallJoins
import Derived.Test.YtdpamjikmlbmhaaGreatDoorRows
import Derived.Deep.DeepHandedRow
import Derived.WideKeyArgs
import Derived.Stop.LaidErr
import Derived.RowKit
set_option linter.all false
set_option maxHeartbeats 9999999
open Nat (reduceEqDiff reduceAdd reduceLeDiff reduceLT)
namespace Go.PM
variable {P:Program} {B:Nat->Nat->Option Value}
def mc(w:World)(dT sT ty elem:TypeId)(b o dLen dCap:Nat)(a:Addr)(sLen sCap sz:Nat)(cs:List Value)
  (hu:P.underlying dT=some (.slice elem)) (hs:(P.info? elem).map (·.size)=some sz) (hn:cs.length=Nat.min sLen dLen*sz)
  (hsrc:∀ j v,cs[j]? =some v->w.cell? (a.add j)=some v) (hc:∀ j,j<cs.length->(w.cell? ⟨b,o+j,none⟩).isSome=true) (hf:∀ j,j<cs.length->w.frozen? ⟨b,o+j,none⟩=false) (h1:∀ v∈cs,v.oneCell'=true):
  (Builtin.copy_ #[dT,sT] ty #[.slice (some ⟨b,o,none⟩) dLen dCap,.slice (some a) sLen sCap]).run P w= .ok (goInt (Nat.min sLen dLen)) (w.setCells b o cs):=by
 have hl:=run_loadCells_list (P:=P) w a cs hsrc;have hst:=run_storeCells_cells (P:=P) b o cs 0 w (by simpa using hc) (by simpa using hf) h1;cases hq:P.info? elem with
 |none=>simp[hq]at hs
 |some i=>
  have hi:i.size=sz:=by simpa [hq]using hs
  simp[Builtin.copy_,bm w hu,Builtin.lenOf,Builtin.firstCells,sizeOf,typeInfo,hq,hi,<-hn,hl,hst]
def sP(w:World)(tS tR e:TypeId)(ht:P.underlying tS=some (.slice e))(size:Nat)(hz:(P.info? e).map (·.size)=some size)
  (a b:Addr) (la ca lb cb:Nat) (hne:a.block≠b.block) {ra rb:Array Value} {ta tb:TypeId} {fa:Nat×Nat} (ha:w.heap[a.block]? =some (.cells ra ta fa)) (hb:w.heap[b.block]? =some (.cells rb tb (0,0))) (hka:ra.size≠0) (hk:rb.size≠0):
  (Extern.SlicesOverlaps.overlaps #[tS,tS] #[tR] #[.slice (some a) la ca,.slice (some b) lb cb]).run P w= .ok (.bool false) w:=by
 have hnb:(a.block !=b.block)=true:=by simpa using hne
 have hnb':(a.block==b.block)=false:=by simpa using hne
 have hsa:w.shape? a.block=some (ta,ra.size):=by simp[World.shape?,ha]
 have hsb:w.shape? b.block=some (tb,rb.size):=by simp[World.shape?,hb]
 have hfb:∀ o s,w.frozen? ⟨b.block,o,s⟩=false:=fun o s=>by simp[World.frozen?,hb]
 have hfb':w.frozen? b=false:=hfb b.off b.spot;cases hq:P.info? e with
 |none=>simp[hq]at hz
 |some i=>
  have hi:i.size=size:=by simpa [hq]using hz
  change Sem.run P (α:=Value) (do
   let some t:=(#[tS,tS]:Array TypeId)[0]?|stuck "slices.overlaps: no parameter types"
   let .slice elem<-underlying t|stuck "slices.overlaps: slice type expected"
   let size<-sizeOf elem
   match (some a:Option Addr),(some b:Option Addr)with
   |some a,some b=>
    if la=0\/lb=0\/size=0 then pure (Value.bool false)
    else if a.block !=b.block && (<-frozen a) && (<-frozen b)then unsupported .addressObserved
    else do
     if a.block !=b.block then do
      noView a;noView b
      if<-mayBeOne a b then return Value.bool ((<-choose (.extern "sameAddr.stringBytes" 2))==1)
     pure (Value.bool (a.block==b.block && a.off<b.off+lb*size && b.off<a.off+la*size))
   |_,_=>pure (Value.bool false)) w=_
  by_cases h0:la=0\/lb=0\/size=0
  ·simp[bm w ht,sizeOf,typeInfo,hq,hi,h0]
  ·obtain⟨k,hk'⟩:∃ k,rb.size=k+1:=⟨rb.size-1,by omega⟩;rw[hk']at hsb;obtain⟨ka,hka'⟩:∃ k,ra.size=k+1:=⟨ra.size-1,by omega⟩;rw[hka']at hsa;cases hfa:w.frozen? a with
   |true=>simp[bm w ht,sizeOf,typeInfo,hq,hi,h0,hnb,hnb',frozen,noView,viewAt,mayBeOne,stringish,shape,Sem.run,hsa,hsb,hfa,hfb]
   |false=>
    cases hfe:w.frozen? ⟨a.block,ka+1,none⟩with
    |true=>simp[bm w ht,sizeOf,typeInfo,hq,hi,h0,hnb,hnb',frozen,noView,viewAt,mayBeOne,stringish,shape,Sem.run,hsa,hsb,hfa,hfe,hfb]
    |false=>simp[bm w ht,sizeOf,typeInfo,hq,hi,h0,hnb,hnb',frozen,noView,viewAt,mayBeOne,stringish,shape,Sem.run,hsa,hsb,hfa,hfe,hfb]
def il(w:World)(b:Nat)(x y:Array Value):(w.setRow b x).setRow b y=w.setRow b y:=by
 unfold World.setRow;congr 1;apply nD;intro i;simp only[jB];by_cases h:b=i
 ·subst h;simp only[if_true];cases w.heap[b]? with
  |none=>rfl
  |some o=>cases o<;>rfl
 ·simp only[ad h]
def Hl(w:World)(b:Nat){x:Array Value}{e f}(h:w.heap[b]? =some (.cells x e f)):w.setRow b x=w:=by
 obtain⟨hp,t,d,os,out⟩:=w;simp only[World.setRow];congr 1;apply nD;intro i;simp only[jB];by_cases hi:b=i
 ·subst hi;rw[ak rfl];simp only at h;rw[h];rfl
 ·rw[ad hi]
def DY(w:World)(b o:Nat)(v:Value){x:Array Value}{e f}(h:w.heap[b]? =some (.cells x e f)):w.setCell ⟨b,o,none⟩ v=w.setRow b (x.setIfInBounds o v):=by
 unfold World.setCell World.setRow;congr 1;apply nD;intro i;simp only[jB];by_cases hi:b=i
 ·subst hi;rw[ak rfl,ak rfl,h];rfl
 ·rw[ad hi,ad hi]
def fh(b:Nat){e f}:∀ (vs:List Value) (o:Nat) (w:World) (x:List Value),w.heap[b]? =some (.cells x.toArray e f)->o+vs.length<=x.length->w.setCells b o vs=w.setRow b (x.take o++vs++x.drop (o+vs.length)).toArray
 | [],o,w,x,h,_=>by rw[World.setCells,aD,aO,bi,dn,Hl w b h]
 |v::vs,o,w,x,h,hl=>by
  simp only[au]at hl;have h1:=DY w b o v h;have h2:=setRow_heap w b _ (x.toArray.setIfInBounds o v) e f h;rw[World.setCells,h1];have h3:x.toArray.setIfInBounds o v=(x.set o v).toArray:=by simp
  rw[h3]at h2 ⊢;rw[fh b vs (o+1) _ _ h2 (by simp;omega),il];congr 2;rw[List.drop_set_of_lt (by omega),List.take_set,au,show o+1+vs.length=o+(vs.length+1) by omega];congr 1;rw[aW (by omega),List.set_append_right _ _ (by simp;omega),aG,fB (by omega)];simp
def Rs.take{G:Gh}{cs:List PV}{us:List Value}(h:Rs G cs us)(k:Nat):Rs G (cs.take k) (us.take k):=by
 obtain⟨h1,h2,h3⟩:=h;refine⟨by simp[h1],fun j p u hp hu=>?_,fun u hu=>h3 u (eV hu)⟩;rw[nB]at hp hu;split at hp
 ·rename_i hj;rw[ak hj]at hu;exact h2 j p u hp hu
 ·cases hp
def Rs.drop{G:Gh}{cs:List PV}{us:List Value}(h:Rs G cs us)(k:Nat):Rs G (cs.drop k) (us.drop k):=by
 obtain⟨h1,h2,h3⟩:=h;refine⟨by simp[h1],fun j p u hp hu=>?_,fun u hu=>h3 u (cW hu)⟩;rw[d5]at hp hu;exact h2 _ p u hp hu
def rT{cs ds:List PV}(h:aI cs=true)(hs:∀ p∈ds,p∈cs):aI ds=true:=lS fun p hp=>fm h (hs p hp)
def z6{K:Nat->Bool}{cs:List PV}:∀ {ds:List PV},dw K cs=true->(∀ p∈ds,p∈cs)->dw K ds=true
 | [],_,_=>rfl
 |d::ds,h,hs=>by
  simp only[dw,ae];refine⟨?_,z6 h fun p hp=>hs p (bU _ hp)⟩;obtain⟨j,hj⟩:=List.mem_iff_getElem?.1 (hs d List.mem_cons_self);exact kK h hj
def z7{K:Nat->Bool}:∀ {cs ds:List PV},dw K cs=true->dw K ds=true->dw K (cs++ds)=true
 | [],_,_,h=>h
 |c::cs,ds,h,k=>by
  simp only[dw,ae]at h;simp only[a8,dw,ae];exact⟨h.1,z7 h.2 k⟩
section
variable {G:Gh} {st:St} {w w':World}
def bz.below(hI:bz P B G st w)(hs:w.heap.size<=w'.heap.size)(hb:∀ b,b<w.heap.size->w'.heap[b]? =w.heap[b]?)(he:w'.os=w.os/\w'.output=w.output):bz P B G st w'/\cu G w G w':=by
 have lt_of:∀ {b:Nat} {o:Obj},w.heap[b]? =some o->b<w.heap.size:=fun h=>(aP.1 h).1;have hsh:=hI.sh;refine⟨⟨fun b o v h=>?_,fun b e k h=>?_,hI.nx,hI.cnt,hI.live,hI.room,hI.apart,hI.priv,fun s cs h=>?_,fun s b h=>?_,hI.obj,hI.nob,hI.npo,fun b k h=>?_,fun b h=>?_,hI.base,fun s b e sz h1 h2=>?_,
  fun s es h=>?_,fun s b h=>?_,hI.mbi,hI.nomb,hI.obx,hI.ful⟩,⟨rD.refl G,hs,fun b hb' _ _ _=>hb b hb',fun s b h=> .inl ⟨s,h⟩,fun t r h=> .inl ⟨t,r,h,rfl⟩,fun _ _ _ h=> .inl h,fun _ _ h=> .inl h,fun _ k h=> .inl ⟨k,h⟩,fun s b h=> .inl ⟨s,h⟩,he⟩⟩
 ·have hc:=hI.com b o v h;rw[World.cell?_of_block (hb b (World.block_lt_of_cell? w _ hc))];exact hc
 ·obtain⟨c,h1,h2⟩:=hI.sh b e k h;exact⟨c,by rw[hb b (lt_of h1)];exact h1,h2⟩
 ·obtain⟨b,e,vs,h1,h2,h3⟩:=hI.objs s cs h;exact⟨b,e,vs,h1,by rw[hb b (lt_of h2)];exact h2,h3⟩
 ·obtain⟨h1,h2⟩:=hI.obs s b h;exact⟨by omega,h2⟩
 ·have:=hI.pvl b k h;omega
 ·have:=hI.xpl b h;omega
 ·obtain⟨h3,c,h4⟩:=hI.oes s b e sz h1 h2;exact⟨h3,c,by rw[hb b (lt_of h4)];exact h4⟩
 ·obtain⟨b,vs,clk,h1,h2,h3⟩:=hI.mobj s es h;exact⟨b,vs,clk,h1,by rw[hb b (lt_of h2)];exact h2,h3⟩
 ·obtain⟨vs,clk,h1⟩:=hI.mbs s b h;exact⟨vs,clk,by rw[hb b (lt_of h1)];exact h1⟩
def cu.heap{G':Gh}{w2 w3:World}(hS:cu G w G' w2)(h:w3.heap=w2.heap)(he:w3.os=w2.os/\w3.output=w2.output):cu G w G' w3:=
 ⟨hS.le,by rw[h];exact hS.size,fun b hb ho ht hm=>by rw[h];exact hS.kept b hb ho ht hm,hS.nearO,hS.nearT,hS.nearC,hS.nearS,hS.nearP,hS.nearM,⟨he.1.trans hS.eff.1,he.2.trans hS.eff.2⟩⟩
def vL(n m:Nat)(ns:List Nat):(bn (n::ns) []).count 0 m=bn (m::ns) []:=by
 unfold St.count bn;congr 1;funext t;cases t with
 |zero=>simp
 |succ t=>simp
def Hh(u:jX)(ns:List Nat):{bn ns []with objs:=pU u (bn ns []).objs,maps:=rz u (bn ns []).maps}=bn ns []:=by
 unfold bn pU rz;congr 1
def w5{n i e sz:Nat}{ns:List Nat}{cs ds:List PV}{us vs rest:List Value}{b1 cap1:Nat}{w1 w2:World}{G1:Gh}
  (hR:R G1 (.list (n+1) (cs++ds) (.own 0 e)) (.slice (some ⟨b1,0,none⟩) (n+1) cap1)) (hI:bz P B G1 (bn ((n+1)::ns) []) w1)
  (hcs:cs.length=n*sz) (hds:ds.length=sz) (hul:us.length=n*sz) (hvl:vs.length=sz) (hi:i<=n) (hrow:w1.heap[b1]? =some (.cells (us++vs++rest).toArray e (0,0)))
  (ht1:dw ([0].contains ·) cs=true) (ht2:dw ([0].contains ·) ds=true) (hn1:aI cs=true) (hn2:aI ds=true)
  (hw2:w2.heap=(w1.setRow b1 (us.take (i*sz)++vs++us.drop (i*sz)++rest).toArray).heap) (he2:w2.os=w1.os/\w2.output=w1.output):
  ∃ G2,R G2 (.list (n+1) (cs.take (i*sz)++ds++cs.drop (i*sz)) (.own 0 e)) (.slice (some ⟨b1,0,none⟩) (n+1) cap1)/\bz P B G2 (bn ((n+1)::ns) []) w2/\cu G1 w1 G2 w2/\G2.bx=G1.bx:=by
 cases hR with
 |list _ _ _ _ _ cap us1 hn hl hc hr h1 htr hp hx=>
 obtain⟨x,hx0⟩:=hI.live 0 (by simp[bn]);have hcnt:=(hI.cnt 0 x hx0).2;have hxn:x.cnt=n+1:=by rw[<-hcnt];simp[bn]
 obtain⟨_,htr⟩:=htr;obtain⟨h3,h4⟩:=htr x hx0;have h4:=h4 hxn.symm;cases x with
 |full m=>have:=hI.ful 0 m hx0;simp only[mi.cnt]at hxn;omega
 |room r=>
 obtain⟨hrb,_,hrc,hre,hrl⟩:=h4;have hrm:r.m=n+1:=hxn;obtain⟨hsh,_,_,hrs,_,_⟩:=hI.room 0 r hx0;have hus1:us1.length=n*sz+sz:=by rw[<-hl,af,hcs,hds]
 have hsz:us1.length=r.m*r.sz:=by rw[hrl,hrm]
 have hcel:∀ j (v:Value),us1[j]? =some v->(us++vs++rest)[j]? =some v:=fun j v hj=>by
  have:=hI.com _ _ _ (hc j v hj);simpa [World.cell?,hrow]using this
 have heq:us1=us++vs:=by
  apply fR;intro j;by_cases hj:j<us1.length
  ·have:=hcel j us1[j] (ax hj);rw[bL (by rw[af];omega)]at this;rw[this];exact ax hj
  ·rw[bB (by omega),bB (by rw[af];omega)]
 subst heq;have hRs:Rs G1 (cs++ds) (us++vs):=⟨hl,hr,h1⟩;have hR1:Rs G1 cs us:=by
  have:=hRs.take (n*sz);rwa [<-hcs,gZ,hcs,<-hul,gZ]at this
 have hR2:Rs G1 ds vs:=by
  have:=hRs.drop (n*sz);rwa [<-hcs,fe,hcs,<-hul,fe]at this
 have hds':Rs G1 (cs.take (i*sz)++ds++cs.drop (i*sz)) (us.take (i*sz)++vs++us.drop (i*sz)):=((hR1.take _).append hR2).append (hR1.drop _);have hisz:i*sz<=n*sz:=eU _ hi;have hlen':(us.take (i*sz)++vs++us.drop (i*sz)).length=(us++vs).length:=by simp only[af,aG,aU];omega
 have hlenc:(cs.take (i*sz)++ds++cs.drop (i*sz)).length=(cs++ds).length:=by simp only[af,aG,aU];omega
 have hsub:∀ p∈cs.take (i*sz)++ds++cs.drop (i*sz),p∈cs++ds:=fun p hp=>by
  simp only[ay]at hp ⊢;rcases hp with(h|h)|h
  ·exact .inl (eV h)
  ·exact .inr h
  ·exact .inl (cW h)
 have hta:dw ([0].contains ·) (cs++ds)=true:=by
  exact z7 ht1 ht2
 have hna:aI (cs++ds)=true:=io hn1 hn2;subst hrb;have hfl:(bn ((n+1)::ns) []).fl<=0:=aE _;have hpk:=hI.poke (k:=0) (e:=e) (off:=0) hx0 (by omega) hre hfl hRs hds' (by rw[hsz]) (fun j u hj=>by have:=hc j u hj;rwa [aq]at this) (by rw[hlen'];omega) hta (z6 hta hsub) hna (rT hna hsub) (by rw[hre];exact hrow);obtain⟨hI2,hS2,hst2,_⟩:=hpk;rw[Hh]at hI2;have hwr:(us++vs++rest).toArray.toList.take 0++(us.take (i*sz)++vs++us.drop (i*sz))++(us++vs++rest).toArray.toList.drop (0+(us.take (i*sz)++vs++us.drop (i*sz)).length)=us.take (i*sz)++vs++us.drop (i*sz)++rest:=by
  rw[hlen',aq];simp
 rw[hwr]at hI2 hS2;refine⟨_,?_,hI2.drawn hw2,hS2.heap hw2 he2,rfl⟩;have:=hst2 _ _ (R.list (n+1) (cs++ds) (.own 0 e) r.b 0 cap1 (us++vs) hn hl hc hr h1 ⟨by assumption,fun y hy=>by rw[hx0]at hy;cases hy;exact⟨h3,fun _=>⟨rfl,rfl,hrc,hre,hrl⟩⟩⟩ hp hx);rw[fJ]at this;simp only[gT,aB.isOwn,hrm,kw,ap,if_true]at this;rwa [iK hlenc]at this
end
end Go.PM
namespace Go.PM
open Go Go.Proofs
def r7:Tryz.prog.underlying 29=some (.slice 72):=by kernel_rfl
def Bk:(Tryz.prog.info? 72).map (·.size)=some 3:=by kernel_rfl
def jb{P:Program}(w:World){ops:Array Oper}{rest:List Oper}{o:Oper}{a:Act}{Q:Exit->Act->World->Prop}(hgd:o.guard=none)(d s:Operand)(t t':TypeId)
  (ho:o.op= .call {callee:= .builtin .copy,args:= #[d,s],argTypes:= #[t,t']}) (v u:Value) (hd:a.eval d=v) (hs:a.eval s=u) {v':Value} {w':World}
  (hr:(Builtin.copy_ #[t,t'] o.type #[v,u]).run P w= .ok v' w') (h:wpList P ops Q rest (a.put o.dst v') w'):wpList P ops Q (o::rest) a w:=
 wpList_plain hgd fun _ hK=>by
  unfold Oper.wp execOp;simp only[ho,resolve,invoke,builtin,Sem.run_bind,Sem.run_pure,dd,List.map_toArray,aH,bM,hd,hs,hr];exact hK _ _ h
set_option maxRecDepth 100000 in
def Aq(base:Option Addr)(n c vc:Nat)(va:Addr)(w w':World)(r:Value)(hnc:n<=c)(hc:c<=9223372036854775807)(hn:base=none->n=0)
  (hrun:∀ ty,(Builtin.append_ #[29,29] ty #[.slice base n c,.slice (some va) 1 vc]).run Tryz.prog w= .ok r w'):
  Calls Tryz.prog 128 #[.slice base n c,.int .i64 n,.slice (some va) 1 vc] w fun e w1=>e= .returned r/\w1=w':=by
 go_enter Tryz.func128,Tryz.ntmps128;cases base with
 |none=>
  have h0:=hn rfl;subst h0
  go_wp2_with (at_builtin;refine Lib.wpList_append_run _ rfl _ _ _ _ rfl _ _ rfl rfl _ _ (hrun _) ?_)
  go_ret;exact⟨rfl,rfl⟩
 |some a=>
  obtain⟨ab,ao,asp⟩:=a
  go_wp2_with (at_builtin;refine Lib.wpList_append_run _ rfl _ _ _ _ rfl _ _ rfl rfl _ _ (hrun _) ?_)
  all_goals (go_ret;exact⟨rfl,rfl⟩)
def nF{P:Program}{ops:Array Oper}{o:Oper}{a:Act}{w:World}{K:Act->World->Prop}{Q:Exit->Act->World->Prop}{E:Prop}
  (hg:o.guard=none) (d x:Operand) (dT sT:TypeId) (hop:o.op=Op.call {callee:=Callee.builtin Builtin.copy,args:= #[d,x],argTypes:= #[dT,sT]})
  (v u:Value) (hd:a.eval d=v) (hx:a.eval x=u) {v':Value} {w':World} (hr:(Builtin.copy_ #[dT,sT] o.type #[v,u]).run P w= .ok v' w') (hK:K (a.put o.dst v') w'):
  if Region.wanted o (yielded ops a.tmps)=true then Oper.wp P o a w K Q else E:=by
 have hw:Region.wanted o (yielded ops a.tmps)=true:=by simp[Region.wanted,hg]
 rw[ak hw];unfold Oper.wp;simp[execOp,hop,resolve,invoke,builtin,hd,hx,hr,Result.andThen];exact hK
def kL(b:Nat)(vs:List Value)(o:Nat)(w:World)(h:∀ j,j<vs.length->(w.cell? ⟨b,o+j,none⟩).isSome=true)(k:Nat)(hk:(w.cell? ⟨b,k,none⟩).isSome=true):((w.setCells b o vs).cell? ⟨b,k,none⟩).isSome=true:=by
 by_cases hin:o<=k/\k<o+vs.length
 ·have:=World.cell?_setCells_in b vs o w h (k-o) (by omega);rw[show o+(k-o)=k by omega]at this;rw[this];rfl
 ·rw[World.cell?_setCells_out b vs o w ⟨b,k,none⟩ (fun _ _=>by show k<o\/o+vs.length<=k;omega)];exact hk
set_option maxRecDepth 100000 in
def J2(b n c i vb voff vc:Nat)(us vs:List Value)(w:World)(hi:i<n)(hroom:n+1<=c)(hc63:c<=9223372036854775807)(hvb:vb≠b)
  (hul:us.length=n*3) (hvl:vs.length=3)
  (hus:∀ (j:Nat) v,us[j]? =some v->w.cell? ⟨b,j,none⟩=some v) (hsp:∀ j,j<n*3+3->(w.cell? ⟨b,j,none⟩).isSome=true) (hfz:∀ j,w.frozen? ⟨b,j,none⟩=false)
  (hvs:∀ (j:Nat) v,vs[j]? =some v->w.cell? ⟨vb,voff+j,none⟩=some v) (h1u:∀ v∈us,v.oneCell'=true) (h1v:∀ v∈vs,v.oneCell'=true)
  (hov:∀ o lb cb,(callFunc 174 #[.slice (some ⟨vb,voff,none⟩) 1 vc,.slice (some ⟨b,o,none⟩) lb cb]).run Tryz.prog w= .ok (.value (.bool false)) w):
  Calls Tryz.prog 128 #[.slice (some ⟨b,0,none⟩) n c,.int .i64 i,.slice (some ⟨vb,voff,none⟩) 1 vc] w fun e w'=>
   e= .returned (.slice (some ⟨b,0,none⟩) (n+1) c)/\w'=(w.drew.setCells b (i*3+3) (us.drop (i*3))).setCells b (i*3) vs:=by
 have hdl:(us.drop (i*3)).length=n*3-i*3:=by rw[aU,hul]
 have hz2:¬ ((i:Int)=(n:Int)):=by omega
 have hw1:IntKind.i64.wrap ((i:Int)+1)=(i:Int)+1:=by rw[jf];omega
 have hb1:(0:Int)<=(i:Int)+1:=by omega
 have hin:i<=n:=by omega
 have htn:((i:Int)+1).toNat=i+1:=by omega
 have hb2:¬ (c=i+1):=by omega
 have hb3:(i:Int)<=(n:Int)+1:=by omega
 have hb4:¬ (c=i):=by omega
 have hm1:Nat.min (n+1-i) (n-i)=n-i:=Nat.min_eq_right (by omega);have hm2:Nat.min 1 (n+1-i)=1:=fB (by omega);have hmin:Nat.min (n+1-i) (n-i) *3=n*3-i*3:=by rw[hm1];omega
 have hcp1:∀ ty dc sc,(Builtin.copy_ #[29,29] ty #[.slice (some ⟨b,i*3+3,none⟩) (n-i) dc,.slice (some ⟨b,i*3,none⟩) (n+1-i) sc]).run Tryz.prog w.drew= .ok (goInt (Nat.min (n+1-i) (n-i))) (w.drew.setCells b (i*3+3) (us.drop (i*3))):=fun ty dc sc=>
  mc w.drew 29 29 ty 72 b (i*3+3) (n-i) dc ⟨b,i*3,none⟩ (n+1-i) sc 3 (us.drop (i*3)) r7 Bk (by rw[hdl,hmin])
   (fun j v hj=>by rw[Addr.add_lit];exact hus _ v (by rwa [d5]at hj))
   (fun j hj=>hsp _ (by omega)) (fun j hj=>hfz _) (fun v hv=>h1u v (cW hv))
 obtain⟨W1,hW1⟩:∃ W1,W1=w.drew.setCells b (i*3+3) (us.drop (i*3)):=⟨_,rfl⟩;have hsp1:∀ k,k<n*3+3->(W1.cell? ⟨b,k,none⟩).isSome=true:=fun k hk=>by
  rw[hW1];exact kL b (us.drop (i*3)) (i*3+3) w.drew (fun j hj=>hsp _ (by omega)) k (hsp k hk)
 have hcp2:∀ (W:World),(∀ x,W.cell? x=W1.cell? x)->(∀ x,W.frozen? x=W1.frozen? x)->∀ ty dc,(Builtin.copy_ #[29,29] ty #[.slice (some ⟨b,i*3,none⟩) (n+1-i) dc,.slice (some ⟨vb,voff,none⟩) 1 vc]).run Tryz.prog W= .ok (goInt (Nat.min 1 (n+1-i))) (W.setCells b (i*3) vs):=fun W hWc hWf ty dc=>
  mc W 29 29 ty 72 b (i*3) (n+1-i) dc ⟨vb,voff,none⟩ 1 vc 3 vs r7 Bk (by rw[hvl,hm2])
   (fun j v hj=>by
    rw[Addr.add_lit,hWc,hW1,World.cell?_setCells_out b _ _ _ _ (fun h _=>absurd h hvb)];exact hvs j v hj)
   (fun j hj=>by rw[hWc];exact hsp1 _ (by omega)) (fun j hj=>by rw[hWf,hW1,World.frozen?_setCells];exact hfz _) h1v
 rw[<-hW1]at hcp1;have h13:(i+1) *3=i*3+3:=by omega
 clear hmin hm1 hm2 hul hvl hus hvs h1u h1v hsp hdl;go_enter Tryz.func128,Tryz.ntmps128
 go_wp2_with (simp only[hov])
 go_region_law (refine nF rfl _ _ 29 29 rfl _ _ (by simp[Act.eval,Act.put]) (by simp[Act.eval,Act.put]) (hcp1 _ _ _) ?_)
 go_wp2_with (at_builtin;refine jb _ rfl _ _ 29 29 rfl _ _ rfl rfl (hcp2 _ (fun _=>rfl) (fun _=>rfl) _ _) ?_)
 go_ret
 first|exact⟨rfl,rfl⟩|exact⟨rfl,by rw[hW1]⟩
set_option maxRecDepth 100000 in
def J5(b n c i vb voff vc:Nat)(us vs zc:List Value)(w:World)(hi:i<n)(hnc:n<=c)(hroom:c<n+1)(hbig:n<=10000000)(hvb:vb<w.heap.size)
  (hul:us.length=n*3) (hvl:vs.length=3)
  (hus:∀ (j:Nat) v,us[j]? =some v->w.cell? ⟨b,j,none⟩=some v)
  (hvs:∀ (j:Nat) v,vs[j]? =some v->w.cell? ⟨vb,voff+j,none⟩=some v) (h1u:∀ v∈us,v.oneCell'=true) (h1v:∀ v∈vs,v.oneCell'=true)
  {i0:TypeInfo} {z:Value} (hi0:Tryz.prog.info? 72=some i0) (hz0:i0.zero=some z) (hzs:i0.size=3) (hzb:i0.bytes=56) (hzc:z.cells.size=3):
  Calls Tryz.prog 128 #[.slice (some ⟨b,0,none⟩) n c,.int .i64 i,.slice (some ⟨vb,voff,none⟩) 1 vc] w fun e w'=>
   e= .returned (.slice (some ⟨w.heap.size,0,none⟩) (n+1) (grownCap w (n+1) c 72))/\
   w'=(((w.alloc (.cells ((us.take (i*3)).toArray++Builtin.zeroCells z.cells (n+1-i)++Builtin.zeroCells z.cells (grownCap w (n+1) c 72- (n+1))) 72)).drew.setCells w.heap.size (i*3) vs).drew).setCells w.heap.size (i*3+3) (us.drop (i*3)):=by
 have hz2:¬ ((i:Int)=(n:Int)):=by omega
 have hz3:(c:Int)<(n:Int)+1:=by omega
 have hbw:b<w.heap.size:=block_lt_of_cell (hus 0 _ (ax (by omega)));have hkk:(n:Int)+1- (i:Int)=((n+1-i:Nat):Int):=by omega
 have hik:i+(n+1-i)=n+1:=by omega
 have hold:(Builtin.firstCells i0.size i (.slice (some ⟨b,0,none⟩) i c)).run Tryz.prog w.drew= .ok (us.take (i*3)).toArray w.drew:=by
  rw[hzs];exact run_firstCells_some w.drew 3 i ⟨b,0,none⟩ i c (us.take (i*3)) (by rw[aG];omega) (fun j v hj=>by
   rw[Addr.add_lit];rw[nB]at hj;split at hj
   ·rw[aq];exact hus j v hj
   ·cases hj)
 have hrz:∀ ty,(Builtin.append_ #[29,3] ty #[.slice (some ⟨b,0,none⟩) i c,.int .i64 ((n:Int)+1- (i:Int))]).run Tryz.prog w=
   .ok (.slice (some ⟨w.heap.size,0,none⟩) (n+1) (grownCap w (n+1) c 72)) (w.drew.alloc (.cells ((us.take (i*3)).toArray++Builtin.zeroCells z.cells (n+1-i)++Builtin.zeroCells z.cells (grownCap w (n+1) c 72- (n+1))) 72)):=fun ty=>by
  have h:=Lib.run_append_grow_zeros w 29 3 ty 72 i0 _ .i64 .i64 r7 (by kernel_rfl) hi0 hz0 (some ⟨b,0,none⟩) i c (us.take (i*3)) hold (n+1-i) (by omega) (by omega) (by omega) (by omega) (by rw[hzb];omega) (by rw[hzb,hik];exact growslice_fits hroom (by omega));rw[hik]at h;rw[hkk];exact h
 obtain⟨G,hG⟩:∃ G,G=grownCap w (n+1) c 72:=⟨_,rfl⟩;obtain⟨ROW,hROW⟩:∃ ROW:Array Value,ROW=(us.take (i*3)).toArray++Builtin.zeroCells z.cells (n+1-i)++Builtin.zeroCells z.cells (G- (n+1)):=⟨_,rfl⟩;rw[<-hG]at hrz ⊢;rw[<-hROW]at hrz ⊢;have hRl:n*3+3<=ROW.size:=by
  rw[hROW];simp only[Array.size_append,size_zeroCells,hzc,jH,aG,hul];omega
 obtain⟨W1,hW1⟩:∃ W1,W1=w.drew.alloc (.cells ROW 72):=⟨_,rfl⟩;rw[<-hW1]at hrz;have hN:∀ j,j<n*3+3->(W1.cell? ⟨w.heap.size,j,none⟩).isSome=true:=fun j hj=>by
  rw[hW1,World.cell?_alloc_at (w:=w.drew) ROW _ w.heap.size j rfl,gB (by omega)];rfl
 have hNf:∀ j,W1.frozen? ⟨w.heap.size,j,none⟩=false:=fun j=>by rw[hW1];exact World.frozen?_alloc_at (w:=w.drew) ROW _ w.heap.size j rfl
 have hOb:∀ j v,w.cell? ⟨b,j,none⟩=some v->W1.cell? ⟨b,j,none⟩=some v:=fun j v h=>by rw[hW1,World.cell?_alloc_past (w:=w.drew) _ b j hbw];exact h
 have hOv:∀ j v,w.cell? ⟨vb,j,none⟩=some v->W1.cell? ⟨vb,j,none⟩=some v:=fun j v h=>by rw[hW1,World.cell?_alloc_past (w:=w.drew) _ vb j hvb];exact h
 have hm2:Nat.min 1 (n+1-i)=1:=fB (by omega);have hm1:Nat.min (n-i) (n-i)=n-i:=Nat.min_self _;have hcpA:∀ (W:World),(∀ x,W.cell? x=W1.cell? x)->(∀ x,W.frozen? x=W1.frozen? x)->∀ ty dc,(Builtin.copy_ #[29,29] ty #[.slice (some ⟨w.heap.size,i*3,none⟩) (n+1-i) dc,.slice (some ⟨vb,voff,none⟩) 1 vc]).run Tryz.prog W= .ok (goInt (Nat.min 1 (n+1-i))) (W.setCells w.heap.size (i*3) vs):=fun W hWc hWf ty dc=>
  mc W 29 29 ty 72 w.heap.size (i*3) (n+1-i) dc ⟨vb,voff,none⟩ 1 vc 3 vs r7 Bk (by rw[hvl,hm2])
   (fun j v hj=>by rw[Addr.add_lit,hWc];exact hOv _ v (hvs j v hj))
   (fun j hj=>by rw[hWc];exact hN _ (by omega)) (fun j hj=>by rw[hWf];exact hNf _) h1v
 have hGn:n+1<=G:=by rw[hG];exact grownCap_ge w _ _ _
 have hG63:G<=9223372036854775807:=by
  have:=grownCap_le_maxLen w (n+1) c 72 (by unfold maxLen;omega);rw[<-hG]at this;unfold maxLen at this;omega
 have hGi:¬ (G=i):=by omega
 have hGim:¬ (G=i+1):=by omega
 have hci:¬ (c=i):=by omega
 have hbN:b≠w.heap.size:=by omega
 have hdl:(us.drop (i*3)).length=n*3-i*3:=by rw[aU,hul]
 have hcpB:∀ (W:World),(∀ x,W.cell? x=(W1.setCells w.heap.size (i*3) vs).cell? x)->(∀ x,W.frozen? x=(W1.setCells w.heap.size (i*3) vs).frozen? x)->∀ ty dc sc,(Builtin.copy_ #[29,29] ty #[.slice (some ⟨w.heap.size,i*3+3,none⟩) (n-i) dc,.slice (some ⟨b,i*3,none⟩) (n-i) sc]).run Tryz.prog W= .ok (goInt (Nat.min (n-i) (n-i))) (W.setCells w.heap.size (i*3+3) (us.drop (i*3))):=fun W hWc hWf ty dc sc=>
  mc W 29 29 ty 72 w.heap.size (i*3+3) (n-i) dc ⟨b,i*3,none⟩ (n-i) sc 3 (us.drop (i*3)) r7 Bk (by rw[hdl,hm1];omega)
   (fun j v hj=>by
    rw[Addr.add_lit,hWc,World.cell?_setCells_out _ _ _ _ _ (fun h _=>absurd h hbN)];exact hOb _ v (hus _ v (by rwa [d5]at hj)))
   (fun j hj=>by rw[hWc];exact kL w.heap.size vs (i*3) W1 (fun t ht=>hN _ (by omega)) _ (hN _ (by omega)))
   (fun j hj=>by rw[hWf,World.frozen?_setCells];exact hNf _) (fun v hv=>h1u v (cW hv))
 subst hW1;have hE1:∀ x,((w.alloc (.cells ROW 72)).drew).cell? x=(w.drew.alloc (.cells ROW 72)).cell? x:=fun x=>rfl;have hE2:∀ x,((w.alloc (.cells ROW 72)).drew).frozen? x=(w.drew.alloc (.cells ROW 72)).frozen? x:=fun x=>rfl;have hF1:∀ x,(((w.alloc (.cells ROW 72)).drew.setCells w.heap.size (i*3) vs).drew).cell? x=((w.drew.alloc (.cells ROW 72)).setCells w.heap.size (i*3) vs).cell? x:=fun x=>rfl;have hF2:∀ x,(((w.alloc (.cells ROW 72)).drew.setCells w.heap.size (i*3) vs).drew).frozen? x=((w.drew.alloc (.cells ROW 72)).setCells w.heap.size (i*3) vs).frozen? x:=fun x=>rfl;have hw1:IntKind.i64.wrap ((i:Int)+1)=(i:Int)+1:=by rw[jf];omega
 have hb1:(0:Int)<=(i:Int)+1:=by omega
 have hin:i<=n:=by omega
 have htn:((i:Int)+1).toNat=i+1:=by omega
 have hb3:(i:Int)<=(n:Int):=by omega
 have h13:(i+1) *3=i*3+3:=by omega
 clear hkk hik hold hROW hG hRl hm1 hm2 hul hvl hus hvs h1u h1v hN hNf hOb hOv hdl hzs hzb hzc hz0 hi0;go_enter Tryz.func128,Tryz.ntmps128
 go_wp2_with (first
  |(at_builtin;refine Lib.wpList_append_run _ rfl _ _ _ _ rfl _ _ rfl rfl _ _ (hrz _) ?_)
  |(at_builtin;refine jb _ rfl _ _ 29 29 rfl _ _ rfl rfl (hcpA _ hE1 hE2 _ _) ?_)
  |(at_builtin;refine jb _ rfl _ _ 29 29 rfl _ _ rfl rfl (hcpB _ (fun _=>rfl) (fun _=>rfl) _ _ _) ?_))
 go_region_law (refine nF rfl _ _ 29 29 rfl (.slice (some ⟨w.heap.size,i*3+3,none⟩) (n-i) (G- (i+1))) (.slice (some ⟨b,i*3,none⟩) (n-i) (c-i)) (by simp[Act.eval,Act.put]) (by simp[Act.eval,Act.put]) (hcpB _ hF1 hF2 3 (G- (i+1)) (c-i)) ?_)
 go_wp2;go_ret;exact⟨rfl,rfl⟩
end Go.PM
namespace Go.Proofs
open Go.Shelf Go.PM
def Tryz.laysM173_ren:Go.Shelf.Ren:=⟨fun|173=>135|246=>177|283=>194|284=>195|285=>196|286=>197|129=>146|317=>205|318=>206|319=>207|320=>208|337=>229|338=>230|n=>n,fun|2=>2|3=>3|9=>9|4=>4|171=>212|0=>0|53=>170|37=>134|5=>5|173=>214|212=>232|51=>168|20=>20|213=>233|46=>138|232=>255|233=>256|n=>n,fun|17=>0|18=>1|19=>2|n=>n⟩
def Tryz.laysM173:Go.Proofs.LaysM.n173 Tryz.prog Tryz.laysM173_ren:={
 mixed:=by kernel_rfl
 f129:=Tryz.func146.trans (bq some (by kernel_rfl))
 f173:=Tryz.func135.trans (bq some (by kernel_rfl))
 f246:=Tryz.func177.trans (bq some (by kernel_rfl))
 f283:=Tryz.func194.trans (bq some (by kernel_rfl))
 f284:=Tryz.func195.trans (bq some (by kernel_rfl))
 f285:=Tryz.func196.trans (bq some (by kernel_rfl))
 f286:=Tryz.func197.trans (bq some (by kernel_rfl))
 f317:=Tryz.func205.trans (bq some (by kernel_rfl))
 f318:=Tryz.func206.trans (bq some (by kernel_rfl))
 f319:=Tryz.func207.trans (bq some (by kernel_rfl))
 f320:=Tryz.func208.trans (bq some (by kernel_rfl))
 f337:=Tryz.func229.trans (bq some (by kernel_rfl))
 f338:=Tryz.func230.trans (bq some (by kernel_rfl))
 t0:=Tryz.underlying0
 a0:=Tryz.isAgg0
 z0:=Tryz.sizeOf0
 v0:=Tryz.zeroValue0
 t2:=Tryz.underlying2
 a2:=Tryz.isAgg2
 z2:=Tryz.sizeOf2
 v2:=Tryz.zeroValue2
 t3:=Tryz.underlying3
 a3:=Tryz.isAgg3
 z3:=Tryz.sizeOf3
 v3:=Tryz.zeroValue3
 t4:=Tryz.underlying4
 a4:=Tryz.isAgg4
 z4:=Tryz.sizeOf4
 v4:=Tryz.zeroValue4
 t5:=Tryz.underlying5
 a5:=Tryz.isAgg5
 z5:=Tryz.sizeOf5
 v5:=Tryz.zeroValue5
 t9:=Tryz.underlying9
 a9:=Tryz.isAgg9
 z9:=Tryz.sizeOf9
 v9:=Tryz.zeroValue9
 t20:=Tryz.underlying20
 a20:=Tryz.isAgg20
 z20:=Tryz.sizeOf20
 v20:=Tryz.zeroValue20
 t37:=Tryz.underlying134
 a37:=Tryz.isAgg134
 z37:=Tryz.sizeOf134
 v37:=Tryz.zeroValue134
 t46:=Tryz.underlying138
 a46:=Tryz.isAgg138
 z46:=Tryz.sizeOf138
 v46:=Tryz.zeroValue138
 t51:=Tryz.underlying168
 a51:=Tryz.isAgg168
 z51:=Tryz.sizeOf168
 v51:=Tryz.zeroValue168
 t53:=Tryz.underlying170
 a53:=Tryz.isAgg170
 z53:=Tryz.sizeOf170
 v53:=Tryz.zeroValue170
 t171:=Tryz.underlying212
 a171:=Tryz.isAgg212
 z171:=Tryz.sizeOf212
 v171:=Tryz.zeroValue212
 t173:=Tryz.underlying214
 a173:=Tryz.isAgg214
 z173:=Tryz.sizeOf214
 v173:=Tryz.zeroValue214
 t212:=Tryz.underlying232
 a212:=Tryz.isAgg232
 z212:=Tryz.sizeOf232
 v212:=Tryz.zeroValue232
 t213:=Tryz.underlying233
 a213:=Tryz.isAgg233
 z213:=Tryz.sizeOf233
 t232:=Tryz.underlying255
 a232:=Tryz.isAgg255
 z232:=Tryz.sizeOf255
 v232:=Tryz.zeroValue255
 t233:=Tryz.underlying256
 a233:=Tryz.isAgg256
 z233:=Tryz.sizeOf256
 v233:=Tryz.zeroValue256
 g17:=by kernel_rfl
 g18:=by kernel_rfl
 g19:=by kernel_rfl
 i0:=by kernel_rfl
 i2:=by kernel_rfl
 i3:=by kernel_rfl
 i4:=by kernel_rfl
 i5:=by kernel_rfl
 i9:=by kernel_rfl
 i20:=by kernel_rfl
 i37:=by kernel_rfl
 i46:=by kernel_rfl
 i51:=by kernel_rfl
 i53:=by kernel_rfl
 i171:=by kernel_rfl
 i173:=by kernel_rfl
 i212:=by kernel_rfl
 i232:=by kernel_rfl
 i233:=by kernel_rfl
 m17:=by kernel_rfl
 m18:=by kernel_rfl
 m19:=by kernel_rfl}
open Go.RowKit Go.Sort Go.Lib in
def Tryz.strconv_FormatInt_10(n:Int)(h0: -9223372036854775808<=n)(h1:n<=9223372036854775807)(w:World)(htab:Lib.TabIs Tryz.prog w "internal/strconv.uint64pow10" .u64 Lib.pow10Tab):
  Calls Tryz.prog 135 #[.int .i64 n,.int .i64 10] w fun e w'=>e= .returned (.string ⟨(Lib.itoa n).toArray⟩)/\∃ k os,w'=grow (w.drewN k) os:=Any.strconv_FormatInt_10 Tryz.laysM173 n h0 h1 w htab
def Tryz.laysC174_ren:Go.Shelf.Ren:=⟨fun|174=>239|247=>246|245=>247|287=>249|279=>250|280=>251|281=>252|282=>253|321=>254|322=>255|316=>256|171=>258|205=>257|243=>259|246=>177|283=>194|284=>195|285=>196|286=>197|129=>146|317=>205|318=>206|319=>207|320=>208|337=>229|338=>230|n=>n,fun|9=>9|3=>3|2=>2|75=>251|85=>252|4=>4|167=>258|5=>5|53=>170|175=>259|46=>138|168=>261|37=>134|0=>0|210=>267|21=>21|127=>269|145=>272|143=>270|171=>212|173=>214|212=>232|51=>168|20=>20|213=>233|232=>255|233=>256|80=>236|n=>n,fun|15=>3|16=>4|17=>0|18=>1|19=>2|n=>n⟩
def Tryz.laysC174:Go.Proofs.LaysC.n174 Tryz.prog Tryz.laysC174_ren:={
 mixed:=by kernel_rfl
 f129:=Tryz.func146.trans (bq some (by kernel_rfl))
 f171:=Tryz.func258.trans (bq some (by kernel_rfl))
 f174:=Tryz.func239.trans (bq some (by kernel_rfl))
 f205:=Tryz.func257.trans (bq some (by kernel_rfl))
 f243:=Tryz.func259.trans (bq some (by kernel_rfl))
 f245:=Tryz.func247.trans (bq some (by kernel_rfl))
 f246:=Tryz.func177.trans (bq some (by kernel_rfl))
 f247:=Tryz.func246.trans (bq some (by kernel_rfl))
 f279:=Tryz.func250.trans (bq some (by kernel_rfl))
 f280:=Tryz.func251.trans (bq some (by kernel_rfl))
 f281:=Tryz.func252.trans (bq some (by kernel_rfl))
 f282:=Tryz.func253.trans (bq some (by kernel_rfl))
 f283:=Tryz.func194.trans (bq some (by kernel_rfl))
 f284:=Tryz.func195.trans (bq some (by kernel_rfl))
 f285:=Tryz.func196.trans (bq some (by kernel_rfl))
 f286:=Tryz.func197.trans (bq some (by kernel_rfl))
 f287:=Tryz.func249.trans (bq some (by kernel_rfl))
 f316:=Tryz.func256.trans (bq some (by kernel_rfl))
 f317:=Tryz.func205.trans (bq some (by kernel_rfl))
 f318:=Tryz.func206.trans (bq some (by kernel_rfl))
 f319:=Tryz.func207.trans (bq some (by kernel_rfl))
 f320:=Tryz.func208.trans (bq some (by kernel_rfl))
 f321:=Tryz.func254.trans (bq some (by kernel_rfl))
 f322:=Tryz.func255.trans (bq some (by kernel_rfl))
 f337:=Tryz.func229.trans (bq some (by kernel_rfl))
 f338:=Tryz.func230.trans (bq some (by kernel_rfl))
 t0:=Tryz.underlying0
 a0:=Tryz.isAgg0
 z0:=Tryz.sizeOf0
 v0:=Tryz.zeroValue0
 t2:=Tryz.underlying2
 a2:=Tryz.isAgg2
 z2:=Tryz.sizeOf2
 v2:=Tryz.zeroValue2
 t3:=Tryz.underlying3
 a3:=Tryz.isAgg3
 z3:=Tryz.sizeOf3
 v3:=Tryz.zeroValue3
 t4:=Tryz.underlying4
 a4:=Tryz.isAgg4
 z4:=Tryz.sizeOf4
 v4:=Tryz.zeroValue4
 t5:=Tryz.underlying5
 a5:=Tryz.isAgg5
 z5:=Tryz.sizeOf5
 v5:=Tryz.zeroValue5
 t9:=Tryz.underlying9
 a9:=Tryz.isAgg9
 z9:=Tryz.sizeOf9
 v9:=Tryz.zeroValue9
 t20:=Tryz.underlying20
 a20:=Tryz.isAgg20
 z20:=Tryz.sizeOf20
 v20:=Tryz.zeroValue20
 t21:=Tryz.underlying21
 a21:=Tryz.isAgg21
 z21:=Tryz.sizeOf21
 v21:=Tryz.zeroValue21
 t37:=Tryz.underlying134
 a37:=Tryz.isAgg134
 z37:=Tryz.sizeOf134
 v37:=Tryz.zeroValue134
 t46:=Tryz.underlying138
 a46:=Tryz.isAgg138
 z46:=Tryz.sizeOf138
 v46:=Tryz.zeroValue138
 t51:=Tryz.underlying168
 a51:=Tryz.isAgg168
 z51:=Tryz.sizeOf168
 v51:=Tryz.zeroValue168
 t53:=Tryz.underlying170
 a53:=Tryz.isAgg170
 z53:=Tryz.sizeOf170
 v53:=Tryz.zeroValue170
 t75:=Tryz.underlying251
 a75:=Tryz.isAgg251
 z75:=Tryz.sizeOf251
 v75:=Tryz.zeroValue251
 t85:=Tryz.underlying252
 a85:=Tryz.isAgg252
 z85:=Tryz.sizeOf252
 v85:=Tryz.zeroValue252
 t127:=Tryz.underlying269
 a127:=Tryz.isAgg269
 z127:=Tryz.sizeOf269
 v127:=Tryz.zeroValue269
 t143:=Tryz.underlying270
 a143:=Tryz.isAgg270
 z143:=Tryz.sizeOf270
 v143:=Tryz.zeroValue270
 t145:=Tryz.underlying272
 a145:=Tryz.isAgg272
 z145:=Tryz.sizeOf272
 v145:=Tryz.zeroValue272
 t167:=Tryz.underlying258
 a167:=Tryz.isAgg258
 z167:=Tryz.sizeOf258
 v167:=Tryz.zeroValue258
 t168:=Tryz.underlying261
 a168:=Tryz.isAgg261
 z168:=Tryz.sizeOf261
 v168:=Tryz.zeroValue261
 t171:=Tryz.underlying212
 a171:=Tryz.isAgg212
 z171:=Tryz.sizeOf212
 v171:=Tryz.zeroValue212
 t173:=Tryz.underlying214
 a173:=Tryz.isAgg214
 z173:=Tryz.sizeOf214
 v173:=Tryz.zeroValue214
 t175:=Tryz.underlying259
 a175:=Tryz.isAgg259
 z175:=Tryz.sizeOf259
 v175:=Tryz.zeroValue259
 t210:=Tryz.underlying267
 a210:=Tryz.isAgg267
 z210:=Tryz.sizeOf267
 v210:=Tryz.zeroValue267
 t212:=Tryz.underlying232
 a212:=Tryz.isAgg232
 z212:=Tryz.sizeOf232
 v212:=Tryz.zeroValue232
 t213:=Tryz.underlying233
 a213:=Tryz.isAgg233
 z213:=Tryz.sizeOf233
 t232:=Tryz.underlying255
 a232:=Tryz.isAgg255
 z232:=Tryz.sizeOf255
 v232:=Tryz.zeroValue255
 t233:=Tryz.underlying256
 a233:=Tryz.isAgg256
 z233:=Tryz.sizeOf256
 v233:=Tryz.zeroValue256
 g15:=by kernel_rfl
 g16:=by kernel_rfl
 g17:=by kernel_rfl
 g18:=by kernel_rfl
 g19:=by kernel_rfl
 t80:=Tryz.underlying236
 a80:=Tryz.isAgg236
 z80:=Tryz.sizeOf236
 v80:=Tryz.zeroValue236
 i0:=by kernel_rfl
 i2:=by kernel_rfl
 i3:=by kernel_rfl
 i4:=by kernel_rfl
 i5:=by kernel_rfl
 i9:=by kernel_rfl
 i20:=by kernel_rfl
 i21:=by kernel_rfl
 i37:=by kernel_rfl
 i46:=by kernel_rfl
 i51:=by kernel_rfl
 i53:=by kernel_rfl
 i75:=by kernel_rfl
 i80:=by kernel_rfl
 i85:=by kernel_rfl
 i127:=by kernel_rfl
 i143:=by kernel_rfl
 i145:=by kernel_rfl
 i167:=by kernel_rfl
 i168:=by kernel_rfl
 i171:=by kernel_rfl
 i173:=by kernel_rfl
 i175:=by kernel_rfl
 i210:=by kernel_rfl
 i212:=by kernel_rfl
 i232:=by kernel_rfl
 i233:=by kernel_rfl
 m15:=by kernel_rfl
 m16:=by kernel_rfl
 m17:=by kernel_rfl
 m18:=by kernel_rfl
 m19:=by kernel_rfl
 c0:=by kernel_rfl
 c2:=by kernel_rfl
 c3:=by kernel_rfl
 c4:=by kernel_rfl
 c5:=by kernel_rfl
 c9:=by kernel_rfl
 c20:=by kernel_rfl
 c21:=by kernel_rfl
 c37:=by kernel_rfl
 c46:=by kernel_rfl
 c51:=by kernel_rfl
 c53:=by kernel_rfl
 c75:=by kernel_rfl
 c80:=by kernel_rfl
 c85:=by kernel_rfl
 c127:=by kernel_rfl
 c143:=by kernel_rfl
 c145:=by kernel_rfl
 c167:=by kernel_rfl
 c168:=by kernel_rfl
 c171:=by kernel_rfl
 c173:=by kernel_rfl
 c175:=by kernel_rfl
 c210:=by kernel_rfl
 c212:=by kernel_rfl
 c213:=by kernel_rfl
 c232:=by kernel_rfl
 c233:=by kernel_rfl}
open Go.RowKit in
def Tryz.strconv_ParseInt_10_at64_ok(s:ByteArray)(hmax:s.size<=9223372036854775806)(v:Int)(h:Lib.parseIntB 64 s.data.toList= .ok v)(w:World):
  Calls Tryz.prog 239 #[.string s,.int .i64 10,.int .i64 64] w fun e w'=>e= .returned (.tuple #[.int .i64 v,.nilIface])/\(w'=w\/∃ t,w'=Lib.bytesWorld w 5 t):=Any.strconv_ParseInt_10_at64_ok Tryz.laysC174 s hmax v h w
open Go.RowKit in
def Tryz.parse_no(s:ByteArray)(hlim:s.size<=281474976710656)(h1:∀ n,Lib.parseIntB 64 s.data.toList= .ok n->False)(h2:Lib.parseIntB 64 s.data.toList= .range->False)(tp:TypeId)(p:Value)(w:World)(hvar:w.var? Tryz.prog "strconv.ErrSyntax" =some #[.iface tp p]):
  Calls Tryz.prog 239 #[.string s,.int .i64 10,.int .i64 64] w fun e w'=>∃ N,e= .returned (.tuple #[.int .i64 (0),.iface 261 (.pointer (some ⟨N,0,none⟩))])/\w.heap.size<=N/\w'.heap[N]? =some (.cells #[.string ⟨#[80,97,114,115,101,73,110,116]⟩,.string s,.iface tp p] 267 (0,0))/\Below w.heap.size w w':=by
 cases hh:Lib.parseIntB 64 s.data.toList with
 |ok n=>exact(h1 n hh).elim
 |range=>exact(h2 hh).elim
 |_=>exact Any.strconv_ParseInt_10_at64_syntax_var Tryz.laysC174 s hlim hh tp p w hvar
open Go.RowKit in
def Tryz.strconv_ParseInt_10_at64_range_var(s:ByteArray)(hlim:s.size<=281474976710656)(h:Lib.parseIntB 64 s.data.toList= .range)(tp:TypeId)(p:Value)(w:World)(hvar:w.var? Tryz.prog "strconv.ErrRange" =some #[.iface tp p]):
  Calls Tryz.prog 239 #[.string s,.int .i64 10,.int .i64 64] w fun e w'=>∃ N,e= .returned (.tuple #[.int .i64 (Lib.intSat 64 s.data.toList),.iface 261 (.pointer (some ⟨N,0,none⟩))])/\w.heap.size<=N/\w'.heap[N]? =some (.cells #[.string ⟨#[80,97,114,115,101,73,110,116]⟩,.string s,.iface tp p] 267 (0,0))/\Below w.heap.size w w':=Any.strconv_ParseInt_10_at64_range_var Tryz.laysC174 s hlim h tp p w hvar
end Go.Proofs
namespace Go.PM
open Go Go.Proofs Go.Lib Go.Sort
def jy(eS eR:Value):Nat->Nat->Option Value:=fun b o=>
 if b=0 then(pow10Tab.map (Value.int .u64))[o]? else if b=3 then(if o=0 then some eS else none)else if b=4 then(if o=0 then some eR else none)else none
def Gz:Tryz.prog.globalNamed "internal/strconv.uint64pow10" =some 0:=by kernel_rfl
def Gx:Tryz.prog.globalNamed "strconv.ErrSyntax" =some 3:=by kernel_rfl
def Gy:Tryz.prog.globalNamed "strconv.ErrRange" =some 4:=by kernel_rfl
section
variable {eS eR:Value} {G:Gh} {st:St} {w:World}
def bz.known{P:Program}{B:Nat->Nat->Option Value}(hI:bz P B G st w){b:Nat}(l:List Value)(h0:l≠ [])(hl:∀ o,B b o=l[o]?):∃ e f,w.heap[b]? =some (.cells l.toArray e f):=by
 have hpos:0<l.length:=List.length_pos_iff.2 h0;have hget:∀ o (ho:o<l.length),B b o=some l[o]:=fun o ho=>by rw[hl,ax ho]
 obtain⟨h1,_,x,hx,hall⟩:=hI.base b 0 _ (hget 0 hpos);obtain⟨cur,hcur,hsz⟩:=hI.sh b x.1 x.2 hx;refine⟨x.1,(0,0),?_⟩;rw[hcur];refine bq (fun q=>some (Obj.cells q x.1 (0,0))) ?_;apply Array.ext';apply fR;intro o;by_cases ho:o<l.length
 ·have hc:=hI.com _ _ _ (hI.base b o _ (hget o ho)).1;simp only[World.cell?,hcur,gP,bG,if_false]at hc;rw[gE,hc,ax ho]
 ·have hle:cur.size<=l.length:=by
   rcases Nat.lt_or_ge l.length cur.size with h|h
   ·exact absurd (by rw[hl];exact bB (aE _)) (hall l.length (by omega))
   ·exact h
  rw[gE,Array.getElem?_eq_none (by omega)];exact(bB (by simpa using ho)).symm
def Hz{P:Program}(hI:bz P (jy eS eR) G st w):∃ e f,w.heap[0]? =some (.cells (pow10Tab.map (Value.int .u64)).toArray e f):=
 hI.known _ (by simp[pow10Tab]) (fun o=>by unfold jy;rw[ak rfl])
def He{P:Program}(hI:bz P (jy eS eR) G st w):∃ e f,w.heap[3]? =some (.cells #[eS] e f):=by
 refine hI.known [eS] (by simp) (fun o=>?_);unfold jy;rw[ad (by decide),ak rfl];cases o with
 |zero=>rfl
 |succ o=>simp
def Hw{P:Program}(hI:bz P (jy eS eR) G st w):∃ e f,w.heap[4]? =some (.cells #[eR] e f):=by
 refine hI.known [eR] (by simp) (fun o=>?_);unfold jy;rw[ad (by decide),ad (by decide),ak rfl];cases o with
 |zero=>rfl
 |succ o=>simp
def Hc(hI:bz Tryz.prog (jy eS eR) G st w):TabIs Tryz.prog w "internal/strconv.uint64pow10" .u64 pow10Tab:=by
 obtain⟨e,f,h⟩:=Hz hI;unfold TabIs World.var?;rw[Gz];simp only[dP,h]
def OK(hI:bz Tryz.prog (jy eS eR) G st w):w.var? Tryz.prog "strconv.ErrSyntax" =some #[eS]:=by
 obtain⟨e,f,h⟩:=He hI;unfold World.var?;rw[Gx];simp only[dP,h]
def ON(hI:bz Tryz.prog (jy eS eR) G st w):w.var? Tryz.prog "strconv.ErrRange" =some #[eR]:=by
 obtain⟨e,f,h⟩:=Hw hI;unfold World.var?;rw[Gy];simp only[dP,h]
end
def yE(w:World)(e:TypeId)(s:ByteArray):w.heap.size<=(bytesWorld w e s).heap.size/\∀ b,b<w.heap.size->(bytesWorld w e s).heap[b]? =w.heap[b]? :=by
 unfold bytesWorld World.freeze;rw[ad (by decide)];generalize bytesCells w e s=A;have h1:(w.drew.alloc (.cells A e)).heap=w.heap.push (.cells A e):=rfl;simp only[h1];refine⟨by simp,fun b hb=>?_⟩;rw[jB,ad (by omega),Array.getElem?_push,ad (by omega)]
def AD(w:World)(e:TypeId)(s:ByteArray):(bytesWorld w e s).os=w.os/\(bytesWorld w e s).output=w.output:=by
 unfold bytesWorld World.freeze;rw[ad (by decide)];exact⟨rfl,rfl⟩
def Gv(w:World)(k:Nat)(os:Array Obj):w.heap.size<=(grow (w.drewN k) os).heap.size/\∀ b,b<w.heap.size->(grow (w.drewN k) os).heap[b]? =w.heap[b]? :=by
 have h1:(grow (w.drewN k) os).heap=w.heap++os:=rfl;simp only[h1];exact⟨by simp,fun b hb=>by rw[mN hb]⟩
def DR{G:Gh}{p q:PV}{u v:Value}(h1:R G p u)(h2:R G q v):R G (.tup [p,q]) (.tuple #[u,v]):=
 .tup [p,q] [u,v] rfl fun j a b ha hb=>by
  match j with
  |0=>simp at ha hb;subst ha hb;exact h1
  |1=>simp at ha hb;subst ha hb;exact h2
  |j+2=>simp at ha
def vY(l:List UInt8):PV:=match parseIntB 64 l with
 | .ok n=> .tup [I n,.nili]
 | .range=> .tup [I (intSat 64 l),.err]
 |_=> .tup [I 0,.err]
def EO:List PV->List Nat->List (List PV)->Option (PV×List Nat×List (List PV))
 | [.str s,.int .i64 a,.int .i64 b],[],[]=>if a=10/\b=64/\s.size<=2000000 then some (vY s.data.toList,[],[])else none
 |_,_,_=>none
def K6:List PV->List Nat->List (List PV)->Option (PV×List Nat×List (List PV))
 | [.int .i64 n,.int .i64 b],[],[]=>if b=10/\ -9223372036854775808<=n/\n<=9223372036854775807 then some (S (itoa n),[],[])else none
 |_,_,_=>none
def AV:aA:=fun f xs ns cs=>if f=239 then EO xs ns cs else if f=135 then K6 xs ns cs else none
def Gi{vs:List Value}(h:3=vs.length):∃ a b c,vs=[a,b,c]:=by
 match vs,h with
 | [a,b,c],_=>exact⟨a,b,c,rfl⟩
def OP{vs:List Value}(h:2=vs.length):∃ a b,vs=[a,b]:=by
 match vs,h with
 | [a,b],_=>exact⟨a,b,rfl⟩
def Ik:lj Tryz.prog 239:=⟨Tryz.f239,Tryz.func239,of_decide_eq_true (by kernel_rfl),by kernel_rfl⟩
def Io:lj Tryz.prog 135:=⟨Tryz.f135,Tryz.func135,of_decide_eq_true (by kernel_rfl),by kernel_rfl⟩
def yY{f:Nat}(h:f<1000000){vs:List Value}{v:Value}:pW f vs v (.returned v):=(nz h).2 rfl
def ME(tS tR:TypeId)(pS pR:Value):ja Tryz.prog (jy (.iface tS pS) (.iface tR pR)) AV:=by
 intro f xs ns cs r rs cs' h;unfold AV at h;split at h
 ·rename_i hf;subst hf;rw[nJ (by decide)];refine⟨Ik,?_⟩;unfold EO at h;split at h
  ·rename_i s a b;split at h
   ·rename_i hc;obtain⟨rfl,rfl,hs⟩:=hc;cases h;refine⟨rfl,by unfold vY;split<;>rfl,fun c hc=>(by cases hc),fun G w vs hI hl hR=>?_⟩
    obtain⟨v0,v1,v2,rfl⟩:=Gi hl;have h0:=(hR 0 _ _ rfl rfl).1;have h1:=(hR 1 _ _ rfl rfl).1;have h2:=(hR 2 _ _ rfl rfl).1;cases h0;cases h1;cases h2;unfold vY;split
    ·rename_i n hp;exact(Tryz.strconv_ParseInt_10_at64_ok s (by omega) n hp w).mono fun e w' h=>by
      obtain⟨rfl,hw⟩:=h;have hb:w.heap.size<=w'.heap.size/\∀ b,b<w.heap.size->w'.heap[b]? =w.heap[b]? :=by
       rcases hw with rfl|⟨t,rfl⟩
       ·exact⟨aE _,fun _ _=>rfl⟩
       ·exact yE _ _ _
      have he:w'.os=w.os/\w'.output=w.output:=by
       rcases hw with rfl|⟨t,rfl⟩
       ·exact⟨rfl,rfl⟩
       ·exact AD _ _ _
      obtain⟨hI',hS'⟩:=hI.below hb.1 hb.2 he;exact⟨_,G,yY (by decide),DR (.int _ _) .nili,hI',hS',rfl,fun k hk=>absurd hk (iR _)⟩
    ·rename_i hp;exact(Tryz.strconv_ParseInt_10_at64_range_var s (by omega) hp tR pR w (ON hI)).mono fun e w' h=>by
      obtain⟨N,rfl,_,_,hb⟩:=h;obtain⟨hI',hS'⟩:=hI.below hb.size hb.block ⟨hb.os,hb.output⟩;exact⟨_,G,yY (by decide),DR (.int _ _) (.err _ _),hI',hS',rfl,fun k hk=>absurd hk (iR _)⟩
    ·rename_i h1 h2;exact(Tryz.parse_no s (by omega) h1 h2 tS pS w (OK hI)).mono fun e w' h=>by
      obtain⟨N,rfl,_,_,hb⟩:=h;obtain⟨hI',hS'⟩:=hI.below hb.size hb.block ⟨hb.os,hb.output⟩;exact⟨_,G,yY (by decide),DR (.int _ _) (.err _ _),hI',hS',rfl,fun k hk=>absurd hk (iR _)⟩
   ·cases h
  ·cases h
 ·split at h
  ·rename_i hf;subst hf;rw[nJ (by decide)];refine⟨Io,?_⟩;unfold K6 at h;split at h
   ·rename_i n b;split at h
    ·rename_i hc;obtain⟨rfl,h1,h2⟩:=hc;cases h;refine⟨rfl,rfl,fun c hc=>(by cases hc),fun G w vs hI hl hR=>?_⟩;obtain⟨v0,v1,rfl⟩:=OP hl;have h3:=(hR 0 _ _ rfl rfl).1;have h4:=(hR 1 _ _ rfl rfl).1;cases h3;cases h4;exact(Tryz.strconv_FormatInt_10 n h1 h2 w (Hc hI)).mono fun e w' h=>by
      obtain⟨rfl,k,os,rfl⟩:=h;have hb:=Gv w k os;have he:(grow (w.drewN k) os).os=w.os/\(grow (w.drewN k) os).output=w.output:=⟨rfl,rfl⟩;obtain⟨hI',hS'⟩:=hI.below hb.1 hb.2 he;exact⟨_,G,yY (by decide),.str _,hI',hS',rfl,fun k hk=>absurd hk (iR _)⟩
    ·cases h
   ·cases h
  ·cases h
end Go.PM
namespace Go.PM
open Go Go.Proofs
def MI(mk:Bool)(f:Nat):List Nat:=if f=1000001\/f=1000002 then(if mk then [1]else [])else if [128,189].contains f then [0,2]else if [91,161].contains f then [0,1]else if [160,163,115,164,63,64,113,156,14,27].contains f then [0]else if [34,15,20,50,51,57,58].contains f then [1000]else []
def O2(f:Nat):List Nat:=if f=14 then [1000]else MI true f
def mXf(n f:Nat):List Nat:=if f=1000003/\n=132\/f=1000002/\[113,156,115,164].contains n then [1]else MI false f
noncomputable def MS(f:Nat):Option bp:=if f<1000000 then ue Tryz.prog (mXf f) (if [115,164,200,201,209,210,211,212,213,214,215,216,217,218,219,220,221,222,223,224,225,226,227,232,235,240,242,100].contains f then 1 else 0) ([31,32,63,64,67,77,78,112,113,114,115,156,157,161,164,190,10,11,44,45,66,68,86,87,91,103,108,122,123,170,18,55,104].contains f) f else xa Tryz.prog (if f=1000034 then O2 else MI true) (f-1000000)
set_option maxRecDepth 4000 in
def OQ:∀ f F,T f=some F->MS f=some F:=by
 intro f F h;unfold T at h;split at h
 all_goals first|(cases h;kernel_rfl)|cases h
def Lm:AG T Tryz.prog:=fun f F h=>by
 have h:=OQ f F h;unfold MS at h;split at h
 ·exact .inl ⟨by assumption,_,_,_,h⟩
 ·exact .inr ⟨_,f-1000000,by unfold kF;omega,h⟩
end Go.PM
namespace Go.PM
open Go Go.Proofs Go.ChangeShapes Go.Deep
def kn(w:World):Gh where
 com b o:=w.cell? ⟨b,o,none⟩
 sh b:=match w.heap[b]? with
  |some (.cells c e (0,0))=>some (e,c.size)
  |_=>none
 tk _:=none
 ob _:=none
 nx:=0
 pv _:=none
 xp _:=false
 oe _:=none
 mb _:=none
def LQ{w:World}{b e k:Nat}(h:(kn w).sh b=some (e,k)):∃ cur:Array Value,w.heap[b]? =some (.cells cur e (0,0))/\cur.size=k:=by
 simp only[kn]at h;split at h
 ·rename_i c e' hc;cases h;exact⟨c,hc,rfl⟩
 ·cases h
section
variable {H:Type} {enc:TypeId×Value->H} {w:World} {base:Nat} {held:Bool}
def Cu{a:Addr}{n:Nat}{cs:List Value}(h:w.cells? base a n=some cs):cs.length=n/\∀ i,i<n->w.cell? (a.add i)=cs[i]? :=by
 obtain⟨_,h1,h2⟩:=World.cells?_some h;exact⟨h1,h2⟩
def sm{P:Program}{t e:TypeId}{sz:Nat}(ht:P.underlying t=some (.slice e))(hce:P.cellsOf e=sz)(hsz:0<sz){α:Type}(en:α->List PV)(Ok:α->Prop)(hen:∀ a,(en a).length=sz)
  (hel:∀ fuel cs x,DataW.trod enc P w base (fun _=>true) held fuel e cs=some x->cs.length=sz->∃ a,Rs (kn w) (en a) cs/\Ok a)
  {fuel:Nat} {cs:List Value} {x:DataW H×List MemPlace} (h:DataW.trod enc P w base (fun _=>true) held fuel t cs=some x):
  ∃ (l:List α) (v:Value),cs=[v]/\R (kn w) (.list l.length (l.flatMap en) .no) v/\v.oneCell'=true/\l.length<=maxLen/\∀ a∈l,Ok a:=by
 rcases open_slice ht h with⟨rfl,_⟩|⟨a,len,cap,m,n,D,Pl,rfl,hb,hlc,hcm,hm,_,hall⟩
 ·exact⟨[],_,rfl,.listN _ trivial,rfl,aM _,fun _ h=>by cases h⟩
 have hm:m=cap:=hm;subst hm;rw[hce]at hall;by_cases hc0:m=0
 ·subst hc0;obtain rfl:len=0:=by omega
  exact⟨[],_,rfl,.listE a,rfl,aM _,fun _ h=>by cases h⟩
 have hsp:a.spot=none:=by
  obtain⟨cs',h1,_⟩:=hall 0 (by omega);obtain⟨h2,h3⟩:=Cu h1;have h4:=h3 0 hsz;rw[ax (by omega)]at h4;have e0:(a.add (0*sz)).add 0=a:=by simp[Addr.add]
  rw[e0]at h4;unfold World.cell? at h4;split at h4
  ·split at h4
   ·cases h4
   ·rename_i hs;simpa using hs
  ·cases h4
 obtain⟨b,o,s⟩:=a;simp only at hsp;subst hsp;have main:∀ k,k<=len->∃ (l:List α) (us:List Value),l.length=k/\Rs (kn w) (l.flatMap en) us/\us.length=k*sz/\(∀ (j:Nat) u,us[j]? =some u->w.cell? ⟨b,o+j,none⟩=some u)/\∀ a∈l,Ok a:=by
  intro k
  induction k with
  |zero=>intro _;exact⟨[],[],rfl,⟨rfl,fun j p u hp _=>by simp at hp,fun _ h=>by cases h⟩,by simp,fun j u hj=>by simp at hj,fun _ h=>by cases h⟩
  |succ k ih=>
   intro hk;obtain⟨l,us,h1,h2,h3,h4,h5⟩:=ih (by omega);obtain⟨cs',h6,h7⟩:=hall k (by omega);obtain⟨h8,h9⟩:=Cu h6;obtain⟨y,hy1,hy2⟩:=hel _ _ _ h7 h8;refine⟨l++[y],us++cs',by simp[h1],?_,by rw[af,h3,h8,gg],fun j u hj=>?_,fun z hz=>?_⟩
   ·rw[bE];simpa using h2.append hy1
   ·by_cases hlt:j<k*sz
    ·rw[bL (by omega)]at hj;exact h4 j u hj
    ·rw[cp (by omega),h3]at hj;have hj':=(br.1 hj).1;have:=h9 (j-k*sz) (by omega);rw[hj,Addr.add_lit,Addr.add_lit]at this;rw[<-this];congr 2;omega
   ·rcases ay.1 hz with h|h
    ·exact h5 z h
    ·rw[dZ.1 h];exact hy2
 obtain⟨l,us,h1,h2,h3,h4,h5⟩:=main len (aE _);refine⟨l,_,rfl,?_,rfl,by omega,h5⟩;rw[h1];exact .list len _ .no b o m us hlc h2.1 (fun j u hj=>h4 j u hj) h2.2.1 h2.2.2 trivial (fun k _ hk=>by cases hk) (fun _ hn=>absurd rfl hn)
def sk{fuel:Nat}{cs:List Value}{x:DataW H×List MemPlace}(h:DataW.trod enc Tryz.prog w base (fun _=>true) held fuel 9 cs=some x):∃ a:List UInt8,Rs (kn w) [S a] cs/\a.length<=maxLen:=by
 obtain⟨s,rfl,_,hs⟩:=DataW.trod_string (by kernel_rfl) h;refine⟨s.data.toList,⟨rfl,fun j p u hp hu=>?_,fun u hu=>?_⟩,by rw[ep];exact hs⟩
 ·cases j with
  |zero=>simp at hp hu;subst hp hu;exact .str s
  |succ j=>simp at hp
 ·simp at hu;subst hu;rfl
def vR{t:Nat}(ht:Tryz.prog.underlying t=some (.int .i64)){fuel:Nat}{cs:List Value}{x:DataW H×List MemPlace}(h:DataW.trod enc Tryz.prog w base (fun _=>true) held fuel t cs=some x):∃ n:Int,Rs (kn w) [I n] cs:=by
 obtain⟨n,rfl,_,hs⟩:=DataW.trod_int ht h;refine⟨n,⟨rfl,fun j p u hp hu=>?_,fun u hu=>?_⟩⟩
 ·cases j with
  |zero=>simp at hp hu;subst hp hu;exact .int _ _
  |succ j=>simp at hp
 ·simp at hu;subst hu;rfl
def G3(l:List (List UInt8)):Prop:=l.length<=maxLen/\∀ t∈l,t.length<=maxLen
def yO(l:List Fd):Prop:=l.length<=maxLen/\∀ f∈l,f.1.length<=maxLen/\f.2.length<=maxLen
def zS{G:Gh}{p:PV}{v:Value}(h:R G p v)(h1:v.oneCell'=true):Rs G [p] [v]:=by
 refine⟨rfl,fun j p u hp hu=>?_,fun u hu=>?_⟩
 ·cases j with
  |zero=>simp at hp hu;subst hp hu;exact h
  |succ j=>simp at hp
 ·simp at hu;subst hu;exact h1
def C3:∀ l:List (List UInt8),l.flatMap (fun a=>[S a])=l.map S
 | []=>rfl
 |a::l=>by rw[bf,aH,C3 l,jz]
def Jx{fuel:Nat}{cs:List Value}{x:DataW H×List MemPlace}(h:DataW.trod enc Tryz.prog w base (fun _=>true) held fuel 70 cs=some x):∃ l,Rs (kn w) [TX l] cs/\G3 l:=by
 obtain⟨l,v,rfl,h1,h2,h3,h4⟩:=sm (α:=List UInt8) (e:=9) (sz:=1) (by kernel_rfl) (by kernel_rfl) (by decide) (fun a=>[S a]) (fun a=>a.length<=maxLen) (fun _=>rfl) (fun fuel cs x h _=>sk h) h;rw[C3]at h1;exact⟨l,zS h1 h2,h3,h4⟩
def Ot{cs:List Value}(h:cs.length=2):∃ a b,cs=[a,b]:=by
 match cs,h with
 | [a,b],_=>exact⟨a,b,rfl⟩
def NN{cs:List Value}(h:cs.length=3):∃ a b c,cs=[a,b,c]:=by
 match cs,h with
 | [a,b,c],_=>exact⟨a,b,c,rfl⟩
def OR{cs:List Value}(h:cs.length=5):∃ a b c d e,cs=[a,b,c,d,e]:=by
 match cs,h with
 | [a,b,c,d,e],_=>exact⟨a,b,c,d,e,rfl⟩
noncomputable def B3(t:Nat):List (Nat×Nat):=match Tryz.prog.underlying t with
 |some (.struct fs)=>fs.toList.map fun f=>(f.type,f.offset)
 |_=>[]
def rj{t:TypeId}{L:List (Nat×Nat)}(hL:B3 t=L)(h0:L≠ []){fuel:Nat}{cs:List Value}{x:DataW H×List MemPlace}(h:DataW.trod enc Tryz.prog w base (fun _=>true) held fuel t cs=some x):
  ∃ n,∀ (i:Nat) q,L[i]? =some q->∃ y,DataW.trod enc Tryz.prog w base (fun _=>true) held n q.1 ((cs.drop q.2).take (Tryz.prog.cellsOf q.1))=some y:=by
 unfold B3 at hL;split at hL
 ·rename_i fs hfs;obtain⟨xs,n,_,_,_,hl,hf⟩:=DataW.trod_struct hfs h;refine⟨n,fun i q hi=>?_⟩;rw[<-hL,de,am]at hi;obtain⟨f,hi,rfl⟩:=hi;rw[gE]at hi;have:=hf i f hi;have hlt:i<xs.length:=by rw[hl];exact(aP.1 hi).1
  rw[ax hlt]at this;exact⟨_,this⟩
 ·exact absurd hL.symm h0
def c9:Tryz.prog.cellsOf 9=1:=by kernel_rfl
def c2:Tryz.prog.cellsOf 2=1:=by kernel_rfl
def O3:Tryz.prog.cellsOf 70=1:=by kernel_rfl
def Nu:Tryz.prog.cellsOf 102=1:=by kernel_rfl
def O5:Tryz.prog.cellsOf 22=1:=by kernel_rfl
def O4:Tryz.prog.cellsOf 23=1:=by kernel_rfl
def Jz{fuel:Nat}{cs:List Value}{x:DataW H×List MemPlace}(h:DataW.trod enc Tryz.prog w base (fun _=>true) held fuel 184 cs=some x)(hl:cs.length=2):∃ f:Fd,Rs (kn w) (fc f) cs/\f.1.length<=maxLen/\f.2.length<=maxLen:=by
 obtain⟨n,hf⟩:=rj (L:=[(9,0),(9,1)]) (by kernel_rfl) (by decide) h;obtain⟨a,b,rfl⟩:=Ot hl;obtain⟨y0,h0⟩:=hf 0 _ rfl;obtain⟨y1,h1⟩:=hf 1 _ rfl;rw[c9]at h0 h1;have h0:DataW.trod enc Tryz.prog w base (fun _=>true) held n 9 [a]=some y0:=h0;have h1:DataW.trod enc Tryz.prog w base (fun _=>true) held n 9 [b]=some y1:=h1;obtain⟨s0,r0,l0⟩:=sk h0;obtain⟨s1,r1,l1⟩:=sk h1;exact⟨(s0,s1),r0.append r1,l0,l1⟩
def AR{fuel:Nat}{cs:List Value}{x:DataW H×List MemPlace}(h:DataW.trod enc Tryz.prog w base (fun _=>true) held fuel 102 cs=some x):∃ l,Rs (kn w) [FX l] cs/\yO l:=by
 obtain⟨l,v,rfl,h1,h2,h3,h4⟩:=sm (α:=Fd) (e:=184) (sz:=2) (by kernel_rfl) (by kernel_rfl) (by decide) fc (fun f=>f.1.length<=maxLen/\f.2.length<=maxLen) pN (fun fuel cs x h hl=>Jz h hl) h;exact⟨l,zS h1 h2,h3,h4⟩
def EL{fuel:Nat}{cs:List Value}{x:DataW H×List MemPlace}(h:DataW.trod enc Tryz.prog w base (fun _=>true) held fuel 104 cs=some x)(hl:cs.length=3):∃ y:Nd,Rs (kn w) (nc y) cs/\G3 y.labels/\yO y.fields:=by
 obtain⟨n,hf⟩:=rj (L:=[(2,0),(70,1),(102,2)]) (by kernel_rfl) (by decide) h;obtain⟨a,b,c,rfl⟩:=NN hl;obtain⟨y0,h0⟩:=hf 0 _ rfl;obtain⟨y1,h1⟩:=hf 1 _ rfl;obtain⟨y2,h2⟩:=hf 2 _ rfl;rw[c2]at h0;rw[O3]at h1;rw[Nu]at h2;have h0:DataW.trod enc Tryz.prog w base (fun _=>true) held n 2 [a]=some y0:=h0;have h1:DataW.trod enc Tryz.prog w base (fun _=>true) held n 70 [b]=some y1:=h1;have h2:DataW.trod enc Tryz.prog w base (fun _=>true) held n 102 [c]=some y2:=h2;obtain⟨i,r0⟩:=vR (by kernel_rfl) h0;obtain⟨ls,r1,l1⟩:=Jx h1;obtain⟨fs,r2,l2⟩:=AR h2;exact⟨⟨i,ls,fs⟩,(r0.append r1).append r2,l1,l2⟩
def EM{fuel:Nat}{cs:List Value}{x:DataW H×List MemPlace}(h:DataW.trod enc Tryz.prog w base (fun _=>true) held fuel 106 cs=some x)(hl:cs.length=5):∃ y:Eg,Rs (kn w) (ec y) cs/\y.type.length<=maxLen/\yO y.fields:=by
 obtain⟨n,hf⟩:=rj (L:=[(2,0),(9,1),(2,2),(2,3),(102,4)]) (by kernel_rfl) (by decide) h;obtain⟨a,b,c,d,e,rfl⟩:=OR hl;obtain⟨y0,h0⟩:=hf 0 _ rfl;obtain⟨y1,h1⟩:=hf 1 _ rfl;obtain⟨y2,h2⟩:=hf 2 _ rfl;obtain⟨y3,h3⟩:=hf 3 _ rfl;obtain⟨y4,h4⟩:=hf 4 _ rfl;rw[c2]at h0 h2 h3;rw[c9]at h1;rw[Nu]at h4;have h0:DataW.trod enc Tryz.prog w base (fun _=>true) held n 2 [a]=some y0:=h0;have h1:DataW.trod enc Tryz.prog w base (fun _=>true) held n 9 [b]=some y1:=h1;have h2:DataW.trod enc Tryz.prog w base (fun _=>true) held n 2 [c]=some y2:=h2;have h3:DataW.trod enc Tryz.prog w base (fun _=>true) held n 2 [d]=some y3:=h3;have h4:DataW.trod enc Tryz.prog w base (fun _=>true) held n 102 [e]=some y4:=h4;obtain⟨i,r0⟩:=vR (by kernel_rfl) h0;obtain⟨t,r1,l1⟩:=sk h1;obtain⟨f,r2⟩:=vR (by kernel_rfl) h2;obtain⟨g,r3⟩:=vR (by kernel_rfl) h3;obtain⟨fs,r4,l4⟩:=AR h4;exact⟨⟨i,t,f,g,fs⟩,((((r0.append r1).append r2).append r3).append r4),l1,l4⟩
structure OH (g:bY):Prop where
 ns:g.nodes.length<=maxLen
 es:g.edges.length<=maxLen
 n:∀ x∈g.nodes,G3 x.labels/\yO x.fields
 e:∀ x∈g.edges,x.type.length<=maxLen/\yO x.fields
def Jy{fuel:Nat}{cs:List Value}{x:DataW H×List MemPlace}(h:DataW.trod enc Tryz.prog w base (fun _=>true) held fuel 25 cs=some x)(hl:cs.length=2):∃ g:bY,Rs (kn w) (gc g) cs/\OH g:=by
 obtain⟨n,hf⟩:=rj (L:=[(22,0),(23,1)]) (by kernel_rfl) (by decide) h;obtain⟨a,b,rfl⟩:=Ot hl;obtain⟨y0,h0⟩:=hf 0 _ rfl;obtain⟨y1,h1⟩:=hf 1 _ rfl;rw[O5]at h0;rw[O4]at h1;obtain⟨ns,v0,e0,r0,o0,l0,k0⟩:=sm (α:=Nd) (e:=104) (sz:=3) (by kernel_rfl) (by kernel_rfl) (by decide) nc (fun y=>G3 y.labels/\yO y.fields) cC (fun fuel cs x h hl=>EL h hl) h0;obtain⟨es,v1,e1,r1,o1,l1,k1⟩:=sm (α:=Eg) (e:=106) (sz:=5) (by kernel_rfl) (by kernel_rfl) (by decide) ec (fun y=>y.type.length<=maxLen/\yO y.fields) cw (fun fuel cs x h hl=>EM h hl) h1;simp only[nT,mV,List.take_zero,List.drop_succ_cons]at e0 e1;cases e0;cases e1;exact⟨⟨ns,es⟩,(zS r0 o0).append (zS r1 o1),l0,l1,k0,k1⟩
end
end Go.PM
namespace Go.PM
open Go Go.Proofs Go.Proofs.YtdpamjikmlbmhaaGreatDoor Go.ChangeShapes Go.WideShapes Go.RowKit Go.Lib
def zo:List (String×DataW Unit):=[("math/bits.deBruijn32tab",Rows.laid_math_bits_deBruijn32tab),("math/bits.deBruijn64tab",Rows.laid_math_bits_deBruijn64tab),("internal/strconv.uint64pow10",Rows.laid_internal_strconv_uint64pow10),("strconv.ErrRange",Rows.laid_strconv_ErrRange),("strconv.ErrSyntax",Rows.laid_strconv_ErrSyntax)]
section
variable {W:World}
def uw(hsh:W.ShapedOpen Tryz.prog){g:Nat}(hg:g<Tryz.prog.globals.size)(h:(((begin Tryz.prog (fun _ _=>0) default).world.heap[g]?).bind Obj.row?).isSome=true):∃ cs t,W.heap[g]? =some (.cells cs t (0,0)):=by
 obtain⟨x,hx⟩:=bW.1 h;obtain⟨cs,h1,_⟩:=hsh.1 g x.1 x.2 hg hx;exact⟨cs,x.2,h1⟩
def zY{n:String}{g:Nat}(hn:Tryz.prog.globalNamed n=some g){cs:Array Value}(hv:W.var? Tryz.prog n=some cs){c:Array Value}{t:TypeId}{f:Nat×Nat}(hh:W.heap[g]? =some (.cells c t f)):W.heap[g]? =some (.cells cs t f):=by
 unfold World.var? at hv;rw[hn]at hv;simp only[dP,hh]at hv;cases hv;exact hh
def MF(hL:laidMet Tryz.prog zo W):TabIs Tryz.prog W "internal/strconv.uint64pow10" .u64 pow10Tab:=
 tabIs_of_head (t:=232) (e:=170) (n:=20) Gz (by kernel_rfl) (by kernel_rfl) (by kernel_rfl) (by kernel_rfl) (by kernel_rfl) (rest:=[("strconv.ErrRange",Rows.laid_strconv_ErrRange),("strconv.ErrSyntax",Rows.laid_strconv_ErrSyntax)]) hL.tail.tail
def DZ(u:TypeId)(h:Tryz.prog.typeName? 3 u=some "*errors.errorString"):u=270:=
 typeName_ptr_named (nm:= "errors.errorString") (by rw[show "*" ++ "errors.errorString" = "*errors.errorString" by decide];kernel_rfl) (by kernel_rfl) (by decide) u (by rw[show "*" ++ "errors.errorString" = "*errors.errorString" by decide];exact h)
def JI{fs:Array Field}{t o:Nat}(h:(fs.toList.map fun f=>(f.type,f.offset))=[(t,o)]):∃ f,fs= #[f]/\f.type=t/\f.offset=o:=by
 obtain⟨l⟩:=fs
 match l,h with
 | [f],h=>
  simp only[aH,bM,List.cons.injEq,cn,lE]at h;exact⟨f,rfl,h.1,h.2⟩
def xt{n:String}{text:List UInt8}{r:List (String×DataW Unit)}{g:Nat}(h:laidMet Tryz.prog ((n,.iface "*errors.errorString" (.ptr (.agg [.lit (.string text)])))::r) W)
  (hg:Tryz.prog.globalNamed n=some g) (ht:(Tryz.prog.globals[g]?).map (·.type)=some 251):∃ a:Addr,W.var? Tryz.prog n=some #[.iface 270 (.pointer (some a))]:=by
 obtain⟨fs,hfs⟩:∃ f,Tryz.prog.underlying 272=some (.struct #[f])/\f.type=9/\f.offset=0:=by
  have h1:B3 272=[(9,0)]:=by kernel_rfl
  unfold B3 at h1;split at h1
  ·rename_i fs hfs;obtain⟨f,rfl,h2,h3⟩:=JI h1;exact⟨f,hfs,h2,h3⟩
  ·cases h1
 obtain⟨a,s,h1,_⟩:=laid_sentinel h hg ht Tryz.underlying251 DZ (show Tryz.prog.underlying 270=some (.pointer 272) by kernel_rfl) hfs.1 hfs.2.1 hfs.2.2 (by kernel_rfl) (by kernel_rfl) (by kernel_rfl);exact⟨a,h1⟩
def Jc(hL:laidMetH Tryz.prog zo W)(hsh:W.ShapedOpen Tryz.prog):∃ pS pR,bz Tryz.prog (jy (.iface 270 pS) (.iface 270 pR)) (kn W) (bn [] []) W:=by
 have hL0:laidMet Tryz.prog zo W:=hL;have ht:=MF hL0;obtain⟨aR,hR⟩:=xt (r:=[("strconv.ErrSyntax",Rows.laid_strconv_ErrSyntax)]) (show laidMet Tryz.prog (("strconv.ErrRange",Rows.laid_strconv_ErrRange)::_) W from hL0.tail.tail.tail) Gy (by kernel_rfl);obtain⟨aS,hS⟩:=xt (r:=[]) (show laidMet Tryz.prog (("strconv.ErrSyntax",Rows.laid_strconv_ErrSyntax)::_) W from hL0.tail.tail.tail.tail) Gx (by kernel_rfl);obtain⟨c0,t0,h0⟩:=uw hsh (g:=0) (of_decide_eq_true (by kernel_rfl)) (by kernel_rfl);obtain⟨c3,t3,h3⟩:=uw hsh (g:=3) (of_decide_eq_true (by kernel_rfl)) (by kernel_rfl);obtain⟨c4,t4,h4⟩:=uw hsh (g:=4) (of_decide_eq_true (by kernel_rfl)) (by kernel_rfl);have k0:=zY Gz ht h0;have k3:=zY Gx hS h3;have k4:=zY Gy hR h4;have whole:∀ {b:Nat} {l:List Value} {t:TypeId},W.heap[b]? =some (.cells l.toArray t (0,0))->(∀ o,jy (.iface 270 (.pointer (some aS))) (.iface 270 (.pointer (some aR))) b o=l[o]?)->∀ o v,jy (.iface 270 (.pointer (some aS))) (.iface 270 (.pointer (some aR))) b o=some v->
   (kn W).com b o=some v/\(kn W).pv b=none/\Whole (jy (.iface 270 (.pointer (some aS))) (.iface 270 (.pointer (some aR)))) b ((kn W).sh b):=by
  intro b l t hb hl o v hv;refine⟨?_,rfl,(t,l.length),?_,fun o ho=>?_⟩
  ·rw[hl]at hv
   show W.cell? ⟨b,o,none⟩=some v;simp only[World.cell?,hb,gP,bG,if_false,jA];exact hv
  ·simp only[kn,hb,jH]
  ·rw[hl,ax ho];exact fun h=>by cases h
 refine⟨.pointer (some aS),.pointer (some aR),?_⟩;have nf:∀ {α:Type} {x:α},(none:Option α)=some x->False:=fun h=>by cases h
 refine⟨fun b o v h=>h,fun b e k h=>LQ h,rfl,fun t x h=>(nf h).elim,fun t h=>absurd h (iR _),fun t r h=>(nf h).elim,fun t u r q h=>(nf h).elim,fun t r h=>(nf h).elim,fun s cs h=>(nf h).elim,
  fun s b h=>(nf h).elim,fun s u b h=>(nf h).elim,fun _ _=>rfl,fun s cs h=>(nf h).elim,fun b k h=>(nf h).elim,fun b h=>Bool.noConfusion h,fun b o v h=>?_,fun s b e sz h=>(nf h).elim,fun s es h=>(nf h).elim,fun s b h=>(nf h).elim,
  fun s u b h=>(nf h).elim,fun _ _=>rfl,fun s b h=>(nf h).elim,fun t m h=>(nf h).elim⟩
 by_cases b0:b=0
 ·subst b0;exact whole k0 (fun o=>by unfold jy;rw[ak rfl]) o v h
 ·by_cases b3:b=3
  ·subst b3;exact whole (l:=[.iface 270 (.pointer (some aS))]) k3 (fun o=>by
    unfold jy;rw[ad (by decide),ak rfl];cases o with
    |zero=>rfl
    |succ o=>simp) o v h
  ·by_cases b4:b=4
   ·subst b4;exact whole (l:=[.iface 270 (.pointer (some aR))]) k4 (fun o=>by
     unfold jy;rw[ad (by decide),ad (by decide),ak rfl];cases o with
     |zero=>rfl
     |succ o=>simp) o v h
   ·unfold jy at h;rw[ad b0,ad b3,ad b4]at h;cases h
def LS{G':Gh}{W':World}(hS:cu (kn W) W G' W'):∀ b,b<W.heap.size->W'.heap[b]? =W.heap[b]? :=fun b hb=>
 hS.kept b hb (fun s h=>by cases h) (fun t r h=>by cases h) (fun s h=>by cases h)
def Ea{W':World}(he:W'.os=W.os/\W'.output=W.output)(hb:∀ b,b<W.heap.size->W'.heap[b]? =W.heap[b]?)(may:MemPlace->Prop):W.keptBut W' may:=by
 refine⟨he.1,he.2,fun i hi=>?_⟩;rw[hb i hi];cases h:W.heap[i]? with
 |none=>rfl
 |some o=>cases o<;>first|exact⟨rfl,rfl,rfl,fun _ _=>rfl⟩|exact .inr ⟨rfl,rfl⟩|rfl
def Lv{W':World}(hb:∀ b,b<W.heap.size->W'.heap[b]? =W.heap[b]?){p:MemPlace}(hp:p.block<W.heap.size):W.sameAt W' p:=by
 cases p with
 |cell b o=>exact World.cell?_of_block (w:=W) (hb b hp)
 |map b=>exact hb b hp
def vC{H:Type}{enc:TypeId×Value->H}(hl:laidOutB Tryz.prog=true){W':World}(hb:∀ b,b<W.heap.size->W'.heap[b]? =W.heap[b]?):∀ {ts:List TypeId} {vs:List Value} {ds:List (DataW H)} {ps:List MemPlace},
  (∀ t∈ts,Tryz.prog.readableRec t=true/\t<Tryz.prog.types.size)->(∀ p∈ps,p.block<W.heap.size)->DataW.TrodAll enc Tryz.prog W 0 (fun _=>true) true ts vs ds ps->DataW.TrodAll enc Tryz.prog W' 0 (fun b=>decide (b<W.heap.size)) true ts vs ds ps
 | [],[],[],_,_,_,h=>h
 |t::ts,v::vs,d::ds,ps,ht,hp,h=>by
  obtain⟨p,q,h1,h2,rfl⟩:=h;exact⟨p,q,WideElems.Trod_stays hl (ht t List.mem_cons_self).1 (ht t List.mem_cons_self).2 h1 (fun x hx=>Lv hb (hp x (cM _ hx))) (fun x hx=>by simpa using hp x (cM _ hx)),
   vC hl hb (fun t h=>ht t (bU _ h)) (fun x hx=>hp x (dq _ hx)) h2,rfl⟩
def LL:laidOutB Tryz.prog=true:=by kernel_rfl
end
end Go.PM
namespace Go.PM
open Go.Lib
variable {cf:aA} {st:St} {mk:PV->St->Fr×St} {A:Fr×St->Prop} {s:Nat}
def jt:
  (∀ {cf:aA} {fr:Fr} {st:St} {d:Option Nat} {e sz b:Nat} {x y:CX},aw cf fr st d (.apc e sz b x y)=yK e sz b (x.ev fr) (y.ev fr) st)/\
  (∀ {cf:aA} {fr:Fr} {st:St} {d:Option Nat} {e sz b:Nat} {x y:CX},cJ cf (.apc e sz b x y) d st fr=tc (lY (x.ev fr) (y.ev fr) st) fr)/\
  (∀ {fr:Fr} {e sz b:Nat} {x y:CX},bc fr (.apc e sz b x y)=[])/\
  (∀ {J:List Nat} {fr:Fr} {t:Nat},tc J fr t=bV J (fr t))/\
  (∀ {e sz b n e':Nat} {cs:List PV} {y:PV} {st:St},yK e sz b (.list n cs (.full e')) y st=sJ e sz b (.list n cs (.full e')) y st)/\
  (∀ {n e':Nat} {cs:List PV} {y:PV} {st:St},lY (.list n cs (.full e')) y st=[])/\
  (∀ {e sz b n k e':Nat} {cs:List PV} {y:PV} {st:St},yK e sz b (.list n cs (.own k e')) y st=sJ e sz b (.list n cs (.own k e')) y st)/\
  (∀ {n k e':Nat} {cs:List PV} {y:PV} {st:St},lY (.list n cs (.own k e')) y st=[])/\
  (∀ {p:PV},bV [] p=p):=
 ⟨rfl,rfl,rfl,rfl,rfl,rfl,rfl,rfl,pm _⟩
def uv{sz n k:Nat}{cs:List PV}{t:aB}(h:cs.length=n*sz)(hk:k<=n):tH sz (.list n cs t) none (some (I k)) st=some (.list k (cs.take (k*sz)) (t.cut true n k),st):=by
 simp[tH,jG,h,hk]
def uu{sz n k:Nat}{cs:List PV}{t:aB}(h:cs.length=n*sz)(hk:k<=n):tH sz (.list n cs t) (some (I k)) none st=some (.list (n-k) (cs.drop (k*sz)) t.der,st):=by
 have e2:(cs.drop (k*sz)).take ((n-k) *sz)=cs.drop (k*sz):=bA (by rw[aU,h,Nat.sub_mul];exact aE _);have b1:jG (I k) n=some k:=by simp[jG,hk]
 simp only[tH,b1,h,if_true,e2,Option.isNone_some,aB.cut,bG,if_false]
def nf(l:List (List UInt8)):List Fd:=l.map fun n=>(n,[])
def DC{e sz b n c j:Nat}{cs:List PV}{y:PV}(hc:0<c)(hj:j<st.nx)(hcnt:st.cnt j=c)(hfl:st.fl<=j)(h1:dw ([j].contains ·) cs=true)(h2:tf ([j].contains ·) y=true):
  yK e sz b (.list n cs (.el j e c)) y st=sJ e sz b (.list n cs (.own st.nx e)) y (ic st j n)/\lY (.list n cs (.el j e c)) y st=[j]:=by
 have h:lY (.list n cs (.el j e c)) y st=[j]:=by simp only[lY];rw[ak ⟨hc,hj,hcnt,hfl,h1,h2⟩]
 refine⟨?_,h⟩;simp only[yK,h];rfl
def r8{J:List Nat}{cs:List PV}(h:cK cs):dw (J.contains ·) cs=true:=by
 have:=kR (J.contains ·) cs;rwa [h.2.1]at this
def cc(c:Ch):List PV:=[I c.kind,I c.node.id,TX c.node.labels,FX c.node.fields,I c.edge.id,S c.edge.type,I c.edge.src,I c.edge.dst,FX c.edge.fields,S c.value,S c.name,S c.text]
@[reducible] def HX (l:List Ch):PV:= .list l.length (l.flatMap cc) .no
def oq(c:Ch):(cc c).length=12:=rfl
def jd(c:Ch):cK (cc c):=bu (aQ _ _) (jY (ps:=nc c.node) (lu _) (jY (ps:=ec c.edge) (ly _) (bu (bZ _) (bu (bZ _) (bu (bZ _) dL)))))
def iU(l:List Ch):cT (HX l):=fE (gz cc jd l)
def N0{vs:List PV}{a b c d e f g h i j k l:PV}(hl:vs.length=12):bD [a,b,c,d,e,f,g,h,i,j,k,l] 0 vs=vs:=iK (by rw[hl];rfl)
def GC{α β:Type}{f:α->List β}{m:Nat}(h:∀ a,(f a).length<=m):∀ l:List α,(l.flatMap f).length<=l.length*m
 | []=>by simp
 |a::l=>by
  have:=GC h l;have:=h a;rw[bf,af,au,gg];omega
def I7:∀ l:List (List UInt8),cK (l.map S)
 | []=>dL
 |_::l=>bu (bZ _) (I7 l)
end Go.PM
namespace Go.PM
open Go.Lib
def Ed{g:bY}(h:ed g=true):g.nodes.length<=200/\g.edges.length<=400/\(∀ i,i<g.nodes.length->eJ g.nodes i=true)/\∀ i,i<g.edges.length->cO g i=true:=by
 unfold ed at h;rw[ae,ae,ae]at h;have h1:=of_decide_eq_true h.1.1;have h2:=of_decide_eq_true h.1.2;exact⟨by omega,by omega,oO.1 h.2.1,oO.1 h.2.2⟩
def rK{l:List Fd}(h:hU l=true):l.length<=20:=by
 unfold hU at h;rw[ae]at h;have:=of_decide_eq_true h.1;omega
def CE:∀ {l:List (List UInt8)},(∀ i,(h:i+1<l.length)->eq l[i] l[i+1]=true)->lX l
 | [],_=>List.Pairwise.nil
 | [a],_=>i7 _ _
 |a::b::l,h=>by
  have ih:lX (b::l):=CE fun i hi=>by
   have:=h (i+1) (by simp only[au]at hi ⊢;omega);simpa using this
  have h0:eq a b=true:=by simpa using h 0 (by simp)
  refine List.Pairwise.cons (fun c hc=>?_) ih;rcases aX.1 hc with rfl|hc
  ·exact h0
  ·exact m8 h0 ((dr.1 ih).1 c hc)
def C7:jZ iL=false:=by decide
def tj{l:List Fd}(h:hU l=true):KW l:=by
 unfold hU at h;rw[ae]at h;have hall:=oO.1 h.2;refine⟨CE fun i hi=>?_,fun f hf e=>?_⟩
 ·rw[b8]at hi;have:=hall (i+1) hi;rw[dX,ae,ae,oi]at this;have h2:=this.2.1;simp only[nA,sC hi,sC (show i<l.length by omega),cF,decide_eq_true_eq]at h2;rcases h2 with h2|h2
  ·omega
  ·simpa using h2
 ·obtain⟨j,hj,he⟩:=em hf;have:=hall j hj;rw[dX,ae,ae,sC hj,he,e,C7]at this;exact absurd this.2.2 (by simp)
def uQ{l:List (List UInt8)}(h:iM 10 l=true):l.length<=10:=by
 unfold iM at h;rw[ae]at h;have:=of_decide_eq_true h.1;omega
def K8{n:Int}(h:km n=true):1<=n/\n<=1000000000000:=by
 unfold km at h;rw[ae]at h;exact⟨of_decide_eq_true h.1,of_decide_eq_true h.2⟩
structure OY (n:Nd):Prop where
 fl:n.fields.length<=20
 ll:n.labels.length<=10
 fd:KW n.fields
 id:1<=n.id/\n.id<=1000000000000
structure O1 (e:Eg):Prop where
 fl:e.fields.length<=20
 fd:KW e.fields
 id:1<=e.id/\e.id<=1000000000000
def zH(l:List Eg):Prop:=l.Pairwise fun a b=>a.id<b.id
def Br:∀ {l:List Eg},(∀ i,(h:i+1<l.length)->l[i].id<l[i+1].id)->zH l
 | [],_=>List.Pairwise.nil
 | [a],_=>i7 _ _
 |a::b::l,h=>by
  have ih:zH (b::l):=Br fun i hi=>by
   have:=h (i+1) (by simp only[au]at hi ⊢;omega);simpa using this
  have h0:a.id<b.id:=by simpa using h 0 (by simp)
  refine List.Pairwise.cons (fun c hc=>?_) ih;rcases aX.1 hc with rfl|hc
  ·exact h0
  ·exact Int.lt_trans h0 ((dr.1 ih).1 c hc)
structure OZ (g:bY):Prop where
 nl:g.nodes.length<=200
 el:g.edges.length<=400
 ns:∀ n∈g.nodes,OY n
 es:∀ e∈g.edges,O1 e
 nr:yX g.nodes
 er:zH g.edges
def N3{g:bY}(h:ed g=true):OZ g:=by
 obtain⟨h1,h2,h3,h4⟩:=Ed h;refine⟨h1,h2,fun n hn=>?_,fun e he=>?_,Ec h,Br fun i hi=>?_⟩
 ·obtain⟨j,hj,rfl⟩:=em hn;have:=h3 j hj;rw[eJ,ae,mK hj,pF,ae,ae]at this;exact⟨rK this.1.2.2,uQ this.1.2.1,tj this.1.2.2,K8 this.1.1⟩
 ·obtain⟨j,hj,rfl⟩:=em he;have:=h4 j hj;rw[cO,ae,om hj,ol,ae,ae,ae,ae]at this;exact⟨rK this.1.2.2.2.2,tj this.1.2.2.2.2,K8 this.1.1⟩
 ·have:=h4 (i+1) hi;rw[cO,ae,ae,mM]at this;have h2:=this.2.1;simp only[nA,om hi,om (show i<g.edges.length by omega),cF,decide_eq_true_eq]at h2;rcases h2 with h2|h2
  ·omega
  ·exact h2
def GG:∀ {l:List Eg},zH l->∀ {x:Eg},x∈l->sD l x.id=some x
 | [],_,_,h=>by simp at h
 |y::l,hr,x,h=>by
  have h2:=dr.1 hr;unfold sD;rw[List.find?_cons];rcases aX.1 h with rfl|hx
  ·simp
  ·have:y.id<x.id:=h2.1 x hx;have hne:decide (y.id=x.id)=false:=by simp;omega
   rw[hne];exact GG h2.2 hx
def C5{α β:Type}{f g:α->List β}:∀ {l:List α},(∀ a∈l,f a=g a)->l.flatMap f=l.flatMap g
 | [],_=>rfl
 |a::l,h=>by
  rw[bf,bf,h a List.mem_cons_self,C5 fun x hx=>h x (bU _ hx)]
end Go.PM
namespace Go.PM
open Go.Lib
variable {cf:aA} {st:St} {mk:PV->St->Fr×St} {A:Fr×St->Prop} {s:Nat}
def Ee{α β:Type}{f:α->List β}{m:Nat}:∀ {l:List α},(∀ a∈l,(f a).length<=m)->(l.flatMap f).length<=l.length*m
 | [],_=>by simp
 |a::l,h=>by
  have:=Ee (f:=f) (l:=l) (m:=m) fun x hx=>h x (bU _ hx);have:=h a List.mem_cons_self;rw[bf,af,au,gg];omega
structure mY (c:Ch):Prop where
 ll:c.node.labels.length<=2000000
 nf:c.node.fields.length<=2000000
 ef:c.edge.fields.length<=2000000
def Np(K:bJ cf)(c:Ch)(h:mY c):av cf 56 [.agg (cc c),.agg (cc c)] [] st=some (.bool true,st):=by
 refine cQ K.tab (F:=F56) (t:=4) rfl rfl rfl (lb rfl) (by simp[ej (jd c)]) (ce _) 1 ?_;have h1:∀ st,av cf 93 [.agg [I c.node.id,TX c.node.labels,FX c.node.fields],.agg [I c.node.id,TX c.node.labels,FX c.node.fields]] [] st=some (.bool true,st):=fun st=>IL (st:=st) K c.node h.ll h.nf;have h2:∀ st,av cf 94 [.agg [I c.edge.id,S c.edge.type,I c.edge.src,I c.edge.dst,FX c.edge.fields],.agg [I c.edge.id,S c.edge.type,I c.edge.src,I c.edge.dst,FX c.edge.fields]] [] st=some (.bool true,st):=fun st=>IN (st:=st) K c.edge h.ef;unfold F56 qg qr qc qb ql qf qu qo;simp only[↓pa,pb,ai,↓reduceIte,reduceEqDiff,reduceAdd,reduceLeDiff,du,cc,h1,h2]
def No(K:bJ cf)(l:List Ch)(hl:l.length<=2000000)(h:∀ c∈l,mY c):av cf 19 [HX l,HX l] [] st=some (.bool true,st):=
 B8 K (F:=F19) rfl ⟨rfl,rfl,rfl,(lb rfl)⟩ cc oq jd l hl fun a ha st=>Np K a (h a ha)
abbrev Sh:=Nat×Nat×Nat
def kV(c:Ch):Sh:=(c.node.labels.length,c.node.fields.length,c.edge.fields.length)
def mB(k:Nat)(x:Sh):Nat:=k+2+x.1+2*x.2.1
def An(k:Nat)(x:Sh):Ch:=⟨k,⟨(k+1:Nat),pI (k+2) x.1,lG (k+2+x.1) x.2.1⟩,⟨(mB k x:Nat),mt (mB k x+1),(mB k x+2:Nat),(mB k x+3:Nat),lG (mB k x+4) x.2.2⟩,mt (mB k x+4+2*x.2.2),mt (mB k x+4+2*x.2.2+1),mt (mB k x+4+2*x.2.2+2)⟩
def mE(k:Nat)(x:Sh):Nat:=mB k x+4+2*x.2.2+3
def t6:List Sh->Nat->List Ch
 | [],_=>[]
 |x::l,k=>An k x::t6 l (mE k x)
def iy:List Sh->Nat->Nat
 | [],k=>k
 |x::l,k=>iy l (mE k x)
def yg:∀ (l:List Sh) (x:Sh) (k:Nat),t6 (l++[x]) k=t6 l k++[An (iy l k) x]/\iy (l++[x]) k=mE (iy l k) x
 | [],x,k=>⟨rfl,rfl⟩
 |y::l,x,k=>by
  obtain⟨h1,h2⟩:=yg l x (mE k y);exact⟨by simp only[a8,t6,iy,h1],by simp only[a8,iy,h2]⟩
def Da:∀ (l m:List Sh) (k:Nat),iy (l++m) k=iy m (iy l k)
 | [],_,_=>rfl
 |x::l,m,k=>by rw[a8,iy,iy,Da l m]
def N1(k:Nat)(x:Sh):k+9<=mE k x:=by unfold mE mB;omega
def yx:∀ (l:List Sh) (k:Nat),k+l.length<=iy l k
 | [],_=>aE _
 |x::l,k=>by have:=yx l (mE k x);have:=N1 k x;rw[iy,au];omega
def LV(l:List Sh)(k:Nat):k<=iy l k:=by have:=yx l k;omega
def LJ:∀ (l:List Sh) (k:Nat),(t6 l k).length=l.length
 | [],_=>rfl
 |x::l,k=>by rw[t6,au,LJ l,au]
def MM:∀ (l:List Sh) (k i:Nat) (h:i<(t6 l k).length) (h':i<l.length),(t6 l k)[i]=An (iy (l.take i) k) l[i]/\iy (l.take (i+1)) k=mE (iy (l.take i) k) l[i]
 |x::l,k,0,_,_=>⟨rfl,rfl⟩
 |x::l,k,i+1,h,h'=>MM l (mE k x) i (by simpa [t6]using h) (by simpa using h')
def Oa(k:Nat)(x:Sh):cc (An k x)=[I k,I (k+1:Nat),.list x.1 ((pI (k+2) x.1).map S) .no,.list x.2.1 ((lG (k+2+x.1) x.2.1).flatMap fc) .no,I (mB k x:Nat),S (mt (mB k x+1)),I (mB k x+2:Nat),I (mB k x+3:Nat),.list x.2.2 ((lG (mB k x+4) x.2.2).flatMap fc) .no,S (mt (mB k x+4+2*x.2.2)),S (mt (mB k x+4+2*x.2.2+1)),S (mt (mB k x+4+2*x.2.2+2))]:=by
 simp only[cc,An,TX,FX,wX,wY]
def NZ{rs:List PV}{l:List Ch}{c:Ch}(h:aF rs=cc c++l.flatMap cc):∃ c0 c1 ca ta cb tb c4 c5 c6 c7 cg tg c9 c10 c11 rs',rs=c0::c1:: .list c.node.labels.length ca ta:: .list c.node.fields.length cb tb::c4::c5::c6::c7:: .list c.edge.fields.length cg tg::c9::c10::c11::rs'/\
  aF ca=c.node.labels.map S/\aF cb=c.node.fields.flatMap fc/\aF cg=c.edge.fields.flatMap fc/\aF rs'=l.flatMap cc:=by
 obtain⟨c0,c1,c2,c3,c4,c5,c6,c7,c8,c9,c10,c11,rs',rfl⟩:∃ c0 c1 c2 c3 c4 c5 c6 c7 c8 c9 c10 c11 rs',rs=c0::c1::c2::c3::c4::c5::c6::c7::c8::c9::c10::c11::rs':=by
  have hlen:rs.length=12+(l.flatMap cc).length:=by rw[<-bw,h,af,oq]
  match rs,hlen with
  |c0::c1::c2::c3::c4::c5::c6::c7::c8::c9::c10::c11::rs',_=>exact⟨c0,c1,c2,c3,c4,c5,c6,c7,c8,c9,c10,c11,rs',rfl⟩
  | [],h=>simp at h;omega
  | [_],h=>simp at h;omega
  | [_,_],h=>simp at h;omega
  | [_,_,_],h=>simp at h;omega
  | [_,_,_,_],h=>simp at h;omega
  | [_,_,_,_,_],h=>simp at h;omega
  | [_,_,_,_,_,_],h=>simp at h;omega
  | [_,_,_,_,_,_,_],h=>simp at h;omega
  | [_,_,_,_,_,_,_,_],h=>simp at h;omega
  | [_,_,_,_,_,_,_,_,_],h=>simp at h;omega
  | [_,_,_,_,_,_,_,_,_,_],h=>simp at h;omega
  | [_,_,_,_,_,_,_,_,_,_,_],h=>simp at h;omega
 simp only[cG,aH,cc,a8,aN,List.cons.injEq]at h;obtain⟨-,-,h2,h3,-,-,-,-,h8,-,-,-,hr⟩:=h;rw[<-cG]at hr;obtain⟨ca,ta,rfl,hca,-⟩:=bt h2;obtain⟨cb,tb,rfl,hcb,-⟩:=bt h3;obtain⟨cg,tg,rfl,hcg,-⟩:=bt h8;exact⟨c0,c1,ca,ta,cb,tb,c4,c5,c6,c7,cg,tg,c9,c10,c11,rs',rfl,hca,hcb,hcg,hr⟩
def KA(K:bJ cf)(k:Nat)(l:List Ch)(hk:iy (l.map kV) k<=1000000000000){cs:List PV}{tk:aB}(hs:aJ (.list l.length cs tk)=true)(hL:iY cc 12 l cs)(hT:aL st (ar (.list l.length cs tk))):
  ∃ p ns,uP cf 20 [.list l.length cs tk,I k] st=some (I (iy (l.map kV) k:Nat),p,dI ((ar (.list l.length cs tk)).map (·.1)) ns st)/\cR st.nx ns p/\aC p= .list l.length ((t6 (l.map kV) k).flatMap cc) .no/\cD [.list l.length cs tk,I k] [0] st=(ar (.list l.length cs tk)).map (·.1):=by
 refine wz K.tab (f:=20) (F:=FB20) (t:=4) rfl rfl rfl hs hL.np hT (lb rfl) (l.length+1) (fun cs0 tk0 ns h1 h2 h3 h4 h5=>?_);have hcl:cs0.length=l.length*12:=by rw[h2,hL.len]
 have hst:aF cs0=l.flatMap cc:=by rw[h1,hL.st]
 have hN:l.length<=1000000000000:=by have:=yx (l.map kV) k;rw[b8]at this;omega
 clear hs hL hT h1 h2;unfold FB20 qr qd qm qi qb qk ql qf qt qa qn qo qe;simp only[↓pa];refine be (fun q fr st=>∃ (i:Nat) (ds rs:List PV),q=l.length-i/\i<=l.length/\fr 0= .list l.length (ds++rs) tk0/\fr 1=I (iy ((l.take i).map kV) k:Nat)/\fr 5=I i/\ds.length=i*12/\aF ds=(t6 ((l.take i).map kV) k).flatMap cc/\aF rs=(l.drop i).flatMap cc/\aI (ds++rs)=true/\aJ (.list l.length (ds++rs) tk0)=true/\aL st ([]++ar (.list l.length (ds++rs) tk0)++[])/\st.fl=0) l.length (by omega)
  ⟨0,[],cs0,by simp,by omega,by simp only[↓pa,ai,↓reduceIte,reduceCtorEq]<;>simp,by simp only[↓pa,↓reduceIte,reduceEqDiff]<;>simp[iy],by simp only[↓pa,↓reduceIte]<;>rfl,rfl,rfl,hst,by simpa using h3,by simpa using h4,by simpa using h5,rfl⟩ ?_
 rintro q fr st ⟨i,ds,rs,rfl,hi,f0,f1,f5,hd1,hd2,hr2,np0,so0,T0,hfl⟩;simp only[↓pa,pb,aV,↓reduceIte,reduceEqDiff,reduceCtorEq,f0,f5];refine aa (fun h=>?_) (fun h=>?_)
 ·have hlt:i<l.length:=h;rw[a6 hlt,bf]at hr2;have hkk:iy ((l.take (i+1)).map kV) k=mE (iy ((l.take i).map kV) k) (kV l[i]):=by
   rw[aW hlt,ch];exact(yg _ _ _).2
  have hkm:t6 ((l.take (i+1)).map kV) k=t6 ((l.take i).map kV) k++[An (iy ((l.take i).map kV) k) (kV l[i])]:=by
   rw[aW hlt,ch];exact(yg _ _ _).1
  have hkl:iy ((l.take (i+1)).map kV) k<=iy (l.map kV) k:=by
   have e:l.map kV=(l.take (i+1)).map kV++(l.drop (i+1)).map kV:=by rw[<-ch,dn]
   rw[e,Da];exact LV _ _
  generalize hm:iy ((l.take i).map kV) k=m at*;obtain⟨c0,c1,ca,ta,cb,tb,c4,c5,c6,c7,cg,tg,c9,c10,c11,rs',rfl,hca,hcb,hcg,hr5⟩:=NZ hr2;have hrl:rs'.length+12=(l.length-i) *12:=by
   have:=bq List.length hr5;rw[bw,bN cc 12 oq,aU]at this;omega
  obtain⟨j,t0,rfl⟩:=vZ so0;have la:ca.length=l[i].node.labels.length:=by rw[<-bw,hca,b8]
  have lb:cb.length=l[i].node.fields.length*2:=by rw[<-bw,hcb,fq]
  have lg:cg.length=l[i].edge.fields.length*2:=by rw[<-bw,hcg,fq]
  have hbd:mB m (kV l[i])=m+2+l[i].node.labels.length+2*l[i].node.fields.length:=rfl;have hbe:mE m (kV l[i])=mB m (kV l[i])+4+2*l[i].edge.fields.length+3:=rfl;have hcm:=Oa m (kV l[i]);rw[hkk]at hkl;generalize hb:mB m (kV l[i])=b at*;have ht5:=fun st=>ip (st:=st) K (b+1) (by omega);have ht9:=fun st=>ip (st:=st) K (b+4+2*l[i].edge.fields.length) (by omega);have ht10:=fun st=>ip (st:=st) K (b+4+2*l[i].edge.fields.length+1) (by omega);have ht11:=fun st=>ip (st:=st) K (b+4+2*l[i].edge.fields.length+2) (by omega);have len:∀ (a:List PV) (b:PV) (c:List PV),a.length+(c.length+1)=l.length*12->(a++b::c).length=l.length*12:=fun a b c h=>by rw[af,au];exact h
  have o0:i*12=ds.length:=hd1.symm;have n0:=len ds c0 (c1::(.list l[i].node.labels.length ca ta)::(.list l[i].node.fields.length cb tb)::c4::c5::c6::c7::(.list l[i].edge.fields.length cg tg)::c9::c10::c11::rs') (by simp only[au];omega);simp (disch:=omega)only[↓pa,pb,ai,↓reduceIte,reduceEqDiff,reduceCtorEq,f0,f1,f5,h,dz,bi];refine eY (X:=[]) (Y:=[]) o0 (by omega) so0 np0 T0 ⟨rfl,rfl,rfl⟩ (fun so1 np1 T1=>?_);have b0:=fun cs' E'=> @gD l.length j t0 E' (i*12) ds (c1::(.list l[i].node.labels.length ca ta)::(.list l[i].node.fields.length cb tb)::c4::c5::c6::c7::(.list l[i].edge.fields.length cg tg)::c9::c10::c11::rs') cs' c0 (I m) o0;have e0:ds++I m::c1::(.list l[i].node.labels.length ca ta)::(.list l[i].node.fields.length cb tb)::c4::c5::c6::c7::(.list l[i].edge.fields.length cg tg)::c9::c10::c11::rs'=(ds++[I m])++c1::(.list l[i].node.labels.length ca ta)::(.list l[i].node.fields.length cb tb)::c4::c5::c6::c7::(.list l[i].edge.fields.length cg tg)::c9::c10::c11::rs':=by simp
  rw[e0]at b0 so1 np1 T1;have o1:i*12+1=(ds++[I m]).length:=by rw[af,hd1];rfl
  have n1:=len (ds++[I m]) c1 ((.list l[i].node.labels.length ca ta)::(.list l[i].node.fields.length cb tb)::c4::c5::c6::c7::(.list l[i].edge.fields.length cg tg)::c9::c10::c11::rs') (by simp only[af,au,aO];omega);simp (disch:=omega)only[↓pa,pb,ai,aV,↓reduceIte,reduceEqDiff,reduceCtorEq,f0,f1,f5,dz,bi,b0];refine eY (X:=[]) (Y:=[]) o1 (by omega) so1 np1 T1 ⟨rfl,rfl,rfl⟩ (fun so2 np2 T2=>?_);have b1:=fun cs' E'=> @gD l.length j t0 E' (i*12+1) (ds++[I m]) ((.list l[i].node.labels.length ca ta)::(.list l[i].node.fields.length cb tb)::c4::c5::c6::c7::(.list l[i].edge.fields.length cg tg)::c9::c10::c11::rs') cs' c1 (I (m+1:Nat)) o1;have e1:(ds++[I m])++I (m+1:Nat)::(.list l[i].node.labels.length ca ta)::(.list l[i].node.fields.length cb tb)::c4::c5::c6::c7::(.list l[i].edge.fields.length cg tg)::c9::c10::c11::rs'=(ds++[I m,I (m+1:Nat)])++(.list l[i].node.labels.length ca ta)::(.list l[i].node.fields.length cb tb)::c4::c5::c6::c7::(.list l[i].edge.fields.length cg tg)::c9::c10::c11::rs':=by simp
  rw[e1]at b1 so2 np2 T2;have o2:i*12+2=(ds++[I m,I (m+1:Nat)]).length:=by rw[af,hd1];rfl
  have n2:=len (ds++[I m,I (m+1:Nat)]) (.list l[i].node.labels.length ca ta) ((.list l[i].node.fields.length cb tb)::c4::c5::c6::c7::(.list l[i].edge.fields.length cg tg)::c9::c10::c11::rs') (by simp only[af,au,aO];omega);have p2:bI ((ds++[I m,I (m+1:Nat)])++(.list l[i].node.labels.length ca ta)::(.list l[i].node.fields.length cb tb)::c4::c5::c6::c7::(.list l[i].edge.fields.length cg tg)::c9::c10::c11::rs') (i*12+2) 1 false=some (.list l[i].node.labels.length ca ta):=ne (by rw[<-o2]);simp (disch:=omega)only[↓pa,pb,aV,↓reduceIte,reduceEqDiff,reduceCtorEq,f0,f5,dz,b0,b1,p2];refine nQ (sz:=1) (X:=[]) (Y:=[]) (Fs K (m+2) l[i].node.labels.length (by omega) (p5 so2) (wV np2) la (qK T2)) (by omega) (by decide) (fun e=>by rw[e];rfl) so2 np2 T2 hfl (fun u2 ms2 q2 hu2 k2 so3 np3 z2 T3=>?_);have e2:(ds++[I m,I (m+1:Nat)])++q2::(.list l[i].node.fields.length cb tb)::c4::c5::c6::c7::(.list l[i].edge.fields.length cg tg)::c9::c10::c11::rs'=(ds++[I m,I (m+1:Nat),q2])++(.list l[i].node.fields.length cb tb)::c4::c5::c6::c7::(.list l[i].edge.fields.length cg tg)::c9::c10::c11::rs':=by simp
  rw[e2]at k2 so3 np3 T3;have o3:i*12+3=(ds++[I m,I (m+1:Nat),q2]).length:=by rw[af,hd1];rfl
  have n3:=len (ds++[I m,I (m+1:Nat),q2]) (.list l[i].node.fields.length cb tb) (c4::c5::c6::c7::(.list l[i].edge.fields.length cg tg)::c9::c10::c11::rs') (by simp only[af,au,aO];omega);have p3:bI ((ds++[I m,I (m+1:Nat),q2])++(.list l[i].node.fields.length cb tb)::c4::c5::c6::c7::(.list l[i].edge.fields.length cg tg)::c9::c10::c11::rs') (i*12+3) 1 false=some (.list l[i].node.fields.length cb tb):=ne (by rw[<-o3]);simp (disch:=omega)only[↓pa,pb,↓reduceIte,reduceEqDiff,reduceCtorEq,f0,f5,dz,b0,b1,hu2,k2,p3];refine nQ (sz:=2) (X:=[]) (Y:=[]) (xf K (m+2+l[i].node.labels.length) l[i].node.fields.length (by omega) (p5 so3) (wV np3) lb (qK T3)) lb (by decide) (fun e=>by rw[e];rfl) so3 np3 T3 hfl (fun u3 ms3 q3 hu3 k3 so4 np4 z3 T4=>?_);have e3:(ds++[I m,I (m+1:Nat),q2])++q3::c4::c5::c6::c7::(.list l[i].edge.fields.length cg tg)::c9::c10::c11::rs'=(ds++[I m,I (m+1:Nat),q2,q3])++c4::c5::c6::c7::(.list l[i].edge.fields.length cg tg)::c9::c10::c11::rs':=by simp
  rw[e3]at k3 so4 np4 T4;rw[<-hbd]at hu3 k3 ⊢;have o4:i*12+4=(ds++[I m,I (m+1:Nat),q2,q3]).length:=by rw[af,hd1];rfl
  have n4:=len (ds++[I m,I (m+1:Nat),q2,q3]) c4 (c5::c6::c7::(.list l[i].edge.fields.length cg tg)::c9::c10::c11::rs') (by simp only[af,au,aO];omega);simp (disch:=omega)only[↓pa,pb,ai,↓reduceIte,reduceEqDiff,reduceCtorEq,f0,f5,dz,bi,b0,b1,k2,hu3,k3];refine eY (X:=[]) (Y:=[]) o4 (by omega) so4 np4 T4 ⟨rfl,rfl,rfl⟩ (fun so5 np5 T5=>?_);have b4:=fun cs' E'=> @gD l.length j t0 E' (i*12+4) (ds++[I m,I (m+1:Nat),q2,q3]) (c5::c6::c7::(.list l[i].edge.fields.length cg tg)::c9::c10::c11::rs') cs' c4 (I (b:Nat)) o4;have e4:(ds++[I m,I (m+1:Nat),q2,q3])++I (b:Nat)::c5::c6::c7::(.list l[i].edge.fields.length cg tg)::c9::c10::c11::rs'=(ds++[I m,I (m+1:Nat),q2,q3,I (b:Nat)])++c5::c6::c7::(.list l[i].edge.fields.length cg tg)::c9::c10::c11::rs':=by simp
  rw[e4]at b4 so5 np5 T5;have o5:i*12+5=(ds++[I m,I (m+1:Nat),q2,q3,I (b:Nat)]).length:=by rw[af,hd1];rfl
  have n5:=len (ds++[I m,I (m+1:Nat),q2,q3,I (b:Nat)]) c5 (c6::c7::(.list l[i].edge.fields.length cg tg)::c9::c10::c11::rs') (by simp only[af,au,aO];omega);simp (disch:=omega)only[↓pa,pb,ai,aV,↓reduceIte,reduceEqDiff,reduceCtorEq,f0,f5,dz,b0,b1,k2,k3,b4,ht5];refine eY (X:=[]) (Y:=[]) o5 (by omega) so5 np5 T5 ⟨rfl,rfl,rfl⟩ (fun so6 np6 T6=>?_);have b5:=fun cs' E'=> @gD l.length j t0 E' (i*12+5) (ds++[I m,I (m+1:Nat),q2,q3,I (b:Nat)]) (c6::c7::(.list l[i].edge.fields.length cg tg)::c9::c10::c11::rs') cs' c5 (S (mt (b+1))) o5;have e5:(ds++[I m,I (m+1:Nat),q2,q3,I (b:Nat)])++S (mt (b+1))::c6::c7::(.list l[i].edge.fields.length cg tg)::c9::c10::c11::rs'=(ds++[I m,I (m+1:Nat),q2,q3,I (b:Nat),S (mt (b+1))])++c6::c7::(.list l[i].edge.fields.length cg tg)::c9::c10::c11::rs':=by simp
  rw[e5]at b5 so6 np6 T6;have o6:i*12+6=(ds++[I m,I (m+1:Nat),q2,q3,I (b:Nat),S (mt (b+1))]).length:=by rw[af,hd1];rfl
  have n6:=len (ds++[I m,I (m+1:Nat),q2,q3,I (b:Nat),S (mt (b+1))]) c6 (c7::(.list l[i].edge.fields.length cg tg)::c9::c10::c11::rs') (by simp only[af,au,aO];omega);simp (disch:=omega)only[↓pa,pb,ai,aV,↓reduceIte,reduceEqDiff,reduceCtorEq,f0,f5,dz,b0,b1,k2,k3,b4,b5];refine eY (X:=[]) (Y:=[]) o6 (by omega) so6 np6 T6 ⟨rfl,rfl,rfl⟩ (fun so7 np7 T7=>?_);have b6:=fun cs' E'=> @gD l.length j t0 E' (i*12+6) (ds++[I m,I (m+1:Nat),q2,q3,I (b:Nat),S (mt (b+1))]) (c7::(.list l[i].edge.fields.length cg tg)::c9::c10::c11::rs') cs' c6 (I (b+2:Nat)) o6;have e6:(ds++[I m,I (m+1:Nat),q2,q3,I (b:Nat),S (mt (b+1))])++I (b+2:Nat)::c7::(.list l[i].edge.fields.length cg tg)::c9::c10::c11::rs'=(ds++[I m,I (m+1:Nat),q2,q3,I (b:Nat),S (mt (b+1)),I (b+2:Nat)])++c7::(.list l[i].edge.fields.length cg tg)::c9::c10::c11::rs':=by simp
  rw[e6]at b6 so7 np7 T7;have o7:i*12+7=(ds++[I m,I (m+1:Nat),q2,q3,I (b:Nat),S (mt (b+1)),I (b+2:Nat)]).length:=by rw[af,hd1];rfl
  have n7:=len (ds++[I m,I (m+1:Nat),q2,q3,I (b:Nat),S (mt (b+1)),I (b+2:Nat)]) c7 ((.list l[i].edge.fields.length cg tg)::c9::c10::c11::rs') (by simp only[af,au,aO];omega);simp (disch:=omega)only[↓pa,pb,ai,aV,↓reduceIte,reduceEqDiff,reduceCtorEq,f0,f5,dz,b0,b1,k2,k3,b4,b5,b6];refine eY (X:=[]) (Y:=[]) o7 (by omega) so7 np7 T7 ⟨rfl,rfl,rfl⟩ (fun so8 np8 T8=>?_);have b7:=fun cs' E'=> @gD l.length j t0 E' (i*12+7) (ds++[I m,I (m+1:Nat),q2,q3,I (b:Nat),S (mt (b+1)),I (b+2:Nat)]) ((.list l[i].edge.fields.length cg tg)::c9::c10::c11::rs') cs' c7 (I (b+3:Nat)) o7;have e7:(ds++[I m,I (m+1:Nat),q2,q3,I (b:Nat),S (mt (b+1)),I (b+2:Nat)])++I (b+3:Nat)::(.list l[i].edge.fields.length cg tg)::c9::c10::c11::rs'=(ds++[I m,I (m+1:Nat),q2,q3,I (b:Nat),S (mt (b+1)),I (b+2:Nat),I (b+3:Nat)])++(.list l[i].edge.fields.length cg tg)::c9::c10::c11::rs':=by simp
  rw[e7]at b7 so8 np8 T8;have o8:i*12+8=(ds++[I m,I (m+1:Nat),q2,q3,I (b:Nat),S (mt (b+1)),I (b+2:Nat),I (b+3:Nat)]).length:=by rw[af,hd1];rfl
  have n8:=len (ds++[I m,I (m+1:Nat),q2,q3,I (b:Nat),S (mt (b+1)),I (b+2:Nat),I (b+3:Nat)]) (.list l[i].edge.fields.length cg tg) (c9::c10::c11::rs') (by simp only[af,au,aO];omega);have p8:bI ((ds++[I m,I (m+1:Nat),q2,q3,I (b:Nat),S (mt (b+1)),I (b+2:Nat),I (b+3:Nat)])++(.list l[i].edge.fields.length cg tg)::c9::c10::c11::rs') (i*12+8) 1 false=some (.list l[i].edge.fields.length cg tg):=ne (by rw[<-o8]);simp (disch:=omega)only[↓pa,pb,aV,↓reduceIte,reduceEqDiff,reduceCtorEq,f0,f5,dz,b0,b1,k2,k3,b4,b5,b6,b7,p8];refine nQ (sz:=2) (X:=[]) (Y:=[]) (xf K (b+4) l[i].edge.fields.length (by omega) (p5 so8) (wV np8) lg (qK T8)) lg (by decide) (fun e=>by rw[e];rfl) so8 np8 T8 hfl (fun u8 ms8 q8 hu8 k8 so9 np9 z8 T9=>?_);have e8:(ds++[I m,I (m+1:Nat),q2,q3,I (b:Nat),S (mt (b+1)),I (b+2:Nat),I (b+3:Nat)])++q8::c9::c10::c11::rs'=(ds++[I m,I (m+1:Nat),q2,q3,I (b:Nat),S (mt (b+1)),I (b+2:Nat),I (b+3:Nat),q8])++c9::c10::c11::rs':=by simp
  rw[e8]at k8 so9 np9 T9;have o9:i*12+9=(ds++[I m,I (m+1:Nat),q2,q3,I (b:Nat),S (mt (b+1)),I (b+2:Nat),I (b+3:Nat),q8]).length:=by rw[af,hd1];rfl
  have n9:=len (ds++[I m,I (m+1:Nat),q2,q3,I (b:Nat),S (mt (b+1)),I (b+2:Nat),I (b+3:Nat),q8]) c9 (c10::c11::rs') (by simp only[af,au,aO];omega);simp (disch:=omega)only[↓pa,pb,ai,↓reduceIte,reduceEqDiff,reduceCtorEq,f0,f5,dz,b0,b1,k2,k3,b4,b5,b6,b7,hu8,k8,ht9];refine eY (X:=[]) (Y:=[]) o9 (by omega) so9 np9 T9 ⟨rfl,rfl,rfl⟩ (fun so10 np10 T10=>?_);have b9:=fun cs' E'=> @gD l.length j t0 E' (i*12+9) (ds++[I m,I (m+1:Nat),q2,q3,I (b:Nat),S (mt (b+1)),I (b+2:Nat),I (b+3:Nat),q8]) (c10::c11::rs') cs' c9 (S (mt (b+4+2*l[i].edge.fields.length))) o9;have e9:(ds++[I m,I (m+1:Nat),q2,q3,I (b:Nat),S (mt (b+1)),I (b+2:Nat),I (b+3:Nat),q8])++S (mt (b+4+2*l[i].edge.fields.length))::c10::c11::rs'=(ds++[I m,I (m+1:Nat),q2,q3,I (b:Nat),S (mt (b+1)),I (b+2:Nat),I (b+3:Nat),q8,S (mt (b+4+2*l[i].edge.fields.length))])++c10::c11::rs':=by simp
  rw[e9]at b9 so10 np10 T10;have o10:i*12+10=(ds++[I m,I (m+1:Nat),q2,q3,I (b:Nat),S (mt (b+1)),I (b+2:Nat),I (b+3:Nat),q8,S (mt (b+4+2*l[i].edge.fields.length))]).length:=by rw[af,hd1];rfl
  have n10:=len (ds++[I m,I (m+1:Nat),q2,q3,I (b:Nat),S (mt (b+1)),I (b+2:Nat),I (b+3:Nat),q8,S (mt (b+4+2*l[i].edge.fields.length))]) c10 (c11::rs') (by simp only[af,au,aO];omega);simp (disch:=omega)only[↓pa,pb,ai,aV,↓reduceIte,reduceEqDiff,reduceCtorEq,f0,f5,dz,b0,b1,k2,k3,b4,b5,b6,b7,k8,b9,ht10];refine eY (X:=[]) (Y:=[]) o10 (by omega) so10 np10 T10 ⟨rfl,rfl,rfl⟩ (fun so11 np11 T11=>?_);have b10:=fun cs' E'=> @gD l.length j t0 E' (i*12+10) (ds++[I m,I (m+1:Nat),q2,q3,I (b:Nat),S (mt (b+1)),I (b+2:Nat),I (b+3:Nat),q8,S (mt (b+4+2*l[i].edge.fields.length))]) (c11::rs') cs' c10 (S (mt (b+4+2*l[i].edge.fields.length+1))) o10;have e10:(ds++[I m,I (m+1:Nat),q2,q3,I (b:Nat),S (mt (b+1)),I (b+2:Nat),I (b+3:Nat),q8,S (mt (b+4+2*l[i].edge.fields.length))])++S (mt (b+4+2*l[i].edge.fields.length+1))::c11::rs'=(ds++[I m,I (m+1:Nat),q2,q3,I (b:Nat),S (mt (b+1)),I (b+2:Nat),I (b+3:Nat),q8,S (mt (b+4+2*l[i].edge.fields.length)),S (mt (b+4+2*l[i].edge.fields.length+1))])++c11::rs':=by simp
  rw[e10]at b10 so11 np11 T11;have o11:i*12+11=(ds++[I m,I (m+1:Nat),q2,q3,I (b:Nat),S (mt (b+1)),I (b+2:Nat),I (b+3:Nat),q8,S (mt (b+4+2*l[i].edge.fields.length)),S (mt (b+4+2*l[i].edge.fields.length+1))]).length:=by rw[af,hd1];rfl
  have n11:=len (ds++[I m,I (m+1:Nat),q2,q3,I (b:Nat),S (mt (b+1)),I (b+2:Nat),I (b+3:Nat),q8,S (mt (b+4+2*l[i].edge.fields.length)),S (mt (b+4+2*l[i].edge.fields.length+1))]) c11 (rs') (by simp only[af,au,aO];omega);simp (disch:=omega)only[↓pa,pb,ai,aV,↓reduceIte,reduceEqDiff,reduceCtorEq,f0,f5,dz,b0,b1,k2,k3,b4,b5,b6,b7,k8,b9,b10,ht11];refine eY (X:=[]) (Y:=[]) o11 (by omega) so11 np11 T11 ⟨rfl,rfl,rfl⟩ (fun so12 np12 T12=>?_);have b11:=fun cs' E'=> @gD l.length j t0 E' (i*12+11) (ds++[I m,I (m+1:Nat),q2,q3,I (b:Nat),S (mt (b+1)),I (b+2:Nat),I (b+3:Nat),q8,S (mt (b+4+2*l[i].edge.fields.length)),S (mt (b+4+2*l[i].edge.fields.length+1))]) (rs') cs' c11 (S (mt (b+4+2*l[i].edge.fields.length+2))) o11;simp (disch:=omega)only[↓pa,pb,aV,↓reduceIte,reduceEqDiff,reduceCtorEq,f0,f5,dz,b0,b1,k2,k3,b4,b5,b6,b7,k8,b9,b10,b11];have hcat:ds++[I m,I (m+1:Nat),q2,q3,I (b:Nat),S (mt (b+1)),I (b+2:Nat),I (b+3:Nat),q8,S (mt (b+4+2*l[i].edge.fields.length)),S (mt (b+4+2*l[i].edge.fields.length+1)),S (mt (b+4+2*l[i].edge.fields.length+2))]++rs'=(ds++[I m,I (m+1:Nat),q2,q3,I (b:Nat),S (mt (b+1)),I (b+2:Nat),I (b+3:Nat),q8,S (mt (b+4+2*l[i].edge.fields.length)),S (mt (b+4+2*l[i].edge.fields.length+1))])++S (mt (b+4+2*l[i].edge.fields.length+2))::rs':=by simp
  refine⟨l.length- (i+1),by omega,i+1,ds++[I m,I (m+1:Nat),q2,q3,I (b:Nat),S (mt (b+1)),I (b+2:Nat),I (b+3:Nat),q8,S (mt (b+4+2*l[i].edge.fields.length)),S (mt (b+4+2*l[i].edge.fields.length+1)),S (mt (b+4+2*l[i].edge.fields.length+2))],rs',rfl,by omega,by rw[hcat],by rw[hkk,hbe],rfl,by simp only[af,hd1,au,aO];omega,?_,hr5,by rw[hcat];exact np12,by rw[hcat];exact so12,by rw[hcat];exact T12,hfl⟩;rw[gQ,hd2,hkm,bE,bf,mH,aD,hcm];congr 1;simp only[az,z2,z3,z8,kV]
 ·have hie:l.take i=l:=bA (by omega);have hdr:l.drop i=[]:=dM (by omega);rw[hdr]at hr2;have hrn:rs=[]:=bF (by rw[<-bw,hr2];rfl);subst hrn;rw[aD]at np0 so0 T0 f0;rw[hie]at hd2 f1;simp only[↓pa,pb,↓reduceIte,reduceEqDiff,reduceCtorEq,f0,f1,h,dz];refine⟨_,rfl,rfl,np0,so0,by simpa using T0,rfl,?_⟩;rw[eF,hd2]
end Go.PM
namespace Go.PM
def iN(J mv:List Nat)(i:Nat):List PV->List PV
 | []=>[]
 |p::ps=>(if mv.contains i then ren (aT J) false p else aC p)::iN J mv (i+1) ps
def Bm(J mv:List Nat):∀ (O8:List PV) (i n:Nat),O8.all bR=true->eX J mv i n O8=iN J mv i O8
 | [],_,_,_=>rfl
 |p::ps,i,n,h=>by
  rw[cN,ae]at h;have ih:=Bm J mv ps (i+1) n h.2;cases p<;>first|(simp only[eX,iN,ih];done)|exact absurd h.1 (by simp[bR])
section
variable {cf:aA} {f:Nat} {F:bp} {st:St} {rs:List hZ}
def mX(J ns:List Nat)(b:Bool)(st:St):St:={dI J ns st with fl:=if b then st.fl else st.nx}
def HT{J ns:List Nat}{b:Bool}{st:St}:(mX J ns b st).nx=st.nx+ns.length:=St.more_nx st ns
def vg{O8:List PV}{mv:List Nat}(hmv:mv≠ [])(hr:O8.all bR=true)(hk:aL st (fQ mv 0 O8))(hsp:gU ((fQ mv 0 O8).map (·.1)) mv 0 O8=true){r:PV}{ns:List Nat}
  (hc:cf f (iN ((fQ mv 0 O8).map (·.1)) mv 0 O8) ((fQ mv 0 O8).map (·.2)) []=some (r,ns,[])):
  av cf f O8 mv st=some (ren (fun k=>some (st.nx+k)) false r,mX ((fQ mv 0 O8).map (·.1)) ns (ft r) st)/\cD O8 mv st=(fQ mv 0 O8).map (·.1):=by
 have hb:∀ J l,rX l ([]:List (List PV))=[]/\lh J l ([]:List (List PV))=[]/\mD J l ([]:List (List PV))=true:=by intro J l;cases l<;>exact⟨rfl,rfl,rfl⟩
 have hm:dJ mv O8 []=fQ mv 0 O8:=by rw[dJ,(hb [] _).1,aD]
 cases mv with
 |nil=>exact absurd rfl hmv
 |cons m mv=>
 constructor
 ·simp only[av,fj hr,dl,hm,mf hk.1,hk.ok,hsp,(hb _ _).2.1,(hb _ _).2.2,ap,if_true,Bm _ _ _ _ _ hr,hc,aO,fi,cU,bg];rfl
 ·simp only[cD,fj hr,dl,hm]
def Kp{O8:List PV}{s:Nat}{c:List PV}(hs:st.objs s=some c)(hr:O8.all bR=true)(hk:aL st (al c))(hsp:gU ((al c).map (·.1)) [0] 1 O8=true){r:PV}{ns:List Nat}{c':List PV}
  (hc:cf f (.ptr 0 0::O8.map aC) ((al c).map (·.2)) [aZ (aT ((al c).map (·.1))) false c]=some (r,ns,[c'])):
  av cf f (.ptr s 0::O8) [0] st=some (ren (fun k=>some (st.nx+k)) false r,bP (mX ((al c).map (·.1)) ns (ft r && fo c') st) s (aZ (fun k=>some (st.nx+k)) false c'))/\cD (.ptr s 0::O8) [0] st=(al c).map (·.1):=by
 have hm:dJ [0] (.ptr s 0::O8) [c]=al c:=by
  rw[dJ,fQ,pH _ _ (by omega)];simp[ar,jx,rX,yG _ _ _ hr]
 have hh:eX ((al c).map (·.1)) [0] 0 0 (.ptr s 0::O8)= .ptr 0 0::O8.map aC:=by
  rw[eX,qU _ _ _ _ (by omega) hr]
 have hb:jx [0] 0 (.ptr s 0::O8)=[true]:=by rw[jx,yG _ _ _ hr];rfl
 have hs2:gU ((al c).map (·.1)) [0] 0 (.ptr s 0::O8)=true:=by rw[gU,hsp];rfl
 constructor
 ·simp only[av,uV hr,dl,hs,hm,mf hk.1,hk.ok,hs2,hb,mD,lh,Bool.true_or,ap,if_true,hh,hc,au,aO,fi,aH,bM,cN,cU,bg];rfl
 ·simp only[cD,uV hr,dl,hs,hm]
def JG(Q:PV->St->Prop)(o:Option (List PV))(st:St):Prop:=match o with
 |some ps=>eQ ps=true/\Q (fw ps) st
 |none=>False
def mF(rs:List hZ)(Q:PV->St->Prop)(e:Ex)(y:Fr×St):Prop:=kE e/\JG Q (ff y.1 y.2 rs) y.2
def fL:
  (∀ {fr:Fr} {st:St} {Q:PV->St->Prop} {rs:List hZ},mF rs Q .ret (fr,st)↔JG Q (ff fr st rs) st)/\(∀ {fr:Fr} {st:St} {r:hZ} {rs:List hZ},ff fr st (r::rs)=u7 (mR fr st r) (ff fr st rs))/\(∀ {fr:Fr} {st:St},ff fr st []=some [])/\
  (∀ {fr:Fr} {st:St} {t:Nat},mR fr st (.tmp t)=some (fr t))/\(∀ {fr:Fr} {st:St} {a sz:Nat} {ag:Bool},mR fr st (.cell a sz ag)=ve (fr a) sz ag st)/\(∀ {s off sz:Nat} {ag:Bool} {st:St},ve (.ptr s off) sz ag st=wc (st.objs s) off sz ag)/\
  (∀ {p:PV} {ps:List PV},u7 (some p) (some ps)=some (p::ps))/\(∀ {Q:PV->St->Prop} {ps:List PV} {st:St},JG Q (some ps) st↔eQ ps=true/\Q (fw ps) st)/\(∀ {p:PV},fw [p]=p)/\(∀ {p q:PV} {ps:List PV},fw (p::q::ps)= .tup (p::q::ps))/\
  (∀ {J ns:List Nat} {b:Bool} {st:St} {s:Nat},(mX J ns b st).objs s=(st.objs s).map fun c=>c.map (bV J)):=
 ⟨by intros;exact⟨fun h=>h.2,fun h=>⟨nn.2 trivial,h⟩⟩,rG,rfl,rfl,rfl,rfl,rfl,Iff.rfl,rfl,rfl,rfl⟩
def Jj{r0:PV}{s1:St}{cs:List (List PV)}:(aL s1 (ar r0++ji cs)/\kB true s1 r0 cs=(ren (aT ((ar r0++ji cs).map (·.1))) false r0,(ar r0++ji cs).map (·.2),cs.map (aZ (aT ((ar r0++ji cs).map (·.1))) false)))\/(¬aL s1 (ar r0++ji cs)/\(kB true s1 r0 cs=(aC r0,[],cs.map aF)\/∃ f:Nat->Option Nat,kB true s1 r0 cs=(ren f false r0,(ar r0++ji cs).map (·.2),cs.map (aZ f false)))):=by
 by_cases h:aL s1 (ar r0++ji cs)
 ·refine .inl ⟨h,?_⟩;simp only[kB,mf h.1,h.ok,ap,if_true]
 ·refine .inr ⟨h,?_⟩;unfold kB;split
  ·exact .inr ⟨_,rfl⟩
  ·exact .inl rfl
structure wH (s1:St) (r0 r:PV) (ns:List Nat):Prop where
 st:aC r=aC r0
 np:np r=np r0
 ok:aL s1 (ar r0)->∃ g:Nat->Option Nat,r=ren g false r0/\(∀ q∈ar r0,(g q.1).isSome=true)/\ns=(ar r0).map (·.2)/\ar r=cj 0 ns
def FV{O8:List PV}(hown:F.own=true)(hres:F.res=rs)(N:Nat){ns0:List Nat}{P:PV->St->Prop}(hnt:O8.length<=F.nt)(h:Wp cf N F.body (eu O8,bn ns0 []) (mF rs P)):
  ∃ r0 s1 r ns,P r0 s1/\fO cf N F O8 ns0 []=some (r,ns,[])/\PM.np r0=true/\wH s1 r0 r ns:=by
 obtain⟨e,⟨fr,s1⟩,hev,he,ho⟩:=h;subst hres;revert ho;generalize hps:ff fr s1 F.res=o1;intro ho
 match o1,ho with
 |some ps,ho=>
  obtain⟨hg,hP⟩:=ho;have h0:dl s1 (List.range 0)=some []:=rfl;obtain⟨hrow,-⟩:=qV hg;have hm:=mQ F.nk s1 ps hrow;have hn:=sv hg;have hf:gN F 0 fr s1=some (kB true s1 (fw ps) []):=by
   simp only[gN,hps,h0,hm,hn,cU,ap,if_true,hown]
  have hrun:fO cf N F O8 ns0 []=some (kB true s1 (fw ps) []):=by
   unfold fO;rw[ak ⟨hnt,aM _⟩,hev];cases e with
   |go=>exact hf
   |ret=>exact hf
   |exit i=>exact he.elim
  have hta:ji []=[]:=rfl;have h2:=Jj (r0:=fw ps) (s1:=s1) (cs:=[]);simp only[hta,aD,bM]at h2;rcases h2 with⟨hk,h2⟩|⟨hk,h2|⟨g,h2⟩⟩
  ·rw[h2]at hrun;refine⟨fw ps,s1,_,_,hP,hrun,hn,by rw[gt],by simp only[PM.np,gn],fun _=>⟨_,rfl,fun q hq=>lc (cA.2 ⟨q,hq,rfl⟩),rfl,?_⟩⟩;have h1:ar (ren (aT ((ar (fw ps)).map (·.1))) false (fw ps))=(ar (fw ps)).map fun q=>((aT ((ar (fw ps)).map (·.1)) q.1).getD 0,q.2):=
    lq _ (fun k=>(aT ((ar (fw ps)).map (·.1)) k).getD 0) (fw ps) fun q hq=>by
     obtain⟨i,hi⟩:=bW.1 (lc (cA.2 ⟨q,hq,rfl⟩));rw[hi];rfl
   rw[h1];have:=mz 0 hk.1;simpa using this
  ·rw[h2]at hrun;exact⟨fw ps,s1,_,_,hP,hrun,hn,sU _ _ _,by rw[JL],fun h=>absurd h hk⟩
  ·rw[h2]at hrun;exact⟨fw ps,s1,_,_,hP,hrun,hn,by rw[gt],by simp only[PM.np,gn],fun h=>absurd h hk⟩
end
def kI(x:Fd):List Fd->List Fd
 | []=>[x]
 |y::l=>if eq y.1 x.1=true then y::kI x l else x::y::l
def i6(l:List Fd):List Fd:=l.foldl (fun o x=>kI x o) []
def pu(l:List Fd)(x:Fd):i6 (l++[x])=kI x (i6 l):=by simp[i6]
def CY(x:Fd):∀ l:List Fd,(kI x l).length=l.length+1
 | []=>rfl
 |y::l=>by
  rw[kI];split
  ·rw[au,CY x l,au]
  ·rfl
def Hk:∀ (l:List Fd),(i6 l).length=l.length:=by
 have h:∀ (l o:List Fd),(l.foldl (fun o x=>kI x o) o).length=l.length+o.length:=by
  intro l
  induction l with
  |nil=>intro o;simp
  |cons x l ih=>intro o;rw[lm,ih,CY,au];omega
 intro l;have:=h l [];rw[i6,this];simp
def yi{x y:Fd}:∀ {l:List Fd},y∈kI x l↔y=x\/y∈l
 | []=>by simp[kI]
 |z::l=>by
  rw[kI];split
  ·rw[aX,yi (l:=l),aX];constructor
   ·rintro(h|h|h)<;>simp[h]
   ·rintro(h|h|h)<;>simp[h]
  ·rw[aX]
def A4{y:Fd}:∀ {l:List Fd},y∈i6 l↔y∈l:=by
 have h:∀ (l o:List Fd),y∈l.foldl (fun o x=>kI x o) o↔y∈l\/y∈o:=by
  intro l
  induction l with
  |nil=>intro o;simp
  |cons x l ih=>
   intro o;rw[lm,ih,yi,aX];constructor
   ·rintro(h|h|h)<;>simp[h]
   ·rintro((h|h)|h)<;>simp[h]
 intro l;rw[i6,h l []];simp
def nZ(l:List Fd):Prop:=l.Pairwise fun a b=>eq a.1 b.1=true
def ym{x:Fd}:∀ {l:List Fd},nZ l->(∀ y∈l,y.1≠x.1)->nZ (kI x l)
 | [],_,_=>i7 _ _
 |y::l,h,hn=>by
  have h2:=dr.1 h;rw[kI];split
  ·rename_i hy;refine dr.2 ⟨fun z hz=>?_,ym h2.2 fun z hz=>hn z (bU _ hz)⟩;rcases yi.1 hz with rfl|hz
   ·exact hy
   ·exact h2.1 z hz
  ·rename_i hy;have hxy:eq x.1 y.1=true:=by
    cases hc:eq x.1 y.1 with
    |true=>rfl
    |false=>exact absurd (pc (by simpa using hy) hc) (hn y List.mem_cons_self)
   refine dr.2 ⟨fun z hz=>?_,h⟩;rcases aX.1 hz with rfl|hz
   ·exact hxy
   ·exact m8 hxy (h2.1 z hz)
def Hj:∀ {l:List Fd},(l.map (·.1)).Nodup->nZ (i6 l):=by
 intro l
 induction h:l.length generalizing l with
 |zero=>intro _;rw[gd.1 h];exact List.Pairwise.nil
 |succ n ih=>
  intro hn;obtain⟨l0,x,rfl⟩:∃ l0 x,l=l0++[x]:=⟨l.dropLast,l.getLast (by intro e;rw[e]at h;simp at h),(List.dropLast_concat_getLast _).symm⟩;rw[af]at h;rw[ch,List.nodup_append]at hn;rw[pu];refine ym (ih (by simpa using h) hn.1) fun y hy e=>?_;exact hn.2.2 _ (cA.2 ⟨y,A4.1 hy,rfl⟩) _ (by simp) e
def wk{x:Fd}:∀ {l:List Fd} {k:Nat},k<=l.length->(∀ j (h:j<l.length),j<k->eq l[j].1 x.1=true)->(∀ h:k<l.length,eq l[k].1 x.1=false)->kI x l=l.take k++x::l.drop k
 | [],k,hk,_,_=>by
  have:k=0:=by simpa using hk
  subst this;rfl
 |y::l,0,_,_,h2=>by
  have hy:eq y.1 x.1=false:=h2 (by simp);rw[kI,ad (by rw[hy];simp)];rfl
 |y::l,k+1,hk,h1,h2=>by
  have hy:eq y.1 x.1=true:=h1 0 (by simp) (by omega);rw[kI,ak hy,wk (k:=k) (by simpa using hk) (fun j h hj=>by have:=h1 (j+1) (by simpa using h) (by omega);simpa using this) (fun h=>by have:=h2 (by simpa using h);simpa using this)];rfl
def zC{x:Fd}{l:List Fd}{k:Nat}(ho:nZ l)(hn:∀ y∈l,y.1≠x.1)(hk:k<=l.length)(h1:∀ j (h:j<l.length),k<=j->eq x.1 l[j].1=true)(h2:k=0\/∃ h:k-1<l.length,eq x.1 l[k-1].1=false):kI x l=l.take k++x::l.drop k:=by
 refine wk hk (fun j h hj=>?_) fun h=>rh (h1 k h (aE _));obtain⟨h3,h4⟩:=h2.resolve_left (by omega);have h5:eq l[k-1].1 x.1=true:=by
  cases hc:eq l[k-1].1 x.1 with
  |true=>rfl
  |false=>exact absurd (pc hc h4) (hn _ (ct h3))
 by_cases e:j=k-1
 ·subst e;exact h5
 ·exact m8 (mZ.1 ho j (k-1) h h3 (by omega)) h5
def yT:∀ {l:List Fd},nZ l->i6 l=l:=by
 intro l
 induction h:l.length generalizing l with
 |zero=>intro _;rw[gd.1 h];rfl
 |succ n ih=>
  intro ho;obtain⟨l0,x,rfl⟩:∃ l0 x,l=l0++[x]:=⟨l.dropLast,l.getLast (by intro e;rw[e]at h;simp at h),(List.dropLast_concat_getLast _).symm⟩;rw[af]at h;have h2:=List.pairwise_append.1 ho;rw[pu,ih (by simpa using h) h2.1,wk (k:=l0.length) (aE _) (fun j hj _=>h2.2.2 _ (ct hj) x (by simp)) (fun h=>absurd h (by omega))];simp
def iJ(l:List Fd)(n v:List UInt8):List Fd:=if v=iL then l.filter (fun f=>decide (f.1≠n))else i6 (l.filter (fun f=>decide (f.1≠n))++[(n,v)])
def pB(n v:List UInt8):Bool->List Fd->List Fd
 |b,[]=>if b then []else [(n,v)]
 |b,f::l=>(if b=false/\eq f.1 n=false then [(n,v)]else [])++(if f.1≠n then [f]else [])++pB n v (b||!eq f.1 n) l
def eN(l:List Fd)(n v:List UInt8):List Fd:=pB n v (decide (v=iL)) l
def uD(n v:List UInt8):∀ l:List Fd,pB n v true l=l.filter fun f=>decide (f.1≠n)
 | []=>rfl
 |f::l=>by
  rw[pB,Bool.true_or,uD n v l,List.filter_cons];by_cases h:f.1=n<;>simp[h]
def AU{n v:List UInt8}:∀ {l:List Fd},nZ l->pB n v false l=kI (n,v) (l.filter fun f=>decide (f.1≠n))
 | [],_=>rfl
 |f::l,h=>by
  have h2:=dr.1 h;rw[pB,Bool.false_or];cases hf:eq f.1 n with
  |true=>
   have hne:f.1≠n:=fun e=>by rw[e,mq]at hf;cases hf
   rw[List.filter_cons_of_pos (by simpa using hne),kI,ak hf,Bool.not_true,AU h2.2];simp[hne]
  |false=>
   rw[Bool.not_false,uD];by_cases hne:f.1=n
   ·rw[List.filter_cons_of_neg (by simp[hne])];have hall:∀ y∈l.filter (fun f=>decide (f.1≠n)),eq y.1 n=false:=fun y hy=>by
     have:=h2.1 y (m3.1 hy).1;rw[hne]at this;exact rh this
    generalize l.filter (fun f=>decide (f.1≠n))=m at*;cases m with
    |nil=>simp[kI,hne]
    |cons y m=>simp[kI,hall y List.mem_cons_self,hne]
   ·rw[List.filter_cons_of_pos (by simpa using hne)];simp[kI,hf,hne]
def Cv{l:List Fd}(ho:nZ l)(n v:List UInt8):eN l n v=iJ l n v:=by
 have hk:nZ (l.filter fun f=>decide (f.1≠n)):=List.Pairwise.filter _ ho;unfold eN iJ;by_cases hv:v=iL
 ·rw[ak hv,decide_eq_true hv,uD]
 ·rw[ad hv,decide_eq_false hv,AU ho,pu,yT hk]
def Cy{l:List Fd}(ho:nZ l)(n v:List UInt8):nZ (iJ l n v):=by
 have hk:nZ (l.filter fun f=>decide (f.1≠n)):=List.Pairwise.filter _ ho;unfold iJ;by_cases hv:v=iL
 ·rw[ak hv];exact hk
 ·rw[ad hv,pu,yT hk];exact ym hk fun y hy=>by simpa using(m3.1 hy).2
def w7{l:List Fd}(h:lX (l.map (·.1))):nZ l:=List.pairwise_map.1 h
def zG{l:List Fd}(h:nZ l):(l.map (·.1)).Nodup:=List.pairwise_map.2 (h.imp fun{a b} hab e=>by rw[e,mq]at hab;cases hab)
def lf(c:Ch):Bool:=
 if c.kind=1 then pF c.node else if c.kind=2 then km c.node.id else if c.kind=3 then ol c.edge else if c.kind=4 then km c.edge.id
 else if c.kind=5 then km c.node.id && iM 10 c.node.labels
 else if c.kind=6 then(match fu c.value with
  |some v=>decide (v.kind=8)||decide (v.kind=9)
  |none=>false) && (dH c.name && (decide (c.text=iL)||jZ c.text))
 else false
structure zQ where
 insN:Nd->List Nd->List Nd
 insE:Eg->List Eg->List Eg
 put:List Fd->List UInt8->List UInt8->List Fd
def ux(w:zQ)(g:bY)(c:Ch)(id:Int):bY×Int:=
 if h:dA g.nodes id<0 then(g,5)else
  if 20<(w.put (s8 g.nodes (dA g.nodes id).toNat).fields c.name c.text).length then(g,4)
  else(⟨g.nodes.set (dA g.nodes id).toNat {s8 g.nodes (dA g.nodes id).toNat with fields:=w.put (s8 g.nodes (dA g.nodes id).toNat).fields c.name c.text},g.edges⟩,0)
def uy(w:zQ)(g:bY)(c:Ch)(id:Int):bY×Int:=
 if h:fI g.edges id<0 then(g,5)else
  if 20<(w.put (sE g.edges (fI g.edges id).toNat).fields c.name c.text).length then(g,4)
  else(⟨g.nodes,g.edges.set (fI g.edges id).toNat {sE g.edges (fI g.edges id).toNat with fields:=w.put (sE g.edges (fI g.edges id).toNat).fields c.name c.text}⟩,0)
def jr(w:zQ)(g:bY)(c:Ch):bY×Int:=match fu c.value with
 |some v=>if v.kind=9 then uy w g c v.num else ux w g c v.num
 |none=>(g,0)
def lH(w:zQ)(g:bY)(c:Ch):bY×Int:=
 if lf c=false then(g,1)
 else if c.kind=1 then(if 0<=dA g.nodes c.node.id then(g,9)else if g.nodes.length=200 then(g,4)else(⟨w.insN c.node g.nodes,g.edges⟩,0))
 else if c.kind=2 then(if dA g.nodes c.node.id<0 then(g,5)else if g.edges.any (fun e=>decide (e.src=c.node.id)||decide (e.dst=c.node.id))=true then(g,6)else(⟨g.nodes.eraseIdx (dA g.nodes c.node.id).toNat,g.edges⟩,0))
 else if c.kind=3 then(if 0<=fI g.edges c.edge.id then(g,9)else if dA g.nodes c.edge.src<0\/dA g.nodes c.edge.dst<0 then(g,5)else if g.edges.length=400 then(g,4)else(⟨g.nodes,w.insE c.edge g.edges⟩,0))
 else if c.kind=4 then(if fI g.edges c.edge.id<0 then(g,5)else(⟨g.nodes,g.edges.eraseIdx (fI g.edges c.edge.id).toNat⟩,0))
 else if c.kind=5 then(if dA g.nodes c.node.id<0 then(g,5)else(⟨g.nodes.set (dA g.nodes c.node.id).toNat {s8 g.nodes (dA g.nodes c.node.id).toNat with labels:=c.node.labels},g.edges⟩,0))
 else jr w g c
def gY(w:zQ):Nat->bY->List Ch->bY×Nat×Int
 |_,g,[]=>(g,0,0)
 |i,g,c::l=>if(lH w g c).2≠0 then((lH w g c).1,i,(lH w g c).2)else gY w (i+1) (lH w g c).1 l
def iX(x:Nd):List Nd->List Nd
 | []=>[x]
 |y::l=>if x.id<y.id then x::y::l else y::iX x l
def gI(x:Eg):List Eg->List Eg
 | []=>[x]
 |y::l=>if x.id<y.id then x::y::l else y::gI x l
def my(x:Eg):List Eg->List Eg
 | []=>[x]
 |y::l=>if y.id<x.id then y::my x l else x::y::l
def wS:zQ:=⟨iX,gI,iJ⟩
def wP:zQ:=⟨lw,my,eN⟩
def Gd{l:List Nd}{id:Int}(h:¬0<=dA l id):∀ y∈l,y.id≠id:=by
 have hg:∀ (l:List Nd) (i:Nat),¬0<=mw id l i->∀ y∈l,y.id≠id:=by
  intro l
  induction l with
  |nil=>intro i _ y hy;cases hy
  |cons x l ih=>
   intro i hi y hy;rw[mw]at hi;by_cases he:x.id=id
   ·rw[ak he]at hi;omega
   ·rw[ad he]at hi;rcases aX.1 hy with rfl|hy
    ·exact he
    ·exact ih _ hi y hy
 exact hg l 0 h
def GH{l:List Eg}{id:Int}(h:¬0<=fI l id):∀ y∈l,y.id≠id:=by
 have hg:∀ (l:List Eg) (i:Nat),¬0<=oa id l i->∀ y∈l,y.id≠id:=by
  intro l
  induction l with
  |nil=>intro i _ y hy;cases hy
  |cons x l ih=>
   intro i hi y hy;rw[oa]at hi;by_cases he:x.id=id
   ·rw[ak he]at hi;omega
   ·rw[ad he]at hi;rcases aX.1 hy with rfl|hy
    ·exact he
    ·exact ih _ hi y hy
 exact hg l 0 h
def kZ{l:List Nd}{id:Int}:dA l id<l.length:=by
 have hg:∀ (l:List Nd) (i:Nat),mw id l i<(i+l.length:Nat):=by
  intro l
  induction l with
  |nil=>intro i;rw[mw];omega
  |cons x l ih=>
   intro i;rw[mw];split
   ·simp only[au];omega
   ·have:=ih (i+1);simp only[au];omega
 simpa [dA]using hg l 0
def pn{l:List Eg}{id:Int}:fI l id<l.length:=by
 have hg:∀ (l:List Eg) (i:Nat),oa id l i<(i+l.length:Nat):=by
  intro l
  induction l with
  |nil=>intro i;rw[oa];omega
  |cons x l ih=>
   intro i;rw[oa];split
   ·simp only[au];omega
   ·have:=ih (i+1);simp only[au];omega
 simpa [fI]using hg l 0
def Bf{x:Nd}:∀ {l:List Nd},(∀ y∈l,y.id≠x.id)->lw x l=iX x l
 | [],_=>rfl
 |y::l,h=>by
  have h1:=h y List.mem_cons_self;rw[lw,iX];by_cases hy:y.id<x.id
  ·rw[ak hy,ad (by omega),Bf fun z hz=>h z (bU _ hz)]
  ·rw[ad hy,ak (by omega)]
def Bg{x:Eg}:∀ {l:List Eg},(∀ y∈l,y.id≠x.id)->my x l=gI x l
 | [],_=>rfl
 |y::l,h=>by
  have h1:=h y List.mem_cons_self;rw[my,gI];by_cases hy:y.id<x.id
  ·rw[ak hy,ad (by omega),Bg fun z hz=>h z (bU _ hz)]
  ·rw[ad hy,ak (by omega)]
def CM{x y:Nd}:∀ {l:List Nd},y∈iX x l->y=x\/y∈l
 | [],h=>by simpa [iX]using h
 |z::l,h=>by
  rw[iX]at h;split at h
  ·simpa using h
  ·rcases aX.1 h with rfl|h
   ·simp
   ·rcases CM h with h|h<;>simp[h]
def A5{x y:Eg}:∀ {l:List Eg},y∈gI x l->y=x\/y∈l
 | [],h=>by simpa [gI]using h
 |z::l,h=>by
  rw[gI]at h;split at h
  ·simpa using h
  ·rcases aX.1 h with rfl|h
   ·simp
   ·rcases A5 h with h|h<;>simp[h]
def CW(x:Nd):∀ l:List Nd,(iX x l).length=l.length+1
 | []=>rfl
 |y::l=>by rw[iX];split<;>simp[CW x l]
def Bh(x:Eg):∀ l:List Eg,(gI x l).length=l.length+1
 | []=>rfl
 |y::l=>by rw[gI];split<;>simp[Bh x l]
structure jO (g:bY):Prop where
 nl:g.nodes.length<=200
 el:g.edges.length<=400
 ns:∀ n∈g.nodes,n.labels.length<=10/\n.fields.length<=20/\nZ n.fields
 es:∀ e∈g.edges,e.fields.length<=20/\nZ e.fields
def wT{g:bY}(h:ed g=true):jO g:=by
 have:=N3 h;exact⟨this.nl,this.el,fun n hn=>⟨(this.ns n hn).ll,(this.ns n hn).fl,w7 (this.ns n hn).fd.ord⟩,fun e he=>⟨(this.es e he).fl,w7 (this.es e he).fd.ord⟩⟩
def Am{l:List Nd}{i:Nat}(h:i<l.length):s8 l i∈l:=by rw[mK h];exact ct h
def Fc{l:List Eg}{i:Nat}(h:i<l.length):sE l i∈l:=by rw[om h];exact ct h
def ii{p:Prop}[Decidable p]{a b:bY×Int}{P:bY->Prop}(h1:p->P a.1)(h2:¬p->P b.1):P (if p then a else b).1:=by
 split
 ·exact h1 ‹_›
 ·exact h2 ‹_›
def ss{g:bY}(c:Ch)(h:jO g):jO (lH wS g c).1:=by
 unfold lH;refine ii (fun _=>h) fun hf=>?_;have hf:lf c=true:=by simpa using hf
 unfold lf at hf;refine ii (fun hk=>?_) fun hk1=>?_
 ·rw[ak hk]at hf;refine ii (fun _=>h) fun _=>ii (fun _=>h) fun h2=>?_;rw[pF,ae,ae]at hf;refine⟨?_,h.el,fun n hn=>?_,h.es⟩
  ·show(iX _ _).length<=200;rw[CW];have:=h.nl;omega
  ·rcases CM hn with rfl|hn
   ·exact⟨uQ hf.2.1,rK hf.2.2,w7 (tj hf.2.2).ord⟩
   ·exact h.ns n hn
 rw[ad hk1]at hf;refine ii (fun hk=>?_) fun hk2=>?_
 ·refine ii (fun _=>h) fun _=>ii (fun _=>h) fun h2=>?_;exact⟨dQ (List.length_eraseIdx_le _ _) h.nl,h.el,fun n hn=>h.ns n (List.mem_of_mem_eraseIdx hn),h.es⟩
 rw[ad hk2]at hf;refine ii (fun hk=>?_) fun hk3=>?_
 ·rw[ak hk]at hf;refine ii (fun _=>h) fun _=>ii (fun _=>h) fun _=>ii (fun _=>h) fun h2=>?_;rw[ol,ae,ae,ae,ae]at hf;refine⟨h.nl,?_,h.ns,fun e he=>?_⟩
  ·show(gI _ _).length<=400;rw[Bh];have:=h.el;omega
  ·rcases A5 he with rfl|he
   ·exact⟨rK hf.2.2.2.2,w7 (tj hf.2.2.2.2).ord⟩
   ·exact h.es e he
 rw[ad hk3]at hf;refine ii (fun hk=>?_) fun hk4=>?_
 ·refine ii (fun _=>h) fun _=>?_;exact⟨h.nl,dQ (List.length_eraseIdx_le _ _) h.el,h.ns,fun e he=>h.es e (List.mem_of_mem_eraseIdx he)⟩
 rw[ad hk4]at hf;refine ii (fun hk=>?_) fun hk5=>?_
 ·rw[ak hk,ae]at hf;refine ii (fun _=>h) fun h0=>?_;have hlt:= @kZ g.nodes c.node.id;refine⟨by simpa using h.nl,h.el,fun n hn=>?_,h.es⟩;rcases fH hn with hn|rfl
  ·exact h.ns n hn
  ·have:=h.ns _ (Am (l:=g.nodes) (i:=(dA g.nodes c.node.id).toNat) (by omega));exact⟨uQ hf.2,this.2⟩
 unfold jr;split
 ·rename_i v _;refine ii (fun _=>?_) fun _=>?_
  ·unfold uy;split
   ·exact h
   ·have hlt:= @pn g.edges v.num;refine ii (fun _=>h) fun hl=>?_;refine⟨h.nl,by simpa using h.el,h.ns,fun e he=>?_⟩;rcases fH he with he|rfl
    ·exact h.es e he
    ·exact⟨by simpa using hl,Cy (h.es _ (Fc (by omega))).2 _ _⟩
  ·unfold ux;split
   ·exact h
   ·have hlt:= @kZ g.nodes v.num;refine ii (fun _=>h) fun hl=>?_;refine⟨by simpa using h.nl,h.el,fun n hn=>?_,h.es⟩;rcases fH hn with hn|rfl
    ·exact h.ns n hn
    ·have:=h.ns _ (Am (l:=g.nodes) (i:=(dA g.nodes v.num).toNat) (by omega));exact⟨this.1,by simpa using hl,Cy this.2.2 _ _⟩
 ·exact h
def De{g:bY}(c:Ch)(h:jO g):lH wP g c=lH wS g c:=by
 have h1:¬0<=dA g.nodes c.node.id->wP.insN c.node g.nodes=wS.insN c.node g.nodes:=fun hn=>Bf (Gd hn);have h2:¬0<=fI g.edges c.edge.id->wP.insE c.edge g.edges=wS.insE c.edge g.edges:=fun hn=>Bg (GH hn);have h3:∀ v,fu c.value=some v->ux wP g c v.num=ux wS g c v.num:=fun v _=>by
  unfold ux;by_cases h0:dA g.nodes v.num<0
  ·rw[dif_pos h0,dif_pos h0]
  ·have hlt:= @kZ g.nodes v.num;have:=Cv (h.ns _ (Am (l:=g.nodes) (i:=(dA g.nodes v.num).toNat) (by omega))).2.2 c.name c.text;rw[dif_neg h0,dif_neg h0,show wP.put=eN from rfl,show wS.put=iJ from rfl,this]
 have h4:∀ v,fu c.value=some v->uy wP g c v.num=uy wS g c v.num:=fun v _=>by
  unfold uy;by_cases h0:fI g.edges v.num<0
  ·rw[dif_pos h0,dif_pos h0]
  ·have hlt:= @pn g.edges v.num;have:=Cv (h.es _ (Fc (l:=g.edges) (i:=(fI g.edges v.num).toNat) (by omega))).2 c.name c.text;rw[dif_neg h0,dif_neg h0,show wP.put=eN from rfl,show wS.put=iJ from rfl,this]
 have h5:jr wP g c=jr wS g c:=by
  unfold jr;cases hv:fu c.value with
  |none=>rfl
  |some v=>simp only[h3 v hv,h4 v hv]
 unfold lH;rw[h5];by_cases a:0<=dA g.nodes c.node.id<;>by_cases b:0<=fI g.edges c.edge.id<;>simp only[a,b,if_true,if_false,h1,h2,not_false_eq_true]
def Bw:∀ (l:List Ch) (i:Nat) {g:bY},jO g->gY wP i g l=gY wS i g l
 | [],_,_,_=>rfl
 |c::l,i,g,h=>by
  rw[gY,gY,De c h];split
  ·rfl
  ·exact Bw l (i+1) (ss c h)
def A2:∀ (l:List Ch) (i:Nat) {g:bY},jO g->jO (gY wS i g l).1
 | [],_,_,h=>h
 |c::l,i,g,h=>by
  rw[gY];split
  ·exact ss c h
  ·exact A2 l (i+1) (ss c h)
end Go.PM
namespace Go.PM
open Go.Lib
variable {cf:aA} {st:St} {mk:PV->St->Fr×St} {A:Fr×St->Prop} {s:Nat}
def L4(K:bJ cf)(l:List Fd)(hn:(l.map (·.1)).Nodup)(hl:l.length<=2000000):∃ r,r=FX (i6 l)/\∃ fl,av cf 132 [FX l] [] st=some (r,cZ st fl):=by
 refine ou K.tab (F:=F132) (Q:=fun r=>r=FX (i6 l)) rfl rfl rfl (lb rfl) (by simp[ga]) (l.length+2) ?_;have hm:=fq l;unfold F132 qr qd qm qi qc qb qk ql qa qy qn qo qN;simp only[↓pa,↓bT,pb,ai,↓reduceIte,reduceAdd,reduceLT,dv,dR];refine be (fun q fr st=>∃ (i:Nat) (tok:aB),q=l.length-i/\i<=l.length/\fr 3= .list (i6 (l.take i)).length ((i6 (l.take i)).flatMap fc) tok/\fr 0=FX l/\fr 4=I i/\((tok= .full 133/\i6 (l.take i)=[])\/∃ j,tok= .own j 133/\j<st.nx/\st.cnt j=(i6 (l.take i)).length)/\st.fl=0) l.length (by omega)
  ⟨0,.full 133,by simp,by omega,by simp only[↓pa,↓reduceIte,reduceEqDiff];rfl,by simp only[↓pa,↓reduceIte,reduceCtorEq],by simp only[↓pa,↓reduceIte];rfl,.inl ⟨rfl,rfl⟩,rfl⟩ ?_
 rintro q fr st ⟨i,tok,rfl,hi,f3,f0,f4,hG,hfl⟩;have holen:=Hk (l.take i);rw[aG]at holen;simp only[↓pa,pb,aV,↓reduceIte,reduceEqDiff,reduceCtorEq,f0,f4];refine aa (fun h1=>?_) (fun h1=>?_);rotate_left
 ·have hie:l.take i=l:=bA (by omega);rw[hie]at f3;simp only[↓pa,pb,az,↓reduceIte,reduceEqDiff,f3,h1,EP]
  try rw[FX]
 have hlt:i<l.length:=by omega
 have ho:nZ (i6 (l.take i)):=Hj (by rw[List.map_take];exact hn.sublist (List.take_sublist _ _));have hnext:i6 (l.take (i+1))=kI l[i] (i6 (l.take i)):=by rw[aW hlt,pu]
 have hxo:∀ y∈i6 (l.take i),y.1≠l[i].1:=by
  intro y hy;rw[A4]at hy;obtain⟨j,hj,he⟩:=em hy;rw[aG]at hj;rw[List.getElem_take]at he;have hp:=mZ.1 (List.pairwise_map.1 hn) j i (by omega) hlt (by omega);rw[<-he];exact hp
 generalize hod:i6 (l.take i)=o at*;simp only[↓pa,pb,↓reduceIte,reduceEqDiff,f3,h1];have hmo:=fq o;have hpos:∀ (k:Nat),k<=o.length->(((k:Int) -1).toNat)=k-1:=fun k _=>by omega
 refine be (fun k fr st=>k<=o.length/\fr 0=FX l/\fr 3= .list o.length (o.flatMap fc) tok/\fr 4=I i/\fr 5=I k/\(∀ j (h:j<o.length),k<=j->eq l[i].1 o[j].1=true)/\((tok= .full 133/\o=[])\/∃ j,tok= .own j 133/\j<st.nx/\st.cnt j=o.length)/\st.fl=0) o.length (by omega)
  ⟨aE _,by simp only[↓pa,↓reduceIte,reduceCtorEq,f0],by simp only[↓pa,↓reduceIte,reduceEqDiff,f3],by simp only[↓pa,↓reduceIte,reduceEqDiff,f4],by simp only[↓pa,↓reduceIte],fun j h hj=>by omega,hG,hfl⟩ ?_
 clear f0 f3 f4 hG hfl;rintro k fr st ⟨hk,f0,f3,f4,f5,hgt,hG,hfl⟩;simp only[↓pa,pb,↓reduceIte,f5];refine aa (fun h2=>?_) (fun h2=>?_);rotate_left
 ·have hend:k=0\/∃ h:k-1<o.length,eq l[i].1 o[k-1].1=false:= .inl (by omega);simp only[↓pa,↓bT,pb,ai,↓reduceIte,reduceEqDiff,reduceAdd,reduceLT,f3,f5,h2];have hp:=fun st=> @uv st 2 o.length k (o.flatMap fc) tok (fq o) hk;have hq:=fun st=> @uu st 2 o.length k (o.flatMap fc) tok (fq o) hk;have hins:=zC ho hxo hk hgt hend;have hins2:k+1+(0+(o.length-k))=(o.take k++l[i]::o.drop k).length:=by simp;omega
  have hcell:(o.take k).flatMap fc++[PV.str ⟨l[i].1.toArray⟩,.str ⟨l[i].2.toArray⟩]++(o.drop k).flatMap fc=(o.take k++l[i]::o.drop k).flatMap fc:=by
   rw[bE,bf,<-bl];rfl
  have htl:((o.take k).flatMap fc).length=k*2:=by rw[fq,aG];congr 1;omega
  have hdl:((o.drop k).flatMap fc).length=(0+(o.length-k)) *2:=by rw[fq,aU];congr 1;omega
  simp only[↓pa,↓reduceIte,reduceEqDiff,jt,hq,jn fc 2 pN,dv,dR];refine bj (n:=0) (m:=o.length-k) je rfl (by rw[fq,aU]) (by omega) (by omega) (by decide) ?_;simp (disch:=omega)only[↓pa,↓bT,pb,ai,↓reduceIte,reduceEqDiff,reduceAdd,reduceLeDiff,reduceLT,reduceCtorEq,f0,f3,f4,f5,jt,hp,qv hlt,jm fc 2 pN];have hpl1:=hO (o.drop k);have hpl2:=hO (o.take k);rcases hG with⟨rfl,ho0⟩|⟨j,rfl,hj,hjc⟩
  ·have hm0:o.length=0:=by rw[ho0];rfl
   have hk0:k=0:=by omega
   have hcut:aB.cut true o.length k (.full 133)= .full 133:=by simp[aB.cut,hk0,hm0]
   have g1:Gr 133 (st.more [0+(o.length-k)]).nx (st.more [0+(o.length-k)]).cnt k (.full 133):=⟨rfl,hk0⟩;simp only[hcut,jt,dV];refine bj g1 htl rfl (by omega) (by omega) (by decide) ?_;have g2:=di (m:=1) g1;simp only[dU,dV]at g2;simp only[↓pa,↓reduceIte,reduceEqDiff,jt,dU,dV];refine bj g2 (by rw[af,htl];simp;omega) hdl (by omega) (by omega) (by decide) ?_;have g3:=di (m:=0+(o.length-k)) g2;simp only[dU,dV]at g3;simp (disch:=omega)only[↓pa,pb,aV,↓reduceIte,reduceEqDiff,reduceCtorEq,f0,f4,jt,dU,dV];refine⟨l.length- (i+1),by omega,i+1,_,rfl,by omega,?_,rfl,.inr ⟨_,rfl,g3.1,by rw[hnext,hins,<-hins2];exact g3.2.1⟩,by simp[St.count,St.more_fl,hfl]⟩;rw[hnext,hins,hins2,hcell]
  ·by_cases hkm:k=o.length
   ·have hcut:aB.cut true o.length k (.own j 133)= .own j 133:=by simp[aB.cut,hkm]
    have g1:Gr 133 (st.more [0+(o.length-k)]).nx (st.more [0+(o.length-k)]).cnt k (.own j 133):=⟨by simp[St.more];omega,by simp[St.more,hj,hjc,hkm],rfl⟩;simp only[hcut,jt,dV];refine bj g1 htl rfl (by omega) (by omega) (by decide) ?_;have g2:=di (m:=1) g1;simp only[dU,dV]at g2;simp only[↓pa,↓reduceIte,reduceEqDiff,jt,dU,dV];refine bj g2 (by rw[af,htl];simp;omega) hdl (by omega) (by omega) (by decide) ?_;have g3:=di (m:=0+(o.length-k)) g2;simp only[dU,dV]at g3;simp (disch:=omega)only[↓pa,pb,aV,↓reduceIte,reduceEqDiff,reduceCtorEq,f0,f4,jt,dU,dV];refine⟨l.length- (i+1),by omega,i+1,_,rfl,by omega,?_,rfl,.inr ⟨_,rfl,g3.1,by rw[hnext,hins,<-hins2];exact g3.2.1⟩,by simp[St.count,St.more_fl,hfl]⟩;rw[hnext,hins,hins2,hcell]
   ·have hcut:aB.cut true o.length k (.own j 133)= .el j 133 o.length:=by simp[aB.cut,hkm,aB.elt]
    obtain⟨ha,hJ⟩:=DC (st:=st.more [0+(o.length-k)]) (e:=133) (sz:=2) (b:=32) (n:=k) (c:=o.length) (j:=j) (cs:=(o.take k).flatMap fc) (y:= .list 1 [S l[i].1,S l[i].2] (.full 133)) (by omega) (by simp[St.more];omega) (by simp[St.more,hj,hjc]) (by rw[St.more_fl,hfl];omega) (r8 hpl2) rfl;have g1:Gr 133 (ic (st.more [0+(o.length-k)]) j k).nx (ic (st.more [0+(o.length-k)]) j k).cnt k (.own (st.more [0+(o.length-k)]).nx 133):=⟨by simp[ic,St.more],by
     have:¬ (st.nx+1=j):=by omega
     simp[ic,St.more,this],rfl⟩
    have k0:= @jU [j] _ (ga l);have k4:bV [j] (I i)=I i:=jU (aQ _ _);have k6:bV [j] (.list (0+(o.length-k)) ((o.drop k).flatMap fc) (.own st.nx 133))= .list (0+(o.length-k)) ((o.drop k).flatMap fc) (.own st.nx 133):=by
     have:¬ (st.nx=j):=by omega
     have ht:=r8 (J:=[j]) hpl1;rw[bV,ak];simp only[tf,ht,bg];simp[aB.free,aB.of,this]
    simp only[hcut,ha,hJ,dV];refine bj g1 htl rfl (by omega) (by omega) (by decide) ?_;have g2:=di (m:=1) g1;simp only[dU,dV]at g2;simp only[↓pa,↓reduceIte,reduceEqDiff,jt,dU,dV,k6];refine bj g2 (by rw[af,htl];simp;omega) hdl (by omega) (by omega) (by decide) ?_;have g3:=di (m:=0+(o.length-k)) g2;simp only[dU,dV]at g3;simp (disch:=omega)only[↓pa,pb,aV,↓reduceIte,reduceEqDiff,reduceCtorEq,f0,f4,jt,dU,dV,k0,k4];refine⟨l.length- (i+1),by omega,i+1,_,rfl,by omega,?_,rfl,.inr ⟨_,rfl,g3.1,by rw[hnext,hins,<-hins2];exact g3.2.1⟩,by simp[St.count,St.more_fl,ic,hfl]⟩;rw[hnext,hins,hins2,hcell]
 ·have hk0:0<k:=by omega
  have hk1:k-1<o.length:=by omega
  have hne:¬o[k-1].1=l[i].1:=hxo _ (ct hk1);simp (maxSteps:=999999) (disch:=omega)only[↓pa,pb,↓reduceIte,reduceEqDiff,reduceCtorEq,f0,f3,f4,f5,h2,hpos k hk,bi,oE hk1,oE hlt];refine aa (fun h3=>?_) (fun h3=>?_);rotate_left
  ·have h3':eq l[i].1 o[k-1].1=true:=by
    cases hc:eq l[i].1 o[k-1].1 with
    |true=>rfl
    |false=>exact absurd (pc (by simpa [hne]using h3) hc) hne
   simp (disch:=omega)only[↓pa,pb,↓reduceIte,reduceEqDiff,reduceCtorEq,f0,f3,f4,f5];refine⟨k-1,by omega,by omega,?_,fun j h hj=>?_,hG,hfl⟩
   ·congr 1;omega
   ·by_cases e:j=k-1
    ·subst e;exact h3'
    ·exact hgt j h (by omega)
  ·have h3':eq o[k-1].1 l[i].1=true:=by simpa [hne]using h3
   have hend:k=0\/∃ h:k-1<o.length,eq l[i].1 o[k-1].1=false:= .inr ⟨hk1,rh h3'⟩;simp only[↓pa,↓bT,pb,ai,↓reduceIte,reduceEqDiff,reduceAdd,reduceLT,f3,f5];have hp:=fun st=> @uv st 2 o.length k (o.flatMap fc) tok (fq o) hk;have hq:=fun st=> @uu st 2 o.length k (o.flatMap fc) tok (fq o) hk;have hins:=zC ho hxo hk hgt hend;have hins2:k+1+(0+(o.length-k))=(o.take k++l[i]::o.drop k).length:=by simp;omega
   have hcell:(o.take k).flatMap fc++[PV.str ⟨l[i].1.toArray⟩,.str ⟨l[i].2.toArray⟩]++(o.drop k).flatMap fc=(o.take k++l[i]::o.drop k).flatMap fc:=by
    rw[bE,bf,<-bl];rfl
   have htl:((o.take k).flatMap fc).length=k*2:=by rw[fq,aG];congr 1;omega
   have hdl:((o.drop k).flatMap fc).length=(0+(o.length-k)) *2:=by rw[fq,aU];congr 1;omega
   simp only[↓pa,↓reduceIte,reduceEqDiff,jt,hq,jn fc 2 pN,dv,dR];refine bj (n:=0) (m:=o.length-k) je rfl (by rw[fq,aU]) (by omega) (by omega) (by decide) ?_;simp (disch:=omega)only[↓pa,↓bT,pb,ai,↓reduceIte,reduceEqDiff,reduceAdd,reduceLeDiff,reduceLT,reduceCtorEq,f0,f3,f4,f5,jt,hp,qv hlt,jm fc 2 pN];have hpl1:=hO (o.drop k);have hpl2:=hO (o.take k);rcases hG with⟨rfl,ho0⟩|⟨j,rfl,hj,hjc⟩
   ·have hm0:o.length=0:=by rw[ho0];rfl
    have hk0:k=0:=by omega
    have hcut:aB.cut true o.length k (.full 133)= .full 133:=by simp[aB.cut,hk0,hm0]
    have g1:Gr 133 (st.more [0+(o.length-k)]).nx (st.more [0+(o.length-k)]).cnt k (.full 133):=⟨rfl,hk0⟩;simp only[hcut,jt,dV];refine bj g1 htl rfl (by omega) (by omega) (by decide) ?_;have g2:=di (m:=1) g1;simp only[dU,dV]at g2;simp only[↓pa,↓reduceIte,reduceEqDiff,jt,dU,dV];refine bj g2 (by rw[af,htl];simp;omega) hdl (by omega) (by omega) (by decide) ?_;have g3:=di (m:=0+(o.length-k)) g2;simp only[dU,dV]at g3;simp (disch:=omega)only[↓pa,pb,aV,↓reduceIte,reduceEqDiff,reduceCtorEq,f0,f4,jt,dU,dV];refine⟨l.length- (i+1),by omega,i+1,_,rfl,by omega,?_,rfl,.inr ⟨_,rfl,g3.1,by rw[hnext,hins,<-hins2];exact g3.2.1⟩,by simp[St.count,St.more_fl,hfl]⟩;rw[hnext,hins,hins2,hcell]
   ·by_cases hkm:k=o.length
    ·have hcut:aB.cut true o.length k (.own j 133)= .own j 133:=by simp[aB.cut,hkm]
     have g1:Gr 133 (st.more [0+(o.length-k)]).nx (st.more [0+(o.length-k)]).cnt k (.own j 133):=⟨by simp[St.more];omega,by simp[St.more,hj,hjc,hkm],rfl⟩;simp only[hcut,jt,dV];refine bj g1 htl rfl (by omega) (by omega) (by decide) ?_;have g2:=di (m:=1) g1;simp only[dU,dV]at g2;simp only[↓pa,↓reduceIte,reduceEqDiff,jt,dU,dV];refine bj g2 (by rw[af,htl];simp;omega) hdl (by omega) (by omega) (by decide) ?_;have g3:=di (m:=0+(o.length-k)) g2;simp only[dU,dV]at g3;simp (disch:=omega)only[↓pa,pb,aV,↓reduceIte,reduceEqDiff,reduceCtorEq,f0,f4,jt,dU,dV];refine⟨l.length- (i+1),by omega,i+1,_,rfl,by omega,?_,rfl,.inr ⟨_,rfl,g3.1,by rw[hnext,hins,<-hins2];exact g3.2.1⟩,by simp[St.count,St.more_fl,hfl]⟩;rw[hnext,hins,hins2,hcell]
    ·have hcut:aB.cut true o.length k (.own j 133)= .el j 133 o.length:=by simp[aB.cut,hkm,aB.elt]
     obtain⟨ha,hJ⟩:=DC (st:=st.more [0+(o.length-k)]) (e:=133) (sz:=2) (b:=32) (n:=k) (c:=o.length) (j:=j) (cs:=(o.take k).flatMap fc) (y:= .list 1 [S l[i].1,S l[i].2] (.full 133)) (by omega) (by simp[St.more];omega) (by simp[St.more,hj,hjc]) (by rw[St.more_fl,hfl];omega) (r8 hpl2) rfl;have g1:Gr 133 (ic (st.more [0+(o.length-k)]) j k).nx (ic (st.more [0+(o.length-k)]) j k).cnt k (.own (st.more [0+(o.length-k)]).nx 133):=⟨by simp[ic,St.more],by
      have:¬ (st.nx+1=j):=by omega
      simp[ic,St.more,this],rfl⟩
     have k0:= @jU [j] _ (ga l);have k4:bV [j] (I i)=I i:=jU (aQ _ _);have k6:bV [j] (.list (0+(o.length-k)) ((o.drop k).flatMap fc) (.own st.nx 133))= .list (0+(o.length-k)) ((o.drop k).flatMap fc) (.own st.nx 133):=by
      have:¬ (st.nx=j):=by omega
      have ht:=r8 (J:=[j]) hpl1;rw[bV,ak];simp only[tf,ht,bg];simp[aB.free,aB.of,this]
     simp only[hcut,ha,hJ,dV];refine bj g1 htl rfl (by omega) (by omega) (by decide) ?_;have g2:=di (m:=1) g1;simp only[dU,dV]at g2;simp only[↓pa,↓reduceIte,reduceEqDiff,jt,dU,dV,k6];refine bj g2 (by rw[af,htl];simp;omega) hdl (by omega) (by omega) (by decide) ?_;have g3:=di (m:=0+(o.length-k)) g2;simp only[dU,dV]at g3;simp (disch:=omega)only[↓pa,pb,aV,↓reduceIte,reduceEqDiff,reduceCtorEq,f0,f4,jt,dU,dV,k0,k4];refine⟨l.length- (i+1),by omega,i+1,_,rfl,by omega,?_,rfl,.inr ⟨_,rfl,g3.1,by rw[hnext,hins,<-hins2];exact g3.2.1⟩,by simp[St.count,St.more_fl,ic,hfl]⟩;rw[hnext,hins,hins2,hcell]
def k9(n:List UInt8)(l:List Fd):List Fd:=l.filter fun f=>decide (f.1≠n)
def H4(n:List UInt8)(l:List Fd):(k9 n l).length<=l.length:=List.length_filter_le _ _
def H3{l:List Fd}{n:List UInt8}{i:Nat}(h:i<l.length):k9 n (l.take (i+1))=if l[i].1=n then k9 n (l.take i)else k9 n (l.take i)++[l[i]]:=by
 unfold k9;rw[aW h,List.filter_append];by_cases e:l[i].1=n<;>simp[e]
def Hx{l:List Fd}{n v:List UInt8}(h:v=iL):iJ l n v=k9 n l:=by unfold iJ;rw[ak h];rfl
def JA{l:List Fd}{n v:List UInt8}(h:¬v=iL):iJ l n v=i6 (k9 n l++[(n,v)]):=by unfold iJ;rw[ad h];rfl
def Eb{l:List Fd}{n:List UInt8}(h:(l.map (·.1)).Nodup)(v:List UInt8):((k9 n l++[(n,v)]).map (·.1)).Nodup:=by
 rw[ch,List.nodup_append];refine⟨h.sublist (List.filter_sublist.map _),by simp,fun a ha b hb=>?_⟩;obtain⟨f,hf,rfl⟩:=cA.1 ha;have:b=n:=by simpa using hb
 subst this;simpa [k9]using(m3.1 hf).2
def IH(K:bJ cf)(l:List Fd)(n v:List UInt8)(hn:(l.map (·.1)).Nodup)(hl:l.length<=1000000):∃ r,r=FX (iJ l n v)/\∃ fl,av cf 187 [FX l,S n,S v] [] st=some (r,cZ st fl):=by
 refine ou K.tab (F:=F187) (Q:=fun r=>r=FX (iJ l n v)) rfl rfl rfl (lb rfl) (by simp[ga,bZ]) (l.length+2) ?_;have hm:=fq l;unfold F187 qr qd qm qi qc qb qk ql qf qt qa qn qo qN;simp only[↓pa,↓bT,pb,ai,↓reduceIte,reduceAdd,reduceLT,dv,dR];refine be (fun q fr st=>∃ (i:Nat) (tok:aB),q=l.length-i/\i<=l.length/\fr 0=FX l/\fr 1=S n/\fr 2=S v/\fr 8=I i/\fr 7= .list (k9 n (l.take i)).length ((k9 n (l.take i)).flatMap fc) tok/\Gr 133 st.nx st.cnt (k9 n (l.take i)).length tok) l.length (by omega)
  ⟨0,.full 133,by simp,by omega,by simp only[↓pa,↓reduceIte,reduceCtorEq],by simp only[↓pa,↓reduceIte,reduceEqDiff],by simp only[↓pa,↓reduceIte,reduceEqDiff],by simp only[↓pa,↓reduceIte];rfl,by simp only[↓pa,↓reduceIte,reduceEqDiff];rfl,je⟩ ?_
 rintro q fr st ⟨i,tok,rfl,hi,f0,f1,f2,f8,f7,hG⟩;have hkl:(k9 n (l.take i)).length<=(l.take i).length:=H4 _ _;rw[aG]at hkl;simp only[↓pa,pb,aV,↓reduceIte,reduceEqDiff,reduceCtorEq,f0,f8];refine aa (fun h1=>?_) (fun h1=>?_)
 ·have hlt:i<l.length:=h1;have hnext:=H3 (n:=n) hlt;simp (disch:=omega)only[↓pa,pb,↓reduceIte,reduceEqDiff,du,reduceCtorEq,f0,f1,f8,h1,bi,oE hlt];refine aa (fun h2=>?_) (fun h2=>?_)
  ·have h2':l[i].1=n:=by simpa using h2
   rw[ak h2']at hnext;simp (disch:=omega)only[↓pa,pb,aV,↓reduceIte,reduceEqDiff,reduceCtorEq,f0,f1,f2,f8,f7,h2];refine⟨l.length- (i+1),by omega,i+1,tok,rfl,by omega,rfl,by rw[hnext],by rw[hnext];exact hG⟩
  ·have h2':¬l[i].1=n:=by simpa using h2
   rw[ad h2']at hnext;simp (disch:=omega)only[↓pa,↓bT,pb,ai,↓reduceIte,reduceEqDiff,reduceAdd,reduceLeDiff,reduceLT,reduceCtorEq,f0,f8,f7,h2,qv hlt];refine bj hG (fq _) rfl (by omega) (by omega) (by decide) ?_;simp (disch:=omega)only[↓pa,pb,aV,↓reduceIte,reduceEqDiff,reduceCtorEq,f0,f1,f2,f8];refine⟨l.length- (i+1),by omega,i+1,dU 133 tok st,rfl,by omega,rfl,?_,?_⟩
   ·rw[hnext,af,bE];rfl
   ·rw[hnext,af];exact di hG
 ·have hie:l.take i=l:=bA (by omega);rw[hie]at f7 hG hkl;simp only[↓pa,pb,↓reduceIte,reduceEqDiff,f2,h1];refine aa (fun h2=>?_) (fun h2=>?_)
  ·have h2':v=iL:=h2;simp only[↓pa,pb,az,↓reduceIte,reduceEqDiff,f7,h2,EP];rw[<-h2,Hx h2',FX]
  ·have h2':¬v=iL:=h2;simp only[↓pa,↓bT,pb,ai,↓reduceIte,reduceEqDiff,reduceAdd,reduceLeDiff,reduceLT,f1,f2,f7,h2];refine bj hG (fq _) rfl (by omega) (by omega) (by decide) ?_;have hcell:(k9 n l).flatMap fc++[PV.str ⟨n.toArray⟩,.str ⟨v.toArray⟩]=(k9 n l++[(n,v)]).flatMap fc:=by rw[bE];rfl
   have hlen:(k9 n l).length+1=(k9 n l++[(n,v)]).length:=by simp
   simp only[↓pa,pb,↓reduceIte,hcell,hlen];rw[xO (hO _)];refine wI (L4 K _ (Eb hn v) (by rw[<-hlen];omega)) (fun r fl hr=>?_);subst hr;simp only[↓pa,pb,az,↓reduceIte,EP];rw[JA h2']
def uH(e n:Nat):aB->Prop
 | .nil=>n=0
 | .full e'=>e'=e/\n=0
 | .own _ e'=>e'=e
 |_=>False
def nU(t:aB)(n:Nat):List (Nat×Nat):=match t with
 | .own k _=>[(k,n)]
 |_=>[]
def j8{n:Nat}{cs:List PV}{t:aB}:ar (.list n cs t)=nU t n++al cs:=by cases t<;>rfl
mutual
theorem FN:∀ p:PV,ar (aC p)=[]
 | .list n cs t=>by have ih:=j7 cs;rw[eF,j8,ih];rfl
 | .iptr cs _ _=>by have ih:=j7 cs;simp only[aC,aF,ren,ar]at ih ⊢;exact ih
 | .agg cs=>by have ih:=j7 cs;simp only[aC,aF,ren,ar]at ih ⊢;exact ih
 | .tup cs=>by have ih:=j7 cs;simp only[aC,aF,ren,ar]at ih ⊢;exact ih
 | .fn _ cs=>by have ih:=j7 cs;simp only[aC,aF,ren,ar]at ih ⊢;exact ih
 | .any| .hole| .int _ _| .bool _| .str _| .nilp| .nili| .err| .ptr _ _| .osl _ _ _ _| .mp _=>rfl
theorem j7:∀ ps:List PV,al (aF ps)=[]
 | []=>rfl
 |p::ps=>by
  have h1:=FN p;have h2:=j7 ps;simp only[aC,aF,aZ,al]at h1 h2 ⊢;rw[h1,h2];rfl
end
def Ce{cs:List PV}(h:cK cs):al cs=[]:=by rw[<-h.2.1];exact j7 cs
def Ag{f:Nat->Option Nat}{b:Bool}{cs:List PV}(h:cK cs):aZ f b cs=cs:=by
 have:=jT f b cs;have h2:aZ (fun _=>none) true cs=cs:=h.2.1;rwa [h2]at this
def lr(g:bY):cK (g.nodes.flatMap nc):=gz nc lu _
def mC(g:bY):cK (g.edges.flatMap ec):=gz ec ly _
def gq(g:bY)(t u:aB):PV:= .agg [.list g.nodes.length (g.nodes.flatMap nc) t,.list g.edges.length (g.edges.flatMap ec) u]
def gM(g:bY)(t u:aB):Prop:=uH 72 g.nodes.length t/\uH 68 g.edges.length u
def dy(g:bY)(t u:aB):List (Nat×Nat):=nU t g.nodes.length++nU u g.edges.length
def nI(g:bY)(t u:aB):ar (gq g t u)=dy g t u:=by
 have h1:=Ce (lr g);have h2:=Ce (mC g)
 show al [_,_]=_;rw[al,al,al,j8,j8,h1,h2,aD,aD,aD];rfl
def zE(g:bY)(t u:aB):np (gq g t u)=true:=by
 have h1:=(lr g).1;have h2:=(mC g).1;simp only[gq,np,off,dh,bg,ae];exact⟨h1,h2⟩
def uY(g:bY)(t u:aB):aC (gq g t u)= .agg (gc g):=by
 simp only[gq,az,(lr g).2.1,(mC g).2.1];rfl
def wm(f:Nat->Option Nat)(g:bY)(t u:aB):ren f false (gq g t u)=gq g (t.ren f false) (u.ren f false):=by
 simp only[gq,ren,aZ,Ag (lr g),Ag (mC g)]
def CD{f:Nat->Option Nat}{e n:Nat}{t:aB}(h:uH e n t)(hf:∀ q∈nU t n,(f q.1).isSome=true):uH e n (t.ren f false):=by
 cases t with
 |own k e'=>
  obtain⟨j,hj⟩:=bW.1 (hf (k,n) (by simp[nU]));have hj:f k=some j:=hj;simp only[aB.ren,hj];exact h
 |nil=>exact h
 |full e'=>exact h
 |no=>exact h.elim
 |sub k=>exact h.elim
 |el k e n=>exact h.elim
def sr{f:Nat->Option Nat}{g:bY}{t u:aB}(h:gM g t u)(hf:∀ q∈dy g t u,(f q.1).isSome=true):gM g (t.ren f false) (u.ren f false):=
 ⟨CD h.1 fun q hq=>hf q (cM _ hq),CD h.2 fun q hq=>hf q (dq _ hq)⟩
def Li{e n:Nat}{t:aB}(h:uH e n t)(hk:aL st (nU t n)):Gr e st.nx st.cnt n t:=by
 cases t with
 |own k e'=>
  obtain⟨h1,h2,-⟩:=hk.2 (k,n) (by simp[nU]);exact⟨h1,h2,h⟩
 |nil=>exact h
 |full e'=>exact h
 |no=>exact h.elim
 |sub k=>exact h.elim
 |el k e n=>exact h.elim
def KN{g:bY}{t u:aB}(hk:aL st (dy g t u)):i8 t u:=by
 cases t<;>cases u<;>try trivial
 rename_i k e j e'
 show k≠j;rintro rfl;have:=hk.1 k;simp[dy,nU,ck]at this
def sB{g:bY}{t u:aB}{e e':Nat}(h1:Gr e st.nx st.cnt g.nodes.length t)(h2:Gr e' st.nx st.cnt g.edges.length u)(ha:i8 t u)(hf:∀ k e,t= .own k e\/u= .own k e->st.fl<=k):aL st (dy g t u):=by
 refine⟨fun k=>?_,fun q hq=>?_⟩
 ·cases t<;>cases u<;>simp only[dy,nU,aD,aN,jz,ck]<;>(try omega)<;>(try (split<;>omega))
  rename_i k1 e1 k2 e2;have:k1≠k2:=ha;by_cases h:k1=k
  ·rw[ak h,ad (by omega)];omega
  ·rw[ad h];split<;>omega
 ·rcases ay.1 hq with hq|hq
  ·cases t<;>simp only[nU,dZ,eK]at hq
   subst hq;exact⟨h1.1,h1.2.1,hf _ _ (.inl rfl)⟩
  ·cases u<;>simp only[nU,dZ,eK]at hq
   subst hq;exact⟨h2.1,h2.2.1,hf _ _ (.inr rfl)⟩
def ny(ns:List Nat):aL (bn ns []) (cj 0 ns):=
 ⟨fun k=>nM k ns,fun q hq=>by have:=jC hq;exact⟨by simpa [bn]using this.2.1,by simpa [bn]using this.2.2,aM _⟩⟩
def nL(nx:Nat):∀ (ns:List Nat),(cj 0 ns).map (fun q=>(nx+q.1,q.2))=cj nx ns:=fun ns=>by
 have:=C8 nx ns 0;rwa [bi]at this
def tz{ns:List Nat}{J:List Nat}{b:Bool}(hf:st.fl<=st.nx)(hJ:∀ k∈J,k<st.nx):aL (mX J ns b st) (cj st.nx ns):=by
 refine⟨fun k=>nM k ns,fun q hq=>?_⟩;obtain⟨h1,h2,h3⟩:=jC hq;have hc:J.contains q.1=false:=by
  rw[Bool.eq_false_iff];intro h;have:=hJ _ (ei.1 h);omega
 have hn:(mX J ns b st).nx=st.nx+ns.length:=HT;refine⟨by rw[hn];omega,?_,?_⟩
 ·show(if J.contains q.1 then 0 else(st.more ns).cnt q.1)=q.2;rw[hc,ad (by simp),St.more_new _ _ h1 h2];exact h3
 ·show(if b then st.fl else st.nx)<=q.1;split<;>omega
section
variable {f:Nat} {F:bp} {rs:List hZ} {g:bY} {t u:aB} {rest:List PV}
def Az(K:iF cf)(hT:T f=some F)(hres:F.res=rs)(hown:F.own=true)(hg:gM g t u)(hk:aL st (dy g t u))(hr:∀ p∈rest,cT p)(hnt:rest.length+1<=F.nt)(N:Nat){Q:PV->St->Prop}
  (h:∀ t0 u0 ns,gM g t0 u0->dy g t0 u0=cj 0 ns->Wp cf N F.body (eu (gq g t0 u0::rest),bn ns []) (mF rs Q)):
  ∃ r0 s1 r ns b,Q r0 s1/\av cf f (gq g t u::rest) [0] st=some (ren (fun k=>some (st.nx+k)) false r,mX ((dy g t u).map (·.1)) ns b st)/\cD (gq g t u::rest) [0] st=(dy g t u).map (·.1)/\wH s1 r0 r ns:=by
 obtain⟨q1,q2⟩:=dE hr;have hp:(gq g t u::rest).all bR=true:=by
  rw[cN,q1,bg];have:=zE g t u;unfold gq at this ⊢;simp only[bR,this,ap]
 have hm:fQ [0] 0 (gq g t u::rest)=dy g t u:=by
  rw[fQ,pH _ _ (by omega),nI];simp
 have hJ:∀ q∈dy g t u,(aT ((dy g t u).map (·.1)) q.1).isSome=true:=fun q hq=>lc (cA.2 ⟨q,hq,rfl⟩);have htk:dy g (t.ren (aT ((dy g t u).map (·.1))) false) (u.ren (aT ((dy g t u).map (·.1))) false)=cj 0 ((dy g t u).map (·.2)):=by
  rw[<-nI,<-wm,lq _ (fun k=>(aT ((dy g t u).map (·.1)) k).getD 0) _ fun q hq=>by
   rw[nI]at hq;obtain⟨i,hi⟩:=bW.1 (hJ q hq);rw[hi];rfl,nI]
  have:=mz 0 hk.1;simpa using this
 have hh:iN ((dy g t u).map (·.1)) [0] 0 (gq g t u::rest)=gq g (t.ren (aT ((dy g t u).map (·.1))) false) (u.ren (aT ((dy g t u).map (·.1))) false)::rest:=by
  have hrest:∀ (i:Nat) (l:List PV),0<i->(l.map aC=l)->iN ((dy g t u).map (·.1)) [0] i l=l:=by
   intro i l
   induction l generalizing i with
   |nil=>intro _ _;rfl
   |cons p ps ih=>
    intro hi hl;rw[aH,List.cons.injEq]at hl;have hc:([0]:List Nat).contains i=false:=by simp;omega
    rw[iN,hc,ad (by simp),hl.1,ih (i+1) (by omega) hl.2]
  rw[iN,hrest 1 rest (by omega) q2,wm];rfl
 have hsp:gU ((dy g t u).map (·.1)) [0] 0 (gq g t u::rest)=true:=by
  have hrest:∀ (i:Nat) (l:List PV),(l.map aC=l)->gU ((dy g t u).map (·.1)) [0] i l=true:=by
   intro i l
   induction l generalizing i with
   |nil=>intro _;rfl
   |cons p ps ih=>
    intro hl;rw[aH,List.cons.injEq]at hl;have:=pZ (((dy g t u).map (·.1)).contains ·) p;rw[hl.1]at this;rw[gU,this,ih (i+1) hl.2,nC];rfl
  rw[gU,hrest 1 rest q2];rfl
 obtain⟨r0,s1,r,ns,hQ,hrun,-,hS⟩:=FV hown hres N (O8:=gq g _ _::rest) (ns0:=(dy g t u).map (·.2)) (by simpa using hnt) (h _ _ _ (sr hg hJ) htk);have hcf:=K f F hT N _ _ _ _ hrun;obtain⟨h1,h2⟩:=vg (f:=f) (mv:=[0]) (by simp) hp (by rw[hm];exact hk) (by rw[hm];exact hsp) (by rw[hm,hh];exact hcf);rw[hm]at h1 h2;exact⟨r0,s1,r,ns,ft r,hQ,h1,h2,hS⟩
def Ah{f:Nat->Option Nat}{n:Nat}{p:PV}{ns:List Nat}(h:ar p=cj 0 ns):ar (ren (fun k=>some (n+k)) false p)=cj n ns:=by
 rw[lq _ (fun k=>n+k) _ fun _ _=>rfl,h,nL]
def Gw{s1:St}{r0 r:PV}{ns:List Nat}(hS:wH s1 r0 r ns)(h0:r0=gq g t u)(hg:gM g t u)(hk:aL s1 (dy g t u))(n:Nat):∃ t' u',ren (fun k=>some (n+k)) false r=gq g t' u'/\gM g t' u'/\dy g t' u'=cj n ns:=by
 subst h0;obtain⟨f,rfl,hf,-,htk⟩:=hS.ok (by rw[nI];exact hk);rw[nI]at hf;have h2:=Ah (f:=f) (n:=n) htk;rw[wm,wm]at h2 ⊢;exact⟨_,_,rfl,sr (sr hg hf) fun _ _=>rfl,by rw[<-nI];exact h2⟩
end
def JE{x:Eg}:bI (ec x) 0 1 false=some (I x.id):=rfl
def iT{t:aB}{st:St}{n:Nat}:(dV t st n).fl=st.fl:=by cases t<;>rfl
def wn{g:bY}{t u:aB}:eQ [gq g t u]=true:=by
 have:=zE g t u;simp only[eQ,this,bg,dj];rfl
def qD{g:bY}{t u:aB}(hk:aL st (dy g t u))(hg:gM g t u):Gr 72 st.nx st.cnt g.nodes.length t/\Gr 68 st.nx st.cnt g.edges.length u/\i8 t u:=
 ⟨Li hg.1 (dY hk (fun k=>by rw[dy,bh];omega) (fun q hq=>cM _ hq)),Li hg.2 (dY hk (fun k=>by rw[dy,bh];omega) (fun q hq=>dq _ hq)),KN hk⟩
def q5{e:Nat}{u:aB}:i8 (.full e) u:=by cases u<;>trivial
def kN{e n nx:Nat}{cnt:Nat->Nat}{t:aB}(h:Gr e nx cnt n t):uH e n t:=by
 cases t with
 |own k e'=>exact h.2.2
 |nil=>exact h
 |full e'=>exact h
 |no=>exact h.elim
 |sub k=>exact h.elim
 |el k e n=>exact h.elim
def t7{t u:aB}(h:st.fl=0):∀ k e,t= .own k e\/u= .own k e->st.fl<=k:=fun k e _=>by omega
def J6{l:List Nd}{i:Nat}(h:i<l.length)(x:Nd):iX x (l.drop i)=if x.id<l[i].id then x::l[i]::l.drop (i+1)else l[i]::iX x (l.drop (i+1)):=by
 rw[a6 h,iX]
def M8(K:bJ cf)(g:bY)(x:Nd){t u:aB}(hg:gM g t u)(hk:aL st (dy g t u))(hl:g.nodes.length<=1000000):
  ∃ t' u' ns b,av cf 63 [gq g t u,.agg (nc x)] [0] st=some (gq ⟨iX x g.nodes,g.edges⟩ t' u',mX ((dy g t u).map (·.1)) ns b st)/\cD [gq g t u,.agg (nc x)] [0] st=(dy g t u).map (·.1)/\gM ⟨iX x g.nodes,g.edges⟩ t' u'/\dy ⟨iX x g.nodes,g.edges⟩ t' u'=cj st.nx ns:=by
 have hw:∀ t0 u0 ns,gM g t0 u0->dy g t0 u0=cj 0 ns->Wp cf (g.nodes.length+2) F63.body (eu [gq g t0 u0,.agg (nc x)],bn ns []) (mF F63.res fun r s=>∃ t' u',r=gq ⟨iX x g.nodes,g.edges⟩ t' u'/\gM ⟨iX x g.nodes,g.edges⟩ t' u'/\aL s (dy ⟨iX x g.nodes,g.edges⟩ t' u')):=by
  clear hg hk;intro t u ns hg hns;obtain⟨hG1,hG2,-⟩:=qD (st:=bn ns []) (by rw[hns];exact ny ns) hg;have hxl:=cC x;have hx3:List.take 3 (nc x)=nc x:=rfl;have hm:=bN nc 3 cC g.nodes;unfold F63 qr qd qm qi qc qb qk ql qf qa qy qn qs qo qN gq;simp only[↓pa,↓bT,pb,ai,↓reduceIte,reduceEqDiff,reduceAdd,reduceLT,hxl,dv,dR];refine be (fun q fr st=>∃ (i:Nat) (d:Bool) (L:List Nd) (tok:aB),q=g.nodes.length-i/\i<=g.nodes.length/\fr 2= .ptr 2 0/\fr 3= .ptr 3 0/\fr 4= .ptr 4 0/\fr 5= .list L.length (L.flatMap nc) tok/\fr 6= .bool d/\fr 7=I i/\st.objs 2=some [.list g.nodes.length (g.nodes.flatMap nc) t,.list g.edges.length (g.edges.flatMap ec) u]/\st.objs 3=some (nc x)/\st.objs 4=some [.list 0 [] .nil,.list 0 [] .nil]/\
   L.length<=i+d.toNat/\iX x g.nodes=L++(if d then g.nodes.drop i else iX x (g.nodes.drop i))/\Gr 72 st.nx st.cnt L.length tok/\Gr 68 st.nx st.cnt g.edges.length u/\i8 tok u/\st.fl=0) g.nodes.length (by omega)
   ⟨0,false,[],.full 72,by simp,by omega,by simp only[↓pa,pb,↓reduceIte,reduceEqDiff],by simp only[↓pa,pb,↓reduceIte,reduceEqDiff],by simp only[↓pa,↓reduceIte,reduceEqDiff],by simp only[↓pa,↓reduceIte,reduceEqDiff];rfl,by simp only[↓pa,↓reduceIte,reduceEqDiff],by simp only[↓pa,↓reduceIte];rfl,by simp only[pb,↓reduceIte,reduceEqDiff],by simp only[pb,↓reduceIte,reduceEqDiff],by simp only[pb,↓reduceIte],by simp,by simp,je,hG2,q5,rfl⟩ ?_
  clear hG1 hG2;rintro q fr st ⟨i,d,L,tok,rfl,hi,f2,f3,f4,f5,f6,f7,o2,o3,o4,hL,hQ,hG,hE,hap,hfl⟩;simp only[↓pa,pb,ai,aV,↓reduceIte,reduceEqDiff,f2,f7,o2,bi];refine aa (fun h1=>?_) (fun h1=>?_)
  ·have hlt:i<g.nodes.length:=h1;have hnow:=J6 hlt x;have hdr:=a6 hlt;have hnl:=cC g.nodes[i];have hn3:List.take 3 (nc g.nodes[i])=nc g.nodes[i]:=rfl;cases d with
   |true=>
    have hL:L.length<=i+1:=hL;simp only[if_true]at hQ;rw[hdr]at hQ;simp (maxSteps:=999999) (disch:=omega)only[↓pa,↓bT,pb,ai,↓reduceIte,reduceEqDiff,reduceAdd,reduceLeDiff,reduceLT,f2,f5,f6,f7,o2,h1,bi,aq,ph hlt,hnl,qQ hnl];refine bj hG (bN nc 3 cC _) (by rw[hnl]) (by omega) (by omega) (by decide) ?_;simp (disch:=omega)only[↓pa,pb,ai,aV,↓reduceIte,reduceEqDiff,f2,f3,f4,f6,f7,o2,o3,o4];have hc:L.flatMap nc++nc g.nodes[i]=(L++[g.nodes[i]]).flatMap nc:=by simp
    obtain⟨hE2,hap2⟩:=gO (m:=L.length+1) hG hE hap;refine⟨g.nodes.length- (i+1),by omega,i+1,true,L++[g.nodes[i]],dU 72 tok st,rfl,by omega,by rw[hc];simp,rfl,rfl,by simp only[af,au,aO,ln];omega,by rw[hQ];simp,by rw[af];exact di hG,hE2,hap2,by rw[iT];exact hfl⟩
   |false=>
    have hL:L.length<=i:=hL;simp only[if_false,bG]at hQ;rw[hnow]at hQ;simp (disch:=omega)only[↓pa,pb,ai,↓reduceIte,reduceEqDiff,f2,f3,f6,f7,o2,o3,h1,bi,rk hlt,HI];refine aa (fun h2=>?_) (fun h2=>?_)
    ·rw[ak h2]at hQ;simp only[↓pa,↓bT,pb,ai,↓reduceIte,reduceEqDiff,reduceAdd,reduceLeDiff,reduceLT,f3,f5,o3,h2,aq,hxl,hx3,qQ hxl];refine bj hG (bN nc 3 cC _) (by rw[hxl]) (by omega) (by omega) (by decide) ?_;have hc0:L.flatMap nc++nc x=(L++[x]).flatMap nc:=by simp
     have hc:(L++[x]).flatMap nc++nc g.nodes[i]=(L++[x]++[g.nodes[i]]).flatMap nc:=by simp
     have hlx:(L++[x]).length=L.length+1:=by simp
     have hG2:=di (m:=1) hG;obtain⟨hE2,hap2⟩:=gO (m:=L.length+1) hG hE hap;simp (disch:=omega)only[↓pa,↓bT,pb,ai,↓reduceIte,reduceEqDiff,reduceAdd,reduceLeDiff,reduceLT,f2,f7,o2,bi,aq,ph hlt,hnl,qQ hnl,hc0];rw[<-hlx]at hG2 hE2 ⊢;refine bj hG2 (bN nc 3 cC _) (by rw[hnl]) (by omega) (by omega) (by decide) ?_;have hG3:=di (m:=1) hG2;obtain⟨hE3,hap3⟩:=gO (m:=(L++[x]).length+1) hG2 hE2 hap2;simp (disch:=omega)only[↓pa,pb,ai,aV,↓reduceIte,reduceEqDiff,f2,f3,f4,f7,o2,o3,o4,hc];refine⟨g.nodes.length- (i+1),by omega,i+1,true,L++[x]++[g.nodes[i]],_,rfl,by omega,by simp,rfl,rfl,by simp only[af,au,aO,ln];omega,by rw[hQ];simp,by rw[@af _ (L++[x])];exact hG3,hE3,hap3,by simp only[iT];exact hfl⟩
    ·rw[ad h2]at hQ;simp (disch:=omega)only[↓pa,↓bT,pb,ai,↓reduceIte,reduceEqDiff,reduceAdd,reduceLeDiff,reduceLT,f2,f5,f7,o2,h2,bi,aq,ph hlt,hnl,qQ hnl];refine bj hG (bN nc 3 cC _) (by rw[hnl]) (by omega) (by omega) (by decide) ?_;simp (disch:=omega)only[↓pa,pb,ai,aV,↓reduceIte,reduceEqDiff,f2,f3,f4,f6,f7,o2,o3,o4];have hc:L.flatMap nc++nc g.nodes[i]=(L++[g.nodes[i]]).flatMap nc:=by simp
     obtain⟨hE2,hap2⟩:=gO (m:=L.length+1) hG hE hap;refine⟨g.nodes.length- (i+1),by omega,i+1,false,L++[g.nodes[i]],dU 72 tok st,rfl,by omega,by rw[hc];simp,rfl,rfl,by simp only[af,au,aO,Bool.toNat_false];omega,by rw[hQ];simp,by rw[af];exact di hG,hE2,hap2,by rw[iT];exact hfl⟩
  ·have hie:g.nodes.drop i=[]:=dM (by omega);rw[hie]at hQ;cases d with
   |true=>
    have hL:L.length<=i+1:=hL;simp only[if_true,aD]at hQ;simp only[↓pa,pb,ai,↓reduceIte,reduceEqDiff,reduceAdd,reduceLeDiff,fL,f2,f4,f5,f6,o2,o4,h1];have e:PV.agg [.list L.length (L.flatMap nc) tok,.list g.edges.length (g.edges.flatMap ec) u]=gq ⟨iX x g.nodes,g.edges⟩ tok u:=by simp only[gq,hQ]
    rw[e];refine⟨wn,_,_,rfl,⟨kN (by rw[hQ];exact hG),kN hE⟩,sB (by rw[hQ];exact hG) hE hap (t7 hfl)⟩
   |false=>
    have hL:L.length<=i:=hL;simp only[if_false,bG,iX]at hQ;simp only[↓pa,↓bT,pb,ai,↓reduceIte,reduceEqDiff,reduceAdd,reduceLeDiff,reduceLT,f3,f5,f6,o3,h1,hxl,hx3,qQ hxl];refine bj hG (bN nc 3 cC _) (by rw[hxl]) (by omega) (by omega) (by decide) ?_;have hc:L.flatMap nc++nc x=(L++[x]).flatMap nc:=by simp
    have hlx:(L++[x]).length=L.length+1:=by simp
    have hG2:=di (m:=1) hG;obtain⟨hE2,hap2⟩:=gO (m:=L.length+1) hG hE hap;simp only[↓pa,pb,ai,↓reduceIte,reduceEqDiff,reduceAdd,reduceLeDiff,fL,f2,f4,o2,o4,hc];rw[<-hlx]at hG2 hE2 ⊢;have e:PV.agg [.list (L++[x]).length ((L++[x]).flatMap nc) (dU 72 tok st),.list g.edges.length (g.edges.flatMap ec) u]=gq ⟨iX x g.nodes,g.edges⟩ (dU 72 tok st) u:=by simp only[gq,hQ]
    rw[e];refine⟨wn,_,_,rfl,⟨kN (by rw[hQ];exact hG2),kN hE2⟩,sB (by rw[hQ];exact hG2) hE2 hap2 (t7 ((@iT tok st (L++[x]).length).trans hfl))⟩
 obtain⟨r0,s1,r,ns,b,⟨t0,u0,h0,h1,h2⟩,hc,ht,hS⟩:=Az (f:=63) (F:=F63) K.tab rfl rfl rfl hg hk (rest:=[.agg (nc x)]) (by simp[gu]) (lb rfl) (g.nodes.length+2) hw;obtain⟨t',u',e,h3,h4⟩:=Gw hS h0 h1 h2 st.nx;exact⟨t',u',ns,b,by rw[hc,e],ht,h3,h4⟩
def Ie{l:List Eg}{i:Nat}(h:i<l.length)(x:Eg):gI x (l.drop i)=if x.id<l[i].id then x::l[i]::l.drop (i+1)else l[i]::gI x (l.drop (i+1)):=by
 rw[a6 h,gI]
def M9(K:bJ cf)(g:bY)(x:Eg){t u:aB}(hg:gM g t u)(hk:aL st (dy g t u))(hl:g.edges.length<=1000000):
  ∃ t' u' ns b,av cf 64 [gq g t u,.agg (ec x)] [0] st=some (gq ⟨g.nodes,gI x g.edges⟩ t' u',mX ((dy g t u).map (·.1)) ns b st)/\cD [gq g t u,.agg (ec x)] [0] st=(dy g t u).map (·.1)/\gM ⟨g.nodes,gI x g.edges⟩ t' u'/\dy ⟨g.nodes,gI x g.edges⟩ t' u'=cj st.nx ns:=by
 have hw:∀ t0 u0 ns,gM g t0 u0->dy g t0 u0=cj 0 ns->Wp cf (g.edges.length+2) F64.body (eu [gq g t0 u0,.agg (ec x)],bn ns []) (mF F64.res fun r s=>∃ t' u',r=gq ⟨g.nodes,gI x g.edges⟩ t' u'/\gM ⟨g.nodes,gI x g.edges⟩ t' u'/\aL s (dy ⟨g.nodes,gI x g.edges⟩ t' u')):=by
  clear hg hk;intro t u ns hg hns;obtain⟨hG1,hG2,-⟩:=qD (st:=bn ns []) (by rw[hns];exact ny ns) hg;have hxl:=cw x;have hx3:List.take 5 (ec x)=ec x:=rfl;have hm:=bN ec 5 cw g.edges;unfold F64 qr qd qm qi qc qb qk ql qf qa qy qn qs qo qN gq;simp only[↓pa,↓bT,pb,ai,↓reduceIte,reduceEqDiff,reduceAdd,reduceLT,hxl,dv,dR];refine be (fun q fr st=>∃ (i:Nat) (d:Bool) (L:List Eg) (tok:aB),q=g.edges.length-i/\i<=g.edges.length/\fr 2= .ptr 2 0/\fr 3= .ptr 3 0/\fr 4= .ptr 4 0/\fr 5= .list L.length (L.flatMap ec) tok/\fr 6= .bool d/\fr 7=I i/\st.objs 2=some [.list g.nodes.length (g.nodes.flatMap nc) t,.list g.edges.length (g.edges.flatMap ec) u]/\st.objs 3=some (ec x)/\st.objs 4=some [.list 0 [] .nil,.list 0 [] .nil]/\
   L.length<=i+d.toNat/\gI x g.edges=L++(if d then g.edges.drop i else gI x (g.edges.drop i))/\Gr 68 st.nx st.cnt L.length tok/\Gr 72 st.nx st.cnt g.nodes.length t/\i8 tok t/\st.fl=0) g.edges.length (by omega)
   ⟨0,false,[],.full 68,by simp,by omega,by simp only[↓pa,pb,↓reduceIte,reduceEqDiff],by simp only[↓pa,pb,↓reduceIte,reduceEqDiff],by simp only[↓pa,↓reduceIte,reduceEqDiff],by simp only[↓pa,↓reduceIte,reduceEqDiff];rfl,by simp only[↓pa,↓reduceIte,reduceEqDiff],by simp only[↓pa,↓reduceIte];rfl,by simp only[pb,↓reduceIte,reduceEqDiff],by simp only[pb,↓reduceIte,reduceEqDiff],by simp only[pb,↓reduceIte],by simp,by simp,je,hG1,q5,rfl⟩ ?_
  clear hG1 hG2;rintro q fr st ⟨i,d,L,tok,rfl,hi,f2,f3,f4,f5,f6,f7,o2,o3,o4,hL,hQ,hG,hE,hap,hfl⟩;simp only[↓pa,pb,ai,aV,↓reduceIte,reduceEqDiff,f2,f7,o2,aq];refine aa (fun h1=>?_) (fun h1=>?_)
  ·have hlt:i<g.edges.length:=h1;have hnow:=Ie hlt x;have hdr:=a6 hlt;have hnl:=cw g.edges[i];have hn3:List.take 5 (ec g.edges[i])=ec g.edges[i]:=rfl;cases d with
   |true=>
    have hL:L.length<=i+1:=hL;simp only[if_true]at hQ;rw[hdr]at hQ;simp (maxSteps:=999999) (disch:=omega)only[↓pa,↓bT,pb,ai,↓reduceIte,reduceEqDiff,reduceAdd,reduceLeDiff,reduceLT,f2,f5,f6,f7,o2,h1,aq,pj hlt,hnl,pD hnl];refine bj hG (bN ec 5 cw _) (by rw[hnl]) (by omega) (by omega) (by decide) ?_;simp (disch:=omega)only[↓pa,pb,ai,aV,↓reduceIte,reduceEqDiff,f2,f3,f4,f6,f7,o2,o3,o4];have hc:L.flatMap ec++ec g.edges[i]=(L++[g.edges[i]]).flatMap ec:=by simp
    obtain⟨hE2,hap2⟩:=gO (m:=L.length+1) hG hE hap;refine⟨g.edges.length- (i+1),by omega,i+1,true,L++[g.edges[i]],dU 68 tok st,rfl,by omega,by rw[hc];simp,rfl,rfl,by simp only[af,au,aO,ln];omega,by rw[hQ];simp,by rw[af];exact di hG,hE2,hap2,by rw[iT];exact hfl⟩
   |false=>
    have hL:L.length<=i:=hL;simp only[if_false,bG]at hQ;rw[hnow]at hQ;simp (disch:=omega)only[↓pa,pb,ai,↓reduceIte,reduceEqDiff,f2,f3,f6,f7,o2,o3,h1,bi,aq,pi hlt,JE];refine aa (fun h2=>?_) (fun h2=>?_)
    ·rw[ak h2]at hQ;simp only[↓pa,↓bT,pb,ai,↓reduceIte,reduceEqDiff,reduceAdd,reduceLeDiff,reduceLT,f3,f5,o3,h2,aq,hxl,hx3,pD hxl];refine bj hG (bN ec 5 cw _) (by rw[hxl]) (by omega) (by omega) (by decide) ?_;have hc0:L.flatMap ec++ec x=(L++[x]).flatMap ec:=by simp
     have hc:(L++[x]).flatMap ec++ec g.edges[i]=(L++[x]++[g.edges[i]]).flatMap ec:=by simp
     have hlx:(L++[x]).length=L.length+1:=by simp
     have hG2:=di (m:=1) hG;obtain⟨hE2,hap2⟩:=gO (m:=L.length+1) hG hE hap;simp (disch:=omega)only[↓pa,↓bT,pb,ai,↓reduceIte,reduceEqDiff,reduceAdd,reduceLeDiff,reduceLT,f2,f7,o2,aq,pj hlt,hnl,pD hnl,hc0];rw[<-hlx]at hG2 hE2 ⊢;refine bj hG2 (bN ec 5 cw _) (by rw[hnl]) (by omega) (by omega) (by decide) ?_;have hG3:=di (m:=1) hG2;obtain⟨hE3,hap3⟩:=gO (m:=(L++[x]).length+1) hG2 hE2 hap2;simp (disch:=omega)only[↓pa,pb,ai,aV,↓reduceIte,reduceEqDiff,f2,f3,f4,f7,o2,o3,o4,hc];refine⟨g.edges.length- (i+1),by omega,i+1,true,L++[x]++[g.edges[i]],_,rfl,by omega,by simp,rfl,rfl,by simp only[af,au,aO,ln];omega,by rw[hQ];simp,by rw[@af _ (L++[x])];exact hG3,hE3,hap3,by simp only[iT];exact hfl⟩
    ·rw[ad h2]at hQ;simp (disch:=omega)only[↓pa,↓bT,pb,ai,↓reduceIte,reduceEqDiff,reduceAdd,reduceLeDiff,reduceLT,f2,f5,f7,o2,h2,aq,pj hlt,hnl,pD hnl];refine bj hG (bN ec 5 cw _) (by rw[hnl]) (by omega) (by omega) (by decide) ?_;simp (disch:=omega)only[↓pa,pb,ai,aV,↓reduceIte,reduceEqDiff,f2,f3,f4,f6,f7,o2,o3,o4];have hc:L.flatMap ec++ec g.edges[i]=(L++[g.edges[i]]).flatMap ec:=by simp
     obtain⟨hE2,hap2⟩:=gO (m:=L.length+1) hG hE hap;refine⟨g.edges.length- (i+1),by omega,i+1,false,L++[g.edges[i]],dU 68 tok st,rfl,by omega,by rw[hc];simp,rfl,rfl,by simp only[af,au,aO,Bool.toNat_false];omega,by rw[hQ];simp,by rw[af];exact di hG,hE2,hap2,by rw[iT];exact hfl⟩
  ·have hie:g.edges.drop i=[]:=dM (by omega);rw[hie]at hQ;cases d with
   |true=>
    have hL:L.length<=i+1:=hL;simp only[if_true,aD]at hQ;simp only[↓pa,pb,ai,↓reduceIte,reduceEqDiff,reduceAdd,reduceLeDiff,fL,f2,f4,f5,f6,o2,o4,h1];have e:PV.agg [.list g.nodes.length (g.nodes.flatMap nc) t,.list L.length (L.flatMap ec) tok]=gq ⟨g.nodes,gI x g.edges⟩ t tok:=by simp only[gq,hQ]
    rw[e];refine⟨wn,_,_,rfl,⟨kN hE,kN (by rw[hQ];exact hG)⟩,sB hE (by rw[hQ];exact hG) (gS hap) (t7 hfl)⟩
   |false=>
    have hL:L.length<=i:=hL;simp only[if_false,bG,gI]at hQ;simp only[↓pa,↓bT,pb,ai,↓reduceIte,reduceEqDiff,reduceAdd,reduceLeDiff,reduceLT,f3,f5,f6,o3,h1,hxl,hx3,pD hxl];refine bj hG (bN ec 5 cw _) (by rw[hxl]) (by omega) (by omega) (by decide) ?_;have hc:L.flatMap ec++ec x=(L++[x]).flatMap ec:=by simp
    have hlx:(L++[x]).length=L.length+1:=by simp
    have hG2:=di (m:=1) hG;obtain⟨hE2,hap2⟩:=gO (m:=L.length+1) hG hE hap;simp only[↓pa,pb,ai,↓reduceIte,reduceEqDiff,reduceAdd,reduceLeDiff,fL,f2,f4,o2,o4,hc];rw[<-hlx]at hG2 hE2 ⊢;have e:PV.agg [.list g.nodes.length (g.nodes.flatMap nc) t,.list (L++[x]).length ((L++[x]).flatMap ec) (dU 68 tok st)]=gq ⟨g.nodes,gI x g.edges⟩ t (dU 68 tok st):=by simp only[gq,hQ]
    rw[e];refine⟨wn,_,_,rfl,⟨kN hE2,kN (by rw[hQ];exact hG2)⟩,sB hE2 (by rw[hQ];exact hG2) (gS hap2) (t7 ((@iT tok st (L++[x]).length).trans hfl))⟩
 obtain⟨r0,s1,r,ns,b,⟨t0,u0,h0,h1,h2⟩,hc,ht,hS⟩:=Az (f:=64) (F:=F64) K.tab rfl rfl rfl hg hk (rest:=[.agg (ec x)]) (by simp[gv]) (lb rfl) (g.edges.length+2) hw;obtain⟨t',u',e,h3,h4⟩:=Gw hS h0 h1 h2 st.nx;exact⟨t',u',ns,b,by rw[hc,e],ht,h3,h4⟩
def KL{O8:List PV}(has:∀ p∈O8,cT p):O8.all (tf fun _=>true)=true:=by
 rw[bX];exact fun p hp=>Ey p (has p hp).2.1
def E6{f fl:Nat}{O8:List PV}{r:PV}(hf:nj f=true)(has:∀ p∈O8,cT p)(h:av cf f O8 [] st=some (r,cZ st fl)):cZ st fl=st:=by
 obtain⟨h1,-⟩:=dE has;simp only[av,fj h1,dl,bM]at h;split at h
 ·split at h
  ·have h2:=bq St.fl (Prod.mk.inj (Option.some.inj h)).2;have h3:oy f O8 []=true:=by simp only[oy,hf,KL has,cU,Bool.true_or,ap]
   simp only[h3,nC,if_true,cZ]at h2;have h2:st.fl=fl:=h2;rw[<-h2];rfl
  ·cases h
 ·cases h
def oQ{f:Nat}{O8:List PV}{v:PV}(hf:nj f=true)(has:∀ p∈O8,cT p)(h:∃ r,r=v/\∃ fl,av cf f O8 [] st=some (r,cZ st fl))(k:A (mk v st)):cP (av cf f O8 [] st) mk A:=by
 obtain⟨r,rfl,fl,h⟩:=h;rw[h,E6 hf has h];exact⟨_,_,rfl,k⟩
def tA{f:Nat}{O8:List PV}{Q:PV->Prop}(hf:nj f=true)(has:∀ p∈O8,cT p)(h:∃ r,Q r/\∃ fl,av cf f O8 [] st=some (r,cZ st fl))(k:∀ r,Q r->A (mk r st)):cP (av cf f O8 [] st) mk A:=by
 obtain⟨r,hQ,fl,h⟩:=h;rw[h,E6 hf has h];exact⟨_,_,rfl,k r hQ⟩
def LY{f:Nat}{F:bp}{O8:List PV}{rs:List hZ}(K:iF cf)(hT:T f=some F)(hres:F.res=rs)(hown:F.own=true)(has:∀ p∈O8,cT p)(hnt:O8.length<=F.nt)(N:Nat){Q:PV->St->Prop}
  (h:Wp cf N F.body (eu O8,bn [] []) (mF rs Q)):∃ r0 s1 r ns fl,Q r0 s1/\av cf f O8 [] st=some (ren (fun k=>some (st.nx+k)) false r,cZ (st.more ns) fl)/\(fl=st.fl\/fl=st.nx)/\wH s1 r0 r ns:=by
 obtain⟨h1,h2⟩:=dE has;obtain⟨r0,s1,r,ns,hQ,hrun,-,hS⟩:=FV hown hres N hnt h;have hcf:=K f F hT N _ _ _ _ hrun;refine⟨r0,s1,r,ns,_,hQ,ot h1 (by rw[h2];exact hcf),?_,hS⟩;split
 ·exact .inl rfl
 ·exact .inr rfl
def Eo{ns:List Nat}{fl:Nat}(hf:fl<=st.nx):aL (cZ (st.more ns) fl) (cj st.nx ns):=by
 refine⟨fun k=>nM k ns,fun q hq=>?_⟩;obtain⟨h1,h2,h3⟩:=jC hq;refine⟨by show q.1<(st.more ns).nx;rw[St.more_nx];omega,by show(st.more ns).cnt q.1=q.2;rw[St.more_new _ _ h1 h2];exact h3,by show fl<=q.1;omega⟩
def Ml(K:bJ cf)(g:bY)(h1:g.nodes.length<=1000000)(h2:g.edges.length<=1000000)(hn:∀ n∈g.nodes,n.labels.length<=2000000/\n.fields.length<=2000000)(he:∀ e∈g.edges,e.fields.length<=2000000):
  ∃ t' u' ns fl,av cf 112 [.agg (gc g)] [] st=some (gq g t' u',cZ (st.more ns) fl)/\(fl=st.fl\/fl=st.nx)/\gM g t' u'/\dy g t' u'=cj st.nx ns:=by
 have hw:Wp cf (g.nodes.length+g.edges.length+2) F112.body (eu [.agg (gc g)],bn [] []) (mF F112.res fun r s=>∃ t' u',r=gq g t' u'/\gM g t' u'/\aL s (dy g t' u')):=by
  have hm1:=bN nc 3 cC g.nodes;have hm2:=bN ec 5 cw g.edges;unfold F112 qr qd qm qi qb qk ql qf qt qa qn qs qo qN;simp only[↓pa,↓bT,pb,ai,↓reduceIte,reduceEqDiff,reduceAdd,reduceLeDiff,gc];refine be (fun q fr st=>∃ (i:Nat) (tok:aB),q=g.nodes.length-i/\i<=g.nodes.length/\fr 1= .ptr 1 0/\fr 2= .ptr 2 0/\fr 3= .ptr 3 0/\fr 4=I i/\st.objs 1=some [NX g.nodes,EX g.edges]/\st.objs 2=some [.list 0 [] .nil,.list 0 [] .nil]/\st.objs 3=some [.list (g.nodes.take i).length ((g.nodes.take i).flatMap nc) tok,.list 0 [] .nil]/\Gr 72 st.nx st.cnt (g.nodes.take i).length tok/\st.fl=0) g.nodes.length (by omega)
   ⟨0,.nil,by simp,by omega,by simp only[↓pa,pb,↓reduceIte,reduceEqDiff],by simp only[↓pa,pb,↓reduceIte,reduceEqDiff],by simp only[↓pa,↓reduceIte,reduceEqDiff],by simp only[↓pa,↓reduceIte];rfl,by simp only[pb,↓reduceIte,reduceEqDiff],by simp only[pb,↓reduceIte,reduceEqDiff],by simp only[pb,↓reduceIte];rfl,rfl,rfl⟩ ?_
  rintro q fr st ⟨i,tok,rfl,hi,f1,f2,f3,f4,o1,o2,o3,hG,hfl⟩;have hti:(g.nodes.take i).length=i:=by rw[aG];omega
  simp only[↓pa,pb,ai,aV,↓reduceIte,reduceEqDiff,f1,f4,o1,bi];refine aa (fun k1=>?_) (fun k1=>?_)
  ·have hlt:i<g.nodes.length:=k1;have hnl:=cC g.nodes[i];have hn3:List.take 3 (nc g.nodes[i])=nc g.nodes[i]:=rfl;have hnn:=hn _ (ct hlt);have hpv:∀ p∈ [PV.agg (nc g.nodes[i])],cT p:=by simp[gu]
   simp (disch:=omega)only[↓pa,↓dx,pb,ai,cB,↓reduceIte,reduceEqDiff,f1,f3,f4,o1,o3,k1,bi,ph hlt];refine oQ rfl hpv (Fz K g.nodes[i] hnn.1 hnn.2) ?_;simp only[↓pa,↓bT,↓dx,pb,ai,cB,↓reduceIte,reduceEqDiff,reduceAdd,reduceLeDiff,reduceLT,aq,hnl,qQ hnl,iV (gu g.nodes[i])];refine bj hG (bN nc 3 cC _) (by rw[hnl]) (by omega) (by omega) (by decide) ?_;have hnext:g.nodes.take (i+1)=g.nodes.take i++[g.nodes[i]]:=aW hlt;have hc:(g.nodes.take i).flatMap nc++nc g.nodes[i]=(g.nodes.take (i+1)).flatMap nc:=by rw[hnext,bE];simp only[bf,mH,aD]
   have hl:(g.nodes.take i).length+1=(g.nodes.take (i+1)).length:=by rw[hnext,af];rfl
   simp (disch:=omega)only[↓pa,↓dx,pb,ai,cB,fD,aV,aj,ah,↓reduceIte,reduceEqDiff,reduceAdd,reduceLeDiff,f1,f2,f3,f4,o1,o2,o3,bi,aq,hc,hl];refine⟨g.nodes.length- (i+1),by omega,i+1,dU 72 tok st,rfl,by omega,rfl,rfl,by rw[<-hl];exact di hG,by rw[iT];exact hfl⟩
  have hie:g.nodes.take i=g.nodes:=bA (by omega);rw[hie]at o3 hG;simp only[↓pa,pb,k1];refine be (fun q fr st=>∃ (i:Nat) (tok2:aB),q=g.edges.length-i/\i<=g.edges.length/\fr 1= .ptr 1 0/\fr 2= .ptr 2 0/\fr 3= .ptr 3 0/\fr 5=I i/\st.objs 1=some [NX g.nodes,EX g.edges]/\st.objs 2=some [.list 0 [] .nil,.list 0 [] .nil]/\st.objs 3=some [.list g.nodes.length (g.nodes.flatMap nc) tok,.list (g.edges.take i).length ((g.edges.take i).flatMap ec) tok2]/\Gr 68 st.nx st.cnt (g.edges.take i).length tok2/\Gr 72 st.nx st.cnt g.nodes.length tok/\i8 tok2 tok/\st.fl=0) g.edges.length (by omega)
   ⟨0,.nil,by simp,by omega,by simp only[↓pa,↓reduceIte,reduceEqDiff,f1],by simp only[↓pa,↓reduceIte,reduceEqDiff,f2],by simp only[↓pa,↓reduceIte,reduceEqDiff,f3],by simp only[↓pa,↓reduceIte];rfl,by simp only[o1],by simp only[o2],by simp only[o3];rfl,rfl,hG,by cases tok<;>trivial,hfl⟩ ?_
  clear f1 f2 f3 f4 o1 o2 o3 hG hfl;rintro q fr st ⟨i,tok2,rfl,hi,f1,f2,f3,f5,o1,o2,o3,hG,hG1,hap,hfl⟩;have hti:(g.edges.take i).length=i:=by rw[aG];omega
  simp only[↓pa,pb,ai,aV,↓reduceIte,reduceEqDiff,f1,f5,o1,aq];refine aa (fun k1=>?_) (fun k1=>?_)
  ·have hlt:i<g.edges.length:=k1;have hnl:=cw g.edges[i];have hn3:List.take 5 (ec g.edges[i])=ec g.edges[i]:=rfl;have hnn:=he _ (ct hlt);have hpv:∀ p∈ [PV.agg (ec g.edges[i])],cT p:=by simp[gv]
   simp (disch:=omega)only[↓pa,↓dx,pb,ai,cB,↓reduceIte,reduceEqDiff,f1,f3,f5,o1,o3,k1,aq,pj hlt];refine oQ rfl hpv (FB K g.edges[i] hnn) ?_;simp only[↓pa,↓bT,↓dx,pb,ai,cB,↓reduceIte,reduceEqDiff,reduceAdd,reduceLeDiff,reduceLT,aq,hnl,pD hnl,iV (gv g.edges[i])];refine bj hG (bN ec 5 cw _) (by rw[hnl]) (by omega) (by omega) (by decide) ?_;have hnext:g.edges.take (i+1)=g.edges.take i++[g.edges[i]]:=aW hlt;have hc:(g.edges.take i).flatMap ec++ec g.edges[i]=(g.edges.take (i+1)).flatMap ec:=by rw[hnext,bE];simp only[bf,mH,aD]
   have hl:(g.edges.take i).length+1=(g.edges.take (i+1)).length:=by rw[hnext,af];rfl
   obtain⟨hG2,hap2⟩:=gO (m:=(g.edges.take i).length+1) hG hG1 hap;simp (disch:=omega)only[↓pa,↓dx,pb,ai,cB,fD,aV,aj,ah,↓reduceIte,reduceEqDiff,reduceAdd,reduceLeDiff,f1,f2,f3,f5,o1,o2,o3,aq,hc,hl];rw[hl]at hG2;refine⟨g.edges.length- (i+1),by omega,i+1,dU 68 tok2 st,rfl,by omega,rfl,rfl,by rw[<-hl];exact di hG,hG2,hap2,by rw[iT];exact hfl⟩
  ·have hie:g.edges.take i=g.edges:=bA (by omega);rw[hie]at o3 hG;simp only[↓pa,pb,ai,↓reduceIte,reduceEqDiff,reduceAdd,reduceLeDiff,fL,f2,f3,o2,o3,k1,aq];exact⟨wn,tok,tok2,rfl,⟨kN hG1,kN hG⟩,sB hG1 hG (gS hap) (t7 hfl)⟩
 obtain⟨r0,s1,r,ns,fl,⟨t0,u0,h0,h1,h2⟩,hc,hfl,hS⟩:=LY (st:=st) (f:=112) (F:=F112) K.tab rfl rfl rfl (O8:=[.agg (gc g)]) (by simp[dW]) (lb rfl) (g.nodes.length+g.edges.length+2) hw;obtain⟨t',u',e,h3,h4⟩:=Gw hS h0 h1 h2 st.nx;exact⟨t',u',ns,fl,by rw[hc,e],hfl,h3,h4⟩
def fS{c:Ch}:bI (cc c) 0 1 false=some (I c.kind)/\bI (cc c) 1 3 true=some (.agg (nc c.node))/\bI (cc c) 1 1 false=some (I c.node.id)/\bI (cc c) 2 1 false=some (TX c.node.labels)/\bI (cc c) 4 5 true=some (.agg (ec c.edge))/\bI (cc c) 4 1 false=some (I c.edge.id)/\
  bI (cc c) 6 1 false=some (I c.edge.src)/\bI (cc c) 7 1 false=some (I c.edge.dst)/\bI (cc c) 9 1 false=some (S c.value)/\bI (cc c) 10 1 false=some (S c.name)/\bI (cc c) 11 1 false=some (S c.text)/\bI (cc c) 0 12 true=some (.agg (cc c)):=
 ⟨rfl,rfl,rfl,rfl,rfl,rfl,rfl,rfl,rfl,rfl,rfl,rfl⟩
def pg{v:V}:bI v.cb 0 1 false=some (I v.kind):=by cases v;rfl
def vX{v:V}:bI v.ca 0 1 false=some (I v.kind):=by cases v;rfl
def AY{v:V}:bI v.cb 1 1 false=some (I v.num):=by cases v;rfl
def AZ{v:V}:bI v.ca 1 1 false=some (I v.num):=by cases v;rfl
def Mh(K:bJ cf)(c:Ch):av cf 155 [.agg (cc c)] [] st=some (.bool (lf c),st):=by
 refine cQ K.tab (F:=F155) (t:=2) rfl rfl rfl (lb rfl) (by simp[ej,jd]) (ce _) 1 ?_;have hcl:(cc c).length=12:=rfl;unfold F155 qr qd qm qc qk ql qf qt qx qy qo lf;simp only[↓pa,pb,ai,↓reduceIte,reduceEqDiff,fS,hcl,aq];refine aa (fun k1=>?_) (fun k1=>?_)
 ·rw[ak k1];simp only[↓pa,pb,ai,↓reduceIte,reduceEqDiff,reduceAdd,fS,BB K]
 rw[ad k1];simp only[↓pa,pb,↓reduceIte,reduceEqDiff];refine aa (fun k2=>?_) (fun k2=>?_)
 ·rw[ak k2];simp only[↓pa,pb,ai,↓reduceIte,reduceEqDiff,reduceAdd,fS,po K.tab]
 rw[ad k2];simp only[↓pa,pb,↓reduceIte,reduceEqDiff];refine aa (fun k3=>?_) (fun k3=>?_)
 ·rw[ak k3];simp only[↓pa,pb,ai,↓reduceIte,reduceEqDiff,reduceAdd,fS,BF K]
 rw[ad k3];simp only[↓pa,pb,↓reduceIte,reduceEqDiff];refine aa (fun k4=>?_) (fun k4=>?_)
 ·rw[ak k4];simp only[↓pa,pb,ai,↓reduceIte,reduceEqDiff,reduceAdd,fS,po K.tab]
 rw[ad k4];simp only[↓pa,pb,↓reduceIte,reduceEqDiff];refine aa (fun k5=>?_) (fun k5=>?_)
 ·rw[ak k5];cases h1:km c.node.id
  ·simp only[↓pa,pb,ai,↓reduceIte,reduceEqDiff,reduceAdd,fS,po K.tab,h1]
  ·simp only[↓pa,pb,ai,↓reduceIte,reduceEqDiff,reduceAdd,fS,po K.tab,BD K.tab,h1]
 rw[ad k5];simp only[↓pa,pb,↓reduceIte,reduceEqDiff];refine aa (fun k6=>?_) (fun k6=>?_)
 ·rw[ak k6];simp only[↓pa,pb,ai,↓reduceIte,reduceEqDiff,reduceAdd,fS];refine tA rfl (by simp[bZ]) (AC K) (fun r hr=>?_);unfold tC at hr;cases hp:fu c.value with
  |none=>
   rw[hp]at hr;subst hr;simp only[↓pa,pb,ai,↓reduceIte,reduceEqDiff,reduceCtorEq,fx]
  |some v=>
   rw[hp]at hr;subst hr;simp only[↓pa,pb,↓reduceIte,pg];refine aa (fun h8=>?_) (fun h8=>?_)
   ·have e8:(decide (v.kind=8)||decide (v.kind=9))=true:=by simp[h8]
    simp only[↓pa,pb,ai,↓reduceIte,reduceEqDiff,reduceAdd,Int.reduceEq,fS,h8];cases hn:dH c.name
    ·simp only[↓pa,pb,↓reduceIte,reduceEqDiff,nO K.tab,hn]
    simp only[↓pa,pb,ai,↓reduceIte,reduceEqDiff,reduceAdd,fS,nO K.tab,hn];refine aa (fun hx=>?_) (fun hx=>?_)
    ·have hx':decide (c.text=iL)=true:=decide_eq_true hx;simp only[↓pa,pb,↓reduceIte,reduceEqDiff,hx];rfl
    ·have hx':decide (c.text=iL)=false:=decide_eq_false hx;simp only[↓pa,pb,ai,↓reduceIte,reduceEqDiff,reduceAdd,fS,hx,hx',oz K]
   ·simp only[↓pa,pb,↓reduceIte,reduceEqDiff,h8];refine aa (fun h9=>?_) (fun h9=>?_)
    ·have e8:(decide (v.kind=8)||decide (v.kind=9))=true:=by simp[h9]
     simp only[↓pa,pb,ai,↓reduceIte,reduceEqDiff,reduceAdd,fS,h9];cases hn:dH c.name
     ·simp only[↓pa,pb,↓reduceIte,reduceEqDiff,nO K.tab,hn]
     simp only[↓pa,pb,ai,↓reduceIte,reduceEqDiff,reduceAdd,fS,nO K.tab,hn];refine aa (fun hx=>?_) (fun hx=>?_)
     ·have hx':decide (c.text=iL)=true:=decide_eq_true hx;simp only[↓pa,pb,↓reduceIte,reduceEqDiff,hx];rfl
     ·have hx':decide (c.text=iL)=false:=decide_eq_false hx;simp only[↓pa,pb,ai,↓reduceIte,reduceEqDiff,reduceAdd,fS,hx,hx',oz K]
    ·have e8:(decide (v.kind=8)||decide (v.kind=9))=false:=by simp[h8,h9]
     simp only[↓pa,pb,↓reduceIte,reduceEqDiff,h9]
 ·rw[ad k6];simp only[↓pa,pb,↓reduceIte]
def ug{f:Nat}{g:bY}{t u:aB}{rest:List PV}(hr:∀ p∈rest,cT p)(hf:nj f=false:=by rfl):av cf f (.agg [.list g.nodes.length (g.nodes.flatMap nc) t,.list g.edges.length (g.edges.flatMap ec) u]::rest) [] st=av cf f (.agg (gc g)::rest) [] st:=by
 obtain⟨q1,q2⟩:=dE hr;have hs:(PV.agg [.list g.nodes.length (g.nodes.flatMap nc) t,.list g.edges.length (g.edges.flatMap ec) u]::rest).map aC= .agg (gc g)::rest:=by
  rw[aH,q2];have:=uY g t u;unfold gq at this;rw[this]
 obtain⟨q3,q4⟩:=dE (ps:= .agg (gc g)::rest) (by
  intro p hp;rcases aX.1 hp with rfl|hp
  ·exact dW g
  ·exact hr p hp)
 have hn:=zE g t u;unfold gq at hn;rw[lA (by rw[cN,q1,bg];simp only[bR,hn,ap]) (by rw[hs];exact q3) (by rw[hs];exact q4) hf,hs]
def vn{K E n off:Nat}{cs:List PV}{v:PV}(hn:0<n)(hoff:off+1<=cs.length)(hk:st.cnt K=n)(hx:K<st.nx)(hf:st.fl<=K)(hc:cK cs)(hv:cT v)(k:A (mk .hole (Dx (gT cs off K E n [v]) st))):
  cP (vJ 1 (.iptr cs off (.el K E n)) (some [v]) st) mk A:=
 ⟨_,_,Ac rfl hoff hn hk hx hf (r8 hc) (r8 (bu hv dL)),k⟩
def oL{α:Type}(enc:α->List PV)(m:Nat)(henc:∀ a,(enc a).length=m){off:Nat}(ho:off<m){v:PV}:∀ {l:List α} {i:Nat} {b:α} (hi:i<l.length),(enc l[i]).set off v=enc b->(l.flatMap enc).set (i*m+off) v=(l.set i b).flatMap enc
 |a::l,0,b,_,h=>by
  have h:(enc a).set off v=enc b:=h;rw[bf,Nat.zero_mul,aq,List.set_append_left _ _ (by rw[henc];exact ho),h,List.set_cons_zero,bf]
 |a::l,i+1,b,hi,h=>by
  have ih:=oL enc m henc ho (l:=l) (i:=i) (b:=b) (by simpa using hi) (by simpa using h);rw[bf,List.set_append_right _ _ (by rw[henc,gg];omega),henc,show(i+1) *m+off-m=i*m+off by rw[gg];omega,ih,List.set_cons_succ,bf]
def Dw{K E n off m:Nat}{cs vs ds:List PV}{t:aB}(hd:cK ds)(ha:∀ k e,t= .own k e->k≠K)(hs:∀ k,t≠ .sub k)(hl:∀ k e n,t≠ .el k e n):fJ (gT cs off K E n vs) (.list m ds t)= .list m ds t:=by
 refine xh _ (by simp[gT]) _ ?_;have h:=r8 (J:=[K]) hd;simp only[tf,gT,ae];refine⟨?_,h⟩;cases t with
 |own k e=>have:=ha k e rfl;simp[aB.free,aB.of,this]
 |sub k=>exact absurd rfl (hs k)
 |el k e n=>exact absurd rfl (hl k e n)
 |_=>rfl
def IT{g:bY}{K E n off:Nat}{cs vs:List PV}{t:aB}(hg:uH 72 g.nodes.length t)(ha:i8 t (.own K E)):fJ (gT cs off K E n vs) (.list g.nodes.length (g.nodes.flatMap nc) t)= .list g.nodes.length (g.nodes.flatMap nc) t:=
 Dw (lr g) (by rintro k e rfl;exact ha) (by rintro k rfl;exact hg) (by rintro k e n rfl;exact hg)
def BL{g:bY}{K E n off:Nat}{cs vs:List PV}{t:aB}(hg:uH 68 g.edges.length t)(ha:i8 t (.own K E)):fJ (gT cs off K E n vs) (.list g.edges.length (g.edges.flatMap ec) t)= .list g.edges.length (g.edges.flatMap ec) t:=
 Dw (mC g) (by rintro k e rfl;exact ha) (by rintro k rfl;exact hg) (by rintro k e n rfl;exact hg)
def x6{e n:Nat}{t:aB}(h:uH e n t)(hn:0<n):∃ k,t= .own k e:=by
 cases t with
 |own k e'=>have h:e'=e:=h;exact⟨k,by rw[h]⟩
 |nil=>have h:n=0:=h;omega
 |full e'=>have h:=h.2;omega
 |no=>exact h.elim
 |sub k=>exact h.elim
 |el k e n=>exact h.elim
def Cb(x:bY×Int)(nx:Nat)(ns:List Nat)(r:PV):Prop:=∃ q,r= .tup [q,I x.2]/\aC q= .agg (gc x.1)/\np q=true/\(x.2=0->∃ t u,q=gq x.1 t u/\gM x.1 t u/\dy x.1 t u=cj nx ns)
def zX(x:bY×Int)(r:PV)(st:St):Prop:=∃ q,r= .tup [q,I x.2]/\aC q= .agg (gc x.1)/\(x.2=0->∃ t u,q=gq x.1 t u/\gM x.1 t u/\aL st (dy x.1 t u))
def KZ{x:bY×Int}{t u:aB}(hg:gM x.1 t u)(hk:aL st (dy x.1 t u)):zX x (.tup [gq x.1 t u,I x.2]) st:=⟨_,rfl,uY _ _ _,fun _=>⟨t,u,rfl,hg,hk⟩⟩
def N8{x:bY×Int}{s1:St}{r0 r:PV}{ns:List Nat}(hS:wH s1 r0 r ns)(h0:zX x r0 s1)(hn:np r0=true)(n:Nat):Cb x n ns (ren (fun k=>some (n+k)) false r):=by
 obtain⟨q,rfl,hq,hown⟩:=h0;have h1:aC (ren (fun k=>some (n+k)) false r)= .tup [.agg (gc x.1),I x.2]:=by
  rw[gt,hS.st];simp only[az,hq]
 have h2:np (ren (fun k=>some (n+k)) false r)=true:=by simp only[PM.np,gn];exact hS.np.trans hn
 by_cases h0:x.2=0
 ·obtain⟨t,u,rfl,hg,hk⟩:=hown h0;have ht:ar (.tup [gq x.1 t u,I x.2])=dy x.1 t u:=by
   show al [_,_]=_;rw[al,al,al,nI];simp[ar]
  obtain⟨f,rfl,hf,-,htk⟩:=hS.ok (by rw[ht];exact hk);rw[ht]at hf;have e2:=Ah (f:=f) (n:=n) htk;have e1:∀ h:Nat->Option Nat,∀ t u,ren h false (.tup [gq x.1 t u,I x.2])= .tup [gq x.1 (t.ren h false) (u.ren h false),I x.2]:=fun h t u=>by
   simp only[ren,aZ,wm]
  have ht2:∀ t u,ar (.tup [gq x.1 t u,I x.2])=dy x.1 t u:=fun t u=>by
   show al [_,_]=_;rw[al,al,al,nI];simp[ar]
  rw[e1,e1,ht2]at e2;rw[e1,e1];exact⟨_,rfl,uY _ _ _,zE _ _ _,fun _=>⟨_,_,rfl,sr (sr hg hf) fun _ _=>rfl,e2⟩⟩
 ·generalize ren (fun k=>some (n+k)) false r=r' at h1 h2 ⊢;obtain⟨q',c,rfl⟩:∃ q' c,r'= .tup [q',c]:=by
   cases r' with
   |tup cs=>
    match cs,h1 with
    | [a,b],_=>exact⟨a,b,rfl⟩
    | [],h=>simp[aC,ren,aZ]at h
    | [_],h=>simp[aC,ren,aZ]at h
    |_::_::_::_,h=>simp[aC,ren,aZ]at h
   |_=>simp[aC,ren]at h1
  have h3:aC q'= .agg (gc x.1)/\aC c=I x.2:=by simpa [aC,ren,aZ]using h1
  have hc:c=I x.2:=by cases c<;>simp_all [aC,ren]
  subst hc;refine⟨q',rfl,h3.1,?_,fun h=>absurd h h0⟩;simp only[np,off,dh,bg]at h2 ⊢;exact h2
def iu{sz s off:Nat}{vs:Option (List PV)}{st:St}:vJ sz (.ptr s off) vs st=Ad sz s off vs (st.objs s) st:=by
 cases vs<;>simp only[vJ,Ad]
 cases st.objs s<;>rfl
def Ai:(∀ {u:jX},ik u []=[])/\(∀ {u:jX} {p:PV} {ps:List PV},ik u (p::ps)=fJ u p::ik u ps):=⟨rfl,rfl⟩
def C0{g:bY}{t u:aB}{n:Int}:eQ [gq g t u,I n]=true:=by
 have:=zE g t u;simp only[eQ,this,bg,dj];rfl
def Dh{f:Nat}{F:bp}{g:bY}{t u:aB}{rest:List PV}{x:bY×Int}{rs:List hZ}(K:iF cf)(hT:T f=some F)(hres:F.res=rs)(hown:F.own=true)(hg:gM g t u)(hk:aL st (dy g t u))(hr:∀ p∈rest,cT p)(hnt:rest.length+1<=F.nt)(N:Nat)
  (h:∀ t0 u0 ns,gM g t0 u0->dy g t0 u0=cj 0 ns->Wp cf N F.body (eu (gq g t0 u0::rest),bn ns []) (mF rs fun p s=>np p=true/\zX x p s)):
  ∃ r ns b,av cf f (gq g t u::rest) [0] st=some (r,mX ((dy g t u).map (·.1)) ns b st)/\cD (gq g t u::rest) [0] st=(dy g t u).map (·.1)/\Cb x st.nx ns r:=by
 obtain⟨r0,s1,r,ns,b,⟨hn,h0⟩,hc,ht,hS⟩:=Az K hT hres hown hg hk hr hnt N h;exact⟨_,ns,b,hc,ht,N8 hS h0 hn st.nx⟩
def ij{x:bY×Int}{t u:aB}(hg:gM x.1 t u)(hk:aL st (dy x.1 t u)):eQ [gq x.1 t u,I x.2]=true/\np (.tup [gq x.1 t u,I x.2])=true/\zX x (.tup [gq x.1 t u,I x.2]) st:=by
 have h:= @C0 x.1 t u x.2;exact⟨h,sv h,KZ hg hk⟩
def L5(K:bJ cf)(g:bY)(c:Ch)(v:V)(hv:fu c.value=some v){t u:aB}(hg:gM g t u)(hk:aL st (dy g t u))(ho:jO g):
  ∃ r ns b,av cf 156 [gq g t u,.agg (cc c)] [0] st=some (r,mX ((dy g t u).map (·.1)) ns b st)/\cD [gq g t u,.agg (cc c)] [0] st=(dy g t u).map (·.1)/\Cb (jr wS g c) st.nx ns r:=by
 refine Dh (f:=156) (F:=F156) K.tab rfl rfl rfl hg hk (by simp[ej,jd]) (lb rfl) 1 ?_;clear hg hk;intro t u ns hg hns;have hk:aL (bn ns []) (dy g t u):=by rw[hns];exact ny ns
 obtain⟨hG1,hG2,hap⟩:=qD hk hg;have hcl:(cc c).length=12:=rfl;have hm1:=bN nc 3 cC g.nodes;have hm2:=bN ec 5 cw g.edges;have hvl:=v.cb_len;have hp6:∀ {a b c d e f:PV},bD [a,b,c,d,e,f] 0 v.cb=v.cb:=iK (by rw[hvl];rfl);have hN:∀ st id,av cf 83 [.agg [.list g.nodes.length (g.nodes.flatMap nc) t,.list g.edges.length (g.edges.flatMap ec) u],I id] [] st=some (I (dA g.nodes id),st):=fun st id=>(ug (by simp[aQ])).trans (wA K g id (by have:=ho.nl;omega));have hE:∀ st id,av cf 99 [.agg [.list g.nodes.length (g.nodes.flatMap nc) t,.list g.edges.length (g.edges.flatMap ec) u],I id] [] st=some (I (fI g.edges id),st):=fun st id=>(ug (by simp[aQ])).trans (BG K g id (by have:=ho.el;omega));unfold F156 qr qd qm qi qk ql qf qt qu qa qn qo qe qN gq jr;rw[hv];simp only[↓pa,pb,ai,↓reduceIte,reduceEqDiff,reduceAdd,fS,hcl,aq];refine tA rfl (by simp[bZ]) (AC K) (fun r hr=>?_);unfold tC at hr;rw[hv]at hr;subst hr;simp only[↓pa,pb,ai,↓reduceIte,reduceEqDiff,reduceAdd,reduceLeDiff,dz,iu,fg,hp6,aq,pg,AY,hN];refine aa (fun h9=>?_) (fun h9=>?_)
 ·simp only[ak h9];unfold uy;simp only[↓pa,pb,ai,↓reduceIte,reduceEqDiff,reduceAdd,reduceLeDiff,h9,aq,AY,hE];refine aa (fun h0=>?_) (fun h0=>?_)
  ·rw[dif_pos h0];simp only[↓pa,pb,ai,↓reduceIte,reduceEqDiff,reduceAdd,reduceLeDiff,dz,iu,fL,h0];exact ij (x:=(g,5)) hg hk
  ·rw[dif_neg h0];have hlt:= @pn g.edges v.num;obtain⟨j,hj⟩:∃ j:Nat,fI g.edges v.num=j:=⟨_,(eo (by omega)).symm⟩;rw[hj]at h0 hlt ⊢;have hlt:j<g.edges.length:=by omega
   have hfo:=(ho.es _ (ct hlt));obtain⟨k,rfl⟩:=x6 hg.2 (by omega);simp only[ez,om hlt,show wS.put=iJ from rfl];simp (disch:=omega)only[↓pa,↓bT,pb,ai,↓reduceIte,reduceEqDiff,reduceAdd,reduceLT,dz,h9,h0,fS,aq,pg,HJ hlt,dv,dR];refine oQ rfl (by simp[ga,bZ]) (IH K _ _ _ (zG hfo.2) (by omega)) ?_;simp only[↓pa,pb,↓reduceIte];refine aa (fun hln=>?_) (fun hln=>?_)
   ·have hln':20<(iJ g.edges[j].fields c.name c.text).length:=by omega
    rw[ak hln'];simp only[↓pa,pb,ai,↓reduceIte,reduceEqDiff,reduceAdd,reduceLeDiff,dz,iu,fL,hln];exact ij (x:=(g,4)) hg hk
   ·have hln':¬20<(iJ g.edges[j].fields c.name c.text).length:=by omega
    rw[ad hln'];simp (disch:=omega)only[↓pa,pb,ai,↓reduceIte,reduceEqDiff,dz,h9,aq,pg];have hset:bD (g.edges.flatMap ec) (j*5+4) [FX (iJ g.edges[j].fields c.name c.text)]=(g.edges.set j {g.edges[j]with fields:=iJ g.edges[j].fields c.name c.text}).flatMap ec:=oL ec 5 cw (by decide) hlt rfl;have hbE:=fun vs off cs=> @IT g k 68 g.edges.length off cs vs t hg.1 hap;have hK:=hk.2 (k,g.edges.length) (by simp[dy,nU]);refine vn (by omega) (by omega) hK.2.1 hK.1 hK.2.2 (mC g) (ga _) ?_;simp only[↓pa,pb,ai,↓reduceIte,reduceEqDiff,reduceAdd,reduceLeDiff,dz,iu,fL,Ai,zO,hset,hbE,aq];have e:PV.agg [.list g.nodes.length (g.nodes.flatMap nc) t,.list g.edges.length ((g.edges.set j {g.edges[j]with fields:=iJ g.edges[j].fields c.name c.text}).flatMap ec) (.own k 68)]=gq ⟨g.nodes,g.edges.set j {g.edges[j]with fields:=iJ g.edges[j].fields c.name c.text}⟩ t (.own k 68):=by simp only[gq,ig]
    rw[e];exact ij (x:=(⟨g.nodes,g.edges.set j {g.edges[j]with fields:=iJ g.edges[j].fields c.name c.text}⟩,0)) ⟨hg.1,rfl⟩ (by unfold dy at hk ⊢;rw[ig];exact hk)
 ·simp only[ad h9];unfold ux;simp only[↓pa,pb,↓reduceIte,reduceEqDiff,h9];refine aa (fun h0=>?_) (fun h0=>?_)
  ·rw[dif_pos h0];simp only[↓pa,pb,ai,↓reduceIte,reduceEqDiff,reduceAdd,reduceLeDiff,dz,iu,fL,h0];exact ij (x:=(g,5)) hg hk
  ·rw[dif_neg h0];have hlt:= @kZ g.nodes v.num;obtain⟨j,hj⟩:∃ j:Nat,dA g.nodes v.num=j:=⟨_,(eo (by omega)).symm⟩;rw[hj]at h0 hlt ⊢;have hlt:j<g.nodes.length:=by omega
   have hfo:=(ho.ns _ (ct hlt)).2;obtain⟨k,rfl⟩:=x6 hg.1 (by omega);simp only[ez,mK hlt,show wS.put=iJ from rfl];simp (disch:=omega)only[↓pa,↓bT,pb,ai,↓reduceIte,reduceEqDiff,reduceAdd,reduceLT,dz,h9,h0,fS,aq,pg,HH hlt,dv,dR];refine oQ rfl (by simp[ga,bZ]) (IH K _ _ _ (zG hfo.2) (by omega)) ?_;simp only[↓pa,pb,↓reduceIte];refine aa (fun hln=>?_) (fun hln=>?_)
   ·have hln':20<(iJ g.nodes[j].fields c.name c.text).length:=by omega
    rw[ak hln'];simp only[↓pa,pb,ai,↓reduceIte,reduceEqDiff,reduceAdd,reduceLeDiff,dz,iu,fL,hln];exact ij (x:=(g,4)) hg hk
   ·have hln':¬20<(iJ g.nodes[j].fields c.name c.text).length:=by omega
    rw[ad hln'];simp (disch:=omega)only[↓pa,pb,ai,↓reduceIte,reduceEqDiff,dz,h9,aq,pg];have hset:bD (g.nodes.flatMap nc) (j*3+2) [FX (iJ g.nodes[j].fields c.name c.text)]=(g.nodes.set j {g.nodes[j]with fields:=iJ g.nodes[j].fields c.name c.text}).flatMap nc:=oL nc 3 cC (by decide) hlt rfl;have hbE:=fun vs off cs=> @BL g k 72 g.nodes.length off cs vs u hg.2 (gS hap);have hK:=hk.2 (k,g.nodes.length) (by simp[dy,nU]);refine vn (by omega) (by omega) hK.2.1 hK.1 hK.2.2 (lr g) (ga _) ?_;simp only[↓pa,pb,ai,↓reduceIte,reduceEqDiff,reduceAdd,reduceLeDiff,dz,iu,fL,Ai,zO,hset,hbE,aq];have e:PV.agg [.list g.nodes.length ((g.nodes.set j {g.nodes[j]with fields:=iJ g.nodes[j].fields c.name c.text}).flatMap nc) (.own k 72),.list g.edges.length (g.edges.flatMap ec) u]=gq ⟨g.nodes.set j {g.nodes[j]with fields:=iJ g.nodes[j].fields c.name c.text},g.edges⟩ (.own k 72) u:=by simp only[gq,ig]
    rw[e];exact ij (x:=(⟨g.nodes.set j {g.nodes[j]with fields:=iJ g.nodes[j].fields c.name c.text},g.edges⟩,0)) ⟨rfl,hg.2⟩ (by unfold dy at hk ⊢;rw[ig];exact hk)
def tl(b:Bool)(e:Eg):Int:=if b then e.src else e.dst
def kJ(b:Bool)(l:List Eg)(id:Int):List Int:=(l.filter fun e=>decide (tl b e=id)).map Eg.id
def Mq{l:List Eg}{i:Nat}(h:i<l.length)(b:Bool)(id:Int):kJ b (l.take (i+1)) id=if tl b l[i]=id then kJ b (l.take i) id++[l[i].id]else kJ b (l.take i) id:=by
 unfold kJ;rw[aW h,List.filter_append,ch];by_cases hd:tl b l[i]=id<;>simp[hd]
def Ny(l:List Eg)(b:Bool)(id:Int):(kJ b l id).length<=l.length:=by
 unfold kJ;rw[b8];exact List.length_filter_le _ _
def FF{l:List Eg}{b:Bool}{id:Int}:kJ b l id=[]↔∀ e∈l,tl b e≠id:=by
 unfold kJ;rw[List.map_eq_nil_iff,List.filter_eq_nil_iff];simp
def Nz{l:List Eg}{id:Int}:(l.any fun e=>decide (e.src=id)||decide (e.dst=id))=(decide (0<(kJ true l id).length)||decide (0<(kJ false l id).length)):=by
 rw[m5,List.any_eq_true,cF,decide_eq_true_eq,decide_eq_true_eq,List.length_pos_iff,List.length_pos_iff,du,du,FF,FF];constructor
 ·rintro⟨e,he,h⟩;rcases cF _ _▸h with h|h
  ·exact .inl fun hn=>hn e he (by simpa [tl]using h)
  ·exact .inr fun hn=>hn e he (by simpa [tl]using h)
 ·intro h;rcases h with h|h
  ·simp only[Classical.not_forall,du,Decidable.not_not]at h;obtain⟨e,he,h⟩:=h;exact⟨e,he,by simpa [tl]using .inl h⟩
  ·simp only[Classical.not_forall,du,Decidable.not_not]at h;obtain⟨e,he,h⟩:=h;exact⟨e,he,by simpa [tl]using .inr h⟩
def Ix(K:bJ cf)(g:bY)(b:Bool)(id:Int)(hl:g.edges.length<=2000000):cf 43 [.agg (gc g),I id,.bool b] [] []=some (IX (kJ b g.edges id),[],[]):=by
 refine K.tab 43 F43 rfl (g.edges.length+1) _ _ _ _ (EE rfl rfl (lb rfl) _ ?_);have hm:=bN ec 5 cw g.edges;unfold F43 qr qd qm qi qc qb qk ql qf qa qx qy qn qo qN;simp only[↓pa,↓bT,pb,ai,↓reduceIte,reduceAdd,reduceLT,gc,dv,dR];refine be (fun k fr st=>∃ (i:Nat) (tok:aB),k=g.edges.length-i/\i<=g.edges.length/\fr 1=I id/\fr 2= .bool b/\fr 3= .ptr 3 0/\st.objs 3=some [NX g.nodes,EX g.edges]/\fr 8=I i/\fr 7= .list (kJ b (g.edges.take i) id).length ((kJ b (g.edges.take i) id).map I) tok/\Gr 2 st.nx st.cnt (kJ b (g.edges.take i) id).length tok) g.edges.length (by omega)
  ⟨0,.full 2,by simp,by omega,by simp only[↓pa,pb,↓reduceIte,reduceEqDiff],by simp only[↓pa,pb,↓reduceIte,reduceEqDiff],by simp only[↓pa,↓reduceIte,reduceEqDiff],by simp only[pb,↓reduceIte],by simp only[↓pa,↓reduceIte];rfl,by simp only[↓pa,↓reduceIte,reduceEqDiff];rfl,je⟩ ?_
 rintro k fr st ⟨i,tok,rfl,hi,f1,f2,f3,o3,f8,f7,hG⟩;simp only[↓pa,pb,ai,aV,↓reduceIte,reduceEqDiff,reduceAdd,f3,o3,f8];refine aa (fun h1=>?_) (fun h1=>?_);rotate_left
 ·have hii:i=g.edges.length:=by omega
  have ht:g.edges.take i=g.edges:=bA (by omega);rw[ht]at f7;have hpl:=zz (kJ b g.edges id);simp only[↓pa,pb,az,↓reduceIte,reduceEqDiff,f7,h1,hpl.1,hpl.2.1]
 have hlt:i<g.edges.length:=h1;have hn:=Mq hlt b id;have hle:=Ny (g.edges.take i) b id;have hle2:(g.edges.take i).length<=g.edges.length:=by rw[aG];omega
 cases b with
 |false=>
  simp (disch:=omega)only[↓pa,pb,ai,↓reduceIte,reduceEqDiff,reduceAdd,f1,f2,f3,o3,f8,h1,Ga hlt];refine aa (fun h2=>?_) (fun h2=>?_)
  ·
   rw[ak (by exact h2)]at hn;simp (disch:=omega)only[↓pa,↓bT,pb,ai,↓reduceIte,reduceEqDiff,reduceAdd,reduceLeDiff,reduceLT,f3,o3,f8,f7,h2,bi,pi hlt];refine bj hG (by rw[b8,gp]) rfl (by omega) (by omega) (by decide) ?_;simp (disch:=omega)only[↓pa,pb,ai,aV,↓reduceIte,reduceEqDiff,f1,f2,f3,o3,f8];refine⟨g.edges.length- (i+1),by omega,i+1,dU 2 tok st,rfl,by omega,rfl,?_,?_⟩
   ·rw[hn,af,ch];rfl
   ·rw[hn,af];exact di hG
  ·
   rw[ad (by exact h2)]at hn;simp (disch:=omega)only[↓pa,pb,aV,↓reduceIte,reduceEqDiff,f1,f2,f3,o3,f8,f7,h2];refine⟨g.edges.length- (i+1),by omega,i+1,tok,rfl,by omega,rfl,?_,?_⟩
   ·rw[hn]
   ·rw[hn];exact hG
 |true=>
  simp (disch:=omega)only[↓pa,pb,ai,↓reduceIte,reduceEqDiff,reduceAdd,f1,f2,f3,o3,f8,h1,F9 hlt];refine aa (fun h2=>?_) (fun h2=>?_)
  ·
   rw[ak (by exact h2)]at hn;simp (disch:=omega)only[↓pa,↓bT,pb,ai,↓reduceIte,reduceEqDiff,reduceAdd,reduceLeDiff,reduceLT,f3,o3,f8,f7,h2,bi,pi hlt];refine bj hG (by rw[b8,gp]) rfl (by omega) (by omega) (by decide) ?_;simp (disch:=omega)only[↓pa,pb,ai,aV,↓reduceIte,reduceEqDiff,f1,f2,f3,o3,f8];refine⟨g.edges.length- (i+1),by omega,i+1,dU 2 tok st,rfl,by omega,rfl,?_,?_⟩
   ·rw[hn,af,ch];rfl
   ·rw[hn,af];exact di hG
  ·
   rw[ad (by exact h2)]at hn;simp (disch:=omega)only[↓pa,pb,aV,↓reduceIte,reduceEqDiff,f1,f2,f3,o3,f8,f7,h2];refine⟨g.edges.length- (i+1),by omega,i+1,tok,rfl,by omega,rfl,?_,?_⟩
   ·rw[hn]
   ·rw[hn];exact hG
def IR(K:bJ cf)(g:bY)(b:Bool)(id:Int)(hl:g.edges.length<=2000000){t u:aB}:∃ fl,av cf 43 [.agg [.list g.nodes.length (g.nodes.flatMap nc) t,.list g.edges.length (g.edges.flatMap ec) u],I id,.bool b] [] st=some (IX (kJ b g.edges id),cZ st fl)/\(kJ b g.edges id=[]->fl=st.fl):=by
 rw[ug (by simp[aQ,tM])];obtain⟨q1,q2⟩:=dE (ps:=[PV.agg (gc g),I id,PV.bool b]) (by simp[dW,aQ,tM]);rw[ot q1 (by rw[q2];exact Ix K g b id hl)];refine⟨_,bq some (Prod.ext ?_ rfl),fun h=>?_⟩
 ·have:=zz (kJ b g.edges id);simp only[IX,ren,Ag this];rfl
 ·rw[h];rfl
end Go.PM
