/- A part of the proof: texts PiA, PiB, PiC, PiE, PiF, PiG, PiI, PiJ, PjA, PjB, PjC, PjD, PjE, PjF, PjG, joined. Conditions: none. -/
import Derived.Test.YtdpamjikmlbmhaaGreatDoorPF
import Derived.Laws.IdiomCopy
import Derived.Laws.Externs
import Derived.Lib.AppendZerosOnto
import Derived.Test.YtdpamjikmlbmhaaGreatDoorProg
import Derived.WalkKit
import Derived.OwnWalk
import Derived.Lib.AppendZeros
import Derived.RegionTactic
import Derived.Deep.RegionLaw
import Derived.Laws.NewBlocks
import Derived.Shelf.LaysM
import Derived.Shelf.Strconv.Itoa4
import Derived.Shelf.LaysC
import Derived.Shelf.Strconv.ErrVarParseInt
import Derived.Lib.LaidTab
import Derived.KernelRfl
import Derived.Deep.Slices
import Derived.ChangeSame
import Derived.Lib.SmallJoins
import Derived.Test.YtdpamjikmlbmhaaGreatDoorRows
import Derived.Deep.DeepHandedRow
import Derived.WideKeyArgs
import Derived.Stop.LaidErr
import Derived.RowKit
set_option linter.all false
set_option maxHeartbeats 32000000
open Nat (reduceEqDiff reduceAdd reduceLeDiff reduceLT reduceMul reduceSub)
namespace Go.PM
variable {P:Program} {B:Nat->Nat->Option Value}
def m4(w:World)(dT sT ty elem:TypeId)(b o dLen dCap:Nat)(a:Addr)(sLen sCap sz:Nat)(cs:List Value)
  (hu:P.underlying dT=some (.slice elem)) (hs:(P.info? elem).map (·.size)=some sz) (hn:cs.length=Nat.min sLen dLen*sz)
  (hsrc:∀ j v,cs[j]? =some v->w.cell? (a.add j)=some v) (hc:∀ j,j<cs.length->(w.cell? ⟨b,o+j,none⟩).isSome=true) (hf:∀ j,j<cs.length->w.frozen? ⟨b,o+j,none⟩=false) (h1:∀ v∈cs,v.oneCell'=true):
  (Builtin.copy_ #[dT,sT] ty #[.slice (some ⟨b,o,none⟩) dLen dCap,.slice (some a) sLen sCap]).run P w= .ok (goInt (Nat.min sLen dLen)) (w.setCells b o cs):=by
 have hl:=run_loadCells_list (P:=P) w a cs hsrc;have hst:=run_storeCells_cells (P:=P) b o cs 0 w (by simpa using hc) (by simpa using hf) h1;cases hq:P.info? elem with
 |none=>simp[hq]at hs
 |some i=>
  have hi:i.size=sz:=by simpa [hq]using hs
  simp[Builtin.copy_,bz w hu,Builtin.lenOf,Builtin.firstCells,sizeOf,typeInfo,hq,hi,<-hn,hl,hst]
def AG(w:World)(tS tR e:TypeId)(ht:P.underlying tS=some (.slice e))(size:Nat)(hz:(P.info? e).map (·.size)=some size)
  (a b:Addr) (la ca lb cb:Nat) (hne:a.block≠b.block) {ra rb:Array Value} {ta tb:TypeId} {fa:Nat×Nat} (ha:w.heap[a.block]? =some (.cells ra ta fa)) (hb:w.heap[b.block]? =some (.cells rb tb (0,0))) (hka:ra.size≠0) (hk:rb.size≠0):
  (Extern.SlicesOverlaps.overlaps #[tS,tS] #[tR] #[.slice (some a) la ca,.slice (some b) lb cb]).run P w= .ok (.bool false) w:=by
 have hnb:(a.block !=b.block)=true:=by simpa using hne
 have hnb':(a.block==b.block)=false:=by simpa using hne
 have hsa:w.shape? a.block=some (ta,ra.size):=by simp[World.shape?,ha]
 have hsb:w.shape? b.block=some (tb,rb.size):=by simp[World.shape?,hb]
 have hfb:∀ o s,w.frozen? ⟨b.block,o,s⟩=false:=fun o s=>by simp[World.frozen?,hb]
 have hfb':w.frozen? b=false:=hfb b.off b.spot;cases hq:P.info? e with
 |none=>simp[hq]at hz
 |some i=>
  have hi:i.size=size:=by simpa [hq]using hz
  change Sem.run P (α:=Value) (do
   let some t:=(#[tS,tS]:Array TypeId)[0]?|stuck "slices.overlaps: no parameter types"
   let .slice elem<-underlying t|stuck "slices.overlaps: slice type expected"
   let size<-sizeOf elem
   match (some a:Option Addr),(some b:Option Addr)with
   |some a,some b=>
    if la=0\/lb=0\/size=0 then pure (Value.bool false)
    else if a.block !=b.block && (<-frozen a) && (<-frozen b)then unsupported .addressObserved
    else do
     if a.block !=b.block then do
      noView a;noView b
      if<-mayBeOne a b then return Value.bool ((<-choose (.extern "sameAddr.stringBytes" 2))==1)
     pure (Value.bool (a.block==b.block && a.off<b.off+lb*size && b.off<a.off+la*size))
   |_,_=>pure (Value.bool false)) w=_
  by_cases h0:la=0\/lb=0\/size=0
  ·simp[bz w ht,sizeOf,typeInfo,hq,hi,h0]
  ·obtain⟨k,hk'⟩:∃ k,rb.size=k+1:=⟨rb.size-1,by omega⟩;rw[hk']at hsb;obtain⟨ka,hka'⟩:∃ k,ra.size=k+1:=⟨ra.size-1,by omega⟩;rw[hka']at hsa;cases hfa:w.frozen? a with
   |true=>simp[bz w ht,sizeOf,typeInfo,hq,hi,h0,hnb,hnb',frozen,noView,viewAt,mayBeOne,stringish,shape,Sem.run,hsa,hsb,hfa,hfb]
   |false=>
    cases hfe:w.frozen? ⟨a.block,ka+1,none⟩with
    |true=>simp[bz w ht,sizeOf,typeInfo,hq,hi,h0,hnb,hnb',frozen,noView,viewAt,mayBeOne,stringish,shape,Sem.run,hsa,hsb,hfa,hfe,hfb]
    |false=>simp[bz w ht,sizeOf,typeInfo,hq,hi,h0,hnb,hnb',frozen,noView,viewAt,mayBeOne,stringish,shape,Sem.run,hsa,hsb,hfa,hfe,hfb]
def nR(w:World)(b:Nat)(x y:Array Value):(w.setRow b x).setRow b y=w.setRow b y:=by
 unfold World.setRow;congr 1;apply pf;intro i;simp only[kj];by_cases h:b=i
 ·subst h;simp only[if_true];cases w.heap[b]? with
  |none=>rfl
  |some o=>cases o<;>rfl
 ·simp only[ai h]
def JB(w:World)(b:Nat){x:Array Value}{e f}(h:w.heap[b]? =some (.cells x e f)):w.setRow b x=w:=by
 obtain⟨hp,t,d,os,out⟩:=w;simp only[World.setRow];congr 1;apply pf;intro i;simp only[kj];by_cases hi:b=i
 ·subst hi;rw[am rfl];simp only at h;rw[h];rfl
 ·rw[ai hi]
def Gf(w:World)(b o:Nat)(v:Value){x:Array Value}{e f}(h:w.heap[b]? =some (.cells x e f)):w.setCell ⟨b,o,none⟩ v=w.setRow b (x.setIfInBounds o v):=by
 unfold World.setCell World.setRow;congr 1;apply pf;intro i;simp only[kj];by_cases hi:b=i
 ·subst hi;rw[am rfl,am rfl,h];rfl
 ·rw[ai hi,ai hi]
def jQ(b:Nat){e f}:∀ (vs:List Value) (o:Nat) (w:World) (x:List Value),w.heap[b]? =some (.cells x.toArray e f)->o+vs.length<=x.length->w.setCells b o vs=w.setRow b (x.take o++vs++x.drop (o+vs.length)).toArray
 | [],o,w,x,h,_=>by rw[World.setCells,aD,a6,aI,dy,JB w b h]
 |v::vs,o,w,x,h,hl=>by
  simp only[aA]at hl;have h1:=Gf w b o v h;have h2:=setRow_heap w b _ (x.toArray.setIfInBounds o v) e f h;rw[World.setCells,h1];have h3:x.toArray.setIfInBounds o v=(x.set o v).toArray:=by simp
  rw[h3]at h2 ⊢;rw[jQ b vs (o+1) _ _ h2 (by simp;omega),nR];congr 2;rw[List.drop_set_of_lt (by omega),List.take_set,aA,show o+1+vs.length=o+(vs.length+1) by omega];congr 1;rw[aV (by omega),List.set_append_right _ _ (by simp;omega),aL,hY (by omega)];simp
def Rs.take{G:Gh}{cs:List PV}{us:List Value}(h:Rs G cs us)(k:Nat):Rs G (cs.take k) (us.take k):=by
 obtain⟨h1,h2,h3⟩:=h;refine⟨by simp[h1],fun j p u hp hu=>?_,fun u hu=>h3 u (eU hu)⟩;rw[pd]at hp hu;split at hp
 ·rename_i hj;rw[am hj]at hu;exact h2 j p u hp hu
 ·cases hp
def Rs.drop{G:Gh}{cs:List PV}{us:List Value}(h:Rs G cs us)(k:Nat):Rs G (cs.drop k) (us.drop k):=by
 obtain⟨h1,h2,h3⟩:=h;refine⟨by simp[h1],fun j p u hp hu=>?_,fun u hu=>h3 u (dv hu)⟩;rw[ex]at hp hu;exact h2 _ p u hp hu
def tv{cs ds:List PV}(h:aX cs=true)(hs:∀ p∈ds,p∈cs):aX ds=true:=mP fun p hp=>gm h (hs p hp)
def BM{K:Nat->Bool}{cs:List PV}:∀ {ds:List PV},dN K cs=true->(∀ p∈ds,p∈cs)->dN K ds=true
 | [],_,_=>rfl
 |d::ds,h,hs=>by
  simp only[dN,aj];refine⟨?_,BM h fun p hp=>hs p (ce _ hp)⟩;obtain⟨j,hj⟩:=List.mem_iff_getElem?.1 (hs d List.mem_cons_self);exact lO h hj
def BN{K:Nat->Bool}:∀ {cs ds:List PV},dN K cs=true->dN K ds=true->dN K (cs++ds)=true
 | [],_,_,h=>h
 |c::cs,ds,h,k=>by
  simp only[dN,aj]at h;simp only[bo,dN,aj];exact⟨h.1,BN h.2 k⟩
section
variable {G:Gh} {st:St} {w w':World}
def bM.below(hI:bM P B G st w)(hs:w.heap.size<=w'.heap.size)(hb:∀ b,b<w.heap.size->w'.heap[b]? =w.heap[b]?)(he:w'.os=w.os/\w'.output=w.output):bM P B G st w'/\cQ G w G w':=by
 have lt_of:∀ {b:Nat} {o:Obj},w.heap[b]? =some o->b<w.heap.size:=fun h=>(bf.1 h).1;have hsh:=hI.sh;refine⟨⟨fun b o v h=>?_,fun b e k h=>?_,hI.nx,hI.cnt,hI.live,hI.room,hI.apart,hI.priv,fun s cs h=>?_,fun s b h=>?_,hI.obj,hI.nob,hI.npo,fun b k h=>?_,fun b h=>?_,hI.base,fun s b e sz h1 h2=>?_,
  fun s es h=>?_,fun s b h=>?_,hI.mbi,hI.nomb,hI.obx,hI.ful⟩,⟨sZ.refl G,hs,fun b hb' _ _ _=>hb b hb',fun s b h=> .inl ⟨s,h⟩,fun t r h=> .inl ⟨t,r,h,rfl⟩,fun _ _ _ h=> .inl h,fun _ _ h=> .inl h,fun _ k h=> .inl ⟨k,h⟩,fun s b h=> .inl ⟨s,h⟩,he⟩⟩
 ·have hc:=hI.com b o v h;rw[World.cell?_of_block (hb b (World.block_lt_of_cell? w _ hc))];exact hc
 ·obtain⟨c,h1,h2⟩:=hI.sh b e k h;exact⟨c,by rw[hb b (lt_of h1)];exact h1,h2⟩
 ·obtain⟨b,e,vs,h1,h2,h3⟩:=hI.objs s cs h;exact⟨b,e,vs,h1,by rw[hb b (lt_of h2)];exact h2,h3⟩
 ·obtain⟨h1,h2⟩:=hI.obs s b h;exact⟨by omega,h2⟩
 ·have:=hI.pvl b k h;omega
 ·have:=hI.xpl b h;omega
 ·obtain⟨h3,c,h4⟩:=hI.oes s b e sz h1 h2;exact⟨h3,c,by rw[hb b (lt_of h4)];exact h4⟩
 ·obtain⟨b,vs,clk,h1,h2,h3⟩:=hI.mobj s es h;exact⟨b,vs,clk,h1,by rw[hb b (lt_of h2)];exact h2,h3⟩
 ·obtain⟨vs,clk,h1⟩:=hI.mbs s b h;exact⟨vs,clk,by rw[hb b (lt_of h1)];exact h1⟩
def cQ.heap{G':Gh}{w2 w3:World}(hS:cQ G w G' w2)(h:w3.heap=w2.heap)(he:w3.os=w2.os/\w3.output=w2.output):cQ G w G' w3:=
 ⟨hS.le,by rw[h];exact hS.size,fun b hb ho ht hm=>by rw[h];exact hS.kept b hb ho ht hm,hS.nearO,hS.nearT,hS.nearC,hS.nearS,hS.nearP,hS.nearM,⟨he.1.trans hS.eff.1,he.2.trans hS.eff.2⟩⟩
def CI(n m:Nat)(ns:List Nat):(bV (n::ns) []).count 0 m=bV (m::ns) []:=by
 unfold St.count bV;congr 1;funext t;cases t with
 |zero=>simp
 |succ t=>simp
def Jx(u:kS)(ns:List Nat):{bV ns []with objs:=rD u (bV ns []).objs,maps:=sP u (bV ns []).maps}=bV ns []:=by
 unfold bV rD sP;congr 1
def Ht{n i e sz:Nat}{ns:List Nat}{cs ds:List PV}{us vs rest:List Value}{b1 cap1:Nat}{w1 w2:World}{G1:Gh}
  (hR:R G1 (.list (n+1) (cs++ds) (.own 0 e)) (.slice (some ⟨b1,0,none⟩) (n+1) cap1)) (hI:bM P B G1 (bV ((n+1)::ns) []) w1)
  (hcs:cs.length=n*sz) (hds:ds.length=sz) (hul:us.length=n*sz) (hvl:vs.length=sz) (hi:i<=n) (hrow:w1.heap[b1]? =some (.cells (us++vs++rest).toArray e (0,0)))
  (ht1:dN ([0].contains ·) cs=true) (ht2:dN ([0].contains ·) ds=true) (hn1:aX cs=true) (hn2:aX ds=true)
  (hw2:w2.heap=(w1.setRow b1 (us.take (i*sz)++vs++us.drop (i*sz)++rest).toArray).heap) (he2:w2.os=w1.os/\w2.output=w1.output):
  ∃ G2,R G2 (.list (n+1) (cs.take (i*sz)++ds++cs.drop (i*sz)) (.own 0 e)) (.slice (some ⟨b1,0,none⟩) (n+1) cap1)/\bM P B G2 (bV ((n+1)::ns) []) w2/\cQ G1 w1 G2 w2/\G2.bx=G1.bx:=by
 cases hR with
 |list _ _ _ _ _ cap us1 hn hl hc hr h1 htr hp hx=>
 obtain⟨x,hx0⟩:=hI.live 0 (by simp[bV]);have hcnt:=(hI.cnt 0 x hx0).2;have hxn:x.cnt=n+1:=by rw[<-hcnt];simp[bV]
 obtain⟨_,htr⟩:=htr;obtain⟨h3,h4⟩:=htr x hx0;have h4:=h4 hxn.symm;cases x with
 |full m=>have:=hI.ful 0 m hx0;simp only[ot.cnt]at hxn;omega
 |room r=>
 obtain⟨hrb,_,hrc,hre,hrl⟩:=h4;have hrm:r.m=n+1:=hxn;obtain⟨hsh,_,_,hrs,_,_⟩:=hI.room 0 r hx0;have hus1:us1.length=n*sz+sz:=by rw[<-hl,ae,hcs,hds]
 have hsz:us1.length=r.m*r.sz:=by rw[hrl,hrm]
 have hcel:∀ j (v:Value),us1[j]? =some v->(us++vs++rest)[j]? =some v:=fun j v hj=>by
  have:=hI.com _ _ _ (hc j v hj);simpa [World.cell?,hrow]using this
 have heq:us1=us++vs:=by
  apply iH;intro j;by_cases hj:j<us1.length
  ·have:=hcel j us1[j] (aK hj);rw[bW (by rw[ae];omega)]at this;rw[this];exact aK hj
  ·rw[cE (by omega),cE (by rw[ae];omega)]
 subst heq;have hRs:Rs G1 (cs++ds) (us++vs):=⟨hl,hr,h1⟩;have hR1:Rs G1 cs us:=by
  have:=hRs.take (n*sz);rwa [<-hcs,kY,hcs,<-hul,kY]at this
 have hR2:Rs G1 ds vs:=by
  have:=hRs.drop (n*sz);rwa [<-hcs,jf,hcs,<-hul,jf]at this
 have hds':Rs G1 (cs.take (i*sz)++ds++cs.drop (i*sz)) (us.take (i*sz)++vs++us.drop (i*sz)):=((hR1.take _).append hR2).append (hR1.drop _);have hisz:i*sz<=n*sz:=du _ hi;have hlen':(us.take (i*sz)++vs++us.drop (i*sz)).length=(us++vs).length:=by simp only[ae,aL,bl];omega
 have hlenc:(cs.take (i*sz)++ds++cs.drop (i*sz)).length=(cs++ds).length:=by simp only[ae,aL,bl];omega
 have hsub:∀ p∈cs.take (i*sz)++ds++cs.drop (i*sz),p∈cs++ds:=fun p hp=>by
  simp only[aG]at hp ⊢;rcases hp with(h|h)|h
  ·exact .inl (eU h)
  ·exact .inr h
  ·exact .inl (dv h)
 have hta:dN ([0].contains ·) (cs++ds)=true:=by
  exact BN ht1 ht2
 have hna:aX (cs++ds)=true:=iz hn1 hn2;subst hrb;have hfl:(bV ((n+1)::ns) []).fl<=0:=aP _;have hpk:=hI.poke (k:=0) (e:=e) (off:=0) hx0 (by omega) hre hfl hRs hds' (by rw[hsz]) (fun j u hj=>by have:=hc j u hj;rwa [ar]at this) (by rw[hlen'];omega) hta (BM hta hsub) hna (tv hna hsub) (by rw[hre];exact hrow);obtain⟨hI2,hS2,hst2,_⟩:=hpk;rw[Jx]at hI2;have hwr:(us++vs++rest).toArray.toList.take 0++(us.take (i*sz)++vs++us.drop (i*sz))++(us++vs++rest).toArray.toList.drop (0+(us.take (i*sz)++vs++us.drop (i*sz)).length)=us.take (i*sz)++vs++us.drop (i*sz)++rest:=by
  rw[hlen',ar];simp
 rw[hwr]at hI2 hS2;refine⟨_,?_,hI2.drawn hw2,hS2.heap hw2 he2,rfl⟩;have:=hst2 _ _ (R.list (n+1) (cs++ds) (.own 0 e) r.b 0 cap1 (us++vs) hn hl hc hr h1 ⟨by assumption,fun y hy=>by rw[hx0]at hy;cases hy;exact⟨h3,fun _=>⟨rfl,rfl,hrc,hre,hrl⟩⟩⟩ hp hx);rw[gn]at this;simp only[ir,aF.isOwn,hrm,beq_self_eq_true,ay,if_true]at this;rwa [jm hlenc]at this
end
end Go.PM
namespace Go.PM
open Go Go.Proofs
def CD:Tryz.prog.underlying 29=some (.slice 72):=by kernel_rfl
def Kn:(Tryz.prog.info? 72).map (·.size)=some 3:=by kernel_rfl
def jE{P:Program}(w:World){ops:Array Oper}{rest:List Oper}{o:Oper}{a:Act}{Q:Exit->Act->World->Prop}(hgd:o.guard=none)(d s:Operand)(t t':TypeId)
  (ho:o.op= .call {callee:= .builtin .copy,args:= #[d,s],argTypes:= #[t,t']}) (v u:Value) (hd:a.eval d=v) (hs:a.eval s=u) {v':Value} {w':World}
  (hr:(Builtin.copy_ #[t,t'] o.type #[v,u]).run P w= .ok v' w') (h:wpList P ops Q rest (a.put o.dst v') w'):wpList P ops Q (o::rest) a w:=
 wpList_plain hgd fun _ hK=>by
  unfold Oper.wp execOp;simp only[ho,resolve,invoke,builtin,Sem.run_bind,Sem.run_pure,dA,List.map_toArray,bg,cJ,hd,hs,hr];exact hK _ _ h
def BF(f t:Nat):Prop:=∀ (base:Option Addr) (n c vc:Nat) (va:Addr) (w w':World) (r:Value) (hnc:n<=c) (hc:c<=9223372036854775807) (hn:base=none->n=0)
  (hrun:∀ ty,(Builtin.append_ #[t,t] ty #[.slice base n c,.slice (some va) 1 vc]).run Tryz.prog w= .ok r w'),
 Calls Tryz.prog f #[.slice base n c,.int .i64 n,.slice (some va) 1 vc] w fun e w1=>e= .returned r/\w1=w'
set_option maxRecDepth 100000 in
def Hu:BF 128 29:=by
 intro base n c vc va w w' r hnc hc hn hrun;go_enter Tryz.func128,Tryz.ntmps128;cases base with
 |none=>
  have h0:=hn rfl;subst h0
  go_wp2_with (at_builtin;refine Lib.wpList_append_run _ rfl _ _ _ _ rfl _ _ rfl rfl _ _ (hrun _) ?_)
  go_ret;exact⟨rfl,rfl⟩
 |some a=>
  obtain⟨ab,ao,asp⟩:=a
  go_wp2_with (at_builtin;refine Lib.wpList_append_run _ rfl _ _ _ _ rfl _ _ rfl rfl _ _ (hrun _) ?_)
  all_goals (go_ret;exact⟨rfl,rfl⟩)
def ph{P:Program}{ops:Array Oper}{o:Oper}{a:Act}{w:World}{K:Act->World->Prop}{Q:Exit->Act->World->Prop}{E:Prop}
  (hg:o.guard=none) (d x:Operand) (dT sT:TypeId) (hop:o.op=Op.call {callee:=Callee.builtin Builtin.copy,args:= #[d,x],argTypes:= #[dT,sT]})
  (v u:Value) (hd:a.eval d=v) (hx:a.eval x=u) {v':Value} {w':World} (hr:(Builtin.copy_ #[dT,sT] o.type #[v,u]).run P w= .ok v' w') (hK:K (a.put o.dst v') w'):
  if Region.wanted o (yielded ops a.tmps)=true then Oper.wp P o a w K Q else E:=by
 have hw:Region.wanted o (yielded ops a.tmps)=true:=by simp[Region.wanted,hg]
 rw[am hw];unfold Oper.wp;simp[execOp,hop,resolve,invoke,builtin,hd,hx,hr,Result.andThen];exact hK
def lP(b:Nat)(vs:List Value)(o:Nat)(w:World)(h:∀ j,j<vs.length->(w.cell? ⟨b,o+j,none⟩).isSome=true)(k:Nat)(hk:(w.cell? ⟨b,k,none⟩).isSome=true):((w.setCells b o vs).cell? ⟨b,k,none⟩).isSome=true:=by
 by_cases hin:o<=k/\k<o+vs.length
 ·have:=World.cell?_setCells_in b vs o w h (k-o) (by omega);rw[show o+(k-o)=k by omega]at this;rw[this];rfl
 ·rw[World.cell?_setCells_out b vs o w ⟨b,k,none⟩ (fun _ _=>by show k<o\/o+vs.length<=k;omega)];exact hk
def Cy(f h m:Nat):Prop:=∀ (b n c i vb voff vc:Nat) (us vs:List Value) (w:World) (hi:i<n) (hroom:n+1<=c) (hc63:c<=9223372036854775807) (hvb:vb≠b)
  (hul:us.length=n*m) (hvl:vs.length=m)
  (hus:∀ (j:Nat) v,us[j]? =some v->w.cell? ⟨b,j,none⟩=some v) (hsp:∀ j,j<n*m+m->(w.cell? ⟨b,j,none⟩).isSome=true) (hfz:∀ j,w.frozen? ⟨b,j,none⟩=false)
  (hvs:∀ (j:Nat) v,vs[j]? =some v->w.cell? ⟨vb,voff+j,none⟩=some v) (h1u:∀ v∈us,v.oneCell'=true) (h1v:∀ v∈vs,v.oneCell'=true)
  (hov:∀ o lb cb,(callFunc h #[.slice (some ⟨vb,voff,none⟩) 1 vc,.slice (some ⟨b,o,none⟩) lb cb]).run Tryz.prog w= .ok (.value (.bool false)) w),
 Calls Tryz.prog f #[.slice (some ⟨b,0,none⟩) n c,.int .i64 i,.slice (some ⟨vb,voff,none⟩) 1 vc] w fun e w'=>
   e= .returned (.slice (some ⟨b,0,none⟩) (n+1) c)/\w'=(w.drew.setCells b (i*m+m) (us.drop (i*m))).setCells b (i*m) vs
set_option maxRecDepth 100000 in
def Mf:Cy 128 174 3:=by
 intro b n c i vb voff vc us vs w hi hroom hc63 hvb hul hvl hus hsp hfz hvs h1u h1v hov;have hdl:(us.drop (i*3)).length=n*3-i*3:=by rw[bl,hul]
 have hz2:¬ ((i:Int)=(n:Int)):=by omega
 have hw1:IntKind.i64.wrap ((i:Int)+1)=(i:Int)+1:=by rw[jJ];omega
 have hb1:(0:Int)<=(i:Int)+1:=by omega
 have hin:i<=n:=by omega
 have htn:((i:Int)+1).toNat=i+1:=by omega
 have hb2:¬ (c=i+1):=by omega
 have hb3:(i:Int)<=(n:Int)+1:=by omega
 have hb4:¬ (c=i):=by omega
 have hm1:Nat.min (n+1-i) (n-i)=n-i:=Nat.min_eq_right (by omega);have hm2:Nat.min 1 (n+1-i)=1:=hY (by omega);have hmin:Nat.min (n+1-i) (n-i) *3=n*3-i*3:=by rw[hm1];omega
 have hcp1:∀ ty dc sc,(Builtin.copy_ #[29,29] ty #[.slice (some ⟨b,i*3+3,none⟩) (n-i) dc,.slice (some ⟨b,i*3,none⟩) (n+1-i) sc]).run Tryz.prog w.drew= .ok (goInt (Nat.min (n+1-i) (n-i))) (w.drew.setCells b (i*3+3) (us.drop (i*3))):=fun ty dc sc=>
  m4 w.drew 29 29 ty 72 b (i*3+3) (n-i) dc ⟨b,i*3,none⟩ (n+1-i) sc 3 (us.drop (i*3)) CD Kn (by rw[hdl,hmin])
   (fun j v hj=>by rw[Addr.add_lit];exact hus _ v (by rwa [ex]at hj))
   (fun j hj=>hsp _ (by omega)) (fun j hj=>hfz _) (fun v hv=>h1u v (dv hv))
 obtain⟨W1,hW1⟩:∃ W1,W1=w.drew.setCells b (i*3+3) (us.drop (i*3)):=⟨_,rfl⟩;have hsp1:∀ k,k<n*3+3->(W1.cell? ⟨b,k,none⟩).isSome=true:=fun k hk=>by
  rw[hW1];exact lP b (us.drop (i*3)) (i*3+3) w.drew (fun j hj=>hsp _ (by omega)) k (hsp k hk)
 have hcp2:∀ (W:World),(∀ x,W.cell? x=W1.cell? x)->(∀ x,W.frozen? x=W1.frozen? x)->∀ ty dc,(Builtin.copy_ #[29,29] ty #[.slice (some ⟨b,i*3,none⟩) (n+1-i) dc,.slice (some ⟨vb,voff,none⟩) 1 vc]).run Tryz.prog W= .ok (goInt (Nat.min 1 (n+1-i))) (W.setCells b (i*3) vs):=fun W hWc hWf ty dc=>
  m4 W 29 29 ty 72 b (i*3) (n+1-i) dc ⟨vb,voff,none⟩ 1 vc 3 vs CD Kn (by rw[hvl,hm2])
   (fun j v hj=>by
    rw[Addr.add_lit,hWc,hW1,World.cell?_setCells_out b _ _ _ _ (fun h _=>absurd h hvb)];exact hvs j v hj)
   (fun j hj=>by rw[hWc];exact hsp1 _ (by omega)) (fun j hj=>by rw[hWf,hW1,World.frozen?_setCells];exact hfz _) h1v
 rw[<-hW1]at hcp1;have h13:(i+1) *3=i*3+3:=by omega
 clear hmin hm1 hm2 hul hvl hus hvs h1u h1v hsp hdl;go_enter Tryz.func128,Tryz.ntmps128
 go_wp2_with (simp only[hov])
 go_region_law (refine ph rfl _ _ 29 29 rfl _ _ (by simp[Act.eval,Act.put]) (by simp[Act.eval,Act.put]) (hcp1 _ _ _) ?_)
 go_wp2_with (at_builtin;refine jE _ rfl _ _ 29 29 rfl _ _ rfl rfl (hcp2 _ (fun _=>rfl) (fun _=>rfl) _ _) ?_)
 go_ret
 first|exact⟨rfl,rfl⟩|exact⟨rfl,by rw[hW1]⟩
def Cz(f el m by_:Nat):Prop:=∀ (b n c i vb voff vc:Nat) (us vs zc:List Value) (w:World) (hi:i<n) (hnc:n<=c) (hroom:c<n+1) (hbig:n<=10000000) (hvb:vb<w.heap.size)
  (hul:us.length=n*m) (hvl:vs.length=m)
  (hus:∀ (j:Nat) v,us[j]? =some v->w.cell? ⟨b,j,none⟩=some v)
  (hvs:∀ (j:Nat) v,vs[j]? =some v->w.cell? ⟨vb,voff+j,none⟩=some v) (h1u:∀ v∈us,v.oneCell'=true) (h1v:∀ v∈vs,v.oneCell'=true)
  {i0:TypeInfo} {z:Value} (hi0:Tryz.prog.info? el=some i0) (hz0:i0.zero=some z) (hzs:i0.size=m) (hzb:i0.bytes=by_) (hzc:z.cells.size=m),
 Calls Tryz.prog f #[.slice (some ⟨b,0,none⟩) n c,.int .i64 i,.slice (some ⟨vb,voff,none⟩) 1 vc] w fun e w'=>
   e= .returned (.slice (some ⟨w.heap.size,0,none⟩) (n+1) (grownCap w (n+1) c el))/\
   w'=(((w.alloc (.cells ((us.take (i*m)).toArray++Builtin.zeroCells z.cells (n+1-i)++Builtin.zeroCells z.cells (grownCap w (n+1) c el- (n+1))) el)).drew.setCells w.heap.size (i*m) vs).drew).setCells w.heap.size (i*m+m) (us.drop (i*m))
set_option maxRecDepth 100000 in
def Mg:Cz 128 72 3 56:=by
 intro b n c i vb voff vc us vs zc w hi hnc hroom hbig hvb hul hvl hus hvs h1u h1v i0 z hi0 hz0 hzs hzb hzc;have hz2:¬ ((i:Int)=(n:Int)):=by omega
 have hz3:(c:Int)<(n:Int)+1:=by omega
 have hbw:b<w.heap.size:=block_lt_of_cell (hus 0 _ (aK (by omega)));have hkk:(n:Int)+1- (i:Int)=((n+1-i:Nat):Int):=by omega
 have hik:i+(n+1-i)=n+1:=by omega
 have hold:(Builtin.firstCells i0.size i (.slice (some ⟨b,0,none⟩) i c)).run Tryz.prog w.drew= .ok (us.take (i*3)).toArray w.drew:=by
  rw[hzs];exact run_firstCells_some w.drew 3 i ⟨b,0,none⟩ i c (us.take (i*3)) (by rw[aL];omega) (fun j v hj=>by
   rw[Addr.add_lit];rw[pd]at hj;split at hj
   ·rw[ar];exact hus j v hj
   ·cases hj)
 have hrz:∀ ty,(Builtin.append_ #[29,3] ty #[.slice (some ⟨b,0,none⟩) i c,.int .i64 ((n:Int)+1- (i:Int))]).run Tryz.prog w=
   .ok (.slice (some ⟨w.heap.size,0,none⟩) (n+1) (grownCap w (n+1) c 72)) (w.drew.alloc (.cells ((us.take (i*3)).toArray++Builtin.zeroCells z.cells (n+1-i)++Builtin.zeroCells z.cells (grownCap w (n+1) c 72- (n+1))) 72)):=fun ty=>by
  have h:=Lib.run_append_grow_zeros w 29 3 ty 72 i0 _ .i64 .i64 CD (by kernel_rfl) hi0 hz0 (some ⟨b,0,none⟩) i c (us.take (i*3)) hold (n+1-i) (by omega) (by omega) (by omega) (by omega) (by rw[hzb];omega) (by rw[hzb,hik];exact growslice_fits hroom (by omega));rw[hik]at h;rw[hkk];exact h
 obtain⟨G,hG⟩:∃ G,G=grownCap w (n+1) c 72:=⟨_,rfl⟩;obtain⟨ROW,hROW⟩:∃ ROW:Array Value,ROW=(us.take (i*3)).toArray++Builtin.zeroCells z.cells (n+1-i)++Builtin.zeroCells z.cells (G- (n+1)):=⟨_,rfl⟩;rw[<-hG]at hrz ⊢;rw[<-hROW]at hrz ⊢;have hRl:n*3+3<=ROW.size:=by
  rw[hROW];simp only[Array.size_append,size_zeroCells,hzc,ky,aL,hul];omega
 obtain⟨W1,hW1⟩:∃ W1,W1=w.drew.alloc (.cells ROW 72):=⟨_,rfl⟩;rw[<-hW1]at hrz;have hN:∀ j,j<n*3+3->(W1.cell? ⟨w.heap.size,j,none⟩).isSome=true:=fun j hj=>by
  rw[hW1,World.cell?_alloc_at (w:=w.drew) ROW _ w.heap.size j rfl,jg (by omega)];rfl
 have hNf:∀ j,W1.frozen? ⟨w.heap.size,j,none⟩=false:=fun j=>by rw[hW1];exact World.frozen?_alloc_at (w:=w.drew) ROW _ w.heap.size j rfl
 have hOb:∀ j v,w.cell? ⟨b,j,none⟩=some v->W1.cell? ⟨b,j,none⟩=some v:=fun j v h=>by rw[hW1,World.cell?_alloc_past (w:=w.drew) _ b j hbw];exact h
 have hOv:∀ j v,w.cell? ⟨vb,j,none⟩=some v->W1.cell? ⟨vb,j,none⟩=some v:=fun j v h=>by rw[hW1,World.cell?_alloc_past (w:=w.drew) _ vb j hvb];exact h
 have hm2:Nat.min 1 (n+1-i)=1:=hY (by omega);have hm1:Nat.min (n-i) (n-i)=n-i:=Nat.min_self _;have hcpA:∀ (W:World),(∀ x,W.cell? x=W1.cell? x)->(∀ x,W.frozen? x=W1.frozen? x)->∀ ty dc,(Builtin.copy_ #[29,29] ty #[.slice (some ⟨w.heap.size,i*3,none⟩) (n+1-i) dc,.slice (some ⟨vb,voff,none⟩) 1 vc]).run Tryz.prog W= .ok (goInt (Nat.min 1 (n+1-i))) (W.setCells w.heap.size (i*3) vs):=fun W hWc hWf ty dc=>
  m4 W 29 29 ty 72 w.heap.size (i*3) (n+1-i) dc ⟨vb,voff,none⟩ 1 vc 3 vs CD Kn (by rw[hvl,hm2])
   (fun j v hj=>by rw[Addr.add_lit,hWc];exact hOv _ v (hvs j v hj))
   (fun j hj=>by rw[hWc];exact hN _ (by omega)) (fun j hj=>by rw[hWf];exact hNf _) h1v
 have hGn:n+1<=G:=by rw[hG];exact grownCap_ge w _ _ _
 have hG63:G<=9223372036854775807:=by
  have:=grownCap_le_maxLen w (n+1) c 72 (by unfold maxLen;omega);rw[<-hG]at this;unfold maxLen at this;omega
 have hGi:¬ (G=i):=by omega
 have hGim:¬ (G=i+1):=by omega
 have hci:¬ (c=i):=by omega
 have hbN:b≠w.heap.size:=by omega
 have hdl:(us.drop (i*3)).length=n*3-i*3:=by rw[bl,hul]
 have hcpB:∀ (W:World),(∀ x,W.cell? x=(W1.setCells w.heap.size (i*3) vs).cell? x)->(∀ x,W.frozen? x=(W1.setCells w.heap.size (i*3) vs).frozen? x)->∀ ty dc sc,(Builtin.copy_ #[29,29] ty #[.slice (some ⟨w.heap.size,i*3+3,none⟩) (n-i) dc,.slice (some ⟨b,i*3,none⟩) (n-i) sc]).run Tryz.prog W= .ok (goInt (Nat.min (n-i) (n-i))) (W.setCells w.heap.size (i*3+3) (us.drop (i*3))):=fun W hWc hWf ty dc sc=>
  m4 W 29 29 ty 72 w.heap.size (i*3+3) (n-i) dc ⟨b,i*3,none⟩ (n-i) sc 3 (us.drop (i*3)) CD Kn (by rw[hdl,hm1];omega)
   (fun j v hj=>by
    rw[Addr.add_lit,hWc,World.cell?_setCells_out _ _ _ _ _ (fun h _=>absurd h hbN)];exact hOb _ v (hus _ v (by rwa [ex]at hj)))
   (fun j hj=>by rw[hWc];exact lP w.heap.size vs (i*3) W1 (fun t ht=>hN _ (by omega)) _ (hN _ (by omega)))
   (fun j hj=>by rw[hWf,World.frozen?_setCells];exact hNf _) (fun v hv=>h1u v (dv hv))
 subst hW1;have hE1:∀ x,((w.alloc (.cells ROW 72)).drew).cell? x=(w.drew.alloc (.cells ROW 72)).cell? x:=fun x=>rfl;have hE2:∀ x,((w.alloc (.cells ROW 72)).drew).frozen? x=(w.drew.alloc (.cells ROW 72)).frozen? x:=fun x=>rfl;have hF1:∀ x,(((w.alloc (.cells ROW 72)).drew.setCells w.heap.size (i*3) vs).drew).cell? x=((w.drew.alloc (.cells ROW 72)).setCells w.heap.size (i*3) vs).cell? x:=fun x=>rfl;have hF2:∀ x,(((w.alloc (.cells ROW 72)).drew.setCells w.heap.size (i*3) vs).drew).frozen? x=((w.drew.alloc (.cells ROW 72)).setCells w.heap.size (i*3) vs).frozen? x:=fun x=>rfl;have hw1:IntKind.i64.wrap ((i:Int)+1)=(i:Int)+1:=by rw[jJ];omega
 have hb1:(0:Int)<=(i:Int)+1:=by omega
 have hin:i<=n:=by omega
 have htn:((i:Int)+1).toNat=i+1:=by omega
 have hb3:(i:Int)<=(n:Int):=by omega
 have h13:(i+1) *3=i*3+3:=by omega
 clear hkk hik hold hROW hG hRl hm1 hm2 hul hvl hus hvs h1u h1v hN hNf hOb hOv hdl hzs hzb hzc hz0 hi0;go_enter Tryz.func128,Tryz.ntmps128
 go_wp2_with (first
  |(at_builtin;refine Lib.wpList_append_run _ rfl _ _ _ _ rfl _ _ rfl rfl _ _ (hrz _) ?_)
  |(at_builtin;refine jE _ rfl _ _ 29 29 rfl _ _ rfl rfl (hcpA _ hE1 hE2 _ _) ?_)
  |(at_builtin;refine jE _ rfl _ _ 29 29 rfl _ _ rfl rfl (hcpB _ (fun _=>rfl) (fun _=>rfl) _ _ _) ?_))
 go_region_law (refine ph rfl _ _ 29 29 rfl (.slice (some ⟨w.heap.size,i*3+3,none⟩) (n-i) (G- (i+1))) (.slice (some ⟨b,i*3,none⟩) (n-i) (c-i)) (by simp[Act.eval,Act.put]) (by simp[Act.eval,Act.put]) (hcpB _ hF1 hF2 3 (G- (i+1)) (c-i)) ?_)
 go_wp2;go_ret;exact⟨rfl,rfl⟩
end Go.PM
namespace Go.Proofs
open Go.Shelf Go.PM
def Tryz.laysM173_ren:Go.Shelf.Ren:=⟨fun|173=>135|246=>177|283=>194|284=>195|285=>196|286=>197|129=>146|317=>205|318=>206|319=>207|320=>208|337=>229|338=>230|n=>n,fun|2=>2|3=>3|9=>9|4=>4|171=>212|0=>0|53=>170|37=>134|5=>5|173=>214|212=>232|51=>168|20=>20|213=>233|46=>138|232=>255|233=>256|n=>n,fun|17=>0|18=>1|19=>2|n=>n⟩
def Tryz.laysM173:Go.Proofs.LaysM.n173 Tryz.prog Tryz.laysM173_ren:={
 mixed:=by kernel_rfl
 f129:=Tryz.func146.trans (bX some (by kernel_rfl))
 f173:=Tryz.func135.trans (bX some (by kernel_rfl))
 f246:=Tryz.func177.trans (bX some (by kernel_rfl))
 f283:=Tryz.func194.trans (bX some (by kernel_rfl))
 f284:=Tryz.func195.trans (bX some (by kernel_rfl))
 f285:=Tryz.func196.trans (bX some (by kernel_rfl))
 f286:=Tryz.func197.trans (bX some (by kernel_rfl))
 f317:=Tryz.func205.trans (bX some (by kernel_rfl))
 f318:=Tryz.func206.trans (bX some (by kernel_rfl))
 f319:=Tryz.func207.trans (bX some (by kernel_rfl))
 f320:=Tryz.func208.trans (bX some (by kernel_rfl))
 f337:=Tryz.func229.trans (bX some (by kernel_rfl))
 f338:=Tryz.func230.trans (bX some (by kernel_rfl))
 t0:=Tryz.underlying0
 a0:=Tryz.isAgg0
 z0:=Tryz.sizeOf0
 v0:=Tryz.zeroValue0
 t2:=Tryz.underlying2
 a2:=Tryz.isAgg2
 z2:=Tryz.sizeOf2
 v2:=Tryz.zeroValue2
 t3:=Tryz.underlying3
 a3:=Tryz.isAgg3
 z3:=Tryz.sizeOf3
 v3:=Tryz.zeroValue3
 t4:=Tryz.underlying4
 a4:=Tryz.isAgg4
 z4:=Tryz.sizeOf4
 v4:=Tryz.zeroValue4
 t5:=Tryz.underlying5
 a5:=Tryz.isAgg5
 z5:=Tryz.sizeOf5
 v5:=Tryz.zeroValue5
 t9:=Tryz.underlying9
 a9:=Tryz.isAgg9
 z9:=Tryz.sizeOf9
 v9:=Tryz.zeroValue9
 t20:=Tryz.underlying20
 a20:=Tryz.isAgg20
 z20:=Tryz.sizeOf20
 v20:=Tryz.zeroValue20
 t37:=Tryz.underlying134
 a37:=Tryz.isAgg134
 z37:=Tryz.sizeOf134
 v37:=Tryz.zeroValue134
 t46:=Tryz.underlying138
 a46:=Tryz.isAgg138
 z46:=Tryz.sizeOf138
 v46:=Tryz.zeroValue138
 t51:=Tryz.underlying168
 a51:=Tryz.isAgg168
 z51:=Tryz.sizeOf168
 v51:=Tryz.zeroValue168
 t53:=Tryz.underlying170
 a53:=Tryz.isAgg170
 z53:=Tryz.sizeOf170
 v53:=Tryz.zeroValue170
 t171:=Tryz.underlying212
 a171:=Tryz.isAgg212
 z171:=Tryz.sizeOf212
 v171:=Tryz.zeroValue212
 t173:=Tryz.underlying214
 a173:=Tryz.isAgg214
 z173:=Tryz.sizeOf214
 v173:=Tryz.zeroValue214
 t212:=Tryz.underlying232
 a212:=Tryz.isAgg232
 z212:=Tryz.sizeOf232
 v212:=Tryz.zeroValue232
 t213:=Tryz.underlying233
 a213:=Tryz.isAgg233
 z213:=Tryz.sizeOf233
 t232:=Tryz.underlying255
 a232:=Tryz.isAgg255
 z232:=Tryz.sizeOf255
 v232:=Tryz.zeroValue255
 t233:=Tryz.underlying256
 a233:=Tryz.isAgg256
 z233:=Tryz.sizeOf256
 v233:=Tryz.zeroValue256
 g17:=by kernel_rfl
 g18:=by kernel_rfl
 g19:=by kernel_rfl
 i0:=by kernel_rfl
 i2:=by kernel_rfl
 i3:=by kernel_rfl
 i4:=by kernel_rfl
 i5:=by kernel_rfl
 i9:=by kernel_rfl
 i20:=by kernel_rfl
 i37:=by kernel_rfl
 i46:=by kernel_rfl
 i51:=by kernel_rfl
 i53:=by kernel_rfl
 i171:=by kernel_rfl
 i173:=by kernel_rfl
 i212:=by kernel_rfl
 i232:=by kernel_rfl
 i233:=by kernel_rfl
 m17:=by kernel_rfl
 m18:=by kernel_rfl
 m19:=by kernel_rfl}
open Go.RowKit Go.Sort Go.Lib in
def Tryz.strconv_FormatInt_10(n:Int)(h0: -9223372036854775808<=n)(h1:n<=9223372036854775807)(w:World)(htab:Lib.TabIs Tryz.prog w "internal/strconv.uint64pow10" .u64 Lib.pow10Tab):
  Calls Tryz.prog 135 #[.int .i64 n,.int .i64 10] w fun e w'=>e= .returned (.string ⟨(Lib.itoa n).toArray⟩)/\∃ k os,w'=grow (w.drewN k) os:=Any.strconv_FormatInt_10 Tryz.laysM173 n h0 h1 w htab
def Tryz.laysC174_ren:Go.Shelf.Ren:=⟨fun|174=>239|247=>246|245=>247|287=>249|279=>250|280=>251|281=>252|282=>253|321=>254|322=>255|316=>256|171=>258|205=>257|243=>259|246=>177|283=>194|284=>195|285=>196|286=>197|129=>146|317=>205|318=>206|319=>207|320=>208|337=>229|338=>230|n=>n,fun|9=>9|3=>3|2=>2|75=>251|85=>252|4=>4|167=>258|5=>5|53=>170|175=>259|46=>138|168=>261|37=>134|0=>0|210=>267|21=>21|127=>269|145=>272|143=>270|171=>212|173=>214|212=>232|51=>168|20=>20|213=>233|232=>255|233=>256|80=>236|n=>n,fun|15=>3|16=>4|17=>0|18=>1|19=>2|n=>n⟩
def Tryz.laysC174:Go.Proofs.LaysC.n174 Tryz.prog Tryz.laysC174_ren:={
 mixed:=by kernel_rfl
 f129:=Tryz.func146.trans (bX some (by kernel_rfl))
 f171:=Tryz.func258.trans (bX some (by kernel_rfl))
 f174:=Tryz.func239.trans (bX some (by kernel_rfl))
 f205:=Tryz.func257.trans (bX some (by kernel_rfl))
 f243:=Tryz.func259.trans (bX some (by kernel_rfl))
 f245:=Tryz.func247.trans (bX some (by kernel_rfl))
 f246:=Tryz.func177.trans (bX some (by kernel_rfl))
 f247:=Tryz.func246.trans (bX some (by kernel_rfl))
 f279:=Tryz.func250.trans (bX some (by kernel_rfl))
 f280:=Tryz.func251.trans (bX some (by kernel_rfl))
 f281:=Tryz.func252.trans (bX some (by kernel_rfl))
 f282:=Tryz.func253.trans (bX some (by kernel_rfl))
 f283:=Tryz.func194.trans (bX some (by kernel_rfl))
 f284:=Tryz.func195.trans (bX some (by kernel_rfl))
 f285:=Tryz.func196.trans (bX some (by kernel_rfl))
 f286:=Tryz.func197.trans (bX some (by kernel_rfl))
 f287:=Tryz.func249.trans (bX some (by kernel_rfl))
 f316:=Tryz.func256.trans (bX some (by kernel_rfl))
 f317:=Tryz.func205.trans (bX some (by kernel_rfl))
 f318:=Tryz.func206.trans (bX some (by kernel_rfl))
 f319:=Tryz.func207.trans (bX some (by kernel_rfl))
 f320:=Tryz.func208.trans (bX some (by kernel_rfl))
 f321:=Tryz.func254.trans (bX some (by kernel_rfl))
 f322:=Tryz.func255.trans (bX some (by kernel_rfl))
 f337:=Tryz.func229.trans (bX some (by kernel_rfl))
 f338:=Tryz.func230.trans (bX some (by kernel_rfl))
 t0:=Tryz.underlying0
 a0:=Tryz.isAgg0
 z0:=Tryz.sizeOf0
 v0:=Tryz.zeroValue0
 t2:=Tryz.underlying2
 a2:=Tryz.isAgg2
 z2:=Tryz.sizeOf2
 v2:=Tryz.zeroValue2
 t3:=Tryz.underlying3
 a3:=Tryz.isAgg3
 z3:=Tryz.sizeOf3
 v3:=Tryz.zeroValue3
 t4:=Tryz.underlying4
 a4:=Tryz.isAgg4
 z4:=Tryz.sizeOf4
 v4:=Tryz.zeroValue4
 t5:=Tryz.underlying5
 a5:=Tryz.isAgg5
 z5:=Tryz.sizeOf5
 v5:=Tryz.zeroValue5
 t9:=Tryz.underlying9
 a9:=Tryz.isAgg9
 z9:=Tryz.sizeOf9
 v9:=Tryz.zeroValue9
 t20:=Tryz.underlying20
 a20:=Tryz.isAgg20
 z20:=Tryz.sizeOf20
 v20:=Tryz.zeroValue20
 t21:=Tryz.underlying21
 a21:=Tryz.isAgg21
 z21:=Tryz.sizeOf21
 v21:=Tryz.zeroValue21
 t37:=Tryz.underlying134
 a37:=Tryz.isAgg134
 z37:=Tryz.sizeOf134
 v37:=Tryz.zeroValue134
 t46:=Tryz.underlying138
 a46:=Tryz.isAgg138
 z46:=Tryz.sizeOf138
 v46:=Tryz.zeroValue138
 t51:=Tryz.underlying168
 a51:=Tryz.isAgg168
 z51:=Tryz.sizeOf168
 v51:=Tryz.zeroValue168
 t53:=Tryz.underlying170
 a53:=Tryz.isAgg170
 z53:=Tryz.sizeOf170
 v53:=Tryz.zeroValue170
 t75:=Tryz.underlying251
 a75:=Tryz.isAgg251
 z75:=Tryz.sizeOf251
 v75:=Tryz.zeroValue251
 t85:=Tryz.underlying252
 a85:=Tryz.isAgg252
 z85:=Tryz.sizeOf252
 v85:=Tryz.zeroValue252
 t127:=Tryz.underlying269
 a127:=Tryz.isAgg269
 z127:=Tryz.sizeOf269
 v127:=Tryz.zeroValue269
 t143:=Tryz.underlying270
 a143:=Tryz.isAgg270
 z143:=Tryz.sizeOf270
 v143:=Tryz.zeroValue270
 t145:=Tryz.underlying272
 a145:=Tryz.isAgg272
 z145:=Tryz.sizeOf272
 v145:=Tryz.zeroValue272
 t167:=Tryz.underlying258
 a167:=Tryz.isAgg258
 z167:=Tryz.sizeOf258
 v167:=Tryz.zeroValue258
 t168:=Tryz.underlying261
 a168:=Tryz.isAgg261
 z168:=Tryz.sizeOf261
 v168:=Tryz.zeroValue261
 t171:=Tryz.underlying212
 a171:=Tryz.isAgg212
 z171:=Tryz.sizeOf212
 v171:=Tryz.zeroValue212
 t173:=Tryz.underlying214
 a173:=Tryz.isAgg214
 z173:=Tryz.sizeOf214
 v173:=Tryz.zeroValue214
 t175:=Tryz.underlying259
 a175:=Tryz.isAgg259
 z175:=Tryz.sizeOf259
 v175:=Tryz.zeroValue259
 t210:=Tryz.underlying267
 a210:=Tryz.isAgg267
 z210:=Tryz.sizeOf267
 v210:=Tryz.zeroValue267
 t212:=Tryz.underlying232
 a212:=Tryz.isAgg232
 z212:=Tryz.sizeOf232
 v212:=Tryz.zeroValue232
 t213:=Tryz.underlying233
 a213:=Tryz.isAgg233
 z213:=Tryz.sizeOf233
 t232:=Tryz.underlying255
 a232:=Tryz.isAgg255
 z232:=Tryz.sizeOf255
 v232:=Tryz.zeroValue255
 t233:=Tryz.underlying256
 a233:=Tryz.isAgg256
 z233:=Tryz.sizeOf256
 v233:=Tryz.zeroValue256
 g15:=by kernel_rfl
 g16:=by kernel_rfl
 g17:=by kernel_rfl
 g18:=by kernel_rfl
 g19:=by kernel_rfl
 t80:=Tryz.underlying236
 a80:=Tryz.isAgg236
 z80:=Tryz.sizeOf236
 v80:=Tryz.zeroValue236
 i0:=by kernel_rfl
 i2:=by kernel_rfl
 i3:=by kernel_rfl
 i4:=by kernel_rfl
 i5:=by kernel_rfl
 i9:=by kernel_rfl
 i20:=by kernel_rfl
 i21:=by kernel_rfl
 i37:=by kernel_rfl
 i46:=by kernel_rfl
 i51:=by kernel_rfl
 i53:=by kernel_rfl
 i75:=by kernel_rfl
 i80:=by kernel_rfl
 i85:=by kernel_rfl
 i127:=by kernel_rfl
 i143:=by kernel_rfl
 i145:=by kernel_rfl
 i167:=by kernel_rfl
 i168:=by kernel_rfl
 i171:=by kernel_rfl
 i173:=by kernel_rfl
 i175:=by kernel_rfl
 i210:=by kernel_rfl
 i212:=by kernel_rfl
 i232:=by kernel_rfl
 i233:=by kernel_rfl
 m15:=by kernel_rfl
 m16:=by kernel_rfl
 m17:=by kernel_rfl
 m18:=by kernel_rfl
 m19:=by kernel_rfl
 c0:=by kernel_rfl
 c2:=by kernel_rfl
 c3:=by kernel_rfl
 c4:=by kernel_rfl
 c5:=by kernel_rfl
 c9:=by kernel_rfl
 c20:=by kernel_rfl
 c21:=by kernel_rfl
 c37:=by kernel_rfl
 c46:=by kernel_rfl
 c51:=by kernel_rfl
 c53:=by kernel_rfl
 c75:=by kernel_rfl
 c80:=by kernel_rfl
 c85:=by kernel_rfl
 c127:=by kernel_rfl
 c143:=by kernel_rfl
 c145:=by kernel_rfl
 c167:=by kernel_rfl
 c168:=by kernel_rfl
 c171:=by kernel_rfl
 c173:=by kernel_rfl
 c175:=by kernel_rfl
 c210:=by kernel_rfl
 c212:=by kernel_rfl
 c213:=by kernel_rfl
 c232:=by kernel_rfl
 c233:=by kernel_rfl}
open Go.RowKit in
def Tryz.strconv_ParseInt_10_at64_ok(s:ByteArray)(hmax:s.size<=9223372036854775806)(v:Int)(h:Lib.parseIntB 64 s.data.toList= .ok v)(w:World):
  Calls Tryz.prog 239 #[.string s,.int .i64 10,.int .i64 64] w fun e w'=>e= .returned (.tuple #[.int .i64 v,.nilIface])/\(w'=w\/∃ t,w'=Lib.bytesWorld w 5 t):=Any.strconv_ParseInt_10_at64_ok Tryz.laysC174 s hmax v h w
open Go.RowKit in
def Tryz.parse_no(s:ByteArray)(hlim:s.size<=281474976710656)(h1:∀ n,Lib.parseIntB 64 s.data.toList= .ok n->False)(h2:Lib.parseIntB 64 s.data.toList= .range->False)(tp:TypeId)(p:Value)(w:World)(hvar:w.var? Tryz.prog "strconv.ErrSyntax" =some #[.iface tp p]):
  Calls Tryz.prog 239 #[.string s,.int .i64 10,.int .i64 64] w fun e w'=>∃ N,e= .returned (.tuple #[.int .i64 (0),.iface 261 (.pointer (some ⟨N,0,none⟩))])/\w.heap.size<=N/\w'.heap[N]? =some (.cells #[.string ⟨#[80,97,114,115,101,73,110,116]⟩,.string s,.iface tp p] 267 (0,0))/\Below w.heap.size w w':=by
 cases hh:Lib.parseIntB 64 s.data.toList with
 |ok n=>exact(h1 n hh).elim
 |range=>exact(h2 hh).elim
 |_=>exact Any.strconv_ParseInt_10_at64_syntax_var Tryz.laysC174 s hlim hh tp p w hvar
open Go.RowKit in
def Tryz.strconv_ParseInt_10_at64_range_var(s:ByteArray)(hlim:s.size<=281474976710656)(h:Lib.parseIntB 64 s.data.toList= .range)(tp:TypeId)(p:Value)(w:World)(hvar:w.var? Tryz.prog "strconv.ErrRange" =some #[.iface tp p]):
  Calls Tryz.prog 239 #[.string s,.int .i64 10,.int .i64 64] w fun e w'=>∃ N,e= .returned (.tuple #[.int .i64 (Lib.intSat 64 s.data.toList),.iface 261 (.pointer (some ⟨N,0,none⟩))])/\w.heap.size<=N/\w'.heap[N]? =some (.cells #[.string ⟨#[80,97,114,115,101,73,110,116]⟩,.string s,.iface tp p] 267 (0,0))/\Below w.heap.size w w':=Any.strconv_ParseInt_10_at64_range_var Tryz.laysC174 s hlim h tp p w hvar
end Go.Proofs
namespace Go.PM
open Go Go.Proofs Go.Lib Go.Sort
def ke(eS eR:Value):Nat->Nat->Option Value:=fun b o=>
 if b=0 then(pow10Tab.map (Value.int .u64))[o]? else if b=3 then(if o=0 then some eS else none)else if b=4 then(if o=0 then some eR else none)else none
def IS:Tryz.prog.globalNamed "internal/strconv.uint64pow10" =some 0:=by kernel_rfl
def IQ:Tryz.prog.globalNamed "strconv.ErrSyntax" =some 3:=by kernel_rfl
def IR:Tryz.prog.globalNamed "strconv.ErrRange" =some 4:=by kernel_rfl
section
variable {eS eR:Value} {G:Gh} {st:St} {w:World}
def bM.known{P:Program}{B:Nat->Nat->Option Value}(hI:bM P B G st w){b:Nat}(l:List Value)(h0:l≠ [])(hl:∀ o,B b o=l[o]?):∃ e f,w.heap[b]? =some (.cells l.toArray e f):=by
 have hpos:0<l.length:=List.length_pos_iff.2 h0;have hget:∀ o (ho:o<l.length),B b o=some l[o]:=fun o ho=>by rw[hl,aK ho]
 obtain⟨h1,_,x,hx,hall⟩:=hI.base b 0 _ (hget 0 hpos);obtain⟨cur,hcur,hsz⟩:=hI.sh b x.1 x.2 hx;refine⟨x.1,(0,0),?_⟩;rw[hcur];refine bX (fun q=>some (Obj.cells q x.1 (0,0))) ?_;apply Array.ext';apply iH;intro o;by_cases ho:o<l.length
 ·have hc:=hI.com _ _ _ (hI.base b o _ (hget o ho)).1;simp only[World.cell?,hcur,mi,cz,if_false]at hc;rw[ki,hc,aK ho]
 ·have hle:cur.size<=l.length:=by
   rcases Nat.lt_or_ge l.length cur.size with h|h
   ·exact absurd (by rw[hl];exact cE (aP _)) (hall l.length (by omega))
   ·exact h
  rw[ki,Array.getElem?_eq_none (by omega)];exact(cE (by simpa using ho)).symm
def JR{P:Program}(hI:bM P (ke eS eR) G st w):∃ e f,w.heap[0]? =some (.cells (pow10Tab.map (Value.int .u64)).toArray e f):=
 hI.known _ (by simp[pow10Tab]) (fun o=>by unfold ke;rw[am rfl])
def Ju{P:Program}(hI:bM P (ke eS eR) G st w):∃ e f,w.heap[3]? =some (.cells #[eS] e f):=by
 refine hI.known [eS] (by simp) (fun o=>?_);unfold ke;rw[ai (by decide),am rfl];cases o with
 |zero=>rfl
 |succ o=>simp
def JO{P:Program}(hI:bM P (ke eS eR) G st w):∃ e f,w.heap[4]? =some (.cells #[eR] e f):=by
 refine hI.known [eR] (by simp) (fun o=>?_);unfold ke;rw[ai (by decide),ai (by decide),am rfl];cases o with
 |zero=>rfl
 |succ o=>simp
def Js(hI:bM Tryz.prog (ke eS eR) G st w):TabIs Tryz.prog w "internal/strconv.uint64pow10" .u64 pow10Tab:=by
 obtain⟨e,f,h⟩:=JR hI;unfold TabIs World.var?;rw[IS];simp only[em,h]
def Re(hI:bM Tryz.prog (ke eS eR) G st w):w.var? Tryz.prog "strconv.ErrSyntax" =some #[eS]:=by
 obtain⟨e,f,h⟩:=Ju hI;unfold World.var?;rw[IQ];simp only[em,h]
def Rh(hI:bM Tryz.prog (ke eS eR) G st w):w.var? Tryz.prog "strconv.ErrRange" =some #[eR]:=by
 obtain⟨e,f,h⟩:=JO hI;unfold World.var?;rw[IR];simp only[em,h]
end
def Am(w:World)(e:TypeId)(s:ByteArray):w.heap.size<=(bytesWorld w e s).heap.size/\∀ b,b<w.heap.size->(bytesWorld w e s).heap[b]? =w.heap[b]? :=by
 unfold bytesWorld World.freeze;rw[ai (by decide)];generalize bytesCells w e s=A;have h1:(w.drew.alloc (.cells A e)).heap=w.heap.push (.cells A e):=rfl;simp only[h1];refine⟨by simp,fun b hb=>?_⟩;rw[kj,ai (by omega),Array.getElem?_push,ai (by omega)]
def Cr(w:World)(e:TypeId)(s:ByteArray):(bytesWorld w e s).os=w.os/\(bytesWorld w e s).output=w.output:=by
 unfold bytesWorld World.freeze;rw[ai (by decide)];exact⟨rfl,rfl⟩
def IN(w:World)(k:Nat)(os:Array Obj):w.heap.size<=(grow (w.drewN k) os).heap.size/\∀ b,b<w.heap.size->(grow (w.drewN k) os).heap[b]? =w.heap[b]? :=by
 have h1:(grow (w.drewN k) os).heap=w.heap++os:=rfl;simp only[h1];exact⟨by simp,fun b hb=>by rw[nY hb]⟩
def F6{G:Gh}{p q:PV}{u v:Value}(h1:R G p u)(h2:R G q v):R G (.tup [p,q]) (.tuple #[u,v]):=
 .tup [p,q] [u,v] rfl fun j a b ha hb=>by
  match j with
  |0=>simp at ha hb;subst ha hb;exact h1
  |1=>simp at ha hb;subst ha hb;exact h2
  |j+2=>simp at ha
def xI(l:List UInt8):PV:=match parseIntB 64 l with
 | .ok n=> .tup [I n,.nili]
 | .range=> .tup [I (intSat 64 l),.err]
 |_=> .tup [I 0,.err]
def G9:List PV->List Nat->List (List PV)->Option (PV×List Nat×List (List PV))
 | [.str s,.int .i64 a,.int .i64 b],[],[]=>if a=10/\b=64/\s.size<=2000000 then some (xI s.data.toList,[],[])else none
 |_,_,_=>none
def Ng:List PV->List Nat->List (List PV)->Option (PV×List Nat×List (List PV))
 | [.int .i64 n,.int .i64 b],[],[]=>if b=10/\ -9223372036854775808<=n/\n<=9223372036854775807 then some (S (itoa n),[],[])else none
 |_,_,_=>none
def CS:aJ:=fun f xs ns cs=>if f=239 then G9 xs ns cs else if f=135 then Ng xs ns cs else none
def ID{vs:List Value}(h:3=vs.length):∃ a b c,vs=[a,b,c]:=by
 match vs,h with
 | [a,b,c],_=>exact⟨a,b,c,rfl⟩
def Rk{vs:List Value}(h:2=vs.length):∃ a b,vs=[a,b]:=by
 match vs,h with
 | [a,b],_=>exact⟨a,b,rfl⟩
def Kt:mg Tryz.prog 239:=⟨Tryz.f239,Tryz.func239,of_decide_eq_true (by kernel_rfl),by kernel_rfl⟩
def Kx:mg Tryz.prog 135:=⟨Tryz.f135,Tryz.func135,of_decide_eq_true (by kernel_rfl),by kernel_rfl⟩
def AI{f:Nat}(h:f<1000000){vs:List Value}{v:Value}:rG f vs v (.returned v):=(oZ h).2 rfl
def OT(tS tR:TypeId)(pS pR:Value):jD Tryz.prog (ke (.iface tS pS) (.iface tR pR)) CS:=by
 intro f xs ns cs r rs cs' h;unfold CS at h;split at h
 ·rename_i hf;subst hf;rw[pq (by decide)];refine⟨Kt,?_⟩;unfold G9 at h;split at h
  ·rename_i s a b;split at h
   ·rename_i hc;obtain⟨rfl,rfl,hs⟩:=hc;cases h;refine⟨rfl,by unfold xI;split<;>rfl,fun c hc=>(by cases hc),fun G w vs hI hl hR=>?_⟩
    obtain⟨v0,v1,v2,rfl⟩:=ID hl;have h0:=(hR 0 _ _ rfl rfl).1;have h1:=(hR 1 _ _ rfl rfl).1;have h2:=(hR 2 _ _ rfl rfl).1;cases h0;cases h1;cases h2;unfold xI;split
    ·rename_i n hp;exact(Tryz.strconv_ParseInt_10_at64_ok s (by omega) n hp w).mono fun e w' h=>by
      obtain⟨rfl,hw⟩:=h;have hb:w.heap.size<=w'.heap.size/\∀ b,b<w.heap.size->w'.heap[b]? =w.heap[b]? :=by
       rcases hw with rfl|⟨t,rfl⟩
       ·exact⟨aP _,fun _ _=>rfl⟩
       ·exact Am _ _ _
      have he:w'.os=w.os/\w'.output=w.output:=by
       rcases hw with rfl|⟨t,rfl⟩
       ·exact⟨rfl,rfl⟩
       ·exact Cr _ _ _
      obtain⟨hI',hS'⟩:=hI.below hb.1 hb.2 he;exact⟨_,G,AI (by decide),F6 (.int _ _) .nili,hI',hS',rfl,fun k hk=>absurd hk (ju _)⟩
    ·rename_i hp;exact(Tryz.strconv_ParseInt_10_at64_range_var s (by omega) hp tR pR w (Rh hI)).mono fun e w' h=>by
      obtain⟨N,rfl,_,_,hb⟩:=h;obtain⟨hI',hS'⟩:=hI.below hb.size hb.block ⟨hb.os,hb.output⟩;exact⟨_,G,AI (by decide),F6 (.int _ _) (.err _ _),hI',hS',rfl,fun k hk=>absurd hk (ju _)⟩
    ·rename_i h1 h2;exact(Tryz.parse_no s (by omega) h1 h2 tS pS w (Re hI)).mono fun e w' h=>by
      obtain⟨N,rfl,_,_,hb⟩:=h;obtain⟨hI',hS'⟩:=hI.below hb.size hb.block ⟨hb.os,hb.output⟩;exact⟨_,G,AI (by decide),F6 (.int _ _) (.err _ _),hI',hS',rfl,fun k hk=>absurd hk (ju _)⟩
   ·cases h
  ·cases h
 ·split at h
  ·rename_i hf;subst hf;rw[pq (by decide)];refine⟨Kx,?_⟩;unfold Ng at h;split at h
   ·rename_i n b;split at h
    ·rename_i hc;obtain⟨rfl,h1,h2⟩:=hc;cases h;refine⟨rfl,rfl,fun c hc=>(by cases hc),fun G w vs hI hl hR=>?_⟩;obtain⟨v0,v1,rfl⟩:=Rk hl;have h3:=(hR 0 _ _ rfl rfl).1;have h4:=(hR 1 _ _ rfl rfl).1;cases h3;cases h4;exact(Tryz.strconv_FormatInt_10 n h1 h2 w (Js hI)).mono fun e w' h=>by
      obtain⟨rfl,k,os,rfl⟩:=h;have hb:=IN w k os;have he:(grow (w.drewN k) os).os=w.os/\(grow (w.drewN k) os).output=w.output:=⟨rfl,rfl⟩;obtain⟨hI',hS'⟩:=hI.below hb.1 hb.2 he;exact⟨_,G,AI (by decide),.str _,hI',hS',rfl,fun k hk=>absurd hk (ju _)⟩
    ·cases h
   ·cases h
  ·cases h
end Go.PM
namespace Go.PM
open Go Go.Proofs
def OY(mk:Bool)(f:Nat):List Nat:=if f=1000001\/f=1000002 then(if mk then [1]else [])else if [128,189].contains f then [0,2]else if [91,161].contains f then [0,1]else if [160,163,115,164,63,64,113,156,14,27].contains f then [0]else if [34,15,20,50,51,57,58].contains f then [1000]else []
def Rz(f:Nat):List Nat:=if f=14 then [1000]else OY true f
def Ry(n f:Nat):List Nat:=if f=1000003/\n=132\/f=1000002/\[113,156,115,164].contains n then [1]else OY false f
noncomputable def Pb(f:Nat):Option bw:=if f<1000000 then vM Tryz.prog (Ry f) (if [115,164,200,201,209,210,211,212,213,214,215,216,217,218,219,220,221,222,223,224,225,226,227,232,235,240,242,100].contains f then 1 else 0) ([37,31,32,63,64,67,77,78,112,113,114,115,156,157,161,164,190,10,44,45,66,68,86,87,91,103,108,122,123,170,55,104].contains f) f else yN Tryz.prog (if f=1000034 then Rz else OY true) (f-1000000)
set_option maxRecDepth 4000 in
def Rl:∀ f F,T f=some F->Pb f=some F:=by
 intro f F h;unfold T at h;split at h
 all_goals first|(cases h;kernel_rfl)|cases h
def Nw:Cv T Tryz.prog:=fun f F h=>by
 have h:=Rl f F h;unfold Pb at h;split at h
 ·exact .inl ⟨by assumption,_,_,_,h⟩
 ·exact .inr ⟨_,f-1000000,by unfold mI;omega,h⟩
end Go.PM
namespace Go.PM
open Go Go.Proofs Go.ChangeShapes Go.Deep
def lm(w:World):Gh where
 com b o:=w.cell? ⟨b,o,none⟩
 sh b:=match w.heap[b]? with
  |some (.cells c e (0,0))=>some (e,c.size)
  |_=>none
 tk _:=none
 ob _:=none
 nx:=0
 pv _:=none
 xp _:=false
 oe _:=none
 mb _:=none
def N0{w:World}{b e k:Nat}(h:(lm w).sh b=some (e,k)):∃ cur:Array Value,w.heap[b]? =some (.cells cur e (0,0))/\cur.size=k:=by
 simp only[lm]at h;split at h
 ·rename_i c e' hc;cases h;exact⟨c,hc,rfl⟩
 ·cases h
section
variable {H:Type} {enc:TypeId×Value->H} {w:World} {base:Nat} {held:Bool}
def EA{a:Addr}{n:Nat}{cs:List Value}(h:w.cells? base a n=some cs):cs.length=n/\∀ i,i<n->w.cell? (a.add i)=cs[i]? :=by
 obtain⟨_,h1,h2⟩:=World.cells?_some h;exact⟨h1,h2⟩
def tP{P:Program}{t e:TypeId}{sz:Nat}(ht:P.underlying t=some (.slice e))(hce:P.cellsOf e=sz)(hsz:0<sz){α:Type}(en:α->List PV)(Ok:α->Prop)(hen:∀ a,(en a).length=sz)
  (hel:∀ fuel cs x,DataW.trod enc P w base (fun _=>true) held fuel e cs=some x->cs.length=sz->∃ a,Rs (lm w) (en a) cs/\Ok a)
  {fuel:Nat} {cs:List Value} {x:DataW H×List MemPlace} (h:DataW.trod enc P w base (fun _=>true) held fuel t cs=some x):
  ∃ (l:List α) (v:Value),cs=[v]/\R (lm w) (.list l.length (l.flatMap en) .no) v/\v.oneCell'=true/\l.length<=maxLen/\∀ a∈l,Ok a:=by
 rcases open_slice ht h with⟨rfl,_⟩|⟨a,len,cap,m,n,D,Pl,rfl,hb,hlc,hcm,hm,_,hall⟩
 ·exact⟨[],_,rfl,.listN _ trivial,rfl,aW _,fun _ h=>by cases h⟩
 have hm:m=cap:=hm;subst hm;rw[hce]at hall;by_cases hc0:m=0
 ·subst hc0;obtain rfl:len=0:=by omega
  exact⟨[],_,rfl,.listE a,rfl,aW _,fun _ h=>by cases h⟩
 have hsp:a.spot=none:=by
  obtain⟨cs',h1,_⟩:=hall 0 (by omega);obtain⟨h2,h3⟩:=EA h1;have h4:=h3 0 hsz;rw[aK (by omega)]at h4;have e0:(a.add (0*sz)).add 0=a:=by simp[Addr.add]
  rw[e0]at h4;unfold World.cell? at h4;split at h4
  ·split at h4
   ·cases h4
   ·rename_i hs;simpa using hs
  ·cases h4
 obtain⟨b,o,s⟩:=a;simp only at hsp;subst hsp;have main:∀ k,k<=len->∃ (l:List α) (us:List Value),l.length=k/\Rs (lm w) (l.flatMap en) us/\us.length=k*sz/\(∀ (j:Nat) u,us[j]? =some u->w.cell? ⟨b,o+j,none⟩=some u)/\∀ a∈l,Ok a:=by
  intro k
  induction k with
  |zero=>intro _;exact⟨[],[],rfl,⟨rfl,fun j p u hp _=>by simp at hp,fun _ h=>by cases h⟩,by simp,fun j u hj=>by simp at hj,fun _ h=>by cases h⟩
  |succ k ih=>
   intro hk;obtain⟨l,us,h1,h2,h3,h4,h5⟩:=ih (by omega);obtain⟨cs',h6,h7⟩:=hall k (by omega);obtain⟨h8,h9⟩:=EA h6;obtain⟨y,hy1,hy2⟩:=hel _ _ _ h7 h8;refine⟨l++[y],us++cs',by simp[h1],?_,by rw[ae,h3,h8,fM],fun j u hj=>?_,fun z hz=>?_⟩
   ·rw[bA];simpa using h2.append hy1
   ·by_cases hlt:j<k*sz
    ·rw[bW (by omega)]at hj;exact h4 j u hj
    ·rw[cM (by omega),h3]at hj;have hj':=(bD.1 hj).1;have:=h9 (j-k*sz) (by omega);rw[hj,Addr.add_lit,Addr.add_lit]at this;rw[<-this];congr 2;omega
   ·rcases aG.1 hz with h|h
    ·exact h5 z h
    ·rw[dM.1 h];exact hy2
 obtain⟨l,us,h1,h2,h3,h4,h5⟩:=main len (aP _);refine⟨l,_,rfl,?_,rfl,by omega,h5⟩;rw[h1];exact .list len _ .no b o m us hlc h2.1 (fun j u hj=>h4 j u hj) h2.2.1 h2.2.2 trivial (fun k _ hk=>by cases hk) (fun _ hn=>absurd rfl hn)
def tO{fuel:Nat}{cs:List Value}{x:DataW H×List MemPlace}(h:DataW.trod enc Tryz.prog w base (fun _=>true) held fuel 9 cs=some x):∃ a:List UInt8,Rs (lm w) [S a] cs/\a.length<=maxLen:=by
 obtain⟨s,rfl,_,hs⟩:=DataW.trod_string (by kernel_rfl) h;refine⟨s.data.toList,⟨rfl,fun j p u hp hu=>?_,fun u hu=>?_⟩,by rw[fh];exact hs⟩
 ·cases j with
  |zero=>simp at hp hu;subst hp hu;exact .str s
  |succ j=>simp at hp
 ·simp at hu;subst hu;rfl
def xB{t:Nat}(ht:Tryz.prog.underlying t=some (.int .i64)){fuel:Nat}{cs:List Value}{x:DataW H×List MemPlace}(h:DataW.trod enc Tryz.prog w base (fun _=>true) held fuel t cs=some x):∃ n:Int,Rs (lm w) [I n] cs:=by
 obtain⟨n,rfl,_,hs⟩:=DataW.trod_int ht h;refine⟨n,⟨rfl,fun j p u hp hu=>?_,fun u hu=>?_⟩⟩
 ·cases j with
  |zero=>simp at hp hu;subst hp hu;exact .int _ _
  |succ j=>simp at hp
 ·simp at hu;subst hu;rfl
def Jj(l:List (List UInt8)):Prop:=l.length<=maxLen/\∀ t∈l,t.length<=maxLen
def Av(l:List Fd):Prop:=l.length<=maxLen/\∀ f∈l,f.1.length<=maxLen/\f.2.length<=maxLen
def BE{G:Gh}{p:PV}{v:Value}(h:R G p v)(h1:v.oneCell'=true):Rs G [p] [v]:=by
 refine⟨rfl,fun j p u hp hu=>?_,fun u hu=>?_⟩
 ·cases j with
  |zero=>simp at hp hu;subst hp hu;exact h
  |succ j=>simp at hp
 ·simp at hu;subst hu;exact h1
def Fa:∀ l:List (List UInt8),l.flatMap (fun a=>[S a])=l.map S
 | []=>rfl
 |a::l=>by rw[be,bg,Fa l,kf]
def LK{fuel:Nat}{cs:List Value}{x:DataW H×List MemPlace}(h:DataW.trod enc Tryz.prog w base (fun _=>true) held fuel 70 cs=some x):∃ l,Rs (lm w) [TX l] cs/\Jj l:=by
 obtain⟨l,v,rfl,h1,h2,h3,h4⟩:=tP (α:=List UInt8) (e:=9) (sz:=1) (by kernel_rfl) (by kernel_rfl) (by decide) (fun a=>[S a]) (fun a=>a.length<=maxLen) (fun _=>rfl) (fun fuel cs x h _=>tO h) h;rw[Fa]at h1;exact⟨l,BE h1 h2,h3,h4⟩
def QZ{cs:List Value}(h:cs.length=2):∃ a b,cs=[a,b]:=by
 match cs,h with
 | [a,b],_=>exact⟨a,b,rfl⟩
def Qm{cs:List Value}(h:cs.length=3):∃ a b c,cs=[a,b,c]:=by
 match cs,h with
 | [a,b,c],_=>exact⟨a,b,c,rfl⟩
def Ro{cs:List Value}(h:cs.length=5):∃ a b c d e,cs=[a,b,c,d,e]:=by
 match cs,h with
 | [a,b,c,d,e],_=>exact⟨a,b,c,d,e,rfl⟩
noncomputable def D1(t:Nat):List (Nat×Nat):=match Tryz.prog.underlying t with
 |some (.struct fs)=>fs.toList.map fun f=>(f.type,f.offset)
 |_=>[]
def sE{t:TypeId}{L:List (Nat×Nat)}(hL:D1 t=L)(h0:L≠ []){fuel:Nat}{cs:List Value}{x:DataW H×List MemPlace}(h:DataW.trod enc Tryz.prog w base (fun _=>true) held fuel t cs=some x):
  ∃ n,∀ (i:Nat) q,L[i]? =some q->∃ y,DataW.trod enc Tryz.prog w base (fun _=>true) held n q.1 ((cs.drop q.2).take (Tryz.prog.cellsOf q.1))=some y:=by
 unfold D1 at hL;split at hL
 ·rename_i fs hfs;obtain⟨xs,n,_,_,_,hl,hf⟩:=DataW.trod_struct hfs h;refine⟨n,fun i q hi=>?_⟩;rw[<-hL,dB,av]at hi;obtain⟨f,hi,rfl⟩:=hi;rw[ki]at hi;have:=hf i f hi;have hlt:i<xs.length:=by rw[hl];exact(bf.1 hi).1
  rw[aK hlt]at this;exact⟨_,this⟩
 ·exact absurd hL.symm h0
def c9:Tryz.prog.cellsOf 9=1:=by kernel_rfl
def c2:Tryz.prog.cellsOf 2=1:=by kernel_rfl
def RA:Tryz.prog.cellsOf 70=1:=by kernel_rfl
def PU:Tryz.prog.cellsOf 102=1:=by kernel_rfl
def RC:Tryz.prog.cellsOf 22=1:=by kernel_rfl
def RB:Tryz.prog.cellsOf 23=1:=by kernel_rfl
def LM{fuel:Nat}{cs:List Value}{x:DataW H×List MemPlace}(h:DataW.trod enc Tryz.prog w base (fun _=>true) held fuel 184 cs=some x)(hl:cs.length=2):∃ f:Fd,Rs (lm w) (fc f) cs/\f.1.length<=maxLen/\f.2.length<=maxLen:=by
 obtain⟨n,hf⟩:=sE (L:=[(9,0),(9,1)]) (by kernel_rfl) (by decide) h;obtain⟨a,b,rfl⟩:=QZ hl;obtain⟨y0,h0⟩:=hf 0 _ rfl;obtain⟨y1,h1⟩:=hf 1 _ rfl;rw[c9]at h0 h1;have h0:DataW.trod enc Tryz.prog w base (fun _=>true) held n 9 [a]=some y0:=h0;have h1:DataW.trod enc Tryz.prog w base (fun _=>true) held n 9 [b]=some y1:=h1;obtain⟨s0,r0,l0⟩:=tO h0;obtain⟨s1,r1,l1⟩:=tO h1;exact⟨(s0,s1),r0.append r1,l0,l1⟩
def CO{fuel:Nat}{cs:List Value}{x:DataW H×List MemPlace}(h:DataW.trod enc Tryz.prog w base (fun _=>true) held fuel 102 cs=some x):∃ l,Rs (lm w) [FX l] cs/\Av l:=by
 obtain⟨l,v,rfl,h1,h2,h3,h4⟩:=tP (α:=Fd) (e:=184) (sz:=2) (by kernel_rfl) (by kernel_rfl) (by decide) fc (fun f=>f.1.length<=maxLen/\f.2.length<=maxLen) ru (fun fuel cs x h hl=>LM h hl) h;exact⟨l,BE h1 h2,h3,h4⟩
def G5{fuel:Nat}{cs:List Value}{x:DataW H×List MemPlace}(h:DataW.trod enc Tryz.prog w base (fun _=>true) held fuel 104 cs=some x)(hl:cs.length=3):∃ y:Nd,Rs (lm w) (nc y) cs/\Jj y.labels/\Av y.fields:=by
 obtain⟨n,hf⟩:=sE (L:=[(2,0),(70,1),(102,2)]) (by kernel_rfl) (by decide) h;obtain⟨a,b,c,rfl⟩:=Qm hl;obtain⟨y0,h0⟩:=hf 0 _ rfl;obtain⟨y1,h1⟩:=hf 1 _ rfl;obtain⟨y2,h2⟩:=hf 2 _ rfl;rw[c2]at h0;rw[RA]at h1;rw[PU]at h2;have h0:DataW.trod enc Tryz.prog w base (fun _=>true) held n 2 [a]=some y0:=h0;have h1:DataW.trod enc Tryz.prog w base (fun _=>true) held n 70 [b]=some y1:=h1;have h2:DataW.trod enc Tryz.prog w base (fun _=>true) held n 102 [c]=some y2:=h2;obtain⟨i,r0⟩:=xB (by kernel_rfl) h0;obtain⟨ls,r1,l1⟩:=LK h1;obtain⟨fs,r2,l2⟩:=CO h2;exact⟨⟨i,ls,fs⟩,(r0.append r1).append r2,l1,l2⟩
def G6{fuel:Nat}{cs:List Value}{x:DataW H×List MemPlace}(h:DataW.trod enc Tryz.prog w base (fun _=>true) held fuel 106 cs=some x)(hl:cs.length=5):∃ y:Eg,Rs (lm w) (ec y) cs/\y.type.length<=maxLen/\Av y.fields:=by
 obtain⟨n,hf⟩:=sE (L:=[(2,0),(9,1),(2,2),(2,3),(102,4)]) (by kernel_rfl) (by decide) h;obtain⟨a,b,c,d,e,rfl⟩:=Ro hl;obtain⟨y0,h0⟩:=hf 0 _ rfl;obtain⟨y1,h1⟩:=hf 1 _ rfl;obtain⟨y2,h2⟩:=hf 2 _ rfl;obtain⟨y3,h3⟩:=hf 3 _ rfl;obtain⟨y4,h4⟩:=hf 4 _ rfl;rw[c2]at h0 h2 h3;rw[c9]at h1;rw[PU]at h4;have h0:DataW.trod enc Tryz.prog w base (fun _=>true) held n 2 [a]=some y0:=h0;have h1:DataW.trod enc Tryz.prog w base (fun _=>true) held n 9 [b]=some y1:=h1;have h2:DataW.trod enc Tryz.prog w base (fun _=>true) held n 2 [c]=some y2:=h2;have h3:DataW.trod enc Tryz.prog w base (fun _=>true) held n 2 [d]=some y3:=h3;have h4:DataW.trod enc Tryz.prog w base (fun _=>true) held n 102 [e]=some y4:=h4;obtain⟨i,r0⟩:=xB (by kernel_rfl) h0;obtain⟨t,r1,l1⟩:=tO h1;obtain⟨f,r2⟩:=xB (by kernel_rfl) h2;obtain⟨g,r3⟩:=xB (by kernel_rfl) h3;obtain⟨fs,r4,l4⟩:=CO h4;exact⟨⟨i,t,f,g,fs⟩,((((r0.append r1).append r2).append r3).append r4),l1,l4⟩
structure Rb (g:cj):Prop where
 ns:g.nodes.length<=maxLen
 es:g.edges.length<=maxLen
 n:∀ x∈g.nodes,Jj x.labels/\Av x.fields
 e:∀ x∈g.edges,x.type.length<=maxLen/\Av x.fields
def LL{fuel:Nat}{cs:List Value}{x:DataW H×List MemPlace}(h:DataW.trod enc Tryz.prog w base (fun _=>true) held fuel 25 cs=some x)(hl:cs.length=2):∃ g:cj,Rs (lm w) (gc g) cs/\Rb g:=by
 obtain⟨n,hf⟩:=sE (L:=[(22,0),(23,1)]) (by kernel_rfl) (by decide) h;obtain⟨a,b,rfl⟩:=QZ hl;obtain⟨y0,h0⟩:=hf 0 _ rfl;obtain⟨y1,h1⟩:=hf 1 _ rfl;rw[RC]at h0;rw[RB]at h1;obtain⟨ns,v0,e0,r0,o0,l0,k0⟩:=tP (α:=Nd) (e:=104) (sz:=3) (by kernel_rfl) (by kernel_rfl) (by decide) nc (fun y=>Jj y.labels/\Av y.fields) cP (fun fuel cs x h hl=>G5 h hl) h0;obtain⟨es,v1,e1,r1,o1,l1,k1⟩:=tP (α:=Eg) (e:=106) (sz:=5) (by kernel_rfl) (by kernel_rfl) (by decide) ec (fun y=>y.type.length<=maxLen/\Av y.fields) cN (fun fuel cs x h hl=>G6 h hl) h1;simp only[pF,oj,List.take_zero,List.drop_succ_cons]at e0 e1;cases e0;cases e1;exact⟨⟨ns,es⟩,(BE r0 o0).append (BE r1 o1),l0,l1,k0,k1⟩
end
end Go.PM
namespace Go.PM
open Go Go.Proofs Go.Proofs.YtdpamjikmlbmhaaGreatDoor Go.ChangeShapes Go.WideShapes Go.RowKit Go.Lib
def AY:List (String×DataW Unit):=[("math/bits.deBruijn32tab",Rows.laid_math_bits_deBruijn32tab),("math/bits.deBruijn64tab",Rows.laid_math_bits_deBruijn64tab),("internal/strconv.uint64pow10",Rows.laid_internal_strconv_uint64pow10),("strconv.ErrRange",Rows.laid_strconv_ErrRange),("strconv.ErrSyntax",Rows.laid_strconv_ErrSyntax)]
section
variable {W:World}
def vZ(hsh:W.ShapedOpen Tryz.prog){g:Nat}(hg:g<Tryz.prog.globals.size)(h:(((begin Tryz.prog (fun _ _=>0) default).world.heap[g]?).bind Obj.row?).isSome=true):∃ cs t,W.heap[g]? =some (.cells cs t (0,0)):=by
 obtain⟨x,hx⟩:=cu.1 h;obtain⟨cs,h1,_⟩:=hsh.1 g x.1 x.2 hg hx;exact⟨cs,x.2,h1⟩
def BK{n:String}{g:Nat}(hn:Tryz.prog.globalNamed n=some g){cs:Array Value}(hv:W.var? Tryz.prog n=some cs){c:Array Value}{t:TypeId}{f:Nat×Nat}(hh:W.heap[g]? =some (.cells c t f)):W.heap[g]? =some (.cells cs t f):=by
 unfold World.var? at hv;rw[hn]at hv;simp only[em,hh]at hv;cases hv;exact hh
def OU(hL:laidMet Tryz.prog AY W):TabIs Tryz.prog W "internal/strconv.uint64pow10" .u64 pow10Tab:=
 tabIs_of_head (t:=232) (e:=170) (n:=20) IS (by kernel_rfl) (by kernel_rfl) (by kernel_rfl) (by kernel_rfl) (by kernel_rfl) (rest:=[("strconv.ErrRange",Rows.laid_strconv_ErrRange),("strconv.ErrSyntax",Rows.laid_strconv_ErrSyntax)]) hL.tail.tail
def Gg(u:TypeId)(h:Tryz.prog.typeName? 3 u=some "*errors.errorString"):u=270:=
 typeName_ptr_named (nm:= "errors.errorString") (by rw[show "*" ++ "errors.errorString" = "*errors.errorString" by decide];kernel_rfl) (by kernel_rfl) (by decide) u (by rw[show "*" ++ "errors.errorString" = "*errors.errorString" by decide];exact h)
def LW{fs:Array Field}{t o:Nat}(h:(fs.toList.map fun f=>(f.type,f.offset))=[(t,o)]):∃ f,fs= #[f]/\f.type=t/\f.offset=o:=by
 obtain⟨l⟩:=fs
 match l,h with
 | [f],h=>
  simp only[bg,cJ,List.cons.injEq,cL,and_true]at h;exact⟨f,rfl,h.1,h.2⟩
def y6{n:String}{text:List UInt8}{r:List (String×DataW Unit)}{g:Nat}(h:laidMet Tryz.prog ((n,.iface "*errors.errorString" (.ptr (.agg [.lit (.string text)])))::r) W)
  (hg:Tryz.prog.globalNamed n=some g) (ht:(Tryz.prog.globals[g]?).map (·.type)=some 251):∃ a:Addr,W.var? Tryz.prog n=some #[.iface 270 (.pointer (some a))]:=by
 obtain⟨fs,hfs⟩:∃ f,Tryz.prog.underlying 272=some (.struct #[f])/\f.type=9/\f.offset=0:=by
  have h1:D1 272=[(9,0)]:=by kernel_rfl
  unfold D1 at h1;split at h1
  ·rename_i fs hfs;obtain⟨f,rfl,h2,h3⟩:=LW h1;exact⟨f,hfs,h2,h3⟩
  ·cases h1
 obtain⟨a,s,h1,_⟩:=laid_sentinel h hg ht Tryz.underlying251 Gg (show Tryz.prog.underlying 270=some (.pointer 272) by kernel_rfl) hfs.1 hfs.2.1 hfs.2.2 (by kernel_rfl) (by kernel_rfl) (by kernel_rfl);exact⟨a,h1⟩
def Lo(hL:laidMetH Tryz.prog AY W)(hsh:W.ShapedOpen Tryz.prog):∃ pS pR,bM Tryz.prog (ke (.iface 270 pS) (.iface 270 pR)) (lm W) (bV [] []) W:=by
 have hL0:laidMet Tryz.prog AY W:=hL;have ht:=OU hL0;obtain⟨aR,hR⟩:=y6 (r:=[("strconv.ErrSyntax",Rows.laid_strconv_ErrSyntax)]) (show laidMet Tryz.prog (("strconv.ErrRange",Rows.laid_strconv_ErrRange)::_) W from hL0.tail.tail.tail) IR (by kernel_rfl);obtain⟨aS,hS⟩:=y6 (r:=[]) (show laidMet Tryz.prog (("strconv.ErrSyntax",Rows.laid_strconv_ErrSyntax)::_) W from hL0.tail.tail.tail.tail) IQ (by kernel_rfl);obtain⟨c0,t0,h0⟩:=vZ hsh (g:=0) (of_decide_eq_true (by kernel_rfl)) (by kernel_rfl);obtain⟨c3,t3,h3⟩:=vZ hsh (g:=3) (of_decide_eq_true (by kernel_rfl)) (by kernel_rfl);obtain⟨c4,t4,h4⟩:=vZ hsh (g:=4) (of_decide_eq_true (by kernel_rfl)) (by kernel_rfl);have k0:=BK IS ht h0;have k3:=BK IQ hS h3;have k4:=BK IR hR h4;have whole:∀ {b:Nat} {l:List Value} {t:TypeId},W.heap[b]? =some (.cells l.toArray t (0,0))->(∀ o,ke (.iface 270 (.pointer (some aS))) (.iface 270 (.pointer (some aR))) b o=l[o]?)->∀ o v,ke (.iface 270 (.pointer (some aS))) (.iface 270 (.pointer (some aR))) b o=some v->
   (lm W).com b o=some v/\(lm W).pv b=none/\Whole (ke (.iface 270 (.pointer (some aS))) (.iface 270 (.pointer (some aR)))) b ((lm W).sh b):=by
  intro b l t hb hl o v hv;refine⟨?_,rfl,(t,l.length),?_,fun o ho=>?_⟩
  ·rw[hl]at hv
   show W.cell? ⟨b,o,none⟩=some v;simp only[World.cell?,hb,mi,cz,if_false,kg];exact hv
  ·simp only[lm,hb,ky]
  ·rw[hl,aK ho];exact fun h=>by cases h
 refine⟨.pointer (some aS),.pointer (some aR),?_⟩;have nf:∀ {α:Type} {x:α},(none:Option α)=some x->False:=fun h=>by cases h
 refine⟨fun b o v h=>h,fun b e k h=>N0 h,rfl,fun t x h=>(nf h).elim,fun t h=>absurd h (ju _),fun t r h=>(nf h).elim,fun t u r q h=>(nf h).elim,fun t r h=>(nf h).elim,fun s cs h=>(nf h).elim,
  fun s b h=>(nf h).elim,fun s u b h=>(nf h).elim,fun _ _=>rfl,fun s cs h=>(nf h).elim,fun b k h=>(nf h).elim,fun b h=>Bool.noConfusion h,fun b o v h=>?_,fun s b e sz h=>(nf h).elim,fun s es h=>(nf h).elim,fun s b h=>(nf h).elim,
  fun s u b h=>(nf h).elim,fun _ _=>rfl,fun s b h=>(nf h).elim,fun t m h=>(nf h).elim⟩
 by_cases b0:b=0
 ·subst b0;exact whole k0 (fun o=>by unfold ke;rw[am rfl]) o v h
 ·by_cases b3:b=3
  ·subst b3;exact whole (l:=[.iface 270 (.pointer (some aS))]) k3 (fun o=>by
    unfold ke;rw[ai (by decide),am rfl];cases o with
    |zero=>rfl
    |succ o=>simp) o v h
  ·by_cases b4:b=4
   ·subst b4;exact whole (l:=[.iface 270 (.pointer (some aR))]) k4 (fun o=>by
     unfold ke;rw[ai (by decide),ai (by decide),am rfl];cases o with
     |zero=>rfl
     |succ o=>simp) o v h
   ·unfold ke at h;rw[ai b0,ai b3,ai b4]at h;cases h
def N2{G':Gh}{W':World}(hS:cQ (lm W) W G' W'):∀ b,b<W.heap.size->W'.heap[b]? =W.heap[b]? :=fun b hb=>
 hS.kept b hb (fun s h=>by cases h) (fun t r h=>by cases h) (fun s h=>by cases h)
def Gv{W':World}(he:W'.os=W.os/\W'.output=W.output)(hb:∀ b,b<W.heap.size->W'.heap[b]? =W.heap[b]?)(may:MemPlace->Prop):W.keptBut W' may:=by
 refine⟨he.1,he.2,fun i hi=>?_⟩;rw[hb i hi];cases h:W.heap[i]? with
 |none=>rfl
 |some o=>cases o<;>first|exact⟨rfl,rfl,rfl,fun _ _=>rfl⟩|exact .inr ⟨rfl,rfl⟩|rfl
def NG{W':World}(hb:∀ b,b<W.heap.size->W'.heap[b]? =W.heap[b]?){p:MemPlace}(hp:p.block<W.heap.size):W.sameAt W' p:=by
 cases p with
 |cell b o=>exact World.cell?_of_block (w:=W) (hb b hp)
 |map b=>exact hb b hp
def xh{H:Type}{enc:TypeId×Value->H}(hl:laidOutB Tryz.prog=true){W':World}(hb:∀ b,b<W.heap.size->W'.heap[b]? =W.heap[b]?):∀ {ts:List TypeId} {vs:List Value} {ds:List (DataW H)} {ps:List MemPlace},
  (∀ t∈ts,Tryz.prog.readableRec t=true/\t<Tryz.prog.types.size)->(∀ p∈ps,p.block<W.heap.size)->DataW.TrodAll enc Tryz.prog W 0 (fun _=>true) true ts vs ds ps->DataW.TrodAll enc Tryz.prog W' 0 (fun b=>decide (b<W.heap.size)) true ts vs ds ps
 | [],[],[],_,_,_,h=>h
 |t::ts,v::vs,d::ds,ps,ht,hp,h=>by
  obtain⟨p,q,h1,h2,rfl⟩:=h;exact⟨p,q,WideElems.Trod_stays hl (ht t List.mem_cons_self).1 (ht t List.mem_cons_self).2 h1 (fun x hx=>NG hb (hp x (dk _ hx))) (fun x hx=>by simpa using hp x (dk _ hx)),
   xh hl hb (fun t h=>ht t (ce _ h)) (fun x hx=>hp x (dG _ hx)) h2,rfl⟩
def NW:laidOutB Tryz.prog=true:=by kernel_rfl
end
end Go.PM
namespace Go.PM
open Go.Lib
variable {cf:aJ} {st:St} {mk:PV->St->Fr×St} {A:Fr×St->Prop} {s:Nat}
def eF:
  (∀ {cf:aJ} {fr:Fr} {st:St} {d:Option Nat} {e sz b:Nat} {x y:CX},aC cf fr st d (.apc e sz b x y)=Ar e sz b (x.ev fr) (y.ev fr) st)/\
  (∀ {cf:aJ} {fr:Fr} {st:St} {d:Option Nat} {e sz b:Nat} {x y:CX},de cf (.apc e sz b x y) d st fr=uN (mT (x.ev fr) (y.ev fr) st) fr)/\
  (∀ {fr:Fr} {e sz b:Nat} {x y:CX},br fr (.apc e sz b x y)=[])/\
  (∀ {J:List Nat} {fr:Fr} {t:Nat},uN J fr t=bY J (fr t))/\
  (∀ {e sz b n e':Nat} {cs:List PV} {y:PV} {st:St},Ar e sz b (.list n cs (.full e')) y st=r7 e sz b (.list n cs (.full e')) y st)/\
  (∀ {n e':Nat} {cs:List PV} {y:PV} {st:St},mT (.list n cs (.full e')) y st=[])/\
  (∀ {e sz b n k e':Nat} {cs:List PV} {y:PV} {st:St},Ar e sz b (.list n cs (.own k e')) y st=r7 e sz b (.list n cs (.own k e')) y st)/\
  (∀ {n k e':Nat} {cs:List PV} {y:PV} {st:St},mT (.list n cs (.own k e')) y st=[])/\
  (∀ {p:PV},bY [] p=p):=
 ⟨rfl,rfl,rfl,rfl,rfl,rfl,rfl,rfl,qP _⟩
def qg{sz n k:Nat}{cs:List PV}{t:aF}(h:cs.length=n*sz)(hk:k<=n):vi sz (.list n cs t) none (some (I k)) st=some (.list k (cs.take (k*sz)) (t.cut true n k),st):=by
 simp[vi,kx,h,hk]
def qf{sz n k:Nat}{cs:List PV}{t:aF}(h:cs.length=n*sz)(hk:k<=n):vi sz (.list n cs t) (some (I k)) none st=some (.list (n-k) (cs.drop (k*sz)) t.der,st):=by
 have e2:(cs.drop (k*sz)).take ((n-k) *sz)=cs.drop (k*sz):=aM (by rw[bl,h,Nat.sub_mul];exact aP _);have b1:kx (I k) n=some k:=by simp[kx,hk]
 simp only[vi,b1,h,if_true,e2,Option.isNone_some,aF.cut,cz,if_false]
def HI{n k:Nat}:aF.cut true n k .no= .no:=by unfold aF.cut;split<;>(try split)<;>rfl
def HG:aF.der .no= .no:=rfl
def AB(l:List (List UInt8))(k:Nat):(l.map S).take (k*1)=(l.take k).map S:=by rw[eh,List.map_take]
def Bt(l:List (List UInt8))(k:Nat):(l.map S).drop (k*1)=(l.drop k).map S:=by rw[eh,List.map_drop]
def KY(K:bO cf)(l:List (List UInt8))(x:List UInt8)(hl:l.length<=2000000):∃ r,r=TX (iD x l)/\∃ fl,az cf 133 [TX l,S x] [] st=some (r,db st fl):=by
 refine lu K.tab (F:=F133) (Q:=fun r=>r=TX (iD x l)) rfl rfl rfl (lb rfl) (by simp[fy,bR]) (l.length+1) ?_;have hm:(l.map S).length=l.length:=by simp
 have hmk:=fun st=> @Hl 9 1 16 ((l.length+1:Nat):Int) st (by omega) (by omega) (by omega) (by decide);simp only[F133,↓qU,reduceAdd,reduceSub];simp only[↓pa];refine a7 (fun q fr st=>∃ i:Nat,q=l.length-i/\i<=l.length/\fr 0=TX l/\fr 1=S x/\fr 5=I i/\∀ j (h:j<l.length),j<i->d4 l[j] x=true) l.length (by omega) ⟨0,by simp,by omega,by simp only[↓pa,↓reduceIte,reduceCtorEq],by simp only[↓pa,↓reduceIte,reduceEqDiff],by simp only[↓pa,↓reduceIte];rfl,fun j h hj=>by omega⟩ ?_;rintro q fr st ⟨i,rfl,hi,f0,f1,f5,hall⟩;have hp:=fun st=> @qg st 1 l.length i (l.map S) .no (by simp) hi;have hq:=fun st=> @qf st 1 l.length i (l.map S) .no (by simp) hi;simp only[↓pa,pb,ak,↓reduceIte,reduceEqDiff,reduceCtorEq,f0,f5];refine af (fun h1=>?_) (fun h1=>?_)
 ·have hlt:i<l.length:=h1;have ta:iV l i=l[i]:=by simp[iV,hlt]
  simp (maxSteps:=1000000) (disch:=omega)only[↓pa,pb,↓reduceIte,reduceEqDiff,reduceCtorEq,f0,f1,f5,h1,eh,gZ hlt,ta];refine af (fun h2=>?_) (fun h2=>?_)
  ·simp (maxSteps:=1000000) (disch:=omega)only[↓pa,pb,ak,↓reduceIte,reduceEqDiff,reduceCtorEq,f0,f1,f5,h2];exact⟨l.length- (i+1),by omega,i+1,rfl,by omega,rfl,fun j h hj=>by
    by_cases e:j=i
    ·subst e;exact h2
    ·exact hall j h (by omega)⟩
  ·have h2:d4 l[i] x=false:=by simpa using h2
   obtain⟨g1,g2⟩:=xV hi hall (fun _=>h2);simp (maxSteps:=1000000) (disch:=omega)only[↓pa,pb,ak,↓reduceIte,reduceEqDiff,reduceCtorEq,f0,f1,f5,h1,h2,eh,gZ hlt,ta];refine af (fun h3=>?_) (fun h3=>?_)
   ·simp only[↓pa,pb,aH,eB,↓reduceIte,reduceCtorEq,f0,h3];rw[g1 hlt h3]
   ·have he:=g2 fun _=>h3;have hG:Gr 9 (st.more [0]).nx (st.more [0]).cnt 0 (.own st.nx 9):=⟨by simp[St.more],by simp[St.more],rfl⟩;simp (maxSteps:=1000000) (disch:=omega)only[↓pa,↓au,pb,ak,↓reduceIte,reduceEqDiff,reduceCtorEq,di,f0,f5,h3,hmk,hp,HI,AB];refine bc hG rfl (by simp;omega) (by omega) (by omega) (by decide) ?_;simp only[↓pa,↓au,pb,ah,↓reduceIte,reduceEqDiff,reduceAdd,reduceLeDiff,reduceLT,f1];refine bc (cD hG) (by simp;omega) rfl (by omega) (by omega) (by decide) ?_;simp only[↓pa,↓au,↓reduceIte,reduceEqDiff,reduceCtorEq,f0,f5,hq,HG,Bt];refine bc (cD (cD hG)) (by simp;omega) (by simp) (by omega) (by omega) (by decide) ?_;have hc:((l.take i).map S++[PV.str ⟨x.toArray⟩])++(l.drop i).map S=(l.take i++x::l.drop i).map S:=by simp
    have hp2:=fy (l.take i++x::l.drop i);have e1:0+i+1+(l.length-i)=(l.take i++x::l.drop i).length:=by simp;omega
    rw[hc,e1];simp only[↓pa,pb,aH,eB,↓reduceIte,he]
 ·obtain⟨g1,g2⟩:=xV hi hall (fun h=>absurd h (by omega));have he:=g2 fun h=>absurd h (by omega);have h3:=h1;have hG:Gr 9 (st.more [0]).nx (st.more [0]).cnt 0 (.own st.nx 9):=⟨by simp[St.more],by simp[St.more],rfl⟩;simp (maxSteps:=1000000) (disch:=omega)only[↓pa,↓au,pb,ak,↓reduceIte,reduceEqDiff,reduceCtorEq,di,f0,f5,h1,hmk,hp,HI,AB];refine bc hG rfl (by simp;omega) (by omega) (by omega) (by decide) ?_;simp only[↓pa,↓au,pb,ah,↓reduceIte,reduceEqDiff,reduceAdd,reduceLeDiff,reduceLT,f1];refine bc (cD hG) (by simp;omega) rfl (by omega) (by omega) (by decide) ?_;simp only[↓pa,↓au,↓reduceIte,reduceEqDiff,reduceCtorEq,f0,f5,hq,HG,Bt];refine bc (cD (cD hG)) (by simp;omega) (by simp) (by omega) (by omega) (by decide) ?_;have hc:((l.take i).map S++[PV.str ⟨x.toArray⟩])++(l.drop i).map S=(l.take i++x::l.drop i).map S:=by simp
  have hp2:=fy (l.take i++x::l.drop i);have e1:0+i+1+(l.length-i)=(l.take i++x::l.drop i).length:=by simp;omega
  rw[hc,e1];simp only[↓pa,pb,aH,eB,↓reduceIte,he]
def nf(l:List (List UInt8)):List Fd:=l.map fun n=>(n,[])
def sH(l:List (List UInt8)):(nf l).length=l.length:=by simp[nf]
def D0{l:List (List UInt8)}{j:Nat}(h:j<l.length):bL ((nf l).flatMap fc) (j*2) 1 false=some (S l[j]):=by
 rw[km (by rw[sH];exact h)];simp[nf]
def EN{l:List (List UInt8)}{j:Nat}(h:j<l.length):bL ((nf l).flatMap fc) (j*2) 2 true=some (.agg [S l[j],S []]):=by
 rw[mn (by rw[sH];exact h)];simp[nf]
def iO(l:List (List UInt8)):((nf l).flatMap fc).length=l.length*2:=by rw[eH,sH]
def l8(a b:List (List UInt8)):(nf (a++b)).flatMap fc=(nf a).flatMap fc++(nf b).flatMap fc:=by simp[nf,bA]
def Hg(l:List (List UInt8))(k:Nat):((nf l).flatMap fc).take (k*2)=(nf (l.take k)).flatMap fc:=by
 conv=>lhs;rw[<-dy k l,l8]
 by_cases h:k<=l.length
 ·rw[List.take_left' (by rw[iO,aL];congr 1;omega)]
 ·rw[<-l8,dy,aM (by rw[iO];omega),aM (by omega:l.length<=k)]
def Hh(l:List (List UInt8))(k:Nat)(h:k<=l.length):((nf l).flatMap fc).drop (k*2)=(nf (l.drop k)).flatMap fc:=by
 conv=>lhs;rw[<-dy k l,l8]
 rw[List.drop_left' (by rw[iO,aL];congr 1;omega)]
def J8(x:List UInt8):(nf [x]).flatMap fc=[S x,S []]:=rfl
def tZ(l:List (List UInt8)):cZ ((nf l).flatMap fc):=gK _
def wR{e sz b n c j:Nat}{cs:List PV}{y:PV}(hc:0<c)(hj:j<st.nx)(hcnt:st.cnt j=c)(hfl:st.fl<=j)(h1:dN ([j].contains ·) cs=true)(h2:tf ([j].contains ·) y=true):
  Ar e sz b (.list n cs (.el j e c)) y st=r7 e sz b (.list n cs (.own st.nx e)) y (fY st j n)/\mT (.list n cs (.el j e c)) y st=[j]:=by
 have h:mT (.list n cs (.el j e c)) y st=[j]:=by simp only[mT];rw[am ⟨hc,hj,hcnt,hfl,h1,h2⟩]
 refine⟨?_,h⟩;simp only[Ar,h];rfl
def oz{J:List Nat}{cs:List PV}(h:cZ cs):dN (J.contains ·) cs=true:=by
 have:=lW (J.contains ·) cs;rwa [h.2.1]at this
def MG(K:bO cf)(l:List (List UInt8))(hn:l.Nodup)(hl:l.length<=2000000):∃ r,r=FX (nf (iI l))/\∃ fl,az cf 132 [FX (nf l)] [] st=some (r,db st fl):=by
 refine lu K.tab (F:=F132) (Q:=fun r=>r=FX (nf (iI l))) rfl rfl rfl (lb rfl) (by simp[eL]) (l.length+2) ?_;have hm:=iO l;have hm2:=sH l;simp only[F132,↓qU,reduceAdd,reduceSub];simp only[↓pa,↓au,pb,ah,↓reduceIte,reduceAdd,reduceLT,cG,da];refine a7 (fun q fr st=>∃ (i:Nat) (tok:aF),q=l.length-i/\i<=l.length/\fr 3= .list (iI (l.take i)).length ((nf (iI (l.take i))).flatMap fc) tok/\fr 0=FX (nf l)/\fr 4=I i/\((tok= .full 133/\iI (l.take i)=[])\/∃ j,tok= .own j 133/\j<st.nx/\st.cnt j=(iI (l.take i)).length)/\st.fl=0) l.length (by omega)
  ⟨0,.full 133,by simp,by omega,by simp only[↓pa,↓reduceIte,reduceEqDiff];rfl,by simp only[↓pa,↓reduceIte,reduceCtorEq],by simp only[↓pa,↓reduceIte];rfl,.inl ⟨rfl,rfl⟩,rfl⟩ ?_
 rintro q fr st ⟨i,tok,rfl,hi,f3,f0,f4,hG,hfl⟩;have holen:=qE (l.take i);rw[aL]at holen;simp only[↓pa,pb,ak,↓reduceIte,reduceEqDiff,reduceCtorEq,f0,f4,sH];refine af (fun h1=>?_) (fun h1=>?_);rotate_left
 ·have hie:l.take i=l:=aM (by omega);rw[hie]at f3;simp only[↓pa,pb,aH,↓reduceIte,reduceEqDiff,f3,h1,EF];rw[FX,sH]
 have hlt:i<l.length:=by omega
 have ho:j8 (iI (l.take i)):=vh _;have hnext:iI (l.take (i+1))=iD l[i] (iI (l.take i)):=by rw[aV hlt,Ig]
 have hxo:l[i]∉iI (l.take i):=by
  rw[uL];intro h;obtain⟨j,hj,he⟩:=d7 h;rw[aL]at hj;rw[List.getElem_take]at he;have hp:=kF.1 hn j i (by omega) hlt (by omega);exact hp he
 generalize hod:iI (l.take i)=o at*;simp only[↓pa,pb,↓reduceIte,reduceEqDiff,f3,h1];have hmo:=iO o;have hpos:∀ (k:Nat),k<=o.length->(((k:Int) -1).toNat)=k-1:=fun k _=>by omega
 refine a7 (fun k fr st=>k<=o.length/\fr 0=FX (nf l)/\fr 3= .list o.length ((nf o).flatMap fc) tok/\fr 4=I i/\fr 5=I k/\(∀ j (h:j<o.length),k<=j->d4 l[i] o[j]=true)/\((tok= .full 133/\o=[])\/∃ j,tok= .own j 133/\j<st.nx/\st.cnt j=o.length)/\st.fl=0) o.length (by omega)
  ⟨aP _,by simp only[↓pa,↓reduceIte,reduceCtorEq,f0],by simp only[↓pa,↓reduceIte,reduceEqDiff,f3],by simp only[↓pa,↓reduceIte,reduceEqDiff,f4],by simp only[↓pa,↓reduceIte],fun j h hj=>by omega,hG,hfl⟩ ?_
 clear f0 f3 f4 hG hfl;rintro k fr st ⟨hk,f0,f3,f4,f5,hgt,hG,hfl⟩;simp only[↓pa,pb,↓reduceIte,f5];refine af (fun h2=>?_) (fun h2=>?_);rotate_left
 ·have hend:k=0\/∃ h:k-1<o.length,d4 l[i] o[k-1]=false:= .inl (by omega);simp only[↓pa,↓au,pb,ah,↓reduceIte,reduceEqDiff,reduceAdd,reduceLT,f3,f5,h2];have hp:=fun st=> @qg st 2 o.length k ((nf o).flatMap fc) tok (iO o) hk;have hq:=fun st=> @qf st 2 o.length k ((nf o).flatMap fc) tok (iO o) hk;have hins:=wv ho hxo hk hgt hend;have hins2:k+1+(0+(o.length-k))=(o.take k++l[i]::o.drop k).length:=by simp;omega
  have hcell:(nf (o.take k)).flatMap fc++[PV.str ⟨l[i].toArray⟩,S []]++(nf (o.drop k)).flatMap fc=(nf (o.take k++l[i]::o.drop k)).flatMap fc:=by
   rw[l8,show l[i]::o.drop k=[l[i]]++o.drop k from rfl,l8,J8,bn]
  have htl:((nf (o.take k)).flatMap fc).length=k*2:=by rw[iO,aL];congr 1;omega
  have hdl:((nf (o.drop k)).flatMap fc).length=(0+(o.length-k)) *2:=by rw[iO,bl];congr 1;omega
  simp only[↓pa,↓reduceIte,reduceEqDiff,eF,hq,Hh o k hk,cG,da];refine bc (n:=0) (m:=o.length-k) gV rfl (by rw[iO,bl]) (by omega) (by omega) (by decide) ?_;simp (maxSteps:=1000000) (disch:=omega)only[↓pa,↓au,pb,ah,↓reduceIte,reduceEqDiff,reduceAdd,reduceLeDiff,reduceLT,reduceCtorEq,f0,f3,f4,f5,eF,hp,EN hlt,Hg];have hpl1:=tZ (o.drop k);have hpl2:=tZ (o.take k);rcases hG with⟨rfl,ho0⟩|⟨j,rfl,hj,hjc⟩
  ·have hm0:o.length=0:=by rw[ho0];rfl
   have hk0:k=0:=by omega
   have hcut:aF.cut true o.length k (.full 133)= .full 133:=by simp[aF.cut,hk0,hm0]
   have g1:Gr 133 (st.more [0+(o.length-k)]).nx (st.more [0+(o.length-k)]).cnt k (.full 133):=⟨rfl,hk0⟩;simp only[hcut,eF,cV];refine bc g1 htl rfl (by omega) (by omega) (by decide) ?_;have g2:=cD (m:=1) g1;simp only[cS,cV]at g2;simp only[↓pa,↓reduceIte,reduceEqDiff,eF,cS,cV];refine bc g2 (by rw[ae,htl];simp;omega) hdl (by omega) (by omega) (by decide) ?_;have g3:=cD (m:=0+(o.length-k)) g2;simp only[cS,cV]at g3;simp (maxSteps:=1000000) (disch:=omega)only[↓pa,pb,ak,↓reduceIte,reduceEqDiff,reduceCtorEq,f0,f4,eF,cS,cV];refine⟨l.length- (i+1),by omega,i+1,_,rfl,by omega,?_,rfl,.inr ⟨_,rfl,g3.1,by rw[hnext,hins,<-hins2];exact g3.2.1⟩,by simp[St.count,St.more_fl,hfl]⟩;rw[hnext,hins,hins2,hcell]
  ·by_cases hkm:k=o.length
   ·have hcut:aF.cut true o.length k (.own j 133)= .own j 133:=by simp[aF.cut,hkm]
    have g1:Gr 133 (st.more [0+(o.length-k)]).nx (st.more [0+(o.length-k)]).cnt k (.own j 133):=⟨by simp[St.more];omega,by simp[St.more,hj,hjc,hkm],rfl⟩;simp only[hcut,eF,cV];refine bc g1 htl rfl (by omega) (by omega) (by decide) ?_;have g2:=cD (m:=1) g1;simp only[cS,cV]at g2;simp only[↓pa,↓reduceIte,reduceEqDiff,eF,cS,cV];refine bc g2 (by rw[ae,htl];simp;omega) hdl (by omega) (by omega) (by decide) ?_;have g3:=cD (m:=0+(o.length-k)) g2;simp only[cS,cV]at g3;simp (maxSteps:=1000000) (disch:=omega)only[↓pa,pb,ak,↓reduceIte,reduceEqDiff,reduceCtorEq,f0,f4,eF,cS,cV];refine⟨l.length- (i+1),by omega,i+1,_,rfl,by omega,?_,rfl,.inr ⟨_,rfl,g3.1,by rw[hnext,hins,<-hins2];exact g3.2.1⟩,by simp[St.count,St.more_fl,hfl]⟩;rw[hnext,hins,hins2,hcell]
   ·have hcut:aF.cut true o.length k (.own j 133)= .el j 133 o.length:=by simp[aF.cut,hkm,aF.elt]
    obtain⟨ha,hJ⟩:=wR (st:=st.more [0+(o.length-k)]) (e:=133) (sz:=2) (b:=32) (n:=k) (c:=o.length) (j:=j) (cs:=(nf (o.take k)).flatMap fc) (y:= .list 1 [S l[i],S []] (.full 133)) (by omega) (by simp[St.more];omega) (by simp[St.more,hj,hjc]) (by rw[St.more_fl,hfl];omega) (oz hpl2) rfl;have g1:Gr 133 (fY (st.more [0+(o.length-k)]) j k).nx (fY (st.more [0+(o.length-k)]) j k).cnt k (.own (st.more [0+(o.length-k)]).nx 133):=⟨by simp[fY,St.more],by
     have:¬ (st.nx+1=j):=by omega
     simp[fY,St.more,this],rfl⟩
    have k0:= @gU [j] _ (eL (nf l));have k4:bY [j] (I i)=I i:=gU (bh _ _);have k6:bY [j] (.list (0+(o.length-k)) ((nf (o.drop k)).flatMap fc) (.own st.nx 133))= .list (0+(o.length-k)) ((nf (o.drop k)).flatMap fc) (.own st.nx 133):=by
     have:¬ (st.nx=j):=by omega
     have ht:=oz (J:=[j]) hpl1;rw[bY,am];simp only[tf,ht,bv];simp[aF.free,aF.of,this]
    simp only[hcut,ha,hJ,cV];refine bc g1 htl rfl (by omega) (by omega) (by decide) ?_;have g2:=cD (m:=1) g1;simp only[cS,cV]at g2;simp only[↓pa,↓reduceIte,reduceEqDiff,eF,cS,cV,k6];refine bc g2 (by rw[ae,htl];simp;omega) hdl (by omega) (by omega) (by decide) ?_;have g3:=cD (m:=0+(o.length-k)) g2;simp only[cS,cV]at g3;simp (maxSteps:=1000000) (disch:=omega)only[↓pa,pb,ak,↓reduceIte,reduceEqDiff,reduceCtorEq,f0,f4,eF,cS,cV,k0,k4];refine⟨l.length- (i+1),by omega,i+1,_,rfl,by omega,?_,rfl,.inr ⟨_,rfl,g3.1,by rw[hnext,hins,<-hins2];exact g3.2.1⟩,by simp[St.count,St.more_fl,fY,hfl]⟩;rw[hnext,hins,hins2,hcell]
 ·have hk0:0<k:=by omega
  have hk1:k-1<o.length:=by omega
  have hne:¬o[k-1]=l[i]:=fun e=>hxo (by rw[<-e];exact cp hk1);simp (maxSteps:=1000000) (disch:=omega)only[↓pa,pb,↓reduceIte,reduceEqDiff,reduceCtorEq,f0,f3,f4,f5,h2,hpos k hk,aI,D0 hk1,D0 hlt];refine af (fun h3=>?_) (fun h3=>?_);rotate_left
  ·have h3':d4 l[i] o[k-1]=true:=by
    cases hc:d4 l[i] o[k-1]with
    |true=>rfl
    |false=>exact absurd (oE (by simpa [hne]using h3) hc) hne
   simp (maxSteps:=1000000) (disch:=omega)only[↓pa,pb,↓reduceIte,reduceEqDiff,reduceCtorEq,f0,f3,f4,f5];refine⟨k-1,by omega,by omega,?_,fun j h hj=>?_,hG,hfl⟩
   ·congr 1;omega
   ·by_cases e:j=k-1
    ·subst e;exact h3'
    ·exact hgt j h (by omega)
  ·have h3':d4 o[k-1] l[i]=true:=by simpa [hne]using h3
   have hend:k=0\/∃ h:k-1<o.length,d4 l[i] o[k-1]=false:= .inr ⟨hk1,qH h3'⟩;simp only[↓pa,↓au,pb,ah,↓reduceIte,reduceEqDiff,reduceAdd,reduceLT,f3,f5];have hp:=fun st=> @qg st 2 o.length k ((nf o).flatMap fc) tok (iO o) hk;have hq:=fun st=> @qf st 2 o.length k ((nf o).flatMap fc) tok (iO o) hk;have hins:=wv ho hxo hk hgt hend;have hins2:k+1+(0+(o.length-k))=(o.take k++l[i]::o.drop k).length:=by simp;omega
   have hcell:(nf (o.take k)).flatMap fc++[PV.str ⟨l[i].toArray⟩,S []]++(nf (o.drop k)).flatMap fc=(nf (o.take k++l[i]::o.drop k)).flatMap fc:=by
    rw[l8,show l[i]::o.drop k=[l[i]]++o.drop k from rfl,l8,J8,bn]
   have htl:((nf (o.take k)).flatMap fc).length=k*2:=by rw[iO,aL];congr 1;omega
   have hdl:((nf (o.drop k)).flatMap fc).length=(0+(o.length-k)) *2:=by rw[iO,bl];congr 1;omega
   simp only[↓pa,↓reduceIte,reduceEqDiff,eF,hq,Hh o k hk,cG,da];refine bc (n:=0) (m:=o.length-k) gV rfl (by rw[iO,bl]) (by omega) (by omega) (by decide) ?_;simp (maxSteps:=1000000) (disch:=omega)only[↓pa,↓au,pb,ah,↓reduceIte,reduceEqDiff,reduceAdd,reduceLeDiff,reduceLT,reduceCtorEq,f0,f3,f4,f5,eF,hp,EN hlt,Hg];have hpl1:=tZ (o.drop k);have hpl2:=tZ (o.take k);rcases hG with⟨rfl,ho0⟩|⟨j,rfl,hj,hjc⟩
   ·have hm0:o.length=0:=by rw[ho0];rfl
    have hk0:k=0:=by omega
    have hcut:aF.cut true o.length k (.full 133)= .full 133:=by simp[aF.cut,hk0,hm0]
    have g1:Gr 133 (st.more [0+(o.length-k)]).nx (st.more [0+(o.length-k)]).cnt k (.full 133):=⟨rfl,hk0⟩;simp only[hcut,eF,cV];refine bc g1 htl rfl (by omega) (by omega) (by decide) ?_;have g2:=cD (m:=1) g1;simp only[cS,cV]at g2;simp only[↓pa,↓reduceIte,reduceEqDiff,eF,cS,cV];refine bc g2 (by rw[ae,htl];simp;omega) hdl (by omega) (by omega) (by decide) ?_;have g3:=cD (m:=0+(o.length-k)) g2;simp only[cS,cV]at g3;simp (maxSteps:=1000000) (disch:=omega)only[↓pa,pb,ak,↓reduceIte,reduceEqDiff,reduceCtorEq,f0,f4,eF,cS,cV];refine⟨l.length- (i+1),by omega,i+1,_,rfl,by omega,?_,rfl,.inr ⟨_,rfl,g3.1,by rw[hnext,hins,<-hins2];exact g3.2.1⟩,by simp[St.count,St.more_fl,hfl]⟩;rw[hnext,hins,hins2,hcell]
   ·by_cases hkm:k=o.length
    ·have hcut:aF.cut true o.length k (.own j 133)= .own j 133:=by simp[aF.cut,hkm]
     have g1:Gr 133 (st.more [0+(o.length-k)]).nx (st.more [0+(o.length-k)]).cnt k (.own j 133):=⟨by simp[St.more];omega,by simp[St.more,hj,hjc,hkm],rfl⟩;simp only[hcut,eF,cV];refine bc g1 htl rfl (by omega) (by omega) (by decide) ?_;have g2:=cD (m:=1) g1;simp only[cS,cV]at g2;simp only[↓pa,↓reduceIte,reduceEqDiff,eF,cS,cV];refine bc g2 (by rw[ae,htl];simp;omega) hdl (by omega) (by omega) (by decide) ?_;have g3:=cD (m:=0+(o.length-k)) g2;simp only[cS,cV]at g3;simp (maxSteps:=1000000) (disch:=omega)only[↓pa,pb,ak,↓reduceIte,reduceEqDiff,reduceCtorEq,f0,f4,eF,cS,cV];refine⟨l.length- (i+1),by omega,i+1,_,rfl,by omega,?_,rfl,.inr ⟨_,rfl,g3.1,by rw[hnext,hins,<-hins2];exact g3.2.1⟩,by simp[St.count,St.more_fl,hfl]⟩;rw[hnext,hins,hins2,hcell]
    ·have hcut:aF.cut true o.length k (.own j 133)= .el j 133 o.length:=by simp[aF.cut,hkm,aF.elt]
     obtain⟨ha,hJ⟩:=wR (st:=st.more [0+(o.length-k)]) (e:=133) (sz:=2) (b:=32) (n:=k) (c:=o.length) (j:=j) (cs:=(nf (o.take k)).flatMap fc) (y:= .list 1 [S l[i],S []] (.full 133)) (by omega) (by simp[St.more];omega) (by simp[St.more,hj,hjc]) (by rw[St.more_fl,hfl];omega) (oz hpl2) rfl;have g1:Gr 133 (fY (st.more [0+(o.length-k)]) j k).nx (fY (st.more [0+(o.length-k)]) j k).cnt k (.own (st.more [0+(o.length-k)]).nx 133):=⟨by simp[fY,St.more],by
      have:¬ (st.nx+1=j):=by omega
      simp[fY,St.more,this],rfl⟩
     have k0:= @gU [j] _ (eL (nf l));have k4:bY [j] (I i)=I i:=gU (bh _ _);have k6:bY [j] (.list (0+(o.length-k)) ((nf (o.drop k)).flatMap fc) (.own st.nx 133))= .list (0+(o.length-k)) ((nf (o.drop k)).flatMap fc) (.own st.nx 133):=by
      have:¬ (st.nx=j):=by omega
      have ht:=oz (J:=[j]) hpl1;rw[bY,am];simp only[tf,ht,bv];simp[aF.free,aF.of,this]
     simp only[hcut,ha,hJ,cV];refine bc g1 htl rfl (by omega) (by omega) (by decide) ?_;have g2:=cD (m:=1) g1;simp only[cS,cV]at g2;simp only[↓pa,↓reduceIte,reduceEqDiff,eF,cS,cV,k6];refine bc g2 (by rw[ae,htl];simp;omega) hdl (by omega) (by omega) (by decide) ?_;have g3:=cD (m:=0+(o.length-k)) g2;simp only[cS,cV]at g3;simp (maxSteps:=1000000) (disch:=omega)only[↓pa,pb,ak,↓reduceIte,reduceEqDiff,reduceCtorEq,f0,f4,eF,cS,cV,k0,k4];refine⟨l.length- (i+1),by omega,i+1,_,rfl,by omega,?_,rfl,.inr ⟨_,rfl,g3.1,by rw[hnext,hins,<-hins2];exact g3.2.1⟩,by simp[St.count,St.more_fl,fY,hfl]⟩;rw[hnext,hins,hins2,hcell]
def cc(c:Ch):List PV:=[I c.kind,I c.node.id,TX c.node.labels,FX c.node.fields,I c.edge.id,S c.edge.type,I c.edge.src,I c.edge.dst,FX c.edge.fields,S c.value,S c.name,S c.text]
@[reducible] def HX (l:List Ch):PV:= .list l.length (l.flatMap cc) .no
def iC(c:Ch):(cc c).length=12:=rfl
def gz(c:Ch):cZ (cc c):=bQ (bh _ _) (kW (ps:=nc c.node) (ny _) (kW (ps:=ec c.edge) (nH _) (bQ (bR _) (bQ (bR _) (bQ (bR _) eC)))))
def fS(l:List Ch):dq (HX l):=gk (fP cc gz l)
def cF(what n v:List UInt8):List PV:=[I 6,I 0,.list 0 [] .nil,.list 0 [] .nil,I 0,S [],I 0,I 0,.list 0 [] .nil,S what,S n,S v]
def FK(what n v:List UInt8):aQ (cF what n v)=cc (HJ what n v):=rfl
def Qy{vs:List PV}{a b c d e f g h i j k l:PV}(hl:vs.length=12):bS [a,b,c,d,e,f,g,h,i,j,k,l] 0 vs=vs:=jm (by rw[hl];rfl)
def zx{f n:Nat}{cs:List PV}{t:aF}{p:PV}(h:cZ cs)(hp:dq p)(hf:nU f=false:=by rfl):az cf f [.list n cs t,p] [] st=az cf f [.list n cs .no,p] [] st:=by
 have hp':=dD (ps:=[p]) (by simpa using hp);have e1:bF p=true:=by simpa using hp'.1
 have e2:aO p=p:=by simpa using hp'.2
 have q:bF (.list n cs t)=true:=by simp only[bF,aH,h.1,ay]
 have q2:bF (.list n cs .no)=true:=by simp only[bF,aH,h.1,ay]
 have hs:([PV.list n cs t,p].map aO)=[.list n cs .no,p]:=by simp only[bg,cJ,fO,h.2.1,e2]
 rw[kR (by simp[q,e1]) (by rw[hs];simp[q2,e1]) (by rw[hs];simp only[bg,cJ,fO,h.2.1,e2]) hf,hs]
def IC{a b:List Fd}{i:Nat}(h:i<b.length):jC a (b.take (i+1))=if eI a b[i].1=fX then jC a (b.take i)++[b[i].1]else jC a (b.take i):=by
 unfold jC;rw[aV h,cn,pe];by_cases hd:eI a b[i].1=fX<;>simp[hd]
def C4(a b:List Fd):(jC a b).length<=b.length:=by
 unfold jC;exact dJ (List.length_filter_le _ _) (by simp)
def uS{α β:Type}{f:α->List β}{l:List α}{i:Nat}(h:i<l.length):(l.take (i+1)).flatMap f=(l.take i).flatMap f++f l[i]:=by
 rw[aV h,bA];simp
def jM{α β:Type}{f:α->List β}{m:Nat}(h:∀ a,(f a).length<=m):∀ l:List α,(l.flatMap f).length<=l.length*m
 | []=>by simp
 |a::l=>by
  have:=jM h l;have:=h a;rw[be,ae,aA,fM];omega
def QX(l:List (List UInt8)):FX (nf l)= .list l.length ((nf l).flatMap fc) .no:=by rw[FX,sH]
def Fg(what:List UInt8)(b:List Fd)(s:List UInt8):(rX what b s).length<=1:=by unfold rX;split<;>simp
def Ff(what:List UInt8)(a b:List Fd)(s:List UInt8):(rW what a b s).length<=1:=by unfold rW;split<;>(try split)<;>simp
def ud(g:Bool)(what:List UInt8)(a b:List Fd)(s:List UInt8):(ln g what a b s).length<=1:=by unfold ln;split<;>simp
def I6(K:bO cf)(what:List UInt8)(a b:List Fd)(hn:(a.map (·.1)++jC a b).Nodup)(h1:a.length<=1000000)(h2:b.length<=1000000):∃ r,r=HX (nV what a b)/\∃ fl,az cf 97 [S what,FX a,FX b] [] st=some (r,db st fl):=by
 refine lu K.tab (F:=F97) (Q:=fun r=>r=HX (nV what a b)) rfl rfl rfl (lb rfl) (by simp[eL,bR]) 3000000 ?_;have hma:=eH a;have hmb:=eH b;simp only[F97,↓qU,reduceAdd,reduceSub];simp only[↓pa,↓au,pb,ah,↓reduceIte,reduceAdd,reduceLT,cG,da];refine a7 (fun q fr st=>∃ (i:Nat) (tok:aF),q=a.length-i/\i<=a.length/\fr 0=S what/\fr 1=FX a/\fr 2=FX b/\fr 7= .list i ((nf ((a.take i).map (·.1))).flatMap fc) tok/\fr 8=I i/\Gr 133 st.nx st.cnt i tok) a.length (by omega)
  ⟨0,.full 133,by simp,by omega,by simp only[↓pa,↓reduceIte,reduceCtorEq],by simp only[↓pa,↓reduceIte,reduceEqDiff],by simp only[↓pa,↓reduceIte,reduceEqDiff],by simp only[↓pa,↓reduceIte,reduceEqDiff];rfl,by simp only[↓pa,↓reduceIte];rfl,gV⟩ ?_
 rintro q fr st ⟨i,tok,rfl,hi,f0,f1,f2,f7,f8,hG⟩;have hml:((nf ((a.take i).map (·.1))).flatMap fc).length=i*2:=by rw[iO,bJ,aL];congr 1;omega
 simp only[↓pa,pb,ak,↓reduceIte,reduceEqDiff,f1,f8];refine af (fun k1=>?_) (fun k1=>?_)
 ·have hlt:i<a.length:=k1;have hcell:(nf ((a.take i).map (·.1))).flatMap fc++[S a[i].1,S []]=(nf ((a.take (i+1)).map (·.1))).flatMap fc:=by
   rw[aV hlt,cn,l8];rfl
  simp (maxSteps:=1000000) (disch:=omega)only[↓pa,↓au,pb,ah,↓reduceIte,reduceEqDiff,reduceAdd,reduceLeDiff,reduceLT,f1,f7,f8,k1,aI,km hlt];refine bc hG hml rfl (by omega) (by omega) (by decide) ?_;simp (maxSteps:=1000000) (disch:=omega)only[↓pa,pb,ak,↓reduceIte,reduceEqDiff,reduceCtorEq,f0,f1,f2,f8];exact⟨a.length- (i+1),by omega,i+1,cS 133 tok st,rfl,by omega,by rw[<-hcell],rfl,cD hG⟩
 have hia:a.take i=a:=aM (by omega);have hie:i=a.length:=by omega
 subst hie;rw[hia]at f7;simp only[↓pa,pb,k1];refine a7 (fun q fr st=>∃ (i:Nat) (tok:aF),q=b.length-i/\i<=b.length/\fr 0=S what/\fr 1=FX a/\fr 2=FX b/\fr 7= .list (a.map (·.1)++jC a (b.take i)).length ((nf (a.map (·.1)++jC a (b.take i))).flatMap fc) tok/\fr 9=I i/\Gr 133 st.nx st.cnt (a.map (·.1)++jC a (b.take i)).length tok) b.length (by omega)
  ⟨0,tok,by simp,by omega,by simp only[↓pa,↓reduceIte,reduceCtorEq,f0],by simp only[↓pa,↓reduceIte,reduceEqDiff,f1],by simp only[↓pa,↓reduceIte,reduceEqDiff,f2],by simp only[↓pa,↓reduceIte,reduceEqDiff,f7];simp[jC],by simp only[↓pa,↓reduceIte];rfl,by simpa [jC]using hG⟩ ?_
 clear f0 f1 f2 f7 f8 hG hml k1;rintro q fr st ⟨i,tok,rfl,hi,f0,f1,f2,f7,f9,hG⟩;have hml:=iO (a.map (·.1)++jC a (b.take i));have hbl:=C4 a (b.take i);have hbl2:(b.take i).length<=b.length:=by rw[aL];omega
 have hll:(a.map (·.1)++jC a (b.take i)).length<=2000000:=by rw[ae,bJ];omega
 simp only[↓pa,pb,ak,↓reduceIte,reduceEqDiff,f2,f9];refine af (fun k1=>?_) (fun k1=>?_)
 ·have hlt:i<b.length:=k1;have hnext:=IC (a:=a) hlt;have hfv:=fun st=>Ak (st:=st) K a b[i].1 (by omega);simp (maxSteps:=1000000) (disch:=omega)only[↓pa,pb,↓reduceIte,reduceEqDiff,f1,f2,f9,k1,aI,km hlt,hfv,zQ];refine af (fun k2=>?_) (fun k2=>?_)
  ·rw[am k2]at hnext;simp (maxSteps:=1000000) (disch:=omega)only[↓pa,↓au,pb,ah,↓reduceIte,reduceEqDiff,reduceAdd,reduceLeDiff,reduceLT,f2,f7,f9,k2,aI,km hlt];refine bc hG hml rfl (by omega) (by omega) (by decide) ?_;simp (maxSteps:=1000000) (disch:=omega)only[↓pa,pb,ak,↓reduceIte,reduceEqDiff,reduceCtorEq,f0,f1,f2,f9];exact⟨b.length- (i+1),by omega,i+1,cS 133 tok st,rfl,by omega,by rw[hnext,<-bn,l8 _ [b[i].1],ae (bs:=[b[i].1])];rfl,rfl,by rw[hnext,<-bn,ae (bs:=[b[i].1])];exact cD hG⟩
  ·rw[ai k2]at hnext;simp (maxSteps:=1000000) (disch:=omega)only[↓pa,pb,ak,↓reduceIte,reduceEqDiff,reduceCtorEq,f0,f1,f2,f7,f9,k2];exact⟨b.length- (i+1),by omega,i+1,tok,rfl,by omega,by rw[hnext],rfl,by rw[hnext];exact hG⟩
 have hib:b.take i=b:=aM (by omega);rw[hib]at f7 hG hml hll;have hsl:=qE (a.map (·.1)++jC a b);have hcs:∀ st,∃ r,r=FX (nf (nT a b))/\∃ fl,az cf 132 [.list (a.map (·.1)++jC a b).length ((nf (a.map (·.1)++jC a b)).flatMap fc) tok] [] st=some (r,db st fl):=fun st=>by
  rw[vw (tZ _),<-QX];exact MG (st:=st) K _ hn hll
 simp only[↓pa,pb,↓reduceIte,reduceEqDiff,f7,k1];refine jd (hcs _) (fun fl=>?_);have hsl:(nT a b).length<=2000000:=by unfold nT;omega
 generalize hN:nT a b=N at*;have hmN:=iO N;have hmN2:=sH N;simp only[↓pa,↓au,pb,ah,↓reduceIte,reduceAdd,reduceLT,cG,da];clear f7 f9 hG;refine a7 (fun q fr st=>∃ (i:Nat) (cs ds:List PV) (tok tok2:aF),q=N.length-i/\i<=N.length/\fr 0=S what/\fr 1=FX a/\fr 2=FX b/\fr 7=FX (nf N)/\fr 10= .list ((N.take i).flatMap (rX what b)).length cs tok/\fr 11= .list ((N.take i).flatMap (rW what a b)).length ds tok2/\fr 12=I i/\
   fK cc 12 ((N.take i).flatMap (rX what b)) cs/\fK cc 12 ((N.take i).flatMap (rW what a b)) ds/\Gr 85 st.nx st.cnt ((N.take i).flatMap (rX what b)).length tok/\Gr 85 st.nx st.cnt ((N.take i).flatMap (rW what a b)).length tok2/\jr tok tok2) N.length (by omega)
  ⟨0,[],[],.full 85,.full 85,by simp,by omega,by simp only[↓pa,↓reduceIte,reduceCtorEq,f0],by simp only[↓pa,↓reduceIte,reduceEqDiff,f1],by simp only[↓pa,↓reduceIte,reduceEqDiff,f2],by simp only[↓pa,↓reduceIte,reduceEqDiff],by simp only[↓pa,↓reduceIte,reduceEqDiff];rfl,by simp only[↓pa,↓reduceIte,reduceEqDiff];rfl,by simp only[↓pa,↓reduceIte];rfl,qx,qx,gV,gV,trivial⟩ ?_
 clear f0 f1 f2 k1;rintro q fr st ⟨i,cs,ds,tok,tok2,rfl,hi,f0,f1,f2,f7,f10,f11,f12,hL1,hL2,hG1,hG2,hap⟩;have hb1:=jM (Fg what b) (N.take i);have hb2:=jM (Ff what a b) (N.take i);rw[aL]at hb1 hb2;simp only[↓pa,pb,ak,↓reduceIte,reduceEqDiff,f7,f12,hmN2];refine af (fun k1=>?_) (fun k1=>?_)
 ·have hlt:i<N.length:=k1;have hnG:=uS (f:=rX what b) hlt;have hnO:=uS (f:=rW what a b) hlt;have hfb:=fun st=>Ak (st:=st) K b N[i] (by omega);have hfa:=fun st=>Ak (st:=st) K a N[i] (by omega);simp (maxSteps:=1000000) (disch:=omega)only[↓pa,↓au,pb,ah,↓reduceIte,reduceEqDiff,reduceAdd,reduceLeDiff,reduceCtorEq,f0,f2,f7,f12,k1,hmN2,aI,D0 hlt,hfb,zQ];refine af (fun k2=>?_) (fun k2=>?_)
  ·rw[rX,am k2]at hnG;rw[rW,am k2,aD]at hnO;simp only[↓pa,↓au,pb,ah,↓reduceIte,reduceEqDiff,reduceAdd,reduceLeDiff,reduceLT,f10,k2];refine jN (e2:=85) (n2:=((N.take i).flatMap (rW what a b)).length) (u:=tok2) hG1 hL1.len rfl (by omega) (by omega) (by decide) hG2 hap (fun st1 tk' ho hG1' hG2' hap'=>?_);simp (maxSteps:=1000000) (disch:=omega)only[↓pa,pb,ak,↓reduceIte,reduceEqDiff,reduceCtorEq,f0,f1,f2,f7,f11,f12];exact⟨N.length- (i+1),by omega,i+1,_,ds,tk',tok2,rfl,by omega,by rw[hnG,ae];rfl,by rw[hnO],rfl,by rw[hnG];exact gY hL1 rfl (by rw[k2];rfl) rfl,by rw[hnO];exact hL2,by rw[hnG,ae];exact hG1',by rw[hnO];exact hG2',hap'⟩
  ·rw[rX,ai k2,aD]at hnG;rw[rW,ai k2]at hnO;simp (maxSteps:=1000000) (disch:=omega)only[↓pa,pb,↓reduceIte,reduceEqDiff,al,f1,f7,f12,k2,aI,D0 hlt,hfa];refine af (fun k3=>?_) (fun k3=>?_)
   ·rw[ai (by simp[k3]),aD]at hnO;simp (maxSteps:=1000000) (disch:=omega)only[↓pa,pb,ak,↓reduceIte,reduceEqDiff,reduceCtorEq,f0,f1,f2,f7,f10,f11,f12,k3];exact⟨N.length- (i+1),by omega,i+1,cs,ds,tok,tok2,rfl,by omega,by rw[hnG],by rw[hnO],rfl,by rw[hnG];exact hL1,by rw[hnO];exact hL2,by rw[hnG];exact hG1,by rw[hnO];exact hG2,hap⟩
   ·rw[am k3]at hnO;simp only[↓pa,↓au,pb,ah,↓reduceIte,reduceEqDiff,reduceAdd,reduceLeDiff,reduceLT,f11,k3];refine jN (e2:=85) (n2:=((N.take i).flatMap (rX what b)).length) (u:=tok) hG2 hL2.len rfl (by omega) (by omega) (by decide) hG1 (gC hap) (fun st1 tk' ho hG2' hG1' hap'=>?_);simp (maxSteps:=1000000) (disch:=omega)only[↓pa,pb,ak,↓reduceIte,reduceEqDiff,reduceCtorEq,f0,f1,f2,f7,f10,f12];exact⟨N.length- (i+1),by omega,i+1,cs,_,tok,tk',rfl,by omega,by rw[hnG],by rw[hnO,ae];rfl,rfl,by rw[hnG];exact hL1,by rw[hnO];exact gY hL2 rfl (FK _ _ _) rfl,by rw[hnG];exact hG1',by rw[hnO,ae];exact hG2',gC hap'⟩
 ·have hiN:N.take i=N:=aM (by omega);rw[hiN]at hL1 hL2 hG1 hG2 hb1 hb2 f10 f11;simp only[↓pa,↓au,pb,↓reduceIte,reduceEqDiff,f10,f11,k1];refine bc hG1 hL1.len hL2.len (by omega) (by omega) (by decide) ?_;simp only[↓pa,pb,aH,↓reduceIte,iy,hL1.np,hL2.np,gv,hL1.st,hL2.st];rw[nV,hN,HX,ae,bA]
def GK{e sz bytes n m:Nat}{cs ds:List PV}{tk u:aF}{X Y:List (Nat×Nat)}(ht:jA e tk)(hs:aY (.list n cs tk)=true)(hd:bq ds=true)(hk:a8 st (X++aB (.list n cs tk)++Y++aw ds))(hf:st.fl<=st.nx)
  (h1:cs.length=n*sz) (h2:ds.length=m*sz) (h3:(n+m) *bytes<=140737488355328) (h4:n+m<=140737488355328) (h5:0<sz)
  (k:∀ st' tk',jA e tk'->aY (.list (n+m) (cs++ds) tk')=true->a8 st' (X++aB (.list (n+m) (cs++ds) tk')++Y)->st'.objs=st.objs->st'.fl=st.fl->st.nx<=st'.nx->A (mk (.list (n+m) (cs++ds) tk') st')):dj (r7 e sz bytes (.list n cs tk) (.list m ds u) st) mk A:=by
 have hsc:bq cs=true:=by simp only[aY,aj]at hs;exact hs.2
 have hsa:bq (cs++ds)=true:=by rw[eu,hsc,hd];rfl
 rcases ht with rfl|⟨j,rfl⟩
 ·have hc:cs=[]:=by simp only[aY,aj,qz]at hs;exact hs.1
  subst hc;have hn:n=0:=by
   simp only[a6]at h1;rcases je n with h|h
   ·exact h
   ·have:=Nat.mul_pos h h5;omega
  subst hn;refine⟨_,_,tD (show Gr e st.nx st.cnt 0 .nil from rfl) h1 h2 h3 h4 h5,?_⟩;refine k _ _ (.inr ⟨_,rfl⟩) (by simp only[cS,aY,hsa,ay]) ?_ jX rfl (by simp[cV,St.more]);have:=cK hk hf [0+m];refine wU this (fun q=>?_) (fun q hq=>?_)
  ·simp only[cS,aB,bt,ck,cB,aU,aw];omega
  ·simp only[cS,aB,cB,aU,aw,aG,aZ,eo,or_false]at hq ⊢;rcases hq with(h|h|h)|h<;>simp[h]
 ·have hj:=hk.2 (j,n) (by simp[aB]);refine⟨_,_,tD (show Gr e st.nx st.cnt n (.own j e)from⟨hj.1,hj.2.1,rfl⟩) h1 h2 h3 h4 h5,?_⟩;refine k _ _ (.inr ⟨_,rfl⟩) (by simp only[cS,aY,hsa,ay]) ?_ jX rfl (aP _);have hne:∀ q,q∈X\/q∈aw cs\/q∈Y\/q∈aw ds->q.1≠j:=by
   intro q hq he;have:=hk.1 j;simp only[aB,bt,ck,if_true]at this;have h0:0<ck j X\/0<ck j (aw cs)\/0<ck j Y\/0<ck j (aw ds):=by
    rcases hq with h|h|h|h
    ·exact .inl (fJ.2 ⟨q,h,he⟩)
    ·exact .inr (.inl (fJ.2 ⟨q,h,he⟩))
    ·exact .inr (.inr (.inl (fJ.2 ⟨q,h,he⟩)))
    ·exact .inr (.inr (.inr (fJ.2 ⟨q,h,he⟩)))
   omega
  refine⟨fun q=>?_,fun q hq=>?_⟩
  ·have:=hk.1 q;simp only[cS,aB,bt,ck,dP]at this ⊢;omega
  ·simp only[cS,aB,dP,aG,aZ,eo,or_false]at hq
   show q.1<st.nx/\(if q.1=j then n+m else st.cnt q.1)=q.2/\st.fl<=q.1;by_cases hqj:q=(j,n+m)
   ·subst hqj;exact⟨hj.1,by simp,hj.2.2⟩
   ·have hm:q∈X\/q∈aw cs\/q∈Y\/q∈aw ds:=by
     rcases hq with(h|h|h|h)|h<;>simp_all
    rw[ai (hne q hm)];refine hk.2 q ?_;simp only[aB,aG];rcases hm with h|h|h|h<;>simp[h]
def vV:∀ l:List (List UInt8),cZ (l.map S)
 | []=>eC
 |_::l=>bQ (bR _) (vV l)
def Bm{l:List Fd}{o:List (List UInt8)}{i:Nat}(h:i<l.length):((l.take (i+1)).map (·.1)).foldl (fun o x=>iD x o) o=iD l[i].1 (((l.take i).map (·.1)).foldl (fun o x=>iD x o) o):=by
 rw[aV h,cn,List.foldl_append];rfl
def nF(what:List UInt8)(a b:List Fd):Nat->List Ch
 |0=>[]
 |1=>(g9 a b).flatMap (ln true what a b)
 |_=>nW what a b
def sY(i:Nat):Bool:=decide (i=0)
def Kr(what:List UInt8)(a b:List Fd){i:Nat}(h:i<2):nF what a b (i+1)=nF what a b i++(g9 a b).flatMap (ln (sY i) what a b):=by
 match i,h with
 |0,_=>rfl
 |1,_=>rfl
def Mm(what:List UInt8)(a b:List Fd)(i:Nat):(nF what a b i).length<=2* (g9 a b).length:=by
 have h1:=jM (ud true what a b) (g9 a b);have h2:=jM (ud false what a b) (g9 a b)
 match i with
 |0=>simp[nF]
 |1=>rw[nF];omega
 |i+2=>rw[show nF what a b (i+2)=nW what a b from rfl,nW,ae];omega
def OD{x y:Bool}:PZ false (.bool x) (.bool y) st=some (.bool (x==y),st):=rfl
def Pa{i:Nat}(h:i<2):bL [PV.bool true,PV.bool false] i 1 false=some (.bool (sY i)):=by
 match i,h with
 |0,_=>rfl
 |1,_=>rfl
def LR{l:List (List UInt8)}{i:Nat}(h:i<l.length):bL (l.map S) i 1 false=some (S l[i]):=by
 rw[gZ h];simp[iV,h]
def I7(K:bO cf)(what:List UInt8)(a b:List Fd)(h1:a.length<=1000000)(h2:b.length<=1000000):∃ r ns,az cf 104 [S what,FX a,FX b] [] st=some (r,st.more ns)/\dC st.nx ns r/\aO r=HX (nW what a b):=by
 refine oT K.tab (F:=F104) (Q:=fun r=>r=HX (nW what a b)) rfl rfl rfl (lb rfl) (by simp[eL,bR]) 3000000 ?_;have hma:=eH a;have hmb:=eH b;simp only[F104,↓qU,reduceAdd,reduceSub];simp only[↓pa,pb,↓reduceIte,reduceEqDiff];refine a7 (fun q fr st=>∃ (i:Nat) (o:List (List UInt8)) (tok:aF),q=a.length-i/\i<=a.length/\fr 0=S what/\fr 1=FX a/\fr 2=FX b/\fr 18=FX a/\fr 19=I a.length/\fr 20=I i/\fr 7= .list o.length (o.map S) tok/\o=iI ((a.take i).map (·.1))/\st.fl<=st.nx) a.length (by omega)
  ⟨0,[],.nil,by simp,by omega,by simp only[↓pa,↓reduceIte,reduceCtorEq],by simp only[↓pa,↓reduceIte,reduceEqDiff],by simp only[↓pa,↓reduceIte,reduceEqDiff],by simp only[↓pa,↓reduceIte,reduceEqDiff],by simp only[↓pa,↓reduceIte,reduceEqDiff],by simp only[↓pa,↓reduceIte]<;>rfl,by simp only[↓pa,pb,↓reduceIte,reduceEqDiff]<;>rfl,rfl,aP _⟩ ?_
 rintro q fr st ⟨i,o,tok,rfl,hi,f0,f1,f2,f18,f19,f20,f7,ho,hfl⟩;have hol:=qE ((a.take i).map (·.1));rw[<-ho,bJ,aL]at hol;simp only[↓pa,pb,ak,↓reduceIte,f19,f20];refine af (fun k1=>?_) (fun k1=>?_)
 ·have hlt:i<a.length:=k1;have hc:∀ st,∃ r,r=TX (iD a[i].1 o)/\∃ fl,az cf 133 [.list o.length (o.map S) tok,S a[i].1] [] st=some (r,db st fl):=fun st=>by
   rw[zx (vV o) (bR _)];exact KY (st:=st) K o a[i].1 (by omega)
  simp (maxSteps:=1000000) (disch:=omega)only[↓pa,pb,ah,↓reduceIte,reduceEqDiff,reduceAdd,reduceLeDiff,f18,f20,f7,k1,mn hlt];refine wX (hc _) hfl (fun fl hfl'=>?_);simp (maxSteps:=1000000) (disch:=omega)only[↓pa,pb,ah,ak,↓reduceIte,reduceEqDiff,reduceCtorEq,f0,f1,f2,f18,f19,f20];exact⟨a.length- (i+1),by omega,i+1,iD a[i].1 o,.no,rfl,by omega,rfl,rfl,by rw[iI,Bm hlt,ho];rfl,hfl'⟩
 have hia:a.take i=a:=aM (by omega);rw[hia]at ho;simp only[↓pa,pb,↓reduceIte,reduceEqDiff,f2,k1];refine a7 (fun q fr st=>∃ (i:Nat) (o:List (List UInt8)) (tok:aF),q=b.length-i/\i<=b.length/\fr 0=S what/\fr 1=FX a/\fr 2=FX b/\fr 29=FX b/\fr 30=I b.length/\fr 31=I i/\fr 7= .list o.length (o.map S) tok/\o=((b.take i).map (·.1)).foldl (fun o x=>iD x o) (iI (a.map (·.1)))/\st.fl<=st.nx) b.length (by omega)
  ⟨0,o,tok,by simp,by omega,by simp only[↓pa,↓reduceIte,reduceCtorEq,f0],by simp only[↓pa,↓reduceIte,reduceEqDiff,f1],by simp only[↓pa,↓reduceIte,reduceEqDiff,f2],by simp only[↓pa,↓reduceIte,reduceEqDiff],by simp only[↓pa,↓reduceIte,reduceEqDiff],by simp only[↓pa,↓reduceIte]<;>rfl,by simp only[↓pa,↓reduceIte,reduceEqDiff,f7],ho,hfl⟩ ?_
 clear f0 f1 f2 f18 f19 f20 f7 hfl k1 hol ho tok o hia hi;rintro q fr st ⟨i,o,tok,rfl,hi,f0,f1,f2,f18,f19,f20,f7,ho,hfl⟩;have hol:=wz (l:=(b.take i).map (·.1)) (o:=iI (a.map (·.1)));have hol2:=qE (a.map (·.1));rw[<-ho,bJ,aL]at hol;rw[bJ]at hol2;simp only[↓pa,pb,ak,↓reduceIte,f19,f20];refine af (fun k1=>?_) (fun k1=>?_)
 ·have hlt:i<b.length:=k1;have hc:∀ st,∃ r,r=TX (iD b[i].1 o)/\∃ fl,az cf 133 [.list o.length (o.map S) tok,S b[i].1] [] st=some (r,db st fl):=fun st=>by
   rw[zx (vV o) (bR _)];exact KY (st:=st) K o b[i].1 (by omega)
  simp (maxSteps:=1000000) (disch:=omega)only[↓pa,pb,ah,↓reduceIte,reduceEqDiff,reduceAdd,reduceLeDiff,f18,f20,f7,k1,mn hlt];refine wX (hc _) hfl (fun fl hfl'=>?_);simp (maxSteps:=1000000) (disch:=omega)only[↓pa,pb,ah,ak,↓reduceIte,reduceEqDiff,reduceCtorEq,f0,f1,f2,f18,f19,f20];exact⟨b.length- (i+1),by omega,i+1,iD b[i].1 o,.no,rfl,by omega,rfl,rfl,by rw[Bm hlt,ho],hfl'⟩
 have hia:b.take i=b:=aM (by omega);rw[hia]at ho;have hN:o=g9 a b:=ho;have hnl:(g9 a b).length<=2000000:=by rw[<-hN];omega
 rw[hN]at f7;clear ho hol hol2 hN hia hi f18 f19 f20;simp only[↓pa,↓au,pb,ah,↓reduceIte,reduceAdd,reduceLeDiff,reduceLT,k1];clear k1;refine a7 (fun q fr st=>∃ (i:Nat) (cs:List PV) (tk:aF),q=2-i/\i<=2/\fr 0=S what/\fr 1=FX a/\fr 2=FX b/\fr 40= .list 2 [.bool true,.bool false] (.full 4)/\fr 41=I 2/\fr 42=I i/\fr 7= .list (g9 a b).length ((g9 a b).map S) tok/\fr 12= .list (nF what a b i).length cs tk/\
   fK cc 12 (nF what a b i) cs/\jA 85 tk/\aY (.list (nF what a b i).length cs tk)=true/\a8 st ([]++aB (.list (nF what a b i).length cs tk)++[])/\st.fl<=st.nx) 2 (by omega)
  ⟨0,[],.nil,by simp,by omega,by simp only[↓pa,↓reduceIte,reduceCtorEq,f0],by simp only[↓pa,↓reduceIte,reduceEqDiff,f1],by simp only[↓pa,↓reduceIte,reduceEqDiff,f2],by simp only[↓pa,↓reduceIte,reduceEqDiff]<;>rfl,by simp only[↓pa,↓reduceIte,reduceEqDiff]<;>rfl,by simp only[↓pa,↓reduceIte]<;>rfl,by simp only[↓pa,↓reduceIte,reduceEqDiff,f7],by simp only[↓pa,↓reduceIte,reduceEqDiff]<;>rfl,qx,.inl rfl,rfl,eN,hfl⟩ ?_
 clear f0 f1 f2 f7 hfl;rintro q fr st ⟨i,cs,tk,rfl,hi,f0,f1,f2,f40,f41,f42,f7,f12,hL,hto,hso,hT,hfl⟩;have hfl2:=Mm what a b i;have hl2:([PV.bool true,PV.bool false]:List PV).length=2:=rfl;simp only[↓pa,pb,↓reduceIte,f41,f42];refine af (fun k1=>?_) (fun k1=>?_);rotate_left
 ·have hi2:i=2:=by omega
  subst hi2;simp only[↓pa,pb,↓reduceIte,reduceEqDiff,di,f12,k1];refine⟨rfl,hL.np,hso,?_,?_⟩
  ·simpa using hT
  ·simp only[aH,hL.st];rfl
 have hlt:i<2:=by omega
 have hnx:=Kr what a b hlt;generalize hN:g9 a b=N at*;have hmN:(N.map S).length=N.length:=by simp
 simp (maxSteps:=1000000) (disch:=omega)only[↓pa,pb,↓reduceIte,reduceEqDiff,f40,f42,f7,k1,eh,Pa hlt];refine a7 (fun q fr st=>∃ (j:Nat) (cs:List PV) (tk:aF),q=N.length-j/\j<=N.length/\fr 0=S what/\fr 1=FX a/\fr 2=FX b/\fr 40= .list 2 [.bool true,.bool false] (.full 4)/\fr 41=I 2/\fr 42=I i/\fr 7= .list N.length (N.map S) tok/\fr 14= .bool (sY i)/\fr 46= .list N.length (N.map S) tok/\fr 47=I N.length/\fr 48=I j/\
   fr 12= .list (nF what a b i++(N.take j).flatMap (ln (sY i) what a b)).length cs tk/\
   fK cc 12 (nF what a b i++(N.take j).flatMap (ln (sY i) what a b)) cs/\jA 85 tk/\aY (.list (nF what a b i++(N.take j).flatMap (ln (sY i) what a b)).length cs tk)=true/\a8 st ([]++aB (.list (nF what a b i++(N.take j).flatMap (ln (sY i) what a b)).length cs tk)++[])/\st.fl<=st.nx) N.length (by omega)
  ⟨0,cs,tk,by simp,by omega,by simp only[↓pa,↓reduceIte,reduceCtorEq,f0],by simp only[↓pa,↓reduceIte,reduceEqDiff,f1],by simp only[↓pa,↓reduceIte,reduceEqDiff,f2],by simp only[↓pa,↓reduceIte,reduceEqDiff,f40],by simp only[↓pa,↓reduceIte,reduceEqDiff,f41],by simp only[↓pa,↓reduceIte,reduceEqDiff,f42],by simp only[↓pa,↓reduceIte,reduceEqDiff,f7],by simp only[↓pa,↓reduceIte,reduceEqDiff],by simp only[↓pa,↓reduceIte,reduceEqDiff],by simp only[↓pa,↓reduceIte,reduceEqDiff],by simp only[↓pa,↓reduceIte]<;>rfl,by simp only[↓pa,↓reduceIte,reduceEqDiff,f12];simp,by simpa using hL,hto,by simpa using hso,by simpa using hT,hfl⟩ ?_
 clear f0 f1 f2 f40 f41 f42 f7 f12 hfl hL hto hso hT;rintro q fr st ⟨j,cs,tk,rfl,hj,f0,f1,f2,f40,f41,f42,f7,f14,f46,f47,f48,f12,hL,hto,hso,hT,hfl⟩;have hb1:=jM (ud (sY i) what a b) (N.take j);rw[aL]at hb1;have hlen:(nF what a b i++(N.take j).flatMap (ln (sY i) what a b)).length<=6000000:=by rw[ae];omega
 simp only[↓pa,pb,ak,↓reduceIte,f47,f48];refine af (fun m1=>?_) (fun m1=>?_);rotate_left
 ·have hjN:N.take j=N:=aM (by omega);rw[hjN,<-hnx]at hL hso hT f12;simp (maxSteps:=1000000) (disch:=omega)only[↓pa,pb,ak,↓reduceIte,reduceEqDiff,reduceCtorEq,f0,f1,f2,f40,f41,f42,f7,f12,m1];exact⟨2- (i+1),by omega,i+1,cs,tk,rfl,by omega,rfl,rfl,hL,hto,hso,hT,hfl⟩
 have hjt:j<N.length:=by omega
 have hns:=uS (f:=ln (sY i) what a b) hjt;have hfb:=fun st=>DC (st:=st) K b N[j] (by omega);have hfa:=fun st=>DC (st:=st) K a N[j] (by omega);simp (maxSteps:=1000000) (disch:=omega)only[↓pa,pb,↓reduceIte,reduceEqDiff,al,f1,f2,f46,f48,m1,eh,LR hjt,hfb,hfa,zQ];refine af (fun m2=>?_) (fun m2=>?_)
 ·rw[ln,ai (by simp[m2]),aD]at hns;simp (maxSteps:=1000000) (disch:=omega)only[↓pa,pb,ak,↓reduceIte,reduceEqDiff,reduceCtorEq,f0,f1,f2,f40,f41,f42,f7,f14,f46,f47,f48,f12,m2];exact⟨N.length- (j+1),by omega,j+1,cs,tk,rfl,by omega,rfl,by rw[hns],by rw[hns];exact hL,hto,by rw[hns];exact hso,by rw[hns];exact hT,hfl⟩
 ·simp only[↓pa,pb,↓reduceIte,reduceEqDiff,f14,m2,OD];refine af (fun m3=>?_) (fun m3=>?_)
  ·have m3':decide (eI b N[j]=fX)=sY i:=by simpa using m3
   rw[ln,am ⟨m2,m3'⟩]at hns;have hcell:(nF what a b i++(N.take (j+1)).flatMap (ln (sY i) what a b))=(nF what a b i++(N.take j).flatMap (ln (sY i) what a b))++[HJ what N[j] (eI b N[j])]:=by rw[hns,bn]
   have hcl:(nF what a b i++(N.take (j+1)).flatMap (ln (sY i) what a b)).length=(nF what a b i++(N.take j).flatMap (ln (sY i) what a b)).length+1:=by rw[hcell,ae];rfl
   simp only[↓pa,↓au,pb,ah,↓reduceIte,reduceEqDiff,reduceAdd,reduceLeDiff,reduceLT,reduceCtorEq,f0,f12,m3];refine GK (X:=[]) (Y:=[]) hto hso (by rfl) (by have h:=hT;simp only[aU,aD]at h ⊢;exact(aD _).symm▸h) hfl hL.len rfl (by omega) (by omega) (by decide) (fun st1 tk1 hto1 hso1 hT1 ho1 hfl1 hnx1=>?_);simp (maxSteps:=1000000) (disch:=omega)only[↓pa,pb,ak,↓reduceIte,reduceEqDiff,reduceCtorEq,f0,f1,f2,f40,f41,f42,f7,f14,f46,f47,f48];exact⟨N.length- (j+1),by omega,j+1,_,tk1,rfl,by omega,rfl,by rw[hcl],by rw[hcell];exact gY hL rfl (FK _ _ _) rfl,hto1,by rw[hcl];exact hso1,by rw[hcl];exact hT1,by omega⟩
  ·have m3':¬decide (eI b N[j]=fX)=sY i:=by simpa using m3
   rw[ln,ai (fun h=>m3' h.2),aD]at hns;simp (maxSteps:=1000000) (disch:=omega)only[↓pa,pb,ak,↓reduceIte,reduceEqDiff,reduceCtorEq,f0,f1,f2,f40,f41,f42,f7,f14,f46,f47,f48,f12,m3];exact⟨N.length- (j+1),by omega,j+1,cs,tk,rfl,by omega,rfl,by rw[hns],by rw[hns];exact hL,hto,by rw[hns];exact hso,by rw[hns];exact hT,hfl⟩
end Go.PM
namespace Go.PM
open Go.Lib
def Gz{g:cj}(h:eD g=true):g.nodes.length<=200/\g.edges.length<=400/\(∀ i,i<g.nodes.length->fj g.nodes i=true)/\∀ i,i<g.edges.length->dl g i=true:=by
 unfold eD at h;rw[aj,aj,aj]at h;have h1:=of_decide_eq_true h.1.1;have h2:=of_decide_eq_true h.1.2;exact⟨by omega,by omega,qr.1 h.2.1,qr.1 h.2.2⟩
def pu{l:List Fd}(h:iE l=true):l.length<=20:=by
 unfold iE at h;rw[aj]at h;have:=of_decide_eq_true h.1;omega
def EI:∀ {l:List (List UInt8)},(∀ i,(h:i+1<l.length)->d4 l[i] l[i+1]=true)->j8 l
 | [],_=>List.Pairwise.nil
 | [a],_=>gH _ _
 |a::b::l,h=>by
  have ih:j8 (b::l):=EI fun i hi=>by
   have:=h (i+1) (by simp only[aA]at hi ⊢;omega);simpa using this
  have h0:d4 a b=true:=by simpa using h 0 (by simp)
  refine List.Pairwise.cons (fun c hc=>?_) ih;rcases aZ.1 hc with rfl|hc
  ·exact h0
  ·exact oD h0 ((bI.1 ih).1 c hc)
def Fe:kX fX=false:=by decide
def qR{l:List Fd}(h:iE l=true):uq l:=by
 unfold iE at h;rw[aj]at h;have hall:=qr.1 h.2;refine⟨EI fun i hi=>?_,fun f hf e=>?_⟩
 ·rw[bJ]at hi;have:=hall (i+1) hi;rw[ew,aj,aj,pW]at this;have h2:=this.2.1;simp only[pc,ue hi,ue (show i<l.length by omega),cY,decide_eq_true_eq]at h2;rcases h2 with h2|h2
  ·omega
  ·simpa using h2
 ·obtain⟨j,hj,he⟩:=d7 hf;have:=hall j hj;rw[ew,aj,aj,ue hj,he,e,Fe]at this;exact absurd this.2.2 (by simp)
def rm{l:List (List UInt8)}(h:jn 10 l=true):l.length<=10:=by
 unfold jn at h;rw[aj]at h;have:=of_decide_eq_true h.1;omega
def D3{n:Int}(h:lk n=true):1<=n/\n<=1000000000000:=by
 unfold lk at h;rw[aj]at h;exact⟨of_decide_eq_true h.1,of_decide_eq_true h.2⟩
structure Aw (n:Nd):Prop where
 fl:n.fields.length<=20
 ll:n.labels.length<=10
 fd:uq n.fields
 id:1<=n.id/\n.id<=1000000000000
structure Ay (e:Eg):Prop where
 fl:e.fields.length<=20
 fd:uq e.fields
 id:1<=e.id/\e.id<=1000000000000
def rv(l:List Eg):Prop:=l.Pairwise fun a b=>a.id<b.id
def Dr:∀ {l:List Eg},(∀ i,(h:i+1<l.length)->l[i].id<l[i+1].id)->rv l
 | [],_=>List.Pairwise.nil
 | [a],_=>gH _ _
 |a::b::l,h=>by
  have ih:rv (b::l):=Dr fun i hi=>by
   have:=h (i+1) (by simp only[aA]at hi ⊢;omega);simpa using this
  have h0:a.id<b.id:=by simpa using h 0 (by simp)
  refine List.Pairwise.cons (fun c hc=>?_) ih;rcases aZ.1 hc with rfl|hc
  ·exact h0
  ·exact lA h0 ((bI.1 ih).1 c hc)
structure oi (g:cj):Prop where
 nl:g.nodes.length<=200
 el:g.edges.length<=400
 ns:∀ n∈g.nodes,Aw n
 es:∀ e∈g.edges,Ay e
 nr:s6 g.nodes
 er:rv g.edges
def Nh{g:cj}(h:eD g=true):oi g:=by
 obtain⟨h1,h2,h3,h4⟩:=Gz h;refine⟨h1,h2,fun n hn=>?_,fun e he=>?_,Gy h,Dr fun i hi=>?_⟩
 ·obtain⟨j,hj,rfl⟩:=d7 hn;have:=h3 j hj;rw[fj,aj,l9 hj,pQ,aj,aj]at this;exact⟨pu this.1.2.2,rm this.1.2.1,qR this.1.2.2,D3 this.1.1⟩
 ·obtain⟨j,hj,rfl⟩:=d7 he;have:=h4 j hj;rw[dl,aj,oP hj,oN,aj,aj,aj,aj]at this;exact⟨pu this.1.2.2.2.2,qR this.1.2.2.2.2,D3 this.1.1⟩
 ·have:=h4 (i+1) hi;rw[dl,aj,aj,nX]at this;have h2:=this.2.1;simp only[pc,oP hi,oP (show i<g.edges.length by omega),cY,decide_eq_true_eq]at h2;rcases h2 with h2|h2
  ·omega
  ·exact h2
def vu(e:Eg):Ch:=⟨4,OX,⟨e.id,[],0,0,[]⟩,[],[],[]⟩
def vt(n:Nd):Ch:=⟨2,⟨n.id,[],[]⟩,Ni,[],[],[]⟩
def wI(n:Nd):Ch:=⟨1,n,Ni,[],[],[]⟩
def rz(e:Eg):Ch:=⟨3,OX,e,[],[],[]⟩
def ya(id:Int)(l:List (List UInt8)):Ch:=⟨5,⟨id,l,[]⟩,Ni,[],[],[]⟩
def oR(bE:List Eg)(e:Eg):List Ch:=if fH bE e then []else [vu e]
def oQ(bN:List Nd)(n:Nd):List Ch:=if cU bN n.id<0 then [vt n]else []
def oW(aN:List Nd)(n:Nd):List Ch:=if cU aN n.id<0 then [wI n]else []
def uk(aE:List Eg)(e:Eg):List Ch:=if fH aE e then []else [rz e]
def u5(aE bE:List Eg)(e:Eg):List Ch:=match ej aE e.id with
 |none=>[rz e]
 |some x=>if fH bE x then []else [rz e]
def sR(id:Int)(l m:List (List UInt8)):List Ch:=if l=m then []else [ya id m]
def ig(id:Int):List UInt8:=[110]++itoa id
def j9(id:Int):List UInt8:=[101]++itoa id
def rH(bN:List Nd)(n:Nd):List Ch:=match fz bN n.id with
 |none=>[]
 |some m=>sR n.id n.labels m.labels++nV (ig n.id) n.fields m.fields
def ri(aN:List Nd)(m:Nd):List Ch:=match fz aN m.id with
 |none=>[]
 |some n=>sR m.id n.labels m.labels++nW (ig m.id) n.fields m.fields
def qT(bE:List Eg)(e:Eg):List Ch:=match ej bE e.id with
 |none=>[]
 |some x=>if same x e then nV (j9 e.id) e.fields x.fields else []
def rx(aE bE:List Eg)(e:Eg):List Ch:=match ej aE e.id with
 |none=>[]
 |some x=>if fH bE x then nW (j9 e.id) x.fields e.fields else []
def pz(a b:cj):List Ch:=a.edges.flatMap (oR b.edges)++a.nodes.flatMap (oQ b.nodes)++b.nodes.flatMap (oW a.nodes)++b.edges.flatMap (uk a.edges)++a.nodes.flatMap (rH b.nodes)++a.edges.flatMap (qT b.edges)
def Bu(a b:cj):List Ch:=a.edges.flatMap (oR b.edges)++a.nodes.flatMap (oQ b.nodes)++b.nodes.flatMap (oW a.nodes)++b.edges.flatMap (u5 a.edges b.edges)++b.nodes.flatMap (ri a.nodes)++b.edges.flatMap (rx a.edges b.edges)
def pY{l:List Eg}{id:Int}{x:Eg}(h:ej l id=some x):x∈l/\x.id=id:=by
 unfold ej at h;exact⟨ov h,by simpa using List.find?_some h⟩
def sm{l:List Nd}{id:Int}{x:Nd}(h:fz l id=some x):x∈l/\x.id=id:=by
 unfold fz at h;exact⟨ov h,by simpa using List.find?_some h⟩
def Br:∀ {l:List Eg},rv l->∀ {x:Eg},x∈l->ej l x.id=some x
 | [],_,_,h=>by simp at h
 |y::l,hr,x,h=>by
  have h2:=bI.1 hr;unfold ej;rw[kh];rcases aZ.1 h with rfl|hx
  ·simp
  ·have:y.id<x.id:=h2.1 x hx;have hne:decide (y.id=x.id)=false:=by simp;omega
   rw[hne];exact Br h2.2 hx
def JH(x e:Eg):same x e=same e x:=by
 unfold same;congr 1
 ·exact decide_eq_decide.2 eq_comm
 ·congr 1<;>exact decide_eq_decide.2 eq_comm
def CH{l:List Eg}(hr:rv l){x e:Eg}(hx:e∈l)(hid:x.id=e.id):fH l x=same e x:=by
 rw[fH,hid,Br hr hx]
def gy{α β:Type}{f g:α->List β}:∀ {l:List α},(∀ a∈l,f a=g a)->l.flatMap f=l.flatMap g
 | [],_=>rfl
 |a::l,h=>by
  rw[be,be,h a List.mem_cons_self,gy fun x hx=>h x (ce _ hx)]
def Jb(G:Nd->Nd->List Ch):∀ {a b:List Nd},s6 a->s6 b->
  a.flatMap (fun n=>match fz b n.id with|none=>[]|some m=>G n m)=b.flatMap (fun m=>match fz a m.id with|none=>[]|some n=>G n m):=by
 intro a b
 induction a generalizing b with
 |nil=>
  intro _ _;rw[jG];have:∀ l:List Nd,l.flatMap (fun m=>match fz [] m.id with|none=>[]|some n=>G n m)=[]:=fun l=>by
   induction l with
   |nil=>rfl
   |cons x l ih=>rw[be,ih];rfl
  rw[this]
 |cons n a iha=>
  intro ha hb;have ha2:=bI.1 ha
  induction b with
  |nil=>
   have:∀ l:List Nd,l.flatMap (fun n=>match fz [] n.id with|none=>[]|some m=>G n m)=[]:=fun l=>by
    induction l with
    |nil=>rfl
    |cons x l ih=>rw[be,ih];rfl
   rw[this];rfl
  |cons m b ihb=>
   have hb2:=bI.1 hb;have skipN:∀ {x:Nd} {l:List Nd} {id:Int},x.id≠id->fz (x::l) id=fz l id:=fun{x l id} h=>by
    unfold fz;rw[kh,decide_eq_false h]
   have none_of:∀ {l:List Nd} {id:Int},(∀ x∈l,id<x.id)->fz l id=none:=fun{l id} h=>by
    unfold fz;rw[List.find?_eq_none];intro x hx;have:=h x hx;simp;omega
   by_cases h:n.id<m.id
   ·rw[be];have e1:fz (m::b) n.id=none:=none_of fun x hx=>by
     rcases aZ.1 hx with rfl|hx
     ·exact h
     ·exact lA h (hb2.1 x hx)
    rw[e1,aU,iha ha2.2 hb];refine gy fun x hx=>?_;have:n.id≠x.id:=by
     rcases aZ.1 hx with rfl|hx
     ·omega
     ·have:=hb2.1 x hx;omega
    rw[skipN this]
   ·by_cases h2:m.id<n.id
    ·conv=>rhs;rw[be]
     have e1:fz (n::a) m.id=none:=none_of fun x hx=>by
      rcases aZ.1 hx with rfl|hx
      ·exact h2
      ·exact lA h2 (ha2.1 x hx)
     rw[e1,aU,<-ihb hb2.2];refine gy fun x hx=>?_;have:m.id≠x.id:=by
      rcases aZ.1 hx with rfl|hx
      ·omega
      ·have:=ha2.1 x hx;omega
     rw[skipN this]
    ·have he:m.id=n.id:=by omega
     rw[be,be];have e1:fz (m::b) n.id=some m:=by unfold fz;rw[kh,decide_eq_true he]
     have e2:fz (n::a) m.id=some n:=by unfold fz;rw[kh,decide_eq_true he.symm]
     rw[e1,e2];congr 1;have q1:a.flatMap (fun n=>match fz (m::b) n.id with|none=>[]|some m=>G n m)=a.flatMap (fun n=>match fz b n.id with|none=>[]|some m=>G n m):=
      gy fun x hx=>by
       have:m.id≠x.id:=by have:=ha2.1 x hx;omega
       rw[skipN this]
     have q2:b.flatMap (fun x=>match fz (n::a) x.id with|none=>[]|some n=>G n x)=b.flatMap (fun x=>match fz a x.id with|none=>[]|some n=>G n x):=
      gy fun x hx=>by
       have:n.id≠x.id:=by have:=hb2.1 x hx;omega
       rw[skipN this]
     rw[q1,q2];exact iha ha2.2 hb2.2
def Jc(G:Eg->Eg->List Ch):∀ {a b:List Eg},rv a->rv b->
  a.flatMap (fun n=>match ej b n.id with|none=>[]|some m=>G n m)=b.flatMap (fun m=>match ej a m.id with|none=>[]|some n=>G n m):=by
 intro a b
 induction a generalizing b with
 |nil=>
  intro _ _;rw[jG];have:∀ l:List Eg,l.flatMap (fun m=>match ej [] m.id with|none=>[]|some n=>G n m)=[]:=fun l=>by
   induction l with
   |nil=>rfl
   |cons x l ih=>rw[be,ih];rfl
  rw[this]
 |cons n a iha=>
  intro ha hb;have ha2:=bI.1 ha
  induction b with
  |nil=>
   have:∀ l:List Eg,l.flatMap (fun n=>match ej [] n.id with|none=>[]|some m=>G n m)=[]:=fun l=>by
    induction l with
    |nil=>rfl
    |cons x l ih=>rw[be,ih];rfl
   rw[this];rfl
  |cons m b ihb=>
   have hb2:=bI.1 hb;have skipN:∀ {x:Eg} {l:List Eg} {id:Int},x.id≠id->ej (x::l) id=ej l id:=fun{x l id} h=>by
    unfold ej;rw[kh,decide_eq_false h]
   have none_of:∀ {l:List Eg} {id:Int},(∀ x∈l,id<x.id)->ej l id=none:=fun{l id} h=>by
    unfold ej;rw[List.find?_eq_none];intro x hx;have:=h x hx;simp;omega
   by_cases h:n.id<m.id
   ·rw[be];have e1:ej (m::b) n.id=none:=none_of fun x hx=>by
     rcases aZ.1 hx with rfl|hx
     ·exact h
     ·exact lA h (hb2.1 x hx)
    rw[e1,aU,iha ha2.2 hb];refine gy fun x hx=>?_;have:n.id≠x.id:=by
     rcases aZ.1 hx with rfl|hx
     ·omega
     ·have:=hb2.1 x hx;omega
    rw[skipN this]
   ·by_cases h2:m.id<n.id
    ·conv=>rhs;rw[be]
     have e1:ej (n::a) m.id=none:=none_of fun x hx=>by
      rcases aZ.1 hx with rfl|hx
      ·exact h2
      ·exact lA h2 (ha2.1 x hx)
     rw[e1,aU,<-ihb hb2.2];refine gy fun x hx=>?_;have:m.id≠x.id:=by
      rcases aZ.1 hx with rfl|hx
      ·omega
      ·have:=ha2.1 x hx;omega
     rw[skipN this]
    ·have he:m.id=n.id:=by omega
     rw[be,be];have e1:ej (m::b) n.id=some m:=by unfold ej;rw[kh,decide_eq_true he]
     have e2:ej (n::a) m.id=some n:=by unfold ej;rw[kh,decide_eq_true he.symm]
     rw[e1,e2];congr 1;have q1:a.flatMap (fun n=>match ej (m::b) n.id with|none=>[]|some m=>G n m)=a.flatMap (fun n=>match ej b n.id with|none=>[]|some m=>G n m):=
      gy fun x hx=>by
       have:m.id≠x.id:=by have:=ha2.1 x hx;omega
       rw[skipN this]
     have q2:b.flatMap (fun x=>match ej (n::a) x.id with|none=>[]|some n=>G n x)=b.flatMap (fun x=>match ej a x.id with|none=>[]|some n=>G n x):=
      gy fun x hx=>by
       have:n.id≠x.id:=by have:=hb2.1 x hx;omega
       rw[skipN this]
     rw[q1,q2];exact iha ha2.2 hb2.2
def KA{a b:cj}(ha:oi a)(hb:oi b):pz a b=Bu a b:=by
 have e4:b.edges.flatMap (uk a.edges)=b.edges.flatMap (u5 a.edges b.edges):=gy fun e he=>by
  unfold uk u5;cases h:ej a.edges e.id with
  |none=>
   have hs:fH a.edges e=false:=by rw[fH,h]
   rw[hs];rfl
  |some x=>
   have hs:fH a.edges e=same x e:=by rw[fH,h]
   simp only[hs];rw[CH hb.er he (pY h).2,JH]
 have e5:a.nodes.flatMap (rH b.nodes)=b.nodes.flatMap (ri a.nodes):=by
  have h1:a.nodes.flatMap (rH b.nodes)=a.nodes.flatMap (fun n=>match fz b.nodes n.id with|none=>[]|some m=>sR m.id n.labels m.labels++nW (ig m.id) n.fields m.fields):=gy fun n hn=>by
   unfold rH;cases h:fz b.nodes n.id with
   |none=>rfl
   |some m=>
    obtain⟨h2,h3⟩:=sm h;simp only;rw[h3,Hz (ha.ns n hn).fd (hb.ns m h2).fd]
  rw[h1,Jb _ ha.nr hb.nr];rfl
 have e6:a.edges.flatMap (qT b.edges)=b.edges.flatMap (rx a.edges b.edges):=by
  have h1:a.edges.flatMap (qT b.edges)=a.edges.flatMap (fun n=>match ej b.edges n.id with|none=>[]|some m=>if same m n then nW (j9 m.id) n.fields m.fields else []):=gy fun n hn=>by
   unfold qT;cases h:ej b.edges n.id with
   |none=>rfl
   |some m=>
    obtain⟨h2,h3⟩:=pY h;simp only;rw[h3,Hz (ha.es n hn).fd (hb.es m h2).fd]
  have h2:b.edges.flatMap (rx a.edges b.edges)=b.edges.flatMap (fun m=>match ej a.edges m.id with|none=>[]|some n=>if same m n then nW (j9 m.id) n.fields m.fields else []):=gy fun m hm=>by
   unfold rx;cases h:ej a.edges m.id with
   |none=>rfl
   |some x=>
    simp only;rw[CH hb.er hm (pY h).2]
  rw[h1,h2,Jc _ ha.er hb.er]
 rw[pz,Bu,e4,e5,e6]
end Go.PM
namespace Go.PM
open Go.Lib
variable {cf:aJ} {st:St} {mk:PV->St->Fr×St} {A:Fr×St->Prop} {s:Nat}
def kV{e sz bytes n m:Nat}{cs ds:List PV}{tk u:aF}(h:Gr e st.nx st.cnt n tk)(h1:cs.length=n*sz)(h2:ds.length=m*sz)(h3:(n+m) *bytes<=140737488355328)(h4:n+m<=140737488355328)(h5:0<sz)
  (k:∀ st' t',st'.objs=st.objs->Gr e st'.nx st'.cnt (n+m) t'->A (mk (.list (n+m) (cs++ds) t') st')):dj (r7 e sz bytes (.list n cs tk) (.list m ds u) st) mk A:=
 bc h h1 h2 h3 h4 h5 (k _ _ jX (cD h))
def sd{α:Type}{enc:α->List PV}{m:Nat}{l l2:List α}{cs ds:List PV}(h:fK enc m l cs)(h2:fK enc m l2 ds):fK enc m (l++l2) (cs++ds):=
 ⟨by rw[ae,h.len,h2.len,ae,gW],by rw[gv,h.st,h2.st,bA],iz h.np h2.np⟩
def oq(c:Ch){t1 t2 t3:aF}:aQ [I c.kind,I c.node.id,.list c.node.labels.length (c.node.labels.map S) t1,.list c.node.fields.length (c.node.fields.flatMap fc) t2,I c.edge.id,S c.edge.type,I c.edge.src,I c.edge.dst,.list c.edge.fields.length (c.edge.fields.flatMap fc) t3,S c.value,S c.name,S c.text]=cc c/\
  aX [I c.kind,I c.node.id,.list c.node.labels.length (c.node.labels.map S) t1,.list c.node.fields.length (c.node.fields.flatMap fc) t2,I c.edge.id,S c.edge.type,I c.edge.src,I c.edge.dst,.list c.edge.fields.length (c.edge.fields.flatMap fc) t3,S c.value,S c.name,S c.text]=true:=by
 have h1:=(vV c.node.labels);have h2:=(gK c.node.fields);have h3:=(gK c.edge.fields);constructor
 ·simp only[aH,h1.2.1,h2.2.1,h3.2.1];rfl
 ·simp only[aH,h1.1,h2.1,h3.1,ay]
def kO{α β:Type}{f:α->List β}{m:Nat}:∀ {l:List α},(∀ a∈l,(f a).length<=m)->(l.flatMap f).length<=l.length*m
 | [],_=>by simp
 |a::l,h=>by
  have:=kO (f:=f) (l:=l) (m:=m) fun x hx=>h x (ce _ hx);have:=h a List.mem_cons_self;rw[be,ae,aA,fM];omega
def jy{α:Type}{f:α->List Ch}{m B:Nat}{l:List α}{P:List Ch}(hP:P.length<=B)(h:∀ a∈l,(f a).length<=m)(i:Nat):(P++(l.take i).flatMap f).length<=B+l.length*m:=by
 have h1:=kO (f:=f) (m:=m) (l:=l.take i) fun a ha=>h a (eU ha);have h2:(l.take i).length*m<=l.length*m:=du _ (by rw[aL];omega);rw[ae];omega
def kl{α:Type}{f:α->List Ch}{l:List α}{P:List Ch}{i:Nat}(h:i<l.length):P++(l.take (i+1)).flatMap f=(P++(l.take i).flatMap f)++f l[i]:=by
 rw[uS h,bn]
def vH(what:List UInt8)(a b:List Fd):(nV what a b).length<=2* (a.length+b.length):=by
 have h1:=jM (Fg what b) (nT a b);have h2:=jM (Ff what a b) (nT a b);have h3:=qE (a.map (·.1)++jC a b);have h4:=C4 a b;rw[ae,bJ]at h3;have h5:(nT a b).length<=a.length+b.length:=by unfold nT;omega
 rw[nV,ae];omega
def vI(what:List UInt8)(a b:List Fd):(nW what a b).length<=4* (a.length+b.length):=by
 have h1:=jM (ud true what a b) (g9 a b);have h2:=jM (ud false what a b) (g9 a b);have h3:=wz (l:=b.map (·.1)) (o:=iI (a.map (·.1)));have h4:=qE (a.map (·.1));rw[bJ]at h3 h4;have h5:(g9 a b).length<=a.length+b.length:=by unfold g9;omega
 rw[nW,ae];omega
def Cf(l:List Eg)(e:Eg):(oR l e).length<=1:=by unfold oR;split<;>simp
def Ce(l:List Nd)(e:Nd):(oQ l e).length<=1:=by unfold oQ;split<;>simp
def Ct(l:List Nd)(e:Nd):(oW l e).length<=1:=by unfold oW;split<;>simp
def H6(l:List Eg)(e:Eg):(uk l e).length<=1:=by unfold uk;split<;>simp
def OG(l m:List Eg)(e:Eg):(u5 l m e).length<=1:=by unfold u5;split<;>(try split)<;>simp
def ET(id:Int)(l m:List (List UInt8)):(sR id l m).length<=1:=by unfold sR;split<;>simp
def Hi{l:List Nd}{n:Nd}(h:Aw n)(hl:∀ m∈l,Aw m):(rH l n).length<=161:=by
 unfold rH;split
 ·simp
 ·rename_i m hm;have h1:=ET n.id n.labels m.labels;have h2:=vH (ig n.id) n.fields m.fields;have h3:=h.fl;have h4:=(hl m (sm hm).1).fl;rw[ae];omega
def NS{l:List Nd}{n:Nd}(h:Aw n)(hl:∀ m∈l,Aw m):(ri l n).length<=161:=by
 unfold ri;split
 ·simp
 ·rename_i m hm;have h1:=ET n.id m.labels n.labels;have h2:=vI (ig n.id) m.fields n.fields;have h3:=h.fl;have h4:=(hl m (sm hm).1).fl;rw[ae];omega
def HF{l:List Eg}{n:Eg}(h:Ay n)(hl:∀ m∈l,Ay m):(qT l n).length<=160:=by
 unfold qT;split
 ·simp
 ·rename_i m hm;have h2:=vH (j9 n.id) n.fields m.fields;have h3:=h.fl;have h4:=(hl m (pY hm).1).fl;split
  ·omega
  ·simp
def N5{l k:List Eg}{n:Eg}(h:Ay n)(hl:∀ m∈l,Ay m):(rx l k n).length<=160:=by
 unfold rx;split
 ·simp
 ·rename_i m hm;have h2:=vI (j9 n.id) m.fields n.fields;have h3:=h.fl;have h4:=(hl m (pY hm).1).fl;split
  ·omega
  ·simp
def vo{a b:List Fd}(ha:uq a)(hb:uq b):(a.map (·.1)++jC a b).Nodup:=by
 have nd:∀ {l:List (List UInt8)},j8 l->l.Nodup:=fun h=>List.Pairwise.imp (fun h e=>by rw[e,lY]at h;cases h) h;rw[List.nodup_append];refine⟨nd ha.ord,List.Pairwise.filter _ (nd hb.ord),fun x hx y hy e=>?_⟩;subst e;unfold jC at hy;rw[iM,decide_eq_true_eq,th ha]at hy;exact hy.2 hx
def yL{j:Nat}{l:List Eg}(h:∀ e∈l,Ay e)(hj:j<l.length):Ay l[j]:=h _ (cp hj)
def yG{j:Nat}{l:List Nd}(h:∀ e∈l,Aw e)(hj:j<l.length):Aw l[j]:=h _ (cp hj)
def KV(K:bO cf)(a b:cj)(ha:oi a)(hb:oi b):∃ r,r=HX (pz a b)/\∃ fl,az cf 54 [.agg (gc a),.agg (gc b)] [] st=some (r,db st fl):=by
 refine lu K.tab (F:=F54) (Q:=fun r=>r=HX (pz a b)) rfl rfl rfl (lb rfl) (by simp[dE]) 1000 ?_;have hm1:=bC nc 3 cP a.nodes;have hm2:=bC ec 5 cN a.edges;have hm3:=bC nc 3 cP b.nodes;have hm4:=bC ec 5 cN b.edges;have anl:=ha.nl;have ael:=ha.el;have bnl:=hb.nl;have bel:=hb.el;have e110:(PV.str ⟨#[110]⟩)=S [110]:=rfl;have e101:(PV.str ⟨#[101]⟩)=S [101]:=rfl;have l110:([110]:List UInt8).length=1:=rfl;have l101:([101]:List UInt8).length=1:=rfl;have hstB:∀ (e:Eg) (st:St),az cf 95 [.agg [NX b.nodes,EX b.edges],.agg (ec e)] [] st=some (.bool (fH b.edges e),st):=fun e st=>Fy K b e (by omega);have hstA:∀ (e:Eg) (st:St),az cf 95 [.agg [NX a.nodes,EX a.edges],.agg (ec e)] [] st=some (.bool (fH a.edges e),st):=fun e st=>Fy K a e (by omega);have hnaB:∀ id st,az cf 83 [.agg [NX b.nodes,EX b.edges],I id] [] st=some (I (cU b.nodes id),st):=fun id st=>sN K b id (by omega);have hnaA:∀ id st,az cf 83 [.agg [NX a.nodes,EX a.edges],I id] [] st=some (I (cU a.nodes id),st):=fun id st=>sN K a id (by omega);have heaB:∀ id st,az cf 99 [.agg [NX b.nodes,EX b.edges],I id] [] st=some (I (eJ b.edges id),st):=fun id st=>uZ K b id (by omega);simp only[F54,↓qU,reduceAdd,reduceSub];simp only[↓pa,↓au,pb,ah,↓reduceIte,reduceEqDiff,reduceAdd,reduceLT,gc,cG,da];refine a7 (fun q fr st=>∃ (i:Nat) (cs:List PV) (tok:aF),q=a.edges.length-i/\i<=a.edges.length/\fr 2= .ptr 2 0/\fr 3= .ptr 3 0/\st.objs 2=some [NX a.nodes,EX a.edges]/\st.objs 3=some [NX b.nodes,EX b.edges]/\fr 5= .list (([]:List Ch)++(a.edges.take i).flatMap (oR b.edges)).length cs tok/\fr 6=I i/\fK cc 12 (([]:List Ch)++(a.edges.take i).flatMap (oR b.edges)) cs/\Gr 85 st.nx st.cnt (([]:List Ch)++(a.edges.take i).flatMap (oR b.edges)).length tok) a.edges.length (by omega)
  ⟨0,[],.full 85,by simp,by omega,by simp only[↓pa,pb,↓reduceIte,reduceEqDiff],by simp only[↓pa,↓reduceIte,reduceEqDiff],by simp only[pb,↓reduceIte,reduceEqDiff]<;>rfl,by simp only[pb,↓reduceIte]<;>rfl,by simp only[↓pa,↓reduceIte,reduceEqDiff]<;>rfl,by simp only[↓pa,↓reduceIte]<;>rfl,qx,gV⟩ ?_
 rintro q fr st ⟨i,cs,tok,rfl,hi,f2,f3,o2,o3,f5,fI,hL,hG⟩;have hB:=jy (l:=a.edges) (f:=oR b.edges) (P:=([]:List Ch)) (B:=0) (m:=1) (by simp) (fun e _=>Cf _ e) i;simp only[↓pa,pb,ah,ak,↓reduceIte,reduceEqDiff,reduceAdd,f2,o2,fI];refine af (fun k1=>?_) (fun k1=>?_)
 ·have hlt:i<a.edges.length:=by omega
  have hnx:=kl (f:=oR b.edges) (P:=([]:List Ch)) hlt;cases hs:fH b.edges a.edges[i]with
  |true=>
   rw[oR,hs,am rfl,aD]at hnx;simp (maxSteps:=1000000) (disch:=omega)only[↓pa,pb,ah,ak,↓reduceIte,reduceEqDiff,reduceAdd,reduceLeDiff,f2,f3,o2,o3,f5,fI,k1,ia hlt,hstB,hs];exact⟨a.edges.length- (i+1),by omega,i+1,cs,tok,rfl,by omega,by rw[hnx],rfl,by rw[hnx];exact hL,by rw[hnx];exact hG⟩
  |false=>
   rw[oR,hs,ai (by simp)]at hnx;simp (maxSteps:=1000000) (disch:=omega)only[↓pa,↓au,pb,ah,↓reduceIte,reduceEqDiff,reduceAdd,reduceLeDiff,reduceLT,f2,f3,o2,o3,f5,fI,k1,ia hlt,hstB,hs,aI,m9 hlt];refine kV hG hL.len rfl (by omega) (by omega) (by decide) (fun st1 tok1 ho hG1=>?_);simp (maxSteps:=1000000) (disch:=omega)only[↓pa,pb,ak,↓reduceIte,reduceEqDiff,f2,f3,o2,o3,fI,ho];exact⟨a.edges.length- (i+1),by omega,i+1,_,tok1,rfl,by omega,by rw[hnx,ae (bs:=[vu a.edges[i]])];rfl,rfl,by rw[hnx];exact gY hL rfl (oq (vu a.edges[i]) (t1:= .nil) (t2:= .nil) (t3:= .nil)).1 (oq (vu a.edges[i]) (t1:= .nil) (t2:= .nil) (t3:= .nil)).2,by rw[hnx,ae (bs:=[vu a.edges[i]])];exact hG1⟩
 have hie:a.edges.take i=a.edges:=aM (by omega);rw[hie]at f5 hL hG hB;generalize hP1:([]:List Ch)++a.edges.flatMap (oR b.edges)=P1 at*;have hP1l:P1.length<=400:=by omega
 clear hie hB;simp only[↓pa,pb,k1];refine a7 (fun q fr st=>∃ (i:Nat) (cs:List PV) (tok:aF),q=a.nodes.length-i/\i<=a.nodes.length/\fr 2= .ptr 2 0/\fr 3= .ptr 3 0/\st.objs 2=some [NX a.nodes,EX a.edges]/\st.objs 3=some [NX b.nodes,EX b.edges]/\fr 5= .list (P1++(a.nodes.take i).flatMap (oQ b.nodes)).length cs tok/\fr 7=I i/\fK cc 12 (P1++(a.nodes.take i).flatMap (oQ b.nodes)) cs/\Gr 85 st.nx st.cnt (P1++(a.nodes.take i).flatMap (oQ b.nodes)).length tok) a.nodes.length (by omega)
  ⟨0,cs,tok,by simp,by omega,by simp only[↓pa,↓reduceIte,reduceEqDiff,f2],by simp only[↓pa,↓reduceIte,reduceEqDiff,f3],by simp only[o2],by simp only[o3],by simp only[↓pa,↓reduceIte,reduceEqDiff,f5]<;>simp,by simp only[↓pa,↓reduceIte]<;>rfl,by simpa using hL,by simpa using hG⟩ ?_
 clear f2 f3 o2 o3 f5 fI hL hG hi k1 cs tok;rintro q fr st ⟨i,cs,tok,rfl,hi,f2,f3,o2,o3,f5,fI,hL,hG⟩;have hB:=jy (l:=a.nodes) (f:=oQ b.nodes) (P:=P1) (B:=400) (m:=1) (by omega) (fun e _=>Ce _ e) i;simp only[↓pa,pb,ah,ak,↓reduceIte,reduceEqDiff,reduceAdd,f2,o2,fI];refine af (fun k1=>?_) (fun k1=>?_)
 ·have hlt:i<a.nodes.length:=by omega
  have hnx:=kl (f:=oQ b.nodes) (P:=P1) hlt;by_cases hs:cU b.nodes a.nodes[i].id<0
  ·rw[oQ,am hs]at hnx;simp (maxSteps:=1000000) (disch:=omega)only[↓pa,↓au,pb,ah,↓reduceIte,reduceEqDiff,reduceAdd,reduceLeDiff,reduceLT,f2,f3,o2,o3,f5,fI,k1,aI,ja hlt,hnaB,hs];refine kV hG hL.len rfl (by omega) (by omega) (by decide) (fun st1 tok1 ho hG1=>?_);simp (maxSteps:=1000000) (disch:=omega)only[↓pa,pb,ak,↓reduceIte,reduceEqDiff,f2,f3,o2,o3,fI,ho];exact⟨a.nodes.length- (i+1),by omega,i+1,_,tok1,rfl,by omega,by rw[hnx,ae (bs:=[vt a.nodes[i]])];rfl,rfl,by rw[hnx];exact gY hL rfl (oq (vt a.nodes[i]) (t1:= .nil) (t2:= .nil) (t3:= .nil)).1 (oq (vt a.nodes[i]) (t1:= .nil) (t2:= .nil) (t3:= .nil)).2,by rw[hnx,ae (bs:=[vt a.nodes[i]])];exact hG1⟩
  ·rw[oQ,ai hs,aD]at hnx;simp (maxSteps:=1000000) (disch:=omega)only[↓pa,pb,ah,ak,↓reduceIte,reduceEqDiff,reduceAdd,reduceLeDiff,f2,f3,o2,o3,f5,fI,k1,aI,ja hlt,hnaB,hs];exact⟨a.nodes.length- (i+1),by omega,i+1,cs,tok,rfl,by omega,by rw[hnx],rfl,by rw[hnx];exact hL,by rw[hnx];exact hG⟩
 have hie:a.nodes.take i=a.nodes:=aM (by omega);rw[hie]at f5 hL hG hB;generalize hP2:P1++a.nodes.flatMap (oQ b.nodes)=P2 at*;have hP2l:P2.length<=600:=by omega
 clear hie hB;simp only[↓pa,pb,k1];refine a7 (fun q fr st=>∃ (i:Nat) (cs:List PV) (tok:aF),q=b.nodes.length-i/\i<=b.nodes.length/\fr 2= .ptr 2 0/\fr 3= .ptr 3 0/\st.objs 2=some [NX a.nodes,EX a.edges]/\st.objs 3=some [NX b.nodes,EX b.edges]/\fr 5= .list (P2++(b.nodes.take i).flatMap (oW a.nodes)).length cs tok/\fr 8=I i/\fK cc 12 (P2++(b.nodes.take i).flatMap (oW a.nodes)) cs/\Gr 85 st.nx st.cnt (P2++(b.nodes.take i).flatMap (oW a.nodes)).length tok) b.nodes.length (by omega)
  ⟨0,cs,tok,by simp,by omega,by simp only[↓pa,↓reduceIte,reduceEqDiff,f2],by simp only[↓pa,↓reduceIte,reduceEqDiff,f3],by simp only[o2],by simp only[o3],by simp only[↓pa,↓reduceIte,reduceEqDiff,f5]<;>simp,by simp only[↓pa,↓reduceIte]<;>rfl,by simpa using hL,by simpa using hG⟩ ?_
 clear f2 f3 o2 o3 f5 fI hL hG hi k1 cs tok;rintro q fr st ⟨i,cs,tok,rfl,hi,f2,f3,o2,o3,f5,fI,hL,hG⟩;have hB:=jy (l:=b.nodes) (f:=oW a.nodes) (P:=P2) (B:=600) (m:=1) (by omega) (fun e _=>Ct _ e) i;simp only[↓pa,pb,ah,ak,↓reduceIte,reduceEqDiff,reduceAdd,f3,o3,fI];refine af (fun k1=>?_) (fun k1=>?_)
 ·have hlt:i<b.nodes.length:=by omega
  have hnx:=kl (f:=oW a.nodes) (P:=P2) hlt;have hk:=yG hb.ns hlt;have hk1:=hk.fl;have hk2:=hk.ll;by_cases hs:cU a.nodes b.nodes[i].id<0
  ·rw[oW,am hs]at hnx;simp (maxSteps:=1000000) (disch:=omega)only[↓pa,pb,ah,↓reduceIte,reduceEqDiff,reduceAdd,reduceLeDiff,f2,f3,o2,o3,f5,fI,k1,aI,ja hlt,lR hlt,hnaA,hs];refine jd (Cp K b.nodes[i] (by omega) (by omega)) (fun fl=>?_);simp only[↓pa,↓au,pb,ah,↓reduceIte,reduceEqDiff,reduceAdd,reduceLeDiff,reduceLT,nc];refine kV hG hL.len rfl (by omega) (by omega) (by decide) (fun st1 tok1 ho hG1=>?_);simp (maxSteps:=1000000) (disch:=omega)only[↓pa,pb,ah,ak,↓reduceIte,reduceEqDiff,f2,f3,o2,o3,fI,ho];exact⟨b.nodes.length- (i+1),by omega,i+1,_,tok1,rfl,by omega,by rw[hnx,ae (bs:=[wI b.nodes[i]])];rfl,rfl,by rw[hnx];exact gY hL rfl (oq (wI b.nodes[i]) (t1:= .no) (t2:= .no) (t3:= .nil)).1 (oq (wI b.nodes[i]) (t1:= .no) (t2:= .no) (t3:= .nil)).2,by rw[hnx,ae (bs:=[wI b.nodes[i]])];exact hG1⟩
  ·rw[oW,ai hs,aD]at hnx;simp (maxSteps:=1000000) (disch:=omega)only[↓pa,pb,ah,ak,↓reduceIte,reduceEqDiff,reduceAdd,reduceLeDiff,f2,f3,o2,o3,f5,fI,k1,aI,ja hlt,hnaA,hs];exact⟨b.nodes.length- (i+1),by omega,i+1,cs,tok,rfl,by omega,by rw[hnx],rfl,by rw[hnx];exact hL,by rw[hnx];exact hG⟩
 have hie:b.nodes.take i=b.nodes:=aM (by omega);rw[hie]at f5 hL hG hB;generalize hP3:P2++b.nodes.flatMap (oW a.nodes)=P3 at*;have hP3l:P3.length<=800:=by omega
 clear hie hB;simp only[↓pa,pb,k1];refine a7 (fun q fr st=>∃ (i:Nat) (cs:List PV) (tok:aF),q=b.edges.length-i/\i<=b.edges.length/\fr 2= .ptr 2 0/\fr 3= .ptr 3 0/\st.objs 2=some [NX a.nodes,EX a.edges]/\st.objs 3=some [NX b.nodes,EX b.edges]/\fr 5= .list (P3++(b.edges.take i).flatMap (uk a.edges)).length cs tok/\fr 9=I i/\fK cc 12 (P3++(b.edges.take i).flatMap (uk a.edges)) cs/\Gr 85 st.nx st.cnt (P3++(b.edges.take i).flatMap (uk a.edges)).length tok) b.edges.length (by omega)
  ⟨0,cs,tok,by simp,by omega,by simp only[↓pa,↓reduceIte,reduceEqDiff,f2],by simp only[↓pa,↓reduceIte,reduceEqDiff,f3],by simp only[o2],by simp only[o3],by simp only[↓pa,↓reduceIte,reduceEqDiff,f5]<;>simp,by simp only[↓pa,↓reduceIte]<;>rfl,by simpa using hL,by simpa using hG⟩ ?_
 clear f2 f3 o2 o3 f5 fI hL hG hi k1 cs tok;rintro q fr st ⟨i,cs,tok,rfl,hi,f2,f3,o2,o3,f5,fI,hL,hG⟩;have hB:=jy (l:=b.edges) (f:=uk a.edges) (P:=P3) (B:=800) (m:=1) (by omega) (fun e _=>H6 _ e) i;simp only[↓pa,pb,ah,ak,↓reduceIte,reduceEqDiff,reduceAdd,f3,o3,fI];refine af (fun k1=>?_) (fun k1=>?_)
 ·have hlt:i<b.edges.length:=by omega
  have hnx:=kl (f:=uk a.edges) (P:=P3) hlt;have hk:=yL hb.es hlt;have hk1:=hk.fl;cases hs:fH a.edges b.edges[i]with
  |true=>
   rw[uk,hs,am rfl,aD]at hnx;simp (maxSteps:=1000000) (disch:=omega)only[↓pa,pb,ah,ak,↓reduceIte,reduceEqDiff,reduceAdd,reduceLeDiff,f2,f3,o2,o3,f5,fI,k1,ia hlt,hstA,hs];exact⟨b.edges.length- (i+1),by omega,i+1,cs,tok,rfl,by omega,by rw[hnx],rfl,by rw[hnx];exact hL,by rw[hnx];exact hG⟩
  |false=>
   rw[uk,hs,ai (by simp)]at hnx;simp (maxSteps:=1000000) (disch:=omega)only[↓pa,pb,ah,↓reduceIte,reduceEqDiff,reduceAdd,reduceLeDiff,f2,f3,o2,o3,f5,fI,k1,ia hlt,hstA,hs];refine jd (Cq K b.edges[i] (by omega)) (fun fl=>?_);simp only[↓pa,↓au,pb,ah,↓reduceIte,reduceEqDiff,reduceAdd,reduceLeDiff,reduceLT,ec];refine kV hG hL.len rfl (by omega) (by omega) (by decide) (fun st1 tok1 ho hG1=>?_);simp (maxSteps:=1000000) (disch:=omega)only[↓pa,pb,ah,ak,↓reduceIte,reduceEqDiff,f2,f3,o2,o3,fI,ho];exact⟨b.edges.length- (i+1),by omega,i+1,_,tok1,rfl,by omega,by rw[hnx,ae (bs:=[rz b.edges[i]])];rfl,rfl,by rw[hnx];exact gY hL rfl (oq (rz b.edges[i]) (t1:= .nil) (t2:= .nil) (t3:= .no)).1 (oq (rz b.edges[i]) (t1:= .nil) (t2:= .nil) (t3:= .no)).2,by rw[hnx,ae (bs:=[rz b.edges[i]])];exact hG1⟩
 have hie:b.edges.take i=b.edges:=aM (by omega);rw[hie]at f5 hL hG hB;generalize hP4:P3++b.edges.flatMap (uk a.edges)=P4 at*;have hP4l:P4.length<=1200:=by omega
 clear hie hB;simp only[↓pa,pb,k1];refine a7 (fun q fr st=>∃ (i:Nat) (cs:List PV) (tok:aF),q=a.nodes.length-i/\i<=a.nodes.length/\fr 2= .ptr 2 0/\fr 3= .ptr 3 0/\st.objs 2=some [NX a.nodes,EX a.edges]/\st.objs 3=some [NX b.nodes,EX b.edges]/\fr 5= .list (P4++(a.nodes.take i).flatMap (rH b.nodes)).length cs tok/\fr 10=I i/\fK cc 12 (P4++(a.nodes.take i).flatMap (rH b.nodes)) cs/\Gr 85 st.nx st.cnt (P4++(a.nodes.take i).flatMap (rH b.nodes)).length tok) a.nodes.length (by omega)
  ⟨0,cs,tok,by simp,by omega,by simp only[↓pa,↓reduceIte,reduceEqDiff,f2],by simp only[↓pa,↓reduceIte,reduceEqDiff,f3],by simp only[o2],by simp only[o3],by simp only[↓pa,↓reduceIte,reduceEqDiff,f5]<;>simp,by simp only[↓pa,↓reduceIte]<;>rfl,by simpa using hL,by simpa using hG⟩ ?_
 clear f2 f3 o2 o3 f5 fI hL hG hi k1 cs tok;rintro q fr st ⟨i,cs,tok,rfl,hi,f2,f3,o2,o3,f5,fI,hL,hG⟩;have hB:=jy (l:=a.nodes) (f:=rH b.nodes) (P:=P4) (B:=1200) (m:=161) (by omega) (fun n hn=>Hi (ha.ns n hn) hb.ns) i;simp only[↓pa,pb,ah,ak,↓reduceIte,reduceEqDiff,reduceAdd,f2,o2,fI];refine af (fun k1=>?_) (fun k1=>?_)
 ·have hlt:i<a.nodes.length:=by omega
  have hnx:=kl (f:=rH b.nodes) (P:=P4) hlt;have hk:=yG ha.ns hlt;have hk1:=hk.fl;have hk2:=hk.ll;have hk3:=hk.id;have hil:=oJ (n:=a.nodes[i].id) (by omega) (by omega);have hdec:=fun st=>vQ (st:=st) K (n:=a.nodes[i].id) (by omega) (by omega);rcases He b.nodes a.nodes[i].id with⟨h1,h2⟩|⟨j,hj,h1,h2⟩
  ·have hf:rH b.nodes a.nodes[i]=[]:=by rw[rH,h2]
   rw[hf,aD]at hnx;simp (maxSteps:=1000000) (disch:=omega)only[↓pa,pb,ah,ak,↓reduceIte,reduceEqDiff,reduceAdd,reduceLeDiff,Int.reduceLT,f2,f3,o2,o3,f5,fI,k1,aI,ja hlt,hnaB,h1];exact⟨a.nodes.length- (i+1),by omega,i+1,cs,tok,rfl,by omega,by rw[hnx],rfl,by rw[hnx];exact hL,by rw[hnx];exact hG⟩
  ·have hf:rH b.nodes a.nodes[i]=sR a.nodes[i].id a.nodes[i].labels b.nodes[j].labels++nV (ig a.nodes[i].id) a.nodes[i].fields b.nodes[j].fields:=by rw[rH,h2]
   rw[hf,<-bn]at hnx;have hq:=yG hb.ns hj;have hq1:=hq.fl;have hq2:=hq.ll;have hj0:¬ ((j:Int)<0):=by omega
   have hsm:=fun st=>MH (st:=st) K a.nodes[i].labels b.nodes[j].labels (by omega);by_cases hlab:a.nodes[i].labels=b.nodes[j].labels
   ·rw[sR,am hlab,aD]at hnx;have hd:decide (a.nodes[i].labels=b.nodes[j].labels)=true:=decide_eq_true hlab;simp (maxSteps:=1000000) (disch:=omega)only[↓pa,↓ax,pb,ah,ap,↓reduceIte,reduceEqDiff,reduceAdd,reduceLeDiff,f2,f3,o2,o3,f5,fI,k1,aI,ja hlt,hnaB,h1,hj0,qL hlt,qL hj,hsm,hd,hdec,e110,oH hlt,oH hj];refine jd (I6 K (ig a.nodes[i].id) a.nodes[i].fields b.nodes[j].fields (vo hk.fd hq.fd) (by omega) (by omega)) (fun fl=>?_);have hcl:=bC cc 12 iC (nV (ig a.nodes[i].id) a.nodes[i].fields b.nodes[j].fields);have hcb:=vH (ig a.nodes[i].id) a.nodes[i].fields b.nodes[j].fields;simp only[↓pa,↓au,↓ax,ap,↓reduceIte,reduceEqDiff];refine kV (m:=(nV (ig a.nodes[i].id) a.nodes[i].fields b.nodes[j].fields).length) hG hL.len hcl (by omega) (by omega) (by decide) (fun st2 tok2 ho2 hG2=>?_);simp (maxSteps:=1000000) (disch:=omega)only[↓pa,↓ax,pb,ah,ap,aq,ak,ad,aa,↓reduceIte,reduceEqDiff,f2,f3,o2,o3,fI,ho2];exact⟨a.nodes.length- (i+1),by omega,i+1,_,tok2,rfl,by omega,by rw[hnx,ae (bs:=nV (ig a.nodes[i].id) a.nodes[i].fields b.nodes[j].fields)],rfl,by rw[hnx];exact sd hL (w5 iC gz _),by rw[hnx,ae (bs:=nV (ig a.nodes[i].id) a.nodes[i].fields b.nodes[j].fields)];exact hG2⟩
   ·rw[sR,ai hlab]at hnx;have hd:decide (a.nodes[i].labels=b.nodes[j].labels)=false:=decide_eq_false hlab;simp (maxSteps:=1000000) (disch:=omega)only[↓pa,↓ax,pb,ah,ap,↓reduceIte,reduceEqDiff,reduceAdd,reduceLeDiff,f2,f3,o2,o3,f5,fI,k1,aI,ja hlt,hnaB,h1,hj0,qL hlt,qL hj,hsm,hd];refine jd (Co K b.nodes[j].labels (by omega)) (fun fl=>?_);simp only[↓pa,↓au,↓ax,pb,ah,ap,↓reduceIte,reduceEqDiff,reduceAdd,reduceLeDiff,reduceLT,gG (fy b.nodes[j].labels)];refine kV hG hL.len rfl (by omega) (by omega) (by decide) (fun st1 tok1 ho hG1=>?_);have hL1:=gY hL rfl (oq (ya a.nodes[i].id b.nodes[j].labels) (t1:= .no) (t2:= .nil) (t3:= .nil)).1 (oq (ya a.nodes[i].id b.nodes[j].labels) (t1:= .no) (t2:= .nil) (t3:= .nil)).2;simp (maxSteps:=1000000) (disch:=omega)only[↓pa,↓ax,pb,ah,ap,aq,ad,aa,↓reduceIte,reduceEqDiff,f2,f3,o2,o3,fI,ho,aI,ja hlt,hdec,e110,oH hlt,oH hj];refine jd (I6 K (ig a.nodes[i].id) a.nodes[i].fields b.nodes[j].fields (vo hk.fd hq.fd) (by omega) (by omega)) (fun fl=>?_);have hcl:=bC cc 12 iC (nV (ig a.nodes[i].id) a.nodes[i].fields b.nodes[j].fields);have hcb:=vH (ig a.nodes[i].id) a.nodes[i].fields b.nodes[j].fields;simp only[↓pa,↓au,↓ax,ap,↓reduceIte,reduceEqDiff];refine kV (m:=(nV (ig a.nodes[i].id) a.nodes[i].fields b.nodes[j].fields).length) hG1 (by have h:=hL1.len;rw[ae (bs:=[ya a.nodes[i].id b.nodes[j].labels])]at h;exact h) hcl (by omega) (by omega) (by decide) (fun st2 tok2 ho2 hG2=>?_);simp (maxSteps:=1000000) (disch:=omega)only[↓pa,↓ax,pb,ah,ap,aq,ak,ad,aa,↓reduceIte,reduceEqDiff,f2,f3,o2,o3,fI,ho,ho2];exact⟨a.nodes.length- (i+1),by omega,i+1,_,tok2,rfl,by omega,by rw[hnx,ae (bs:=nV (ig a.nodes[i].id) a.nodes[i].fields b.nodes[j].fields),ae (bs:=[ya a.nodes[i].id b.nodes[j].labels])];rfl,rfl,by rw[hnx];exact sd hL1 (w5 iC gz _),by rw[hnx,ae (bs:=nV (ig a.nodes[i].id) a.nodes[i].fields b.nodes[j].fields),ae (bs:=[ya a.nodes[i].id b.nodes[j].labels])];exact hG2⟩
 have hie:a.nodes.take i=a.nodes:=aM (by omega);rw[hie]at f5 hL hG hB;generalize hP5:P4++a.nodes.flatMap (rH b.nodes)=P5 at*;have hP5l:P5.length<=33400:=by omega
 clear hie hB;simp only[↓pa,pb,k1];refine a7 (fun q fr st=>∃ (i:Nat) (cs:List PV) (tok:aF),q=a.edges.length-i/\i<=a.edges.length/\fr 2= .ptr 2 0/\fr 3= .ptr 3 0/\st.objs 2=some [NX a.nodes,EX a.edges]/\st.objs 3=some [NX b.nodes,EX b.edges]/\fr 5= .list (P5++(a.edges.take i).flatMap (qT b.edges)).length cs tok/\fr 12=I i/\fK cc 12 (P5++(a.edges.take i).flatMap (qT b.edges)) cs/\Gr 85 st.nx st.cnt (P5++(a.edges.take i).flatMap (qT b.edges)).length tok) a.edges.length (by omega)
  ⟨0,cs,tok,by simp,by omega,by simp only[↓pa,↓reduceIte,reduceEqDiff,f2],by simp only[↓pa,↓reduceIte,reduceEqDiff,f3],by simp only[o2],by simp only[o3],by simp only[↓pa,↓reduceIte,reduceEqDiff,f5]<;>simp,by simp only[↓pa,↓reduceIte]<;>rfl,by simpa using hL,by simpa using hG⟩ ?_
 clear f2 f3 o2 o3 f5 fI hL hG hi k1 cs tok;rintro q fr st ⟨i,cs,tok,rfl,hi,f2,f3,o2,o3,f5,fI,hL,hG⟩;have hB:=jy (l:=a.edges) (f:=qT b.edges) (P:=P5) (B:=33400) (m:=160) (by omega) (fun n hn=>HF (ha.es n hn) hb.es) i;simp only[↓pa,pb,ah,ak,↓reduceIte,reduceEqDiff,reduceAdd,f2,o2,fI];refine af (fun k1=>?_) (fun k1=>?_)
 ·have hlt:i<a.edges.length:=by omega
  have hnx:=kl (f:=qT b.edges) (P:=P5) hlt;have hk:=yL ha.es hlt;have hk1:=hk.fl;have hk3:=hk.id;have hil:=oJ (n:=a.edges[i].id) (by omega) (by omega);have hdec:=fun st=>vQ (st:=st) K (n:=a.edges[i].id) (by omega) (by omega);rcases tx b.edges a.edges[i].id with⟨h1,h2⟩|⟨j,hj,h1,h2⟩
  ·have hf:qT b.edges a.edges[i]=[]:=by rw[qT,h2]
   have hs:fH b.edges a.edges[i]=false:=by rw[fH,h2]
   rw[hf,aD]at hnx;simp (maxSteps:=1000000) (disch:=omega)only[↓pa,pb,ah,ak,↓reduceIte,reduceEqDiff,reduceAdd,reduceLeDiff,f2,f3,o2,o3,f5,fI,k1,ia hlt,hstB,hs];exact⟨a.edges.length- (i+1),by omega,i+1,cs,tok,rfl,by omega,by rw[hnx],rfl,by rw[hnx];exact hL,by rw[hnx];exact hG⟩
  ·have hs:fH b.edges a.edges[i]=same b.edges[j] a.edges[i]:=by rw[fH,h2]
   have hq:=yL hb.es hj;have hq1:=hq.fl;cases hsm:same b.edges[j] a.edges[i]with
   |false=>
    have hf:qT b.edges a.edges[i]=[]:=by rw[qT,h2];simp[hsm]
    rw[hf,aD]at hnx;rw[hsm]at hs;simp (maxSteps:=1000000) (disch:=omega)only[↓pa,pb,ah,ak,↓reduceIte,reduceEqDiff,reduceAdd,reduceLeDiff,f2,f3,o2,o3,f5,fI,k1,ia hlt,hstB,hs];exact⟨a.edges.length- (i+1),by omega,i+1,cs,tok,rfl,by omega,by rw[hnx],rfl,by rw[hnx];exact hL,by rw[hnx];exact hG⟩
   |true=>
    have hf:qT b.edges a.edges[i]=nV (j9 a.edges[i].id) a.edges[i].fields b.edges[j].fields:=by rw[qT,h2];simp[hsm]
    rw[hf]at hnx;rw[hsm]at hs;simp (maxSteps:=1000000) (disch:=omega)only[↓pa,↓ax,pb,ah,ap,↓reduceIte,reduceEqDiff,reduceAdd,reduceLeDiff,f2,f3,o2,o3,f5,fI,k1,ia hlt,hstB,hs,aI,m9 hlt,hdec,e101,uF hlt,uF hj,heaB,h1];refine jd (I6 K (j9 a.edges[i].id) a.edges[i].fields b.edges[j].fields (vo hk.fd hq.fd) (by omega) (by omega)) (fun fl=>?_);have hkey:dw [PV.agg [NX b.nodes,EX b.edges],I a.edges[i].id]=some []:=eY (dD (ps:=[.agg (gc b),I a.edges[i].id]) (by simp[dE,bh])).1;have hcl:=bC cc 12 iC (nV (j9 a.edges[i].id) a.edges[i].fields b.edges[j].fields);have hcb:=vH (j9 a.edges[i].id) a.edges[i].fields b.edges[j].fields;simp only[↓pa,↓au,↓ax,ap,↓reduceIte,reduceEqDiff];refine kV (m:=(nV (j9 a.edges[i].id) a.edges[i].fields b.edges[j].fields).length) hG hL.len hcl (by omega) (by omega) (by decide) (fun st1 tok1 ho hG1=>?_);simp (maxSteps:=1000000) (disch:=omega)only[↓pa,↓ax,pb,ah,ap,aq,ak,ad,aa,↓reduceIte,reduceEqDiff,f2,f3,o2,o3,fI,ho,hkey];exact⟨a.edges.length- (i+1),by omega,i+1,_,tok1,rfl,by omega,by rw[hnx,ae (bs:=nV (j9 a.edges[i].id) a.edges[i].fields b.edges[j].fields)],rfl,by rw[hnx];exact sd hL (w5 iC gz _),by rw[hnx,ae (bs:=nV (j9 a.edges[i].id) a.edges[i].fields b.edges[j].fields)];exact hG1⟩
 have hie:a.edges.take i=a.edges:=aM (by omega);rw[hie]at f5 hL hG hB;generalize hP6:P5++a.edges.flatMap (qT b.edges)=P6 at*;have hP6l:P6.length<=97400:=by omega
 clear hie hB;simp only[↓pa,pb,aH,↓reduceIte,reduceEqDiff,f5,k1,hL.np,hL.st];rw[HX,<-hP6,<-hP5,<-hP4,<-hP3,<-hP2,<-hP1];rfl
def OZ(f:Nat)(p:PV)(st:St):Option (PV×St):=if gQ p||np p then some (.fn f [p],st)else none
def Ri:(∀ {cf:aJ} {fr:Fr} {st:St} {d:Option Nat} {f:Nat} {x:CX},aC cf fr st d (.mkfn f [x])=OZ f (x.ev fr) st)/\(∀ {f s o:Nat} {st:St},OZ f (.ptr s o) st=some (.fn f [.ptr s o],st)):=
 ⟨by intros;simp[aC,OZ],rfl⟩
def gf:(dZ 8 (.fn 100 [.ptr 3 0])= .fn 100 [.ptr 3 0])/\(dZ 10 (.fn 100 [.ptr 3 0])= .fn 100 [.ptr 3 0])/\(dZ 12 (.fn 100 [.ptr 3 0])= .fn 100 [.ptr 3 0])/\(dZ 14 (.fn 100 [.ptr 3 0])= .fn 100 [.ptr 3 0])/\(dZ 17 (.fn 100 [.ptr 3 0])= .fn 100 [.ptr 3 0])/\(dZ 20 (.fn 100 [.ptr 3 0])= .fn 100 [.ptr 3 0]):=
 ⟨rfl,rfl,rfl,rfl,rfl,rfl⟩
def yq{o:Option (PV×St)}{v:PV}{s1:St}(h:o=some (v,s1))(k:A (mk v s1)):dj o mk A:=⟨v,s1,h,k⟩
def GP{l:List (Nat×Nat)}{ds:List PV}(h:a8 st ([]++l++[]))(hd:aw ds=[]):a8 st ([]++l++[]++aw ds):=by rw[hd,aD];exact h
def CZ{x:Eg}:bL (ec x) 0 1 false=some (I x.id):=rfl
def Pn{x y z:PV}{n:Nd}(h:aQ [x,y,z]=nc n)(hn:aX [x,y,z]=true)(hs:bq [x,y,z]=true):
  aQ [I 1,x,y,z,I 0,S [],I 0,I 0,.list 0 [] .nil,S [],S [],S []]=cc (wI n)/\aX [I 1,x,y,z,I 0,S [],I 0,I 0,.list 0 [] .nil,S [],S [],S []]=true/\
  bq [I 1,x,y,z,I 0,S [],I 0,I 0,.list 0 [] .nil,S [],S [],S []]=true/\aw [I 1,x,y,z,I 0,S [],I 0,I 0,.list 0 [] .nil,S [],S [],S []]=aw [x,y,z]:=by
 have e1:aQ [I 1,x,y,z,I 0,S [],I 0,I 0,.list 0 [] .nil,S [],S [],S []]=[I 1]++aQ [x,y,z]++[I 0,S [],I 0,I 0,.list 0 [] .no,S [],S [],S []]:=rfl;refine⟨by rw[e1,h];rfl,?_,?_,?_⟩
 ·simp only[aH,aj]at hn ⊢;simp[hn]
 ·simp only[bq,aj]at hs ⊢;simp[hs,aY,bq]
 ·simp only[aw,aB,aU,aD]
def KH{v w x y z:PV}{e:Eg}(h:aQ [v,w,x,y,z]=ec e)(hn:aX [v,w,x,y,z]=true)(hs:bq [v,w,x,y,z]=true):
  aQ [I 3,I 0,.list 0 [] .nil,.list 0 [] .nil,v,w,x,y,z,S [],S [],S []]=cc (rz e)/\aX [I 3,I 0,.list 0 [] .nil,.list 0 [] .nil,v,w,x,y,z,S [],S [],S []]=true/\
  bq [I 3,I 0,.list 0 [] .nil,.list 0 [] .nil,v,w,x,y,z,S [],S [],S []]=true/\aw [I 3,I 0,.list 0 [] .nil,.list 0 [] .nil,v,w,x,y,z,S [],S [],S []]=aw [v,w,x,y,z]:=by
 have e1:aQ [I 3,I 0,.list 0 [] .nil,.list 0 [] .nil,v,w,x,y,z,S [],S [],S []]=[I 3,I 0,.list 0 [] .no,.list 0 [] .no]++aQ [v,w,x,y,z]++[S [],S [],S []]:=rfl;refine⟨by rw[e1,h];rfl,?_,?_,?_⟩
 ·simp only[aH,aj]at hn ⊢;simp[hn]
 ·simp only[bq,aj]at hs ⊢;simp[hs,aY,bq]
 ·simp only[aw,aB,aU,aD]
def Po{t:PV}{id:Int}{l:List (List UInt8)}(h:aO t=TX l)(hn:np t=true)(hs:aY t=true):
  aQ [I 5,I id,t,.list 0 [] .nil,I 0,S [],I 0,I 0,.list 0 [] .nil,S [],S [],S []]=cc (ya id l)/\aX [I 5,I id,t,.list 0 [] .nil,I 0,S [],I 0,I 0,.list 0 [] .nil,S [],S [],S []]=true/\
  bq [I 5,I id,t,.list 0 [] .nil,I 0,S [],I 0,I 0,.list 0 [] .nil,S [],S [],S []]=true/\aw [I 5,I id,t,.list 0 [] .nil,I 0,S [],I 0,I 0,.list 0 [] .nil,S [],S [],S []]=aB t:=by
 have e1:aQ [I 5,I id,t,.list 0 [] .nil,I 0,S [],I 0,I 0,.list 0 [] .nil,S [],S [],S []]=[I 5,I id,aO t,.list 0 [] .no,I 0,S [],I 0,I 0,.list 0 [] .no,S [],S [],S []]:=rfl;refine⟨by rw[e1,h];rfl,?_,?_,?_⟩
 ·simp only[aH,hn,ay]
 ·simp only[bq,hs,aY,ay,List.isEmpty_nil]
 ·simp only[aw,aB,aU,aD]
def Mt(k:Nat)(n:Nat)(ds:List PV)(u:aF):ck k (aw ds)<=ck k (aB (.list n ds u)):=by
 cases u<;>simp only[aB,aU,bt]<;>omega
def L5{q:Nat×Nat}{n:Nat}{ds:List PV}{u:aF}(h:q∈aw ds):q∈aB (.list n ds u):=by
 cases u<;>simp[aB,h]
def xm{l:List (Nat×Nat)}{n:Nat}{ds:List PV}{u:aF}{ns:List Nat}(h:a8 st ([]++l++[]))(hf:st.fl=0)(ht:aB (.list n ds u)=cB st.nx ns):a8 (st.more ns) ([]++l++[]++aw ds):=by
 have h1:=cK h (by omega) ns;rw[<-ht]at h1;refine wU h1 (fun k=>?_) (fun q hq=>?_)
 ·have:=Mt k n ds u;simp only[bt]at this ⊢;omega
 ·rw[aG]at hq ⊢;exact hq.imp id L5
def xu{n:Nat}{ds:List PV}{u:aF}(h:aY (.list n ds u)=true):bq ds=true:=by
 simp only[aY,aj]at h;exact h.2
def PR(K:bO cf)(a b:cj)(ha:oi a)(hb:oi b):∃ r ns,az cf 55 [.agg (gc a),.agg (gc b)] [] st=some (r,st.more ns)/\dC st.nx ns r/\aO r=HX (Bu a b):=by
 refine oT K.tab (F:=F55) (Q:=fun r=>r=HX (Bu a b)) rfl rfl rfl (lb rfl) (by simp[dE]) 1000 ?_;have hm1:=bC nc 3 cP a.nodes;have hm2:=bC ec 5 cN a.edges;have hm3:=bC nc 3 cP b.nodes;have hm4:=bC ec 5 cN b.edges;have anl:=ha.nl;have ael:=ha.el;have bnl:=hb.nl;have bel:=hb.el;have e110:(PV.str ⟨#[110]⟩)=S [110]:=rfl;have e101:(PV.str ⟨#[101]⟩)=S [101]:=rfl;have l110:([110]:List UInt8).length=1:=rfl;have l101:([101]:List UInt8).length=1:=rfl;have hcv:∀ (e:Eg) (st:St),st.objs 3=some [NX b.nodes,EX b.edges]->D4 cf (.fn 100 [.ptr 3 0]) [.agg (ec e)] st=some (I (pN b.edges e),st):=fun e st h=>Oe K b e (by omega) h;have hnaB:∀ id st,az cf 90 [.agg [NX b.nodes,EX b.edges],I id] [] st=some (I (cU b.nodes id),st):=fun id st=>Ai K b id (by omega);have hnaA:∀ id st,az cf 90 [.agg [NX a.nodes,EX a.edges],I id] [] st=some (I (cU a.nodes id),st):=fun id st=>Ai K a id (by omega);have heaA:∀ id st,az cf 101 [.agg [NX a.nodes,EX a.edges],I id] [] st=some (I (eJ a.edges id),st):=fun id st=>Al K a id (by omega);simp only[F55,↓qU,reduceAdd,reduceSub];simp only[↓pa,pb,ah,↓reduceIte,reduceEqDiff,reduceAdd,gc,Ri];refine a7 (fun q fr st=>∃ (i:Nat) (cs:List PV) (tok:aF),q=a.edges.length-i/\i<=a.edges.length/\fr 2= .ptr 2 0/\fr 3= .ptr 3 0/\st.objs 2=some [NX a.nodes,EX a.edges]/\st.objs 3=some [NX b.nodes,EX b.edges]/\fr 5= .list (([]:List Ch)++(a.edges.take i).flatMap (oR b.edges)).length cs tok/\fr 6= .fn 100 [.ptr 3 0]/\fr 24=EX a.edges/\fr 25=I a.edges.length/\fr 26=I i/\fK cc 12 (([]:List Ch)++(a.edges.take i).flatMap (oR b.edges)) cs/\jA 85 tok/\aY (.list (([]:List Ch)++(a.edges.take i).flatMap (oR b.edges)).length cs tok)=true/\a8 st ([]++aB (.list (([]:List Ch)++(a.edges.take i).flatMap (oR b.edges)).length cs tok)++[])/\st.fl=0) a.edges.length (by omega)
  ⟨0,[],.nil,by simp,by omega,by simp only[↓pa,pb,↓reduceIte,reduceEqDiff],by simp only[↓pa,↓reduceIte,reduceEqDiff],by simp only[pb,↓reduceIte,reduceEqDiff]<;>rfl,by simp only[pb,↓reduceIte]<;>rfl,by simp only[↓pa,↓reduceIte,reduceEqDiff]<;>rfl,by simp only[↓pa,↓reduceIte,reduceEqDiff]<;>rfl,by simp only[↓pa,↓reduceIte,reduceEqDiff]<;>rfl,by simp only[↓pa,↓reduceIte,reduceEqDiff]<;>rfl,by simp only[↓pa,↓reduceIte]<;>rfl,qx,.inl rfl,rfl,aT (aT eN),rfl⟩ ?_
 rintro q fr st ⟨i,cs,tok,rfl,hi,f2,f3,o2,o3,f5,f6,fL,fN,fI,hL,hto,hso,hT,hfl⟩;have hB:=jy (l:=a.edges) (f:=oR b.edges) (P:=([]:List Ch)) (B:=0) (m:=1) (by simp) (fun e _=>Cf _ e) i;simp only[↓pa,pb,ak,↓reduceIte,fN,fI];refine af (fun k1=>?_) (fun k1=>?_)
 ·have hlt:i<a.edges.length:=by omega
  have hnx:=kl (f:=oR b.edges) (P:=([]:List Ch)) hlt;have he5:=cN a.edges[i];have he5t:List.take 5 (ec a.edges[i])=ec a.edges[i]:=rfl;simp (maxSteps:=1000000) (disch:=omega)only[↓pa,pb,ah,↓reduceIte,reduceEqDiff,reduceAdd,reduceLeDiff,f6,fL,fI,gf,k1,ia hlt,he5,ol,he5t];refine yq (hcv _ _ (by simp only[pb,↓reduceIte,reduceEqDiff,o3])) ?_;by_cases hs:pN b.edges a.edges[i]<0
  ·have hs':=(pi _ _).1 hs;rw[oR,hs',ai (by simp)]at hnx;simp only[↓pa,↓au,pb,ah,↓reduceIte,reduceEqDiff,reduceAdd,reduceLeDiff,reduceLT,f5,hs,ec];refine iR (X:=[]) (Y:=[]) hto hso rfl (GP hT rfl) hfl hL.len rfl (by omega) (by omega) (by decide) (fun st1 tok1 hto1 hso1 hT1 ho hfl1=>?_);simp (maxSteps:=1000000) (disch:=omega)only[↓pa,pb,ak,↓reduceIte,reduceEqDiff,f2,f3,o2,o3,f6,fL,fN,fI,gf,ho];exact⟨a.edges.length- (i+1),by omega,i+1,_,tok1,rfl,by omega,by rw[hnx,ae (bs:=[vu a.edges[i]])];rfl,rfl,by rw[hnx];exact gY hL rfl (oq (vu a.edges[i]) (t1:= .nil) (t2:= .nil) (t3:= .nil)).1 (oq (vu a.edges[i]) (t1:= .nil) (t2:= .nil) (t3:= .nil)).2,hto1,by rw[hnx,ae (bs:=[vu a.edges[i]])];exact hso1,by rw[hnx,ae (bs:=[vu a.edges[i]])];exact hT1,hfl1⟩
  ·have hs':fH b.edges a.edges[i]=true:=by
    cases h:fH b.edges a.edges[i]with
    |true=>rfl
    |false=>exact absurd ((pi _ _).2 h) hs
   rw[oR,hs',am rfl,aD]at hnx;simp (maxSteps:=1000000) (disch:=omega)only[↓pa,pb,ak,↓reduceIte,reduceEqDiff,f2,f3,o2,o3,f5,f6,fL,fN,fI,gf,hs];exact⟨a.edges.length- (i+1),by omega,i+1,cs,tok,rfl,by omega,by rw[hnx],rfl,by rw[hnx];exact hL,hto,by rw[hnx];exact hso,by rw[hnx];exact hT,hfl⟩
 have hie:a.edges.take i=a.edges:=aM (by omega);rw[hie]at f5 hL hso hT hB;generalize hP1:([]:List Ch)++a.edges.flatMap (oR b.edges)=P1 at*;have hP1l:P1.length<=400:=by omega
 clear hie hB;simp only[↓pa,pb,ah,↓reduceIte,reduceEqDiff,reduceAdd,f2,o2,k1];refine a7 (fun q fr st=>∃ (i:Nat) (cs:List PV) (tok:aF),q=a.nodes.length-i/\i<=a.nodes.length/\fr 2= .ptr 2 0/\fr 3= .ptr 3 0/\st.objs 2=some [NX a.nodes,EX a.edges]/\st.objs 3=some [NX b.nodes,EX b.edges]/\fr 5= .list (P1++(a.nodes.take i).flatMap (oQ b.nodes)).length cs tok/\fr 6= .fn 100 [.ptr 3 0]/\fr 43=NX a.nodes/\fr 44=I a.nodes.length/\fr 45=I i/\fK cc 12 (P1++(a.nodes.take i).flatMap (oQ b.nodes)) cs/\jA 85 tok/\aY (.list (P1++(a.nodes.take i).flatMap (oQ b.nodes)).length cs tok)=true/\a8 st ([]++aB (.list (P1++(a.nodes.take i).flatMap (oQ b.nodes)).length cs tok)++[])/\st.fl=0) a.nodes.length (by omega)
  ⟨0,cs,tok,by simp,by omega,by simp only[↓pa,↓reduceIte,reduceEqDiff,f2],by simp only[↓pa,↓reduceIte,reduceEqDiff,f3],by simp only[o2],by simp only[o3],by simp only[↓pa,↓reduceIte,reduceEqDiff,f5]<;>simp,by simp only[↓pa,↓reduceIte,reduceEqDiff,f6],by simp only[↓pa,↓reduceIte,reduceEqDiff],by simp only[↓pa,↓reduceIte,reduceEqDiff],by simp only[↓pa,↓reduceIte]<;>rfl,by simpa using hL,hto,by simpa using hso,by simpa using hT,hfl⟩ ?_
 clear f2 f3 o2 o3 f5 f6 fL fN fI hL hto hso hT hfl hi k1 cs tok;rintro q fr st ⟨i,cs,tok,rfl,hi,f2,f3,o2,o3,f5,f6,fL,fN,fI,hL,hto,hso,hT,hfl⟩;have hB:=jy (l:=a.nodes) (f:=oQ b.nodes) (P:=P1) (B:=400) (m:=1) (by omega) (fun e _=>Ce _ e) i;simp only[↓pa,pb,ak,↓reduceIte,fN,fI];refine af (fun k1=>?_) (fun k1=>?_)
 ·have hlt:i<a.nodes.length:=by omega
  have hnx:=kl (f:=oQ b.nodes) (P:=P1) hlt;have hn3:=cP a.nodes[i];simp (maxSteps:=1000000) (disch:=omega)only[↓pa,pb,ah,↓reduceIte,reduceEqDiff,reduceAdd,reduceLeDiff,f3,o3,fL,fI,k1,lR hlt,hn3,pj,uE,hnaB];by_cases hs:cU b.nodes a.nodes[i].id<0
  ·rw[oQ,am hs]at hnx;simp only[↓pa,↓au,pb,ah,↓reduceIte,reduceEqDiff,reduceAdd,reduceLeDiff,reduceLT,f5,hs,nc];refine iR (X:=[]) (Y:=[]) hto hso rfl (GP hT rfl) hfl hL.len rfl (by omega) (by omega) (by decide) (fun st1 tok1 hto1 hso1 hT1 ho hfl1=>?_);simp (maxSteps:=1000000) (disch:=omega)only[↓pa,pb,ak,↓reduceIte,reduceEqDiff,f2,f3,o2,o3,f6,fL,fN,fI,gf,ho];exact⟨a.nodes.length- (i+1),by omega,i+1,_,tok1,rfl,by omega,by rw[hnx,ae (bs:=[vt a.nodes[i]])];rfl,rfl,by rw[hnx];exact gY hL rfl (oq (vt a.nodes[i]) (t1:= .nil) (t2:= .nil) (t3:= .nil)).1 (oq (vt a.nodes[i]) (t1:= .nil) (t2:= .nil) (t3:= .nil)).2,hto1,by rw[hnx,ae (bs:=[vt a.nodes[i]])];exact hso1,by rw[hnx,ae (bs:=[vt a.nodes[i]])];exact hT1,hfl1⟩
  ·rw[oQ,ai hs,aD]at hnx;simp (maxSteps:=1000000) (disch:=omega)only[↓pa,pb,ak,↓reduceIte,reduceEqDiff,f2,f3,o2,o3,f5,f6,fL,fN,fI,gf,hs];exact⟨a.nodes.length- (i+1),by omega,i+1,cs,tok,rfl,by omega,by rw[hnx],rfl,by rw[hnx];exact hL,hto,by rw[hnx];exact hso,by rw[hnx];exact hT,hfl⟩
 have hie:a.nodes.take i=a.nodes:=aM (by omega);rw[hie]at f5 hL hso hT hB;generalize hP2:P1++a.nodes.flatMap (oQ b.nodes)=P2 at*;have hP2l:P2.length<=600:=by omega
 clear hie hB;simp only[↓pa,pb,ah,↓reduceIte,reduceEqDiff,reduceAdd,f3,o3,k1];refine a7 (fun q fr st=>∃ (i:Nat) (cs:List PV) (tok:aF),q=b.nodes.length-i/\i<=b.nodes.length/\fr 2= .ptr 2 0/\fr 3= .ptr 3 0/\st.objs 2=some [NX a.nodes,EX a.edges]/\st.objs 3=some [NX b.nodes,EX b.edges]/\fr 5= .list (P2++(b.nodes.take i).flatMap (oW a.nodes)).length cs tok/\fr 6= .fn 100 [.ptr 3 0]/\fr 63=NX b.nodes/\fr 64=I b.nodes.length/\fr 65=I i/\fK cc 12 (P2++(b.nodes.take i).flatMap (oW a.nodes)) cs/\jA 85 tok/\aY (.list (P2++(b.nodes.take i).flatMap (oW a.nodes)).length cs tok)=true/\a8 st ([]++aB (.list (P2++(b.nodes.take i).flatMap (oW a.nodes)).length cs tok)++[])/\st.fl=0) b.nodes.length (by omega)
  ⟨0,cs,tok,by simp,by omega,by simp only[↓pa,↓reduceIte,reduceEqDiff,f2],by simp only[↓pa,↓reduceIte,reduceEqDiff,f3],by simp only[o2],by simp only[o3],by simp only[↓pa,↓reduceIte,reduceEqDiff,f5]<;>simp,by simp only[↓pa,↓reduceIte,reduceEqDiff,f6],by simp only[↓pa,↓reduceIte,reduceEqDiff],by simp only[↓pa,↓reduceIte,reduceEqDiff],by simp only[↓pa,↓reduceIte]<;>rfl,by simpa using hL,hto,by simpa using hso,by simpa using hT,hfl⟩ ?_
 clear f2 f3 o2 o3 f5 f6 fL fN fI hL hto hso hT hfl hi k1 cs tok;rintro q fr st ⟨i,cs,tok,rfl,hi,f2,f3,o2,o3,f5,f6,fL,fN,fI,hL,hto,hso,hT,hfl⟩;have hB:=jy (l:=b.nodes) (f:=oW a.nodes) (P:=P2) (B:=600) (m:=1) (by omega) (fun e _=>Ct _ e) i;simp only[↓pa,pb,ak,↓reduceIte,fN,fI];refine af (fun k1=>?_) (fun k1=>?_)
 ·have hlt:i<b.nodes.length:=by omega
  have hnx:=kl (f:=oW a.nodes) (P:=P2) hlt;have hk:=yG hb.ns hlt;have hk1:=hk.fl;have hk2:=hk.ll;have hn3:=cP b.nodes[i];have hn3t:List.take 3 (nc b.nodes[i])=nc b.nodes[i]:=rfl;simp (maxSteps:=1000000) (disch:=omega)only[↓pa,pb,ah,↓reduceIte,reduceEqDiff,reduceAdd,reduceLeDiff,f2,o2,fL,fI,k1,lR hlt,hn3,pj,uE,hnaA];by_cases hs:cU a.nodes b.nodes[i].id<0
  ·rw[oW,am hs]at hnx;simp only[↓pa,pb,ah,↓reduceIte,reduceEqDiff,reduceLeDiff,f5,hs,hn3,hn3t];refine dx (Cl K b.nodes[i] (by omega) (by omega)) (fun r ns hF hr=>?_);obtain⟨ds,rfl,hds⟩:=fi hr;have hdl:ds.length=3:=by rw[<-hn3,<-hds,dX,bJ]
   have hFt:aw ds=cB _ ns:=hF.tk;have hFs:bq ds=true:=hF.so;have hFn:aX ds=true:=hF.np;obtain⟨x,y,z,rfl⟩:∃ x y z,ds=[x,y,z]:=by
    match ds,hdl with
    | [x,y,z],_=>exact⟨x,y,z,rfl⟩
   have hD:=Pn hds hFn hFs;simp only[↓pa,↓au,pb,ah,↓reduceIte,reduceEqDiff,reduceAdd,reduceLeDiff,reduceLT];refine iR (X:=[]) (Y:=[]) hto hso hD.2.2.1 (by rw[hD.2.2.2,hFt];exact cK (aT (aT hT)) (by show st.fl<=_;omega) ns) (by rw[St.more_fl];exact hfl) hL.len rfl (by omega) (by omega) (by decide) (fun st1 tok1 hto1 hso1 hT1 ho hfl1=>?_);simp (maxSteps:=1000000) (disch:=omega)only[↓pa,pb,ak,↓reduceIte,reduceEqDiff,di,f2,f3,o2,o3,f6,fL,fN,fI,gf,ho];exact⟨b.nodes.length- (i+1),by omega,i+1,_,tok1,rfl,by omega,by rw[hnx,ae (bs:=[wI b.nodes[i]])];rfl,rfl,by rw[hnx];exact gY hL rfl hD.1 hD.2.1,hto1,by rw[hnx,ae (bs:=[wI b.nodes[i]])];exact hso1,by rw[hnx,ae (bs:=[wI b.nodes[i]])];exact hT1,hfl1⟩
  ·rw[oW,ai hs,aD]at hnx;simp (maxSteps:=1000000) (disch:=omega)only[↓pa,pb,ak,↓reduceIte,reduceEqDiff,f2,f3,o2,o3,f5,f6,fL,fN,fI,gf,hs];exact⟨b.nodes.length- (i+1),by omega,i+1,cs,tok,rfl,by omega,by rw[hnx],rfl,by rw[hnx];exact hL,hto,by rw[hnx];exact hso,by rw[hnx];exact hT,hfl⟩
 have hie:b.nodes.take i=b.nodes:=aM (by omega);rw[hie]at f5 hL hso hT hB;generalize hP3:P2++b.nodes.flatMap (oW a.nodes)=P3 at*;have hP3l:P3.length<=800:=by omega
 clear hie hB;simp only[↓pa,pb,ah,↓reduceIte,reduceEqDiff,reduceAdd,f3,o3,k1];refine a7 (fun q fr st=>∃ (i:Nat) (cs:List PV) (tok:aF),q=b.edges.length-i/\i<=b.edges.length/\fr 2= .ptr 2 0/\fr 3= .ptr 3 0/\st.objs 2=some [NX a.nodes,EX a.edges]/\st.objs 3=some [NX b.nodes,EX b.edges]/\fr 5= .list (P3++(b.edges.take i).flatMap (u5 a.edges b.edges)).length cs tok/\fr 6= .fn 100 [.ptr 3 0]/\fr 82=EX b.edges/\fr 83=I b.edges.length/\fr 84=I i/\fK cc 12 (P3++(b.edges.take i).flatMap (u5 a.edges b.edges)) cs/\jA 85 tok/\aY (.list (P3++(b.edges.take i).flatMap (u5 a.edges b.edges)).length cs tok)=true/\a8 st ([]++aB (.list (P3++(b.edges.take i).flatMap (u5 a.edges b.edges)).length cs tok)++[])/\st.fl=0) b.edges.length (by omega)
  ⟨0,cs,tok,by simp,by omega,by simp only[↓pa,↓reduceIte,reduceEqDiff,f2],by simp only[↓pa,↓reduceIte,reduceEqDiff,f3],by simp only[o2],by simp only[o3],by simp only[↓pa,↓reduceIte,reduceEqDiff,f5]<;>simp,by simp only[↓pa,↓reduceIte,reduceEqDiff,f6],by simp only[↓pa,↓reduceIte,reduceEqDiff],by simp only[↓pa,↓reduceIte,reduceEqDiff],by simp only[↓pa,↓reduceIte]<;>rfl,by simpa using hL,hto,by simpa using hso,by simpa using hT,hfl⟩ ?_
 clear f2 f3 o2 o3 f5 f6 fL fN fI hL hto hso hT hfl hi k1 cs tok;rintro q fr st ⟨i,cs,tok,rfl,hi,f2,f3,o2,o3,f5,f6,fL,fN,fI,hL,hto,hso,hT,hfl⟩;have hB:=jy (l:=b.edges) (f:=u5 a.edges b.edges) (P:=P3) (B:=800) (m:=1) (by omega) (fun e _=>OG _ _ e) i;simp only[↓pa,pb,ak,↓reduceIte,fN,fI];refine af (fun k1=>?_) (fun k1=>?_)
 ·have hlt:i<b.edges.length:=by omega
  have hnx:=kl (f:=u5 a.edges b.edges) (P:=P3) hlt;have hk:=yL hb.es hlt;have hk1:=hk.fl;have he5:=cN b.edges[i];have he5t:List.take 5 (ec b.edges[i])=ec b.edges[i]:=rfl;simp (maxSteps:=1000000) (disch:=omega)only[↓pa,pb,ah,↓reduceIte,reduceEqDiff,reduceAdd,reduceLeDiff,f2,o2,fL,fI,k1,ia hlt,he5,ol,CZ,heaA];rcases tx a.edges b.edges[i].id with⟨h1,h2⟩|⟨j,hj,h1,h2⟩
  ·rw[u5,h2]at hnx;simp only[↓pa,pb,ah,↓reduceIte,reduceEqDiff,reduceLeDiff,Int.reduceLT,f5,h1,he5,he5t];refine dx (yO K b.edges[i] (by omega)) (fun r ns hF hr=>?_);obtain⟨ds,rfl,hds⟩:=fi hr;have hdl:ds.length=5:=by rw[<-he5,<-hds,dX,bJ]
   have hFt:aw ds=cB _ ns:=hF.tk;have hFs:bq ds=true:=hF.so;have hFn:aX ds=true:=hF.np;obtain⟨v,w,x,y,z,rfl⟩:∃ v w x y z,ds=[v,w,x,y,z]:=by
    match ds,hdl with
    | [v,w,x,y,z],_=>exact⟨v,w,x,y,z,rfl⟩
   have hD:=KH hds hFn hFs;simp only[↓pa,↓au,pb,ah,↓reduceIte,reduceEqDiff,reduceAdd,reduceLeDiff,reduceLT];refine iR (X:=[]) (Y:=[]) hto hso hD.2.2.1 (by rw[hD.2.2.2,hFt];exact cK (aT (aT hT)) (by show st.fl<=_;omega) ns) (by rw[St.more_fl];exact hfl) hL.len rfl (by omega) (by omega) (by decide) (fun st1 tok1 hto1 hso1 hT1 ho hfl1=>?_);simp (maxSteps:=1000000) (disch:=omega)only[↓pa,pb,ak,↓reduceIte,reduceEqDiff,di,f2,f3,o2,o3,f6,fL,fN,fI,gf,ho];exact⟨b.edges.length- (i+1),by omega,i+1,_,tok1,rfl,by omega,by rw[hnx,ae (bs:=[rz b.edges[i]])];rfl,rfl,by rw[hnx];exact gY hL rfl hD.1 hD.2.1,hto1,by rw[hnx,ae (bs:=[rz b.edges[i]])];exact hso1,by rw[hnx,ae (bs:=[rz b.edges[i]])];exact hT1,hfl1⟩
  ·rw[u5,h2]at hnx;simp only at hnx;have hj0:¬ ((j:Int)<0):=by omega
   simp (maxSteps:=1000000) (disch:=omega)only[↓pa,pb,ah,↓reduceIte,reduceEqDiff,reduceAdd,f2,o2,f6,gf,h1,hj0,ia hj];refine yq (hcv _ _ (by simp only[pb,↓reduceIte,reduceEqDiff,o3])) ?_;by_cases hs:pN b.edges a.edges[j]<0
   ·have hs':=(pi _ _).1 hs;rw[hs',ai (by simp)]at hnx;simp only[↓pa,pb,ah,↓reduceIte,reduceEqDiff,reduceLeDiff,f5,hs,he5,he5t];refine dx (yO K b.edges[i] (by omega)) (fun r ns hF hr=>?_);obtain⟨ds,rfl,hds⟩:=fi hr;have hdl:ds.length=5:=by rw[<-he5,<-hds,dX,bJ]
    have hFt:aw ds=cB _ ns:=hF.tk;have hFs:bq ds=true:=hF.so;have hFn:aX ds=true:=hF.np;obtain⟨v,w,x,y,z,rfl⟩:∃ v w x y z,ds=[v,w,x,y,z]:=by
     match ds,hdl with
     | [v,w,x,y,z],_=>exact⟨v,w,x,y,z,rfl⟩
    have hD:=KH hds hFn hFs;simp only[↓pa,↓au,pb,ah,↓reduceIte,reduceEqDiff,reduceAdd,reduceLeDiff,reduceLT];refine iR (X:=[]) (Y:=[]) hto hso hD.2.2.1 (by rw[hD.2.2.2,hFt];exact cK (aT (aT hT)) (by show st.fl<=_;omega) ns) (by rw[St.more_fl];exact hfl) hL.len rfl (by omega) (by omega) (by decide) (fun st1 tok1 hto1 hso1 hT1 ho hfl1=>?_);simp (maxSteps:=1000000) (disch:=omega)only[↓pa,pb,ak,↓reduceIte,reduceEqDiff,di,f2,f3,o2,o3,f6,fL,fN,fI,gf,ho];exact⟨b.edges.length- (i+1),by omega,i+1,_,tok1,rfl,by omega,by rw[hnx,ae (bs:=[rz b.edges[i]])];rfl,rfl,by rw[hnx];exact gY hL rfl hD.1 hD.2.1,hto1,by rw[hnx,ae (bs:=[rz b.edges[i]])];exact hso1,by rw[hnx,ae (bs:=[rz b.edges[i]])];exact hT1,hfl1⟩
   ·have hs':fH b.edges a.edges[j]=true:=by
     cases h:fH b.edges a.edges[j]with
     |true=>rfl
     |false=>exact absurd ((pi _ _).2 h) hs
    rw[hs',am rfl,aD]at hnx;simp (maxSteps:=1000000) (disch:=omega)only[↓pa,pb,ak,↓reduceIte,reduceEqDiff,f2,f3,o2,o3,f5,f6,fL,fN,fI,gf,hs];exact⟨b.edges.length- (i+1),by omega,i+1,cs,tok,rfl,by omega,by rw[hnx],rfl,by rw[hnx];exact hL,hto,by rw[hnx];exact hso,by rw[hnx];exact hT,hfl⟩
 have hie:b.edges.take i=b.edges:=aM (by omega);rw[hie]at f5 hL hso hT hB;generalize hP4:P3++b.edges.flatMap (u5 a.edges b.edges)=P4 at*;have hP4l:P4.length<=1200:=by omega
 clear hie hB;simp only[↓pa,pb,ah,↓reduceIte,reduceEqDiff,reduceAdd,f3,o3,k1];refine a7 (fun q fr st=>∃ (i:Nat) (cs:List PV) (tok:aF),q=b.nodes.length-i/\i<=b.nodes.length/\fr 2= .ptr 2 0/\fr 3= .ptr 3 0/\st.objs 2=some [NX a.nodes,EX a.edges]/\st.objs 3=some [NX b.nodes,EX b.edges]/\fr 5= .list (P4++(b.nodes.take i).flatMap (ri a.nodes)).length cs tok/\fr 6= .fn 100 [.ptr 3 0]/\fr 112=NX b.nodes/\fr 113=I b.nodes.length/\fr 114=I i/\fK cc 12 (P4++(b.nodes.take i).flatMap (ri a.nodes)) cs/\jA 85 tok/\aY (.list (P4++(b.nodes.take i).flatMap (ri a.nodes)).length cs tok)=true/\a8 st ([]++aB (.list (P4++(b.nodes.take i).flatMap (ri a.nodes)).length cs tok)++[])/\st.fl=0) b.nodes.length (by omega)
  ⟨0,cs,tok,by simp,by omega,by simp only[↓pa,↓reduceIte,reduceEqDiff,f2],by simp only[↓pa,↓reduceIte,reduceEqDiff,f3],by simp only[o2],by simp only[o3],by simp only[↓pa,↓reduceIte,reduceEqDiff,f5]<;>simp,by simp only[↓pa,↓reduceIte,reduceEqDiff,f6],by simp only[↓pa,↓reduceIte,reduceEqDiff],by simp only[↓pa,↓reduceIte,reduceEqDiff],by simp only[↓pa,↓reduceIte]<;>rfl,by simpa using hL,hto,by simpa using hso,by simpa using hT,hfl⟩ ?_
 clear f2 f3 o2 o3 f5 f6 fL fN fI hL hto hso hT hfl hi k1 cs tok;rintro q fr st ⟨i,cs,tok,rfl,hi,f2,f3,o2,o3,f5,f6,fL,fN,fI,hL,hto,hso,hT,hfl⟩;have hB:=jy (l:=b.nodes) (f:=ri a.nodes) (P:=P4) (B:=1200) (m:=161) (by omega) (fun n hn=>NS (hb.ns n hn) ha.ns) i;simp only[↓pa,pb,ak,↓reduceIte,fN,fI];refine af (fun k1=>?_) (fun k1=>?_)
 ·have hlt:i<b.nodes.length:=by omega
  have hnx:=kl (f:=ri a.nodes) (P:=P4) hlt;have hk:=yG hb.ns hlt;have hk1:=hk.fl;have hk2:=hk.ll;have hk3:=hk.id;have hn3:=cP b.nodes[i];have hil:=oJ (n:=b.nodes[i].id) (by omega) (by omega);have hdec:=fun st=>KU (st:=st) K (n:=b.nodes[i].id) (by omega) (by omega);simp (maxSteps:=1000000) (disch:=omega)only[↓pa,pb,ah,↓reduceIte,reduceEqDiff,reduceAdd,reduceLeDiff,f2,o2,fL,fI,k1,lR hlt,hn3,pj,uE,hnaA];rcases He a.nodes b.nodes[i].id with⟨h1,h2⟩|⟨j,hj,h1,h2⟩
  ·have hf:ri a.nodes b.nodes[i]=[]:=by rw[ri,h2]
   rw[hf,aD]at hnx;simp (maxSteps:=1000000) (disch:=omega)only[↓pa,pb,ak,↓reduceIte,reduceEqDiff,Int.reduceLT,f2,f3,o2,o3,f5,f6,fL,fN,fI,gf,h1];exact⟨b.nodes.length- (i+1),by omega,i+1,cs,tok,rfl,by omega,by rw[hnx],rfl,by rw[hnx];exact hL,hto,by rw[hnx];exact hso,by rw[hnx];exact hT,hfl⟩
  ·have hf:ri a.nodes b.nodes[i]=sR b.nodes[i].id a.nodes[j].labels b.nodes[i].labels++nW (ig b.nodes[i].id) a.nodes[j].fields b.nodes[i].fields:=by rw[ri,h2]
   rw[hf,<-bn]at hnx;have hq:=yG ha.ns hj;have hq1:=hq.fl;have hq2:=hq.ll;have hj0:¬ ((j:Int)<0):=by omega
   have hsm:=fun st=>Oh (st:=st) K a.nodes[j].labels b.nodes[i].labels (by omega);by_cases hlab:a.nodes[j].labels=b.nodes[i].labels
   ·rw[sR,am hlab,aD]at hnx;have hd:decide (a.nodes[j].labels=b.nodes[i].labels)=true:=decide_eq_true hlab;simp (maxSteps:=1000000) (disch:=omega)only[↓pa,↓ax,pb,ah,ap,↓reduceIte,reduceEqDiff,reduceAdd,f2,o2,f5,h1,hj0,aI,qL hj,nc,hsm,hd,hdec,e110,oH hj];refine dx (I7 K (ig b.nodes[i].id) a.nodes[j].fields b.nodes[i].fields (by omega) (by omega)) (fun r8 ns8 hF8 hr8=>?_);obtain⟨d8,u8,rfl,hst8,-⟩:=bu hr8;have hcb:=vI (ig b.nodes[i].id) a.nodes[j].fields b.nodes[i].fields;have hL8:=sb iC hst8 hF8.np;simp only[↓pa,↓au,↓ax,ap,↓reduceIte,reduceEqDiff];refine iR (X:=[]) (Y:=[]) (m:=(nW (ig b.nodes[i].id) a.nodes[j].fields b.nodes[i].fields).length) hto hso (xu hF8.so) (xm (aT (aT hT)) (by exact hfl) hF8.tk) (by rw[St.more_fl];exact hfl) hL.len hL8.len (by omega) (by omega) (by decide) (fun st2 tok2 hto2 hso2 hT2 ho2 hfl2=>?_);simp (maxSteps:=1000000) (disch:=omega)only[↓pa,↓ax,pb,ap,aq,ak,ad,aa,↓reduceIte,reduceEqDiff,di,f2,f3,o2,o3,f6,fL,fN,fI,gf,ho2];exact⟨b.nodes.length- (i+1),by omega,i+1,_,tok2,rfl,by omega,by rw[hnx,ae (bs:=nW (ig b.nodes[i].id) a.nodes[j].fields b.nodes[i].fields)],rfl,by rw[hnx];exact sd hL hL8,hto2,by rw[hnx,ae (bs:=nW (ig b.nodes[i].id) a.nodes[j].fields b.nodes[i].fields)];exact hso2,by rw[hnx,ae (bs:=nW (ig b.nodes[i].id) a.nodes[j].fields b.nodes[i].fields)];exact hT2,hfl2⟩
   ·rw[sR,ai hlab]at hnx;have hd:decide (a.nodes[j].labels=b.nodes[i].labels)=false:=decide_eq_false hlab;simp (maxSteps:=1000000) (disch:=omega)only[↓pa,↓ax,pb,ah,ap,↓reduceIte,reduceEqDiff,reduceAdd,f2,o2,f5,h1,hj0,aI,qL hj,nc,hsm,hd];refine dx (Ck K b.nodes[i].labels (by omega)) (fun r ns hF hr=>?_);obtain⟨dt,ut,rfl,hdt,-⟩:=bu hr;have hD:=Po (id:=b.nodes[i].id) hr hF.np hF.so;have hFt:=hF.tk;simp only[↓pa,↓au,↓ax,pb,ah,ap,↓reduceIte,reduceEqDiff,reduceAdd,reduceLeDiff,reduceLT,gG (fy b.nodes[i].labels)];refine iR (X:=[]) (Y:=[]) hto hso hD.2.2.1 (by rw[hD.2.2.2,hFt];exact cK (aT (aT hT)) (by show st.fl<=_;omega) ns) (by rw[St.more_fl];exact hfl) hL.len rfl (by omega) (by omega) (by decide) (fun st1 tok1 hto1 hso1 hT1 ho hfl1=>?_);have hL1:=gY hL rfl hD.1 hD.2.1;have hl1:(P4++(b.nodes.take i).flatMap (ri a.nodes)).length+1=((P4++(b.nodes.take i).flatMap (ri a.nodes))++[ya b.nodes[i].id b.nodes[i].labels]).length:=by rw[ae (bs:=[ya b.nodes[i].id b.nodes[i].labels])];rfl
    rw[hl1]at hso1 hT1 ⊢;have hB1:((P4++(b.nodes.take i).flatMap (ri a.nodes))++[ya b.nodes[i].id b.nodes[i].labels]).length<=33401:=by rw[<-hl1];omega
    have o2':st1.objs 2=some [NX a.nodes,EX a.edges]:=by rw[ho];simp only[pb,↓reduceIte,reduceEqDiff,di,o2]
    have o3':st1.objs 3=some [NX b.nodes,EX b.edges]:=by rw[ho];simp only[pb,↓reduceIte,reduceEqDiff,di,o3]
    have o17':st1.objs 17=some [I b.nodes[i].id,TX b.nodes[i].labels,FX b.nodes[i].fields]:=by rw[ho];simp only[pb,↓reduceIte,di]
    clear hL hT hso hto hfl ho hl1;simp (maxSteps:=1000000) (disch:=omega)only[↓pa,↓ax,pb,ah,ap,aq,ad,aa,↓reduceIte,reduceEqDiff,reduceAdd,f2,o2',o17',aI,hdec,e110,oH hj];generalize (P4++(b.nodes.take i).flatMap (ri a.nodes))++[ya b.nodes[i].id b.nodes[i].labels]=PP at*;refine dx (I7 K (ig b.nodes[i].id) a.nodes[j].fields b.nodes[i].fields (by omega) (by omega)) (fun r8 ns8 hF8 hr8=>?_);obtain⟨d8,u8,rfl,hst8,-⟩:=bu hr8;have hcb:=vI (ig b.nodes[i].id) a.nodes[j].fields b.nodes[i].fields;have hL8:=sb iC hst8 hF8.np;simp only[↓pa,↓au,↓ax,ap,↓reduceIte,reduceEqDiff];refine iR (X:=[]) (Y:=[]) (m:=(nW (ig b.nodes[i].id) a.nodes[j].fields b.nodes[i].fields).length) hto1 hso1 (xu hF8.so) (xm hT1 hfl1 hF8.tk) (by rw[St.more_fl];exact hfl1) hL1.len hL8.len (by omega) (by omega) (by decide) (fun st2 tok2 hto2 hso2 hT2 ho2 hfl2=>?_);simp (maxSteps:=1000000) (disch:=omega)only[↓pa,↓ax,pb,ap,aq,ak,ad,aa,↓reduceIte,reduceEqDiff,di,f2,f3,o2',o3',f6,fL,fN,fI,gf,ho2];exact⟨b.nodes.length- (i+1),by omega,i+1,_,tok2,rfl,by omega,by rw[hnx,ae],rfl,by rw[hnx];exact sd hL1 hL8,hto2,by rw[hnx,ae];exact hso2,by rw[hnx,ae];exact hT2,hfl2⟩
 have hie:b.nodes.take i=b.nodes:=aM (by omega);rw[hie]at f5 hL hso hT hB;generalize hP5:P4++b.nodes.flatMap (ri a.nodes)=P5 at*;have hP5l:P5.length<=33400:=by omega
 clear hie hB;simp only[↓pa,pb,ah,↓reduceIte,reduceEqDiff,reduceAdd,f3,o3,k1];refine a7 (fun q fr st=>∃ (i:Nat) (cs:List PV) (tok:aF),q=b.edges.length-i/\i<=b.edges.length/\fr 2= .ptr 2 0/\fr 3= .ptr 3 0/\st.objs 2=some [NX a.nodes,EX a.edges]/\st.objs 3=some [NX b.nodes,EX b.edges]/\fr 5= .list (P5++(b.edges.take i).flatMap (rx a.edges b.edges)).length cs tok/\fr 6= .fn 100 [.ptr 3 0]/\fr 161=EX b.edges/\fr 162=I b.edges.length/\fr 163=I i/\fK cc 12 (P5++(b.edges.take i).flatMap (rx a.edges b.edges)) cs/\jA 85 tok/\aY (.list (P5++(b.edges.take i).flatMap (rx a.edges b.edges)).length cs tok)=true/\a8 st ([]++aB (.list (P5++(b.edges.take i).flatMap (rx a.edges b.edges)).length cs tok)++[])/\st.fl=0) b.edges.length (by omega)
  ⟨0,cs,tok,by simp,by omega,by simp only[↓pa,↓reduceIte,reduceEqDiff,f2],by simp only[↓pa,↓reduceIte,reduceEqDiff,f3],by simp only[o2],by simp only[o3],by simp only[↓pa,↓reduceIte,reduceEqDiff,f5]<;>simp,by simp only[↓pa,↓reduceIte,reduceEqDiff,f6],by simp only[↓pa,↓reduceIte,reduceEqDiff],by simp only[↓pa,↓reduceIte,reduceEqDiff],by simp only[↓pa,↓reduceIte]<;>rfl,by simpa using hL,hto,by simpa using hso,by simpa using hT,hfl⟩ ?_
 clear f2 f3 o2 o3 f5 f6 fL fN fI hL hto hso hT hfl hi k1 cs tok;rintro q fr st ⟨i,cs,tok,rfl,hi,f2,f3,o2,o3,f5,f6,fL,fN,fI,hL,hto,hso,hT,hfl⟩;have hB:=jy (l:=b.edges) (f:=rx a.edges b.edges) (P:=P5) (B:=33400) (m:=160) (by omega) (fun n hn=>N5 (hb.es n hn) ha.es) i;simp only[↓pa,pb,ak,↓reduceIte,fN,fI];refine af (fun k1=>?_) (fun k1=>?_)
 ·have hlt:i<b.edges.length:=by omega
  have hnx:=kl (f:=rx a.edges b.edges) (P:=P5) hlt;have hk:=yL hb.es hlt;have hk1:=hk.fl;have hk3:=hk.id;have he5:=cN b.edges[i];have hil:=oJ (n:=b.edges[i].id) (by omega) (by omega);have hdec:=fun st=>KU (st:=st) K (n:=b.edges[i].id) (by omega) (by omega);simp (maxSteps:=1000000) (disch:=omega)only[↓pa,pb,ah,↓reduceIte,reduceEqDiff,reduceAdd,reduceLeDiff,f2,o2,fL,fI,k1,ia hlt,he5,ol,CZ,heaA];rcases tx a.edges b.edges[i].id with⟨h1,h2⟩|⟨j,hj,h1,h2⟩
  ·have hf:rx a.edges b.edges b.edges[i]=[]:=by rw[rx,h2]
   rw[hf,aD]at hnx;simp (maxSteps:=1000000) (disch:=omega)only[↓pa,pb,ak,↓reduceIte,reduceEqDiff,Int.reduceLE,f2,f3,o2,o3,f5,f6,fL,fN,fI,gf,h1];exact⟨b.edges.length- (i+1),by omega,i+1,cs,tok,rfl,by omega,by rw[hnx],rfl,by rw[hnx];exact hL,hto,by rw[hnx];exact hso,by rw[hnx];exact hT,hfl⟩
  ·have hj0:(0:Int)<=(j:Int):=by omega
   have hq:=yL ha.es hj;have hq1:=hq.fl;simp (maxSteps:=1000000) (disch:=omega)only[↓pa,pb,ah,↓reduceIte,reduceEqDiff,reduceAdd,f2,o2,f6,gf,h1,hj0,ia hj];refine yq (hcv _ _ (by simp only[pb,↓reduceIte,reduceEqDiff,o3])) ?_;by_cases hs:pN b.edges a.edges[j]<0
   ·have hs':=(pi _ _).1 hs;have hs2:¬ (0<=pN b.edges a.edges[j]):=by omega
    have hf:rx a.edges b.edges b.edges[i]=[]:=by rw[rx,h2];simp[hs']
    rw[hf,aD]at hnx;simp (maxSteps:=1000000) (disch:=omega)only[↓pa,pb,ak,↓reduceIte,reduceEqDiff,f2,f3,o2,o3,f5,f6,fL,fN,fI,gf,hs2];exact⟨b.edges.length- (i+1),by omega,i+1,cs,tok,rfl,by omega,by rw[hnx],rfl,by rw[hnx];exact hL,hto,by rw[hnx];exact hso,by rw[hnx];exact hT,hfl⟩
   ·have hs':fH b.edges a.edges[j]=true:=by
     cases h:fH b.edges a.edges[j]with
     |true=>rfl
     |false=>exact absurd ((pi _ _).2 h) hs
    have hs2:0<=pN b.edges a.edges[j]:=by omega
    have hf:rx a.edges b.edges b.edges[i]=nW (j9 b.edges[i].id) a.edges[j].fields b.edges[i].fields:=by rw[rx,h2];simp[hs']
    rw[hf]at hnx;simp (maxSteps:=1000000) (disch:=omega)only[↓pa,↓ax,pb,ah,ap,↓reduceIte,reduceEqDiff,reduceAdd,f2,o2,f5,hs2,aI,ec,hdec,e101,uF hj];refine dx (I7 K (j9 b.edges[i].id) a.edges[j].fields b.edges[i].fields (by omega) (by omega)) (fun r8 ns8 hF8 hr8=>?_);obtain⟨d8,u8,rfl,hst8,-⟩:=bu hr8;have hcb:=vI (j9 b.edges[i].id) a.edges[j].fields b.edges[i].fields;have hL8:=sb iC hst8 hF8.np;simp only[↓pa,↓au,↓ax,ap,↓reduceIte,reduceEqDiff];refine iR (X:=[]) (Y:=[]) (m:=(nW (j9 b.edges[i].id) a.edges[j].fields b.edges[i].fields).length) hto hso (xu hF8.so) (xm (aT (aT hT)) (by exact hfl) hF8.tk) (by rw[St.more_fl];exact hfl) hL.len hL8.len (by omega) (by omega) (by decide) (fun st2 tok2 hto2 hso2 hT2 ho2 hfl2=>?_);simp (maxSteps:=1000000) (disch:=omega)only[↓pa,↓ax,pb,ap,aq,ak,ad,aa,↓reduceIte,reduceEqDiff,di,f2,f3,o2,o3,f6,fL,fN,fI,gf,ho2];exact⟨b.edges.length- (i+1),by omega,i+1,_,tok2,rfl,by omega,by rw[hnx,ae (bs:=nW (j9 b.edges[i].id) a.edges[j].fields b.edges[i].fields)],rfl,by rw[hnx];exact sd hL hL8,hto2,by rw[hnx,ae (bs:=nW (j9 b.edges[i].id) a.edges[j].fields b.edges[i].fields)];exact hso2,by rw[hnx,ae (bs:=nW (j9 b.edges[i].id) a.edges[j].fields b.edges[i].fields)];exact hT2,hfl2⟩
 have hie:b.edges.take i=b.edges:=aM (by omega);rw[hie]at f5 hL hso hT hB;generalize hP6:P5++b.edges.flatMap (rx a.edges b.edges)=P6 at*;have hP6l:P6.length<=97400:=by omega
 clear hie hB;simp only[↓pa,pb,↓reduceIte,reduceEqDiff,di,f5,k1];refine⟨rfl,hL.np,hso,?_,?_⟩
 ·simpa using hT
 ·simp only[aH,hL.st];rw[<-hP6,<-hP5,<-hP4,<-hP3,<-hP2,<-hP1];rfl
structure lH (c:Ch):Prop where
 ll:c.node.labels.length<=2000000
 nf:c.node.fields.length<=2000000
 ef:c.edge.fields.length<=2000000
def PN(K:bO cf)(c:Ch)(h:lH c):az cf 56 [.agg (cc c),.agg (cc c)] [] st=some (.bool true,st):=by
 refine df K.tab (F:=F56) (t:=4) rfl rfl rfl (lb rfl) (by simp[gd (gz c)]) (ct _) 1 ?_;have h1:∀ st,az cf 93 [.agg [I c.node.id,TX c.node.labels,FX c.node.fields],.agg [I c.node.id,TX c.node.labels,FX c.node.fields]] [] st=some (.bool true,st):=fun st=>K0 (st:=st) K c.node h.ll h.nf;have h2:∀ st,az cf 94 [.agg [I c.edge.id,S c.edge.type,I c.edge.src,I c.edge.dst,FX c.edge.fields],.agg [I c.edge.id,S c.edge.type,I c.edge.src,I c.edge.dst,FX c.edge.fields]] [] st=some (.bool true,st):=fun st=>K1 (st:=st) K c.edge h.ef;simp only[F56,↓qU,seval];simp only[↓pa,pb,ah,seval,al,cc,h1,h2]
def PL(K:bO cf)(l:List Ch)(hl:l.length<=2000000)(h:∀ c∈l,lH c):az cf 19 [HX l,HX l] [] st=some (.bool true,st):=
 D8 K (F:=F19) rfl ⟨rfl,rfl,rfl,(lb rfl)⟩ cc iC gz l hl fun a ha st=>PN K a (h a ha)
abbrev Sh:=Nat×Nat×Nat
def i8(c:Ch):Sh:=(c.node.labels.length,c.node.fields.length,c.edge.fields.length)
def mB(k:Nat)(x:Sh):Nat:=k+2+x.1+2*x.2.1
def B2(k:Nat)(x:Sh):Ch:=⟨k,⟨(k+1:Nat),rl (k+2) x.1,mz (k+2+x.1) x.2.1⟩,⟨(mB k x:Nat),mt (mB k x+1),(mB k x+2:Nat),(mB k x+3:Nat),mz (mB k x+4) x.2.2⟩,mt (mB k x+4+2*x.2.2),mt (mB k x+4+2*x.2.2+1),mt (mB k x+4+2*x.2.2+2)⟩
def mE(k:Nat)(x:Sh):Nat:=mB k x+4+2*x.2.2+3
def pT:List Sh->Nat->List Ch
 | [],_=>[]
 |x::l,k=>B2 k x::pT l (mE k x)
def fF:List Sh->Nat->Nat
 | [],k=>k
 |x::l,k=>fF l (mE k x)
def zV:∀ (l:List Sh) (x:Sh) (k:Nat),pT (l++[x]) k=pT l k++[B2 (fF l k) x]/\fF (l++[x]) k=mE (fF l k) x
 | [],x,k=>⟨rfl,rfl⟩
 |y::l,x,k=>by
  obtain⟨h1,h2⟩:=zV l x (mE k y);exact⟨by simp only[bo,pT,fF,h1],by simp only[bo,fF,h2]⟩
def Ac:∀ (l m:List Sh) (k:Nat),fF (l++m) k=fF m (fF l k)
 | [],_,_=>rfl
 |x::l,m,k=>by rw[bo,fF,fF,Ac l m]
def QB(k:Nat)(x:Sh):k+9<=mE k x:=by unfold mE mB;omega
def wD:∀ (l:List Sh) (k:Nat),k+l.length<=fF l k
 | [],_=>aP _
 |x::l,k=>by have:=wD l (mE k x);have:=QB k x;rw[fF,aA];omega
def HE(l:List Sh)(k:Nat):k<=fF l k:=by have:=wD l k;omega
def Kz(l:List Sh)(i k:Nat):fF (l.take i) k<=fF l k:=by
 have e:fF l k=fF (l.drop i) (fF (l.take i) k):=by rw[<-Ac,dy]
 rw[e];exact HE _ _
def Hk:∀ (l:List Sh) (k:Nat),(pT l k).length=l.length
 | [],_=>rfl
 |x::l,k=>by rw[pT,aA,Hk l,aA]
def Kb:∀ (l:List Sh) (k i:Nat) (h:i<(pT l k).length) (h':i<l.length),(pT l k)[i]=B2 (fF (l.take i) k) l[i]/\fF (l.take (i+1)) k=mE (fF (l.take i) k) l[i]
 |x::l,k,0,_,_=>⟨rfl,rfl⟩
 |x::l,k,i+1,h,h'=>Kb l (mE k x) i (by simpa [pT]using h) (by simpa using h')
def Nj(k:Nat)(x:Sh):cc (B2 k x)=[I k,I (k+1:Nat),.list x.1 ((rl (k+2) x.1).map S) .no,.list x.2.1 ((mz (k+2+x.1) x.2.1).flatMap fc) .no,I (mB k x:Nat),S (mt (mB k x+1)),I (mB k x+2:Nat),I (mB k x+3:Nat),.list x.2.2 ((mz (mB k x+4) x.2.2).flatMap fc) .no,S (mt (mB k x+4+2*x.2.2)),S (mt (mB k x+4+2*x.2.2+1)),S (mt (mB k x+4+2*x.2.2+2))]:=by
 simp only[cc,B2,TX,FX,vE,vF]
def ML(K:bO cf)(k:Nat)(l:List Sh)(hk:fF l k<=1000000000000):az cf 21 [.list l.length ((pT l k).flatMap cc) .no,I k] [] st=some (I (fF l k:Nat),st):=by
 have hl:=Hk l k;have hpl:dq (.list l.length ((pT l k).flatMap cc) .no):=gk (fP cc gz _);refine df K.tab (F:=F21) (t:=4) rfl rfl rfl (lb rfl) (by simp[hpl,bh]) (d6 _ _) (l.length+1) ?_;have hm:((pT l k).flatMap cc).length=l.length*12:=by rw[bC cc 12 iC,hl]
 have hN:=wD l k;simp only[F21,↓qU,seval];simp only[↓pa,seval];refine a7 (fun q fr st=>∃ i:Nat,q=l.length-i/\i<=l.length/\fr 0= .list l.length ((pT l k).flatMap cc) .no/\fr 1=I (fF (l.take i) k:Nat)/\fr 5=I i) l.length (by omega) ⟨0,by simp,by omega,by simp only[↓pa,seval],by simp only[↓pa,seval]<;>rfl,by simp only[↓pa,seval]<;>rfl⟩ ?_
 rintro q fr st ⟨i,rfl,hi,f0,f1,f5⟩;simp only[↓pa,pb,ak,seval,f0,f5];refine af (fun h=>?_) (fun h=>?_)
 ·have hlt:i<(pT l k).length:=by omega
  have hlt':i<l.length:=by omega
  obtain⟨ha,he⟩:=Kb l k i hlt hlt';have hle:=Kz l (i+1) k;rw[he]at hle;have hpj:=fun j (hj:j+1<=12)=>dY cc 12 iC j 1 false hj (pT l k) i hlt;rw[ha,Nj]at hpj;have hp0:=hpj 0 (by decide);have hp1:=hpj 1 (by decide);have hp2:=hpj 2 (by decide);have hp3:=hpj 3 (by decide);have hp4:=hpj 4 (by decide);have hp5:=hpj 5 (by decide);have hp6:=hpj 6 (by decide);have hp7:=hpj 7 (by decide);have hp8:=hpj 8 (by decide);have hp9:=hpj 9 (by decide);have hp10:=hpj 10 (by decide);have hp11:=hpj 11 (by decide);rw[aI]at hp0;clear hpj ha;generalize fF (l.take i) k=m at*;have hb:mB m l[i]=m+2+l[i].1+2*l[i].2.1:=rfl;have hee:mE m l[i]=mB m l[i]+4+2*l[i].2.2+3:=rfl;have ht:=fun st=>Ov (st:=st) K (m+2) l[i].1 (by omega);have hf:=fun st=>HT (st:=st) K (m+2+l[i].1) l[i].2.1 (by omega);rw[<-hb]at hf;generalize mB m l[i]=b at*;have ht1:=fun st=>gL (st:=st) K (b+1) (by omega);have hf2:=fun st=>HT (st:=st) K (b+4) l[i].2.2 (by omega);have ht9:=fun st=>gL (st:=st) K (b+4+2*l[i].2.2) (by omega);have ht10:=fun st=>gL (st:=st) K (b+4+2*l[i].2.2+1) (by omega);have ht11:=fun st=>gL (st:=st) K (b+4+2*l[i].2.2+2) (by omega);unfold TX at ht;unfold FX at hf hf2;simp only[vE,vF]at ht hf hf2;simp (maxSteps:=1000000) (disch:=omega)only[↓pa,pb,ah,ak,seval,al,f0,f1,f5,h,aI,hp0,hp1,hp2,ht,qk];simp (maxSteps:=1000000) (disch:=omega)only[↓pa,pb,ah,seval,f0,f5,aI,hp3,hf,qk];simp (maxSteps:=1000000) (disch:=omega)only[↓pa,↓ax,pb,ah,ap,aq,ak,ad,aa,seval,al,f0,f5,hp4,hp5,ht1];simp (maxSteps:=1000000) (disch:=omega)only[↓pa,pb,ah,ak,seval,al,f0,f5,hp6,hp7];simp (maxSteps:=1000000) (disch:=omega)only[↓pa,↓ax,pb,ah,ap,seval,f0,f5,hp8,hf2,qk];simp (maxSteps:=1000000) (disch:=omega)only[↓pa,↓ax,pb,ah,ap,aq,ak,ad,aa,seval,al,f0,f5,hp9,ht9];simp (maxSteps:=1000000) (disch:=omega)only[↓pa,↓ax,pb,ah,ap,aq,ak,ad,aa,seval,al,f0,f5,hp10,ht10];simp (maxSteps:=1000000) (disch:=omega)only[↓pa,↓ax,pb,ah,ap,aq,ak,ad,aa,seval,al,f0,f5,hp11,ht11];exact⟨l.length- (i+1),by omega,i+1,rfl,by omega,by rw[he,hee],rfl⟩
 ·have:l.take i=l:=aM (by omega);rw[this]at f1;simp only[↓pa,pb,seval,f1,h]
end Go.PM
